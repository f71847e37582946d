/- Siloref0.CopyBook: a copy of a book. -/
import Derived.Test.YtipecejghioicaaGreatY17t
set_option maxHeartbeats 16000000
set_option maxRecDepth 100000
namespace Go.Silo
open Go Go.RowKit
theorem qW {w:World}{g:Nat}{a b c d a' b' c' d':Value}{T:TypeId}(h:w.heap[g]?=some (.cells #[a',b',c',d'] T (0,0))):
  ((((w.setCell ⟨g,0,none⟩ a).setCell ⟨g,1,none⟩ b).setCell ⟨g,2,none⟩ c).setCell ⟨g,3,none⟩ d).heap[g]?=some (.cells #[a,b,c,d] T (0,0))∧
  (∀B,B≤g→Below B w ((((w.setCell ⟨g,0,none⟩ a).setCell ⟨g,1,none⟩ b).setCell ⟨g,2,none⟩ c).setCell ⟨g,3,none⟩ d))∧
  Agree (fun q=>q≠g) w ((((w.setCell ⟨g,0,none⟩ a).setCell ⟨g,1,none⟩ b).setCell ⟨g,2,none⟩ c).setCell ⟨g,3,none⟩ d):=
 ⟨kb (a:=a) (b:=b) (c:=c) (d:=d) h,fun B hB=>qU hB [a,b,c,d] 0 w (Below.refl B w),fun _ hq _=>zF hq [a,b,c,d] 0 w⟩
end Go.Silo
namespace Go.Proofs.YtipecejghioicaaGreat
open Go.RowKit Go.Silo
def DC (s:Shape) (l:List Bb):Book×Int:=
 if (qt s&&!(l.any fun r=>!qp r))=true then (match zU l with|none=>(⟨[],[],[],0⟩,3)|some b=>if qN s b=true then (b,0) else (⟨[],[],[],0⟩,7)) else (⟨[],[],[],0⟩,1)
def xT (r:Book×Int) (w:World) (e:Ending) (w':World):Prop:=
 ∃A0 n0 c0 A1 n1 c1 A2 n2 c2,e=.returned (.tuple #[.agg #[.slice A0 n0 c0,.slice A1 n1 c1,.slice A2 n2 c2,.int .i64 r.1.next],.int .i64 r.2])∧Bv w' (fun q=>w.heap.size≤q) true true true true A0 n0 c0 A1 n1 c1 A2 n2 c2 r.1∧Below w.heap.size w w'
theorem Of_c {tg:Bool}{S:Nat→Prop}{w:World}{A:Option Addr}{n c:Nat}{s:Shape}{l:List Bb}(hsi:Bf s.K∧Bf s.M∧Bf s.size) (h:Sl tg 61 (qw tg) w S A n c l) (hn:n≤4000) (ht:(l.map (fun r=>r.list.length)).sum≤1000000):
  Calls Tryz.prog 38 #[.agg #[.int .i64 s.K,.int .i64 s.M,.int .i64 s.size],.slice A n c] w (xT (DC s l) w):=by
 have HL:=zh h.len;have G3:=zh hsi;have HT:=zh ht;clear hsi ht;have hal:Below w.heap.size w ((w.alloc (.cells #[.int .i64 s.K,.int .i64 s.M,.int .i64 s.size] 23)).alloc (.cells #[.slice none 0 0,.slice none 0 0,.slice none 0 0,.int .i64 0] 28)):=bz
 have mG:((w.alloc (.cells #[.int .i64 s.K,.int .i64 s.M,.int .i64 s.size] 23)).alloc (.cells #[.slice none 0 0,.slice none 0 0,.slice none 0 0,.int .i64 0] 28)).heap[w.heap.size]?=some (.cells #[.int .i64 s.K,.int .i64 s.M,.int .i64 s.size] 23 (0,0)):=by
  rw[Below.heap_alloc _ _ _ (by simp;try omega)];have:=heap_alloc_new w (.cells #[.int .i64 s.K,.int .i64 s.M,.int .i64 s.size] 23);simpa only[World.size_alloc] using this
 have hr1:((w.alloc (.cells #[.int .i64 s.K,.int .i64 s.M,.int .i64 s.size] 23)).alloc (.cells #[.slice none 0 0,.slice none 0 0,.slice none 0 0,.int .i64 0] 28)).heap[w.heap.size+1]?=some (.cells #[.slice none 0 0,.slice none 0 0,.slice none 0 0,.int .i64 0] 28 (0,0)):=by
  have:=heap_alloc_new (w.alloc (.cells #[.int .i64 s.K,.int .i64 s.M,.int .i64 s.size] 23)) (.cells #[.slice none 0 0,.slice none 0 0,.slice none 0 0,.int .i64 0] 28);simpa only[World.size_alloc] using this
 have hz:w.heap.size+1<((w.alloc (.cells #[.int .i64 s.K,.int .i64 s.M,.int .i64 s.size] 23)).alloc (.cells #[.slice none 0 0,.slice none 0 0,.slice none 0 0,.int .i64 0] 28)).heap.size:=by simp
 have HS:=zh (fun W (hW:Below w.heap.size w W)=>h.all hW);clear h
 go_enter Tryz.func38,Tryz.ntmps38
 go_upto_region 2 with (fail)
 generalize ((w.alloc (.cells #[.int .i64 s.K,.int .i64 s.M,.int .i64 s.size] 23)).alloc (.cells #[.slice none 0 0,.slice none 0 0,.slice none 0 0,.int .i64 0] 28))=W0 at *;have gB:=zh (fun V (hV:Below W0.heap.size W0 V)=>hal.trans (hV.mono hal.size));clear hal;have ROW:=zh (fun V (hV:Below W0.heap.size W0 V)=>(show V.heap[w.heap.size]?=some (.cells #[.int .i64 s.K,.int .i64 s.M,.int .i64 s.size] 23 (0,0))∧V.heap[w.heap.size+1]?=some (.cells #[.slice none 0 0,.slice none 0 0,.slice none 0 0,.int .i64 0] 28 (0,0)) from⟨(hV.block _ (by omega)).trans mG,(hV.block _ (by omega)).trans hr1⟩));clear mG hr1;have hz1:w.heap.size+1<W0.heap.size:=by omega
 obtain⟨r0,r1⟩:=ROW.out W0 (Below.refl _ _);have mF:=zc 0 r0 (.int .i64 s.K) rfl;have mK:=zc 1 r0 (.int .i64 s.M) rfl;have mM:=zc 2 r0 (.int .i64 s.size) rfl;clear r0 r1;go_wp2_with fail
 refine(Cy (s:=s)).mono ?_;clear mF mK mM;rintro e w1 ⟨rfl,hb1⟩;have gH:=zh hb1;clear hb1;obtain⟨sh,hsh⟩:∃sh,sh=qt s:=⟨_,rfl⟩;rw[←hsh];have vG:=zh hsh.symm;clear hsh
 cases sh with
 |false=>
  have HE:Hid (DC s l=(⟨[],[],[],0⟩,1)):=zh (by unfold DC;rw[vG.out];rfl);obtain⟨_,r4⟩:=ROW.out w1 gH.out;have f0:=zc 0 r4 (.slice none 0 0) rfl;have f1:=zc 1 r4 (.slice none 0 0) rfl;have f2:=zc 2 r4 (.slice none 0 0) rfl;have f3:=zc 3 r4 (.int .i64 0) rfl;have g0:=zf 0 r4;have g1:=zf 1 r4;have g2:=zf 2 r4;have g3:=zf 3 r4;have hb4:=qW (a:=.slice none 0 0) (b:=.slice none 0 0) (c:=.slice none 0 0) (d:=.int .i64 0) r4;have gi:=zh (hb4.2.1 w.heap.size (by omega));have uP:=zh (gB.out _ gH.out);clear r4 hb4;go_wp2
  refine bodyPost_ret (v:=.tuple #[.agg #[.slice none 0 0,.slice none 0 0,.slice none 0 0,.int .i64 0],.int .i64 1]) (by simp[results,Tryz.results38,go_sem, *];done) rfl ?_;exact⟨none,0,0,none,0,0,none,0,0,by rw[HE.out],by rw[HE.out];exact⟨Sl.Bp (by omega),Sl.Bp (by omega),Sl.Bp (by omega),(show Bf 0 by unfold Bf;omega)⟩,uP.out.trans gi.out⟩
 |true=>
  go_wp2_with fail
  refine(kH (HS.out _ (gB.out _ gH.out))).mono ?_;rintro e w2 ⟨rfl,hb2⟩;have gF:=zt gH hb2;clear hb2;obtain⟨an,han⟩:∃an,an=l.any (fun r=>!qp r):=⟨_,rfl⟩;rw[←han];have HAN:=zh han.symm;clear han
  cases an with
  |true=>
   have HE:Hid (DC s l=(⟨[],[],[],0⟩,1)):=zh (by unfold DC;rw[vG.out,HAN.out];rfl);obtain⟨_,r4⟩:=ROW.out w2 gF.out;have f0:=zc 0 r4 (.slice none 0 0) rfl;have f1:=zc 1 r4 (.slice none 0 0) rfl;have f2:=zc 2 r4 (.slice none 0 0) rfl;have f3:=zc 3 r4 (.int .i64 0) rfl;have g0:=zf 0 r4;have g1:=zf 1 r4;have g2:=zf 2 r4;have g3:=zf 3 r4;have hb4:=qW (a:=.slice none 0 0) (b:=.slice none 0 0) (c:=.slice none 0 0) (d:=.int .i64 0) r4;have gi:=zh (hb4.2.1 w.heap.size (by omega));have uP:=zh (gB.out _ gF.out);clear r4 hb4;go_wp2
   refine bodyPost_ret (v:=.tuple #[.agg #[.slice none 0 0,.slice none 0 0,.slice none 0 0,.int .i64 0],.int .i64 1]) (by simp[results,Tryz.results38,go_sem, *];done) rfl ?_;exact⟨none,0,0,none,0,0,none,0,0,by rw[HE.out],by rw[HE.out];exact⟨Sl.Bp (by omega),Sl.Bp (by omega),Sl.Bp (by omega),(show Bf 0 by unfold Bf;omega)⟩,uP.out.trans gi.out⟩
  |false=>
   have HOF:Hid (DC s l=(match zU l with|none=>(⟨[],[],[],0⟩,3)|some b=>if qN s b=true then (b,0) else (⟨[],[],[],0⟩,7))):=zh (by unfold DC;rw[vG.out,HAN.out];rfl)
   have mE:Hid (∀k,k<n→qp (l.getD k default)=true):=zh (fun k hk=>by
    have h1:=List.any_eq_false.1 HAN.out _ (jX (d:=default) (by rw[HL.out];exact hk))
    simpa using h1)
   go_upto_region 7 with (fail)
   have rp:=heap_alloc_new w2 (.cells #[.slice none 0 0,.slice none 0 0,.slice none 0 0,.int .i64 0] 28);have hal7:Below w2.heap.size w2 (w2.alloc (.cells #[.slice none 0 0,.slice none 0 0,.slice none 0 0,.int .i64 0] 28)):=(Below.refl _ _).alloc (Nat.le_refl _) _;have hl7:w2.heap.size<(w2.alloc (.cells #[.slice none 0 0,.slice none 0 0,.slice none 0 0,.int .i64 0] 28)).heap.size:=(by simp);generalize (w2.alloc (.cells #[.slice none 0 0,.slice none 0 0,.slice none 0 0,.int .i64 0] 28))=w3 at *;have HOB0:=zh (show OB (fun _=>none) w2.heap.size w2.heap.size none 0 0 none 0 0 none 0 0 ⟨[],[],[],0⟩ w3 from⟨rp,Bi.Bp,Bi.Bp,Bi.Bp,⟨by simp[qd],by simp[qd],by simp[qd],by simp[qd],by simp[qd],by simp[qd]⟩,(show Bf 0 by unfold Bf;omega),Nat.le_refl _,fun g o hx=>by cases hx⟩);have mr:=zh hal7;clear hal7 rp hl7;go_wp2_with fail
   go_loopw [28] (fun iv wr=>∃k:Nat,k≤n∧iv=.int .i64 k∧Hid (Below w2.heap.size w2 wr)∧Hid (∃b,zU (l.take k)=some b∧BInv b k ((l.take k).map (fun r=>r.list.length)).sum∧∃A0 n0 c0 A1 n1 c1 A2 n2 c2,OB (fun _=>none) w2.heap.size w2.heap.size A0 n0 c0 A1 n1 c1 A2 n2 c2 b wr)) (fun iv _=>n - (intOf iv).toNat)
   case atStart=>exact⟨0,Nat.zero_le _,rfl,mr,zh ⟨_,rfl,BInv.start,_,_,_,_,_,_,_,_,_,HOB0.out⟩⟩
   case round=>
    rename World=>wo
    obtain⟨k,hk,rfl,nC,HIN⟩:=hrel;obtain⟨b,yY,hinv,A0,n0,c0,A1,n1,c1,A2,n2,c2,mi⟩:=HIN.out;clear HIN;have HFD:=zh yY;clear yY;have nY:=zh hinv;clear hinv;have gP:=zh mi;clear mi;have HBT:=zh (zu gF nC.out);by_cases hlt:k<n
    ·have hrec:=(HS.out w2 (gB.out _ gF.out)).Ca hlt;obtain⟨bs,os,A4,n4,c4,A5,n5,c5,eA,_,hbs,_,_,g3,g4,hl4,hs5,q0,q1,q2,q3,q4,q5,_⟩:=hrec;subst eA;have u0:=(nC.out.cell (p:=⟨bs,os+k* 6,none⟩) hbs).trans q0;have u1:=(nC.out.cell (p:=⟨bs,os+k* 6+1,none⟩) hbs).trans q1;have u2:=(nC.out.cell (p:=⟨bs,os+k* 6+2,none⟩) hbs).trans q2;have u3:=(nC.out.cell (p:=⟨bs,os+k* 6+3,none⟩) hbs).trans q3;have u4:=(nC.out.cell (p:=⟨bs,os+k* 6+4,none⟩) hbs).trans q4;have u5:=(nC.out.cell (p:=⟨bs,os+k* 6+5,none⟩) hbs).trans q5;clear q0 q1 q2 q3 q4 q5;have hbo:=Nat.lt_of_lt_of_le hbs nC.out.size;have nt:=zh (mE.out k hlt);have hkl:k<l.length:=(by rw[HL.out];exact hlt);have p6:=zh (qL (d:=default) hkl);generalize l.getD k default=r at *;have HST:=zh (And.intro g3 g4);clear g3 g4 hkl;have mA:=zh ((hl4.Bd.mono (S':=fun q=>q<w2.heap.size) (fun _ h _=>h.2)).all nC.out);have yF:=zh ((hs5.Bd.mono (S':=fun q=>q<w2.heap.size) (fun _ h _=>h.2)).all nC.out);clear hl4 hs5
     go_upto_region 10 with (fail)
     have hal:Below wo.heap.size wo (wo.alloc (.cells #[.int .i64 r.kind,.int .i64 r.id,.string r.name,.string r.digest,.slice A4 n4 c4,.slice A5 n5 c5] 61)):=(Below.refl _ _).alloc (Nat.le_refl _) _;have hrow:=heap_alloc_new wo (.cells #[.int .i64 r.kind,.int .i64 r.id,.string r.name,.string r.digest,.slice A4 n4 c4,.slice A5 n5 c5] 61);have HL4b:=zh (mA.out.all hal);have HS5b:=zh (yF.out.all hal);have yO:=zh (gP.out.all hal);have mo:=zt nC hal;clear hal u0 u1 u2 u3 u4 u5 mA yF gP hbo;have hzw:wo.heap.size<(wo.alloc (.cells #[.int .i64 r.kind,.int .i64 r.id,.string r.name,.string r.digest,.slice A4 n4 c4,.slice A5 n5 c5] 61)).heap.size:=(by simp);generalize (wo.alloc (.cells #[.int .i64 r.kind,.int .i64 r.id,.string r.name,.string r.digest,.slice A4 n4 c4,.slice A5 n5 c5] 61))=w5 at *;generalize wo.heap.size=g9 at *;have y0:=zc 0 hrow (.int .i64 r.kind) rfl;have y1:=zc 1 hrow (.int .i64 r.id) rfl;have y2:=zc 2 hrow (.string r.name) rfl;have y3:=zc 3 hrow (.string r.digest) rfl;have y4:=zc 4 hrow (.slice A4 n4 c4) rfl;have y5:=zc 5 hrow (.slice A5 n5 c5) rfl;clear hrow;have HDO:=zh (Jj (r:=r) yO.out nY.out.so ⟨by have:=nY.out.ls;have:=yO.out.st.len;omega,by have:=nY.out.lt;have:=yO.out.th.len;omega,by have:=nY.out.lg;have:=yO.out.ta.len;omega⟩ ⟨nY.out.nx.2,by have:=nY.out.nx.1;omega⟩ HST.out HL4b.out HS5b.out (fun q hq=>hq) ⟨by have:=(zT nt.out).2.2.2.1;have:=HL4b.out.len;omega,by have:=(zT nt.out).2.2.2.2;have:=HS5b.out.len;omega⟩ nt.out);go_wp2_with fail
     refine HDO.out.mono ?_;clear y0 y1 y2 y3 y4 y5 HDO;rintro e w6 H0;have gz:=zh (mo.out.trans H0.2.2);have HT6:=zh (zu gF gz.out);have hO6:=H0.2.1;have he:=H0.1;clear H0;have H2:Hid (zU (l.take (k+1))=Cj b r):=zh (by rw[p6.out,kR,HFD.out];rfl)
     cases hdr:Cj b r with
     |none=>
      rw[hdr] at he;have H3:e=.returned (.int .i64 3):=he;clear he hO6;subst H3;have HE:Hid (DC s l=(⟨[],[],[],0⟩,3)):=zh (by rw[HOF.out,kS (k:=k+1) (by rw[H2.out,hdr])]);clear hdr;obtain⟨_,r4⟩:=ROW.out w6 HT6.out;have f0:=zc 0 r4 (.slice none 0 0) rfl;have f1:=zc 1 r4 (.slice none 0 0) rfl;have f2:=zc 2 r4 (.slice none 0 0) rfl;have f3:=zc 3 r4 (.int .i64 0) rfl;have g0:=zf 0 r4;have g1:=zf 1 r4;have g2:=zf 2 r4;have g3:=zf 3 r4;have hb4:=qW (a:=.slice none 0 0) (b:=.slice none 0 0) (c:=.slice none 0 0) (d:=.int .i64 0) r4;have gi:=zh (hb4.2.1 w.heap.size (by omega));have uP:=zh (gB.out _ HT6.out);clear r4 hb4;go_wp2
      refine bodyPost_ret (v:=.tuple #[.agg #[.slice none 0 0,.slice none 0 0,.slice none 0 0,.int .i64 0],.int .i64 3]) (by simp[results,Tryz.results38,go_sem, *];done) rfl ?_;exact⟨none,0,0,none,0,0,none,0,0,by rw[HE.out],by rw[HE.out];exact⟨Sl.Bp (by omega),Sl.Bp (by omega),Sl.Bp (by omega),(show Bf 0 by unfold Bf;omega)⟩,uP.out.trans gi.out⟩
     |some b'=>
      rw[hdr] at he hO6;have H3:e=.returned (.int .i64 0):=he;clear he;subst H3
      have HIN2:Hid (∃b,zU (l.take (k+1))=some b∧BInv b (k+1) ((l.take (k+1)).map (fun r=>r.list.length)).sum∧∃A0 n0 c0 A1 n1 c1 A2 n2 c2,OB (fun _=>none) w2.heap.size w2.heap.size A0 n0 c0 A1 n1 c1 A2 n2 c2 b w6):=zh ⟨b',by rw[H2.out,hdr],by
       have h1:=nY.out.step nt.out hdr;rw[p6.out,List.map_append,List.sum_append]
       simpa using h1,hO6⟩
      clear hdr hO6;have hk1:k+1≤n:=hlt;go_wp2
      refine⟨⟨k+1,hk1,by go_num,gz,HIN2⟩,?_⟩;go_light
      simp[intOf];omega
    obtain rfl:k=n:=by omega
    have HFL:Hid (zU l=some b):=zh (by rw[←HFD.out,List.take_of_length_le (by rw[HL.out];exact Nat.le_refl _)]);have pI:Hid (DC s l=if qN s b=true then (b,0) else (⟨[],[],[],0⟩,7)):=zh (by rw[HOF.out,HFL.out]);have Gu:=zh (nY.out.few hn (Nat.le_trans (ku (List.Sublist.map _ (List.take_sublist _ _))) HT.out));obtain⟨r2,_⟩:=ROW.out wo HBT.out;have k0:=zc 0 r2 (.int .i64 s.K) rfl;have k1:=zc 1 r2 (.int .i64 s.M) rfl;have k2:=zc 2 r2 (.int .i64 s.size) rfl;have r7:=gP.out.row;have x0:=zc 0 r7 (.slice A0 n0 c0) rfl;have x1:=zc 1 r7 (.slice A1 n1 c1) rfl;have x2:=zc 2 r7 (.slice A2 n2 c2) rfl;have x3:=zc 3 r7 (.int .i64 b.next) rfl;clear r2 r7;go_wp2_with fail
    refine(Kv (s:=s) (b:=b) G3.out Gu.out gP.out.bookR).mono ?_;clear k0 k1 k2 x0 x1 x2 x3;rintro e w7 ⟨rfl,gq⟩;have gQ:=zt HBT gq;have Gv:=zh (gP.out.all gq);clear gq gP;obtain⟨bk,hbk⟩:∃bk,bk=qN s b:=⟨_,rfl⟩;rw[←hbk] at pI⊢;clear hbk
    cases bk with
    |false=>
     have HE:Hid (DC s l=(⟨[],[],[],0⟩,7)):=zh (by rw[pI.out];rfl);obtain⟨_,r4⟩:=ROW.out w7 gQ.out;have f0:=zc 0 r4 (.slice none 0 0) rfl;have f1:=zc 1 r4 (.slice none 0 0) rfl;have f2:=zc 2 r4 (.slice none 0 0) rfl;have f3:=zc 3 r4 (.int .i64 0) rfl;have g0:=zf 0 r4;have g1:=zf 1 r4;have g2:=zf 2 r4;have g3:=zf 3 r4;have hb4:=qW (a:=.slice none 0 0) (b:=.slice none 0 0) (c:=.slice none 0 0) (d:=.int .i64 0) r4;have gi:=zh (hb4.2.1 w.heap.size (by omega));have uP:=zh (gB.out _ gQ.out);clear r4 hb4;go_wp2
     refine bodyPost_ret (v:=.tuple #[.agg #[.slice none 0 0,.slice none 0 0,.slice none 0 0,.int .i64 0],.int .i64 7]) (by simp[results,Tryz.results38,go_sem, *];done) rfl ?_;exact⟨none,0,0,none,0,0,none,0,0,by rw[HE.out],by rw[HE.out];exact⟨Sl.Bp (by omega),Sl.Bp (by omega),Sl.Bp (by omega),(show Bf 0 by unfold Bf;omega)⟩,uP.out.trans gi.out⟩
    |true=>
     have HE:Hid (DC s l=(b,0)):=zh (by rw[pI.out];rfl);obtain⟨_,r4⟩:=ROW.out w7 gQ.out;have f0:=zc 0 r4 (.slice none 0 0) rfl;have f1:=zc 1 r4 (.slice none 0 0) rfl;have f2:=zc 2 r4 (.slice none 0 0) rfl;have f3:=zc 3 r4 (.int .i64 0) rfl;have e0:=zf 0 r4;have e1:=zf 1 r4;have e2:=zf 2 r4;have e3:=zf 3 r4;have r7:=Gv.out.row;have x0:=zc 0 r7 (.slice A0 n0 c0) rfl;have x1:=zc 1 r7 (.slice A1 n1 c1) rfl;have x2:=zc 2 r7 (.slice A2 n2 c2) rfl;have x3:=zc 3 r7 (.int .i64 b.next) rfl;have hb4:=qW (a:=.slice A0 n0 c0) (b:=.slice A1 n1 c1) (c:=.slice A2 n2 c2) (d:=.int .i64 b.next) r4;have gi:=zh (hb4.2.1 w.heap.size (by omega));have uP:=zh (gB.out _ gQ.out);have HAG:=zh hb4.2.2;have HW2:=zh (show w.heap.size+1<w2.heap.size from Nat.lt_of_lt_of_le hz1 gF.out.size);clear r4 hb4 r7;go_wp2
     refine bodyPost_ret (v:=.tuple #[.agg #[.slice A0 n0 c0,.slice A1 n1 c1,.slice A2 n2 c2,.int .i64 b.next],.int .i64 0]) (by simp[results,Tryz.results38,go_sem, *];done) rfl ?_;refine⟨A0,n0,c0,A1,n1,c1,A2,n2,c2,by rw[HE.out],?_,uP.out.trans gi.out⟩;rw[HE.out]
     have hup:∀q,(NS w2.heap.size A0 A1 A2 q∨w2.heap.size≤q)→w.heap.size+1<q:=fun q hq=>by
      have h1:=HW2.out;rcases hq with hq|hq
      ·have h2:=hq.1;omega
      omega
     have hA:Agree (fun q=>w.heap.size+1<q) w7 _:=HAG.out.mono (fun q hq _=>Nat.ne_of_gt hq);have t0:=(((Gv.out.st.sl (tg:=true)).mono (S':=fun q=>w.heap.size+1<q) (fun q hq _=>hup q hq)).frame hA (by simp)).mono (S':=fun q=>w.heap.size≤q) (fun q hq _=>by omega);have t1:=(((Gv.out.th.sl (tg:=true)).mono (S':=fun q=>w.heap.size+1<q) (fun q hq _=>hup q hq)).frame hA (by simp)).mono (S':=fun q=>w.heap.size≤q) (fun q hq _=>by omega);have t2:=(((Gv.out.ta.sl (tg:=true)).mono (S':=fun q=>w.heap.size+1<q) (fun q hq _=>hup q hq)).frame hA (by simp)).mono (S':=fun q=>w.heap.size≤q) (fun q hq _=>by omega);exact⟨t0,t1,t2,Gv.out.nx⟩
theorem zV {tg tg0 tg1 tg2:Bool}{S:Nat→Prop}{w:World}{A0 A1 A2:Option Addr}{n0 c0 n1 c1 n2 c2:Nat}{x:Book}(hi:Bf x.next)
  (h0:Sl tg 86 (qc tg0) w S A0 n0 c0 x.Ba) (h1:Sl tg 90 (qj tg1) w S A1 n1 c1 x.things) (h2:Sl tg2 94 Bw w S A2 n2 c2 x.tags)
  (hn0:n0≤100000000) (pH:n1≤100000000) (uf:n2≤100000000) (hx0:∀y∈x.Ba,y.place.length≤100000000) (hx1:∀y∈x.things,y.list.length≤100000000):
  Calls Tryz.prog 28 #[.agg #[.slice A0 n0 c0,.slice A1 n1 c1,.slice A2 n2 c2,.int .i64 x.next]] w (Jn (EC true) w x):=by
 have HX0:=zh hx0;clear hx0;have GZ:=zh hx1;clear hx1
 go_enter Tryz.func28,Tryz.ntmps28
 go_wp2_with fail
 refine(xe (h0.all bz) hn0 HX0.out).mono ?_;rintro e w1 ⟨A3,c3,rfl,nB,hb3⟩
 (obtain⟨mV,hf_w1⟩:=qn hb3;have mt:w.heap.size<w1.heap.size:=(by have:=hb3.size;first|omega|(simp at this;omega));have vO:w.heap.size+1<w1.heap.size:=(by have:=hb3.size;first|omega|(simp at this;omega));have z_w1_2:w.heap.size+1+1<w1.heap.size:=(by have:=hb3.size;first|omega|(simp at this;omega)))
 go_wp2_with fail
 refine(qF (h1.all bz) pH GZ.out).mono ?_;rintro e w2 ⟨A4,c4,rfl,uw,hb4⟩
 (obtain⟨nU,hf_w2⟩:=qn hb4;have ni:w.heap.size<w2.heap.size:=(by have:=hb4.size;first|omega|(simp at this;omega));have vP:w.heap.size+1<w2.heap.size:=(by have:=hb4.size;first|omega|(simp at this;omega));have z_w2_2:w.heap.size+1+1<w2.heap.size:=(by have:=hb4.size;first|omega|(simp at this;omega)))
 go_wp2_with fail
 refine(zw (h2.all bz) uf).mono ?_;rintro e w3 ⟨A5,c5,rfl,hown5,gG⟩
 (obtain⟨pK,hf_w3⟩:=qn gG;have nJ:w.heap.size<w3.heap.size:=(by have:=gG.size;first|omega|(simp at this;omega));have z_w3_1:w.heap.size+1<w3.heap.size:=(by have:=gG.size;first|omega|(simp at this;omega));have z_w3_2:w.heap.size+1+1<w3.heap.size:=(by have:=gG.size;first|omega|(simp at this;omega)))
 go_wp2_with fail
 refine bodyPost_ret (v:=.agg #[.slice A3 x.Ba.length c3,.slice A4 x.things.length c4,.slice A5 x.tags.length c5,.int .i64 x.next]) (by simp[results,Tryz.results28,go_sem, *];done) rfl ?_;have hr3:=(nB.sl (tg:=true)).mono (S':=fun b=>w.heap.size+3≤b) (fun b hb _=>by simp at hb;omega);have hr4:=(uw.sl (tg:=true)).mono (S':=fun b=>w.heap.size+3≤b) (fun b hb _=>by simp at hb;omega);have hr5:=(hown5.sl (tg:=true)).mono (S':=fun b=>w.heap.size+3≤b) (fun b hb _=>by simp at hb;omega);exact⟨_,rfl,⟨_,_,_,_,_,_,_,_,_,rfl,hi,(hr3.keep (by repeat' (first|(with_reducible exact Bg.refl _ _)|(with_reducible refine Bg.alloc ?_ _)|(with_reducible refine Bg.drew ?_)|(with_reducible refine Bg.drewN ?_ _)|(with_reducible refine Bg.setCell ?_ ?_ _)|(refine Bg.call ?_ (by with_reducible assumption))|(with_reducible refine Bg.ext ?_ _)|(simp;done)|(simp;omega)|omega))).mono (fun b hb _=>by omega),(hr4.keep (by repeat' (first|(with_reducible exact Bg.refl _ _)|(with_reducible refine Bg.alloc ?_ _)|(with_reducible refine Bg.drew ?_)|(with_reducible refine Bg.drewN ?_ _)|(with_reducible refine Bg.setCell ?_ ?_ _)|(refine Bg.call ?_ (by with_reducible assumption))|(with_reducible refine Bg.ext ?_ _)|(simp;done)|(simp;omega)|omega))).mono (fun b hb _=>by omega),(hr5.keep (by repeat' (first|(with_reducible exact Bg.refl _ _)|(with_reducible refine Bg.alloc ?_ _)|(with_reducible refine Bg.drew ?_)|(with_reducible refine Bg.drewN ?_ _)|(with_reducible refine Bg.setCell ?_ ?_ _)|(refine Bg.call ?_ (by with_reducible assumption))|(with_reducible refine Bg.ext ?_ _)|(simp;done)|(simp;omega)|omega))).mono (fun b hb _=>by omega)⟩,bz⟩
theorem Ej.places {b:Book}(h:Ej b):∀y∈b.Ba,y.place.length≤100000000:=fun y hy=>by
 have h1:=h.sl;unfold qh at h1;rw[List.take_length] at h1;obtain⟨s,t,e⟩:=List.append_of_mem hy;rw[e,List.flatMap_append,List.flatMap_cons,List.length_append,List.length_append] at h1;omega
theorem Ej.lists {b:Book}(h:Ej b):∀y∈b.things,y.list.length≤100000000:=fun y hy=>by
 have h1:=h.nm;unfold qu at h1;rw[List.take_length] at h1;obtain⟨s,t,e⟩:=List.append_of_mem hy;rw[e,List.flatMap_append,List.flatMap_cons,List.length_append,List.length_append] at h1;omega
end Go.Proofs.YtipecejghioicaaGreat
