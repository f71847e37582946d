import Derived.Test.YtipecejghioicaaGreatY17v
set_option maxHeartbeats 16000000
set_option maxRecDepth 100000
namespace Go.Silo
open Go Go.RowKit
theorem qO {w:World}{g:Nat}{a b c d a' b' c' d':Value}{T:TypeId}(h:w.heap[g]?=some (.cells #[a',b',c',d'] T (0,0))):
  ((((w.setCell ⟨g,0,none⟩ a).setCell ⟨g,1,none⟩ b).setCell ⟨g,2,none⟩ c).setCell ⟨g,3,none⟩ d).heap[g]?=some (.cells #[a,b,c,d] T (0,0))∧
  (∀B,B≤g→Below B w ((((w.setCell ⟨g,0,none⟩ a).setCell ⟨g,1,none⟩ b).setCell ⟨g,2,none⟩ c).setCell ⟨g,3,none⟩ d))∧
  Agree (fun q=>q≠g) w ((((w.setCell ⟨g,0,none⟩ a).setCell ⟨g,1,none⟩ b).setCell ⟨g,2,none⟩ c).setCell ⟨g,3,none⟩ d):=
 ⟨ju (a:=a) (b:=b) (c:=c) (d:=d) h,fun B hB=>qA hB [a,b,c,d] 0 w (Below.refl B w),fun _ hq _=>qz hq [a,b,c,d] 0 w⟩
end Go.Silo
namespace Go.Proofs.YtipecejghioicaaGreat
open Go.RowKit Go.Silo
def DW (s:Shape) (l:List Bc):Book×Int:=
 if (qo s&&!(l.any fun r=>!qI r))=true then (match zX l with|none=>(⟨[],[],[],0⟩,3)|some b=>if qD s b=true then (b,0) else (⟨[],[],[],0⟩,7)) else (⟨[],[],[],0⟩,1)
def xD (r:Book×Int) (w:World) (e:Ending) (w':World):Prop:=
 ∃A0 n0 c0 A1 n1 c1 A2 n2 c2,e=.returned (.tuple #[.agg #[.slice A0 n0 c0,.slice A1 n1 c1,.slice A2 n2 c2,.int .i64 r.1.next],.int .i64 r.2])∧Bl w' (fun q=>w.heap.size≤q) true true true true A0 n0 c0 A1 n1 c1 A2 n2 c2 r.1∧Below w.heap.size w w'
theorem Of_c {tg:Bool}{S:Nat→Prop}{w:World}{A:Option Addr}{n c:Nat}{s:Shape}{l:List Bc}(hsi:Bg s.K∧Bg s.M∧Bg s.size) (h:Sl tg 61 (qi tg) w S A n c l) (hn:n≤4000) (ht:(l.map (fun r=>r.list.length)).sum≤1000000):
  Calls Tryz.prog 38 #[.agg #[.int .i64 s.K,.int .i64 s.M,.int .i64 s.size],.slice A n c] w (xD (DW s l) w):=by
 have HL:=zh h.len;have rB:=zh hsi;have HT:=zh ht;clear hsi ht;have hal:Below w.heap.size w ((w.alloc (.cells #[.int .i64 s.K,.int .i64 s.M,.int .i64 s.size] 23)).alloc (.cells #[.slice none 0 0,.slice none 0 0,.slice none 0 0,.int .i64 0] 28)):=bz
 have mL:((w.alloc (.cells #[.int .i64 s.K,.int .i64 s.M,.int .i64 s.size] 23)).alloc (.cells #[.slice none 0 0,.slice none 0 0,.slice none 0 0,.int .i64 0] 28)).heap[w.heap.size]?=some (.cells #[.int .i64 s.K,.int .i64 s.M,.int .i64 s.size] 23 (0,0)):=by
  rw[Below.heap_alloc _ _ _ (by simp;try omega)];have:=heap_alloc_new w (.cells #[.int .i64 s.K,.int .i64 s.M,.int .i64 s.size] 23);simpa only[World.size_alloc] using this
 have hr1:((w.alloc (.cells #[.int .i64 s.K,.int .i64 s.M,.int .i64 s.size] 23)).alloc (.cells #[.slice none 0 0,.slice none 0 0,.slice none 0 0,.int .i64 0] 28)).heap[w.heap.size+1]?=some (.cells #[.slice none 0 0,.slice none 0 0,.slice none 0 0,.int .i64 0] 28 (0,0)):=by
  have:=heap_alloc_new (w.alloc (.cells #[.int .i64 s.K,.int .i64 s.M,.int .i64 s.size] 23)) (.cells #[.slice none 0 0,.slice none 0 0,.slice none 0 0,.int .i64 0] 28);simpa only[World.size_alloc] using this
 have hz:w.heap.size+1<((w.alloc (.cells #[.int .i64 s.K,.int .i64 s.M,.int .i64 s.size] 23)).alloc (.cells #[.slice none 0 0,.slice none 0 0,.slice none 0 0,.int .i64 0] 28)).heap.size:=by simp
 have HS:=zh (fun W (hW:Below w.heap.size w W)=>h.all hW);clear h
 go_enter Tryz.func38,Tryz.ntmps38
 go_upto_region 2 with (fail)
 generalize ((w.alloc (.cells #[.int .i64 s.K,.int .i64 s.M,.int .i64 s.size] 23)).alloc (.cells #[.slice none 0 0,.slice none 0 0,.slice none 0 0,.int .i64 0] 28))=W0 at *;have gm:=zh (fun V (hV:Below W0.heap.size W0 V)=>hal.trans (hV.mono hal.size));clear hal;have ROW:=zh (fun V (hV:Below W0.heap.size W0 V)=>(show V.heap[w.heap.size]?=some (.cells #[.int .i64 s.K,.int .i64 s.M,.int .i64 s.size] 23 (0,0))∧V.heap[w.heap.size+1]?=some (.cells #[.slice none 0 0,.slice none 0 0,.slice none 0 0,.int .i64 0] 28 (0,0)) from⟨(hV.block _ (by omega)).trans mL,(hV.block _ (by omega)).trans hr1⟩));clear mL hr1;have hz1:w.heap.size+1<W0.heap.size:=by omega
 obtain⟨r0,r1⟩:=ROW.out W0 (Below.refl _ _);obtain⟨gW,j6,ma⟩:=xQ r0;clear r0 r1;go_wp2_with fail
 refine(CO (s:=s)).mono ?_;clear gW j6 ma;rintro e w1 ⟨rfl,hb1⟩;have gG:=zh hb1;clear hb1;obtain⟨sh,hsh⟩:∃sh,sh=qo s:=⟨_,rfl⟩;rw[←hsh];have un:=zh hsh.symm;clear hsh
 cases sh with
 |false=>
  have HE:Hid (DW s l=(⟨[],[],[],0⟩,1)):=zh (by unfold DW;rw[un.out];rfl);obtain⟨_,r4⟩:=ROW.out w1 gG.out;obtain⟨f0,f1,f2,f3,g0,g1,g2,g3⟩:=qN r4;have hb4:=qO (a:=.slice none 0 0) (b:=.slice none 0 0) (c:=.slice none 0 0) (d:=.int .i64 0) r4;have gh:=zh (hb4.2.1 w.heap.size (by omega));have uU:=zh (gm.out _ gG.out);clear r4 hb4;go_wp2
  refine bodyPost_ret (v:=.tuple #[.agg #[.slice none 0 0,.slice none 0 0,.slice none 0 0,.int .i64 0],.int .i64 1]) (by simp[results,Tryz.results38,go_sem, *];done) rfl ?_;exact⟨none,0,0,none,0,0,none,0,0,by rw[HE.out],by rw[HE.out];exact⟨Sl.Bn (by omega),Sl.Bn (by omega),Sl.Bn (by omega),(show Bg 0 by unfold Bg;omega)⟩,uU.out.trans gh.out⟩
 |true=>
  go_wp2_with fail
  refine(Qe (HS.out _ (gm.out _ gG.out))).mono ?_;rintro e w2 ⟨rfl,hb2⟩;have gM:=zt gG hb2;clear hb2;obtain⟨an,han⟩:∃an,an=l.any (fun r=>!qI r):=⟨_,rfl⟩;rw[←han];have HAN:=zh han.symm;clear han
  cases an with
  |true=>
   have HE:Hid (DW s l=(⟨[],[],[],0⟩,1)):=zh (by unfold DW;rw[un.out,HAN.out];rfl);obtain⟨_,r4⟩:=ROW.out w2 gM.out;obtain⟨f0,f1,f2,f3,g0,g1,g2,g3⟩:=qN r4;have hb4:=qO (a:=.slice none 0 0) (b:=.slice none 0 0) (c:=.slice none 0 0) (d:=.int .i64 0) r4;have gh:=zh (hb4.2.1 w.heap.size (by omega));have uU:=zh (gm.out _ gM.out);clear r4 hb4;go_wp2
   refine bodyPost_ret (v:=.tuple #[.agg #[.slice none 0 0,.slice none 0 0,.slice none 0 0,.int .i64 0],.int .i64 1]) (by simp[results,Tryz.results38,go_sem, *];done) rfl ?_;exact⟨none,0,0,none,0,0,none,0,0,by rw[HE.out],by rw[HE.out];exact⟨Sl.Bn (by omega),Sl.Bn (by omega),Sl.Bn (by omega),(show Bg 0 by unfold Bg;omega)⟩,uU.out.trans gh.out⟩
  |false=>
   have nk:Hid (DW s l=(match zX l with|none=>(⟨[],[],[],0⟩,3)|some b=>if qD s b=true then (b,0) else (⟨[],[],[],0⟩,7))):=zh (by unfold DW;rw[un.out,HAN.out];rfl)
   have mD:Hid (∀k,k<n→qI (l.getD k default)=true):=zh (fun k hk=>by
    have h1:=List.any_eq_false.1 HAN.out _ (kz (d:=default) (by rw[HL.out];exact hk))
    simpa using h1)
   go_upto_region 7 with (fail)
   have rG:=heap_alloc_new w2 (.cells #[.slice none 0 0,.slice none 0 0,.slice none 0 0,.int .i64 0] 28);have hal7:Below w2.heap.size w2 (w2.alloc (.cells #[.slice none 0 0,.slice none 0 0,.slice none 0 0,.int .i64 0] 28)):=(Below.refl _ _).alloc (Nat.le_refl _) _;have hl7:w2.heap.size<(w2.alloc (.cells #[.slice none 0 0,.slice none 0 0,.slice none 0 0,.int .i64 0] 28)).heap.size:=(by simp);generalize (w2.alloc (.cells #[.slice none 0 0,.slice none 0 0,.slice none 0 0,.int .i64 0] 28))=w3 at *;have HOB0:=zh (show OB (fun _=>none) w2.heap.size w2.heap.size none 0 0 none 0 0 none 0 0 ⟨[],[],[],0⟩ w3 from⟨rG,Bj.Bn,Bj.Bn,Bj.Bn,⟨by simp[qd],by simp[qd],by simp[qd],by simp[qd],by simp[qd],by simp[qd]⟩,(show Bg 0 by unfold Bg;omega),Nat.le_refl _,fun g o hx=>by cases hx⟩);have mO:=zh hal7;clear hal7 rG hl7;go_wp2_with fail
   go_loopw [28] (fun iv wr=>∃k:Nat,k≤n∧iv=.int .i64 k∧Hid (Below w2.heap.size w2 wr)∧Hid (∃b,zX (l.take k)=some b∧BInv b k ((l.take k).map (fun r=>r.list.length)).sum∧∃A0 n0 c0 A1 n1 c1 A2 n2 c2,OB (fun _=>none) w2.heap.size w2.heap.size A0 n0 c0 A1 n1 c1 A2 n2 c2 b wr)) (fun iv _=>n - (intOf iv).toNat)
   case atStart=>exact⟨0,Nat.zero_le _,rfl,mO,zh ⟨_,rfl,BInv.start,_,_,_,_,_,_,_,_,_,HOB0.out⟩⟩
   case round=>
    rename World=>wo
    obtain⟨k,hk,rfl,nG,vp⟩:=hrel;obtain⟨b,yQ,hinv,A0,n0,c0,A1,n1,c1,A2,n2,c2,gY⟩:=vp.out;clear vp;have MD:=zh yQ;clear yQ;have p9:=zh hinv;clear hinv;have gJ:=zh gY;clear gY;have HBT:=zh (zu gM nG.out);by_cases hlt:k<n
    ·have hrec:=(HS.out w2 (gm.out _ gM.out)).BQ hlt;obtain⟨bs,os,A4,n4,c4,A5,n5,c5,eA,_,hbs,_,_,g3,g4,hl4,hs5,q0,q1,q2,q3,q4,q5,_⟩:=hrec;subst eA;have u0:=(nG.out.cell (p:=⟨bs,os+k* 6,none⟩) hbs).trans q0;have u1:=(nG.out.cell (p:=⟨bs,os+k* 6+1,none⟩) hbs).trans q1;have u2:=(nG.out.cell (p:=⟨bs,os+k* 6+2,none⟩) hbs).trans q2;have u3:=(nG.out.cell (p:=⟨bs,os+k* 6+3,none⟩) hbs).trans q3;have u4:=(nG.out.cell (p:=⟨bs,os+k* 6+4,none⟩) hbs).trans q4;have u5:=(nG.out.cell (p:=⟨bs,os+k* 6+5,none⟩) hbs).trans q5;clear q0 q1 q2 q3 q4 q5;have hbo:=Nat.lt_of_lt_of_le hbs nG.out.size;have nu:=zh (mD.out k hlt);have hkl:k<l.length:=(by rw[HL.out];exact hlt);have pq:=zh (qE (d:=default) hkl);generalize l.getD k default=r at *;have HST:=zh (And.intro g3 g4);clear g3 g4 hkl;have mZ:=zh ((hl4.Bd.mono (S':=fun q=>q<w2.heap.size) (fun _ h _=>h.2)).all nG.out);have pI:=zh ((hs5.Bd.mono (S':=fun q=>q<w2.heap.size) (fun _ h _=>h.2)).all nG.out);clear hl4 hs5
     go_upto_region 10 with (fail)
     have hal:Below wo.heap.size wo (wo.alloc (.cells #[.int .i64 r.kind,.int .i64 r.id,.string r.name,.string r.digest,.slice A4 n4 c4,.slice A5 n5 c5] 61)):=(Below.refl _ _).alloc (Nat.le_refl _) _;have hrow:=heap_alloc_new wo (.cells #[.int .i64 r.kind,.int .i64 r.id,.string r.name,.string r.digest,.slice A4 n4 c4,.slice A5 n5 c5] 61);have HL4b:=zh (mZ.out.all hal);have HS5b:=zh (pI.out.all hal);have GG:=zh (gJ.out.all hal);have mA:=zt nG hal;clear hal u0 u1 u2 u3 u4 u5 mZ pI gJ hbo;have hzw:wo.heap.size<(wo.alloc (.cells #[.int .i64 r.kind,.int .i64 r.id,.string r.name,.string r.digest,.slice A4 n4 c4,.slice A5 n5 c5] 61)).heap.size:=(by simp);generalize (wo.alloc (.cells #[.int .i64 r.kind,.int .i64 r.id,.string r.name,.string r.digest,.slice A4 n4 c4,.slice A5 n5 c5] 61))=w5 at *;generalize wo.heap.size=g9 at *;obtain⟨y0,y1,y2,y3,y4,y5⟩:=QK hrow;clear hrow;have HDO:=zh (JY (r:=r) GG.out p9.out.so ⟨by have:=p9.out.ls;have:=GG.out.st.len;omega,by have:=p9.out.lt;have:=GG.out.th.len;omega,by have:=p9.out.lg;have:=GG.out.ta.len;omega⟩ ⟨p9.out.nx.2,by have:=p9.out.nx.1;omega⟩ HST.out HL4b.out HS5b.out (fun q hq=>hq) ⟨by have:=(zF nu.out).2.2.2.1;have:=HL4b.out.len;omega,by have:=(zF nu.out).2.2.2.2;have:=HS5b.out.len;omega⟩ nu.out);go_wp2_with fail
     refine HDO.out.mono ?_;clear y0 y1 y2 y3 y4 y5 HDO;rintro e w6 M5;have gA:=zh (mA.out.trans M5.2.2);have HT6:=zh (zu gM gA.out);have hO6:=M5.2.1;have he:=M5.1;clear M5;have M6:Hid (zX (l.take (k+1))=Cj b r):=zh (by rw[pq.out,Qp,MD.out];rfl)
     cases hdr:Cj b r with
     |none=>
      rw[hdr] at he;have M7:e=.returned (.int .i64 3):=he;clear he hO6;subst M7;have HE:Hid (DW s l=(⟨[],[],[],0⟩,3)):=zh (by rw[nk.out,Qq (k:=k+1) (by rw[M6.out,hdr])]);clear hdr;obtain⟨_,r4⟩:=ROW.out w6 HT6.out;obtain⟨f0,f1,f2,f3,g0,g1,g2,g3⟩:=qN r4;have hb4:=qO (a:=.slice none 0 0) (b:=.slice none 0 0) (c:=.slice none 0 0) (d:=.int .i64 0) r4;have gh:=zh (hb4.2.1 w.heap.size (by omega));have uU:=zh (gm.out _ HT6.out);clear r4 hb4;go_wp2
      refine bodyPost_ret (v:=.tuple #[.agg #[.slice none 0 0,.slice none 0 0,.slice none 0 0,.int .i64 0],.int .i64 3]) (by simp[results,Tryz.results38,go_sem, *];done) rfl ?_;exact⟨none,0,0,none,0,0,none,0,0,by rw[HE.out],by rw[HE.out];exact⟨Sl.Bn (by omega),Sl.Bn (by omega),Sl.Bn (by omega),(show Bg 0 by unfold Bg;omega)⟩,uU.out.trans gh.out⟩
     |some b'=>
      rw[hdr] at he hO6;have M7:e=.returned (.int .i64 0):=he;clear he;subst M7
      have HIN2:Hid (∃b,zX (l.take (k+1))=some b∧BInv b (k+1) ((l.take (k+1)).map (fun r=>r.list.length)).sum∧∃A0 n0 c0 A1 n1 c1 A2 n2 c2,OB (fun _=>none) w2.heap.size w2.heap.size A0 n0 c0 A1 n1 c1 A2 n2 c2 b w6):=zh ⟨b',by rw[M6.out,hdr],by
       have h1:=p9.out.step nu.out hdr;rw[pq.out,List.map_append,List.sum_append]
       simpa using h1,hO6⟩
      clear hdr hO6;have hk1:k+1≤n:=hlt;go_wp2
      refine⟨⟨k+1,hk1,by go_num,gA,HIN2⟩,?_⟩;go_light
      simp[intOf];omega
    obtain rfl:k=n:=by omega
    have HFL:Hid (zX l=some b):=zh (by rw[←MD.out,List.take_of_length_le (by rw[HL.out];exact Nat.le_refl _)]);have pJ:Hid (DW s l=if qD s b=true then (b,0) else (⟨[],[],[],0⟩,7)):=zh (by rw[nk.out,HFL.out]);have mQ:=zh (p9.out.few hn (Nat.le_trans (kQ (List.Sublist.map _ (List.take_sublist _ _))) HT.out));obtain⟨r2,_⟩:=ROW.out wo HBT.out;obtain⟨k0,k1,k2⟩:=xQ r2;have r7:=gJ.out.row;obtain⟨x0,x1,x2,x3⟩:=zC r7;clear r2 r7;go_wp2_with fail
    refine(JU (s:=s) (b:=b) rB.out mQ.out gJ.out.bookR).mono ?_;clear k0 k1 k2 x0 x1 x2 x3;rintro e w7 ⟨rfl,gy⟩;have mh:=zt HBT gy;have Hp:=zh (gJ.out.all gy);clear gy gJ;obtain⟨bk,hbk⟩:∃bk,bk=qD s b:=⟨_,rfl⟩;rw[←hbk] at pJ⊢;clear hbk
    cases bk with
    |false=>
     have HE:Hid (DW s l=(⟨[],[],[],0⟩,7)):=zh (by rw[pJ.out];rfl);obtain⟨_,r4⟩:=ROW.out w7 mh.out;obtain⟨f0,f1,f2,f3,g0,g1,g2,g3⟩:=qN r4;have hb4:=qO (a:=.slice none 0 0) (b:=.slice none 0 0) (c:=.slice none 0 0) (d:=.int .i64 0) r4;have gh:=zh (hb4.2.1 w.heap.size (by omega));have uU:=zh (gm.out _ mh.out);clear r4 hb4;go_wp2
     refine bodyPost_ret (v:=.tuple #[.agg #[.slice none 0 0,.slice none 0 0,.slice none 0 0,.int .i64 0],.int .i64 7]) (by simp[results,Tryz.results38,go_sem, *];done) rfl ?_;exact⟨none,0,0,none,0,0,none,0,0,by rw[HE.out],by rw[HE.out];exact⟨Sl.Bn (by omega),Sl.Bn (by omega),Sl.Bn (by omega),(show Bg 0 by unfold Bg;omega)⟩,uU.out.trans gh.out⟩
    |true=>
     have HE:Hid (DW s l=(b,0)):=zh (by rw[pJ.out];rfl);obtain⟨_,r4⟩:=ROW.out w7 mh.out;obtain⟨f0,f1,f2,f3,e0,e1,e2,e3⟩:=qN r4;have r7:=Hp.out.row;obtain⟨x0,x1,x2,x3⟩:=zC r7;have hb4:=qO (a:=.slice A0 n0 c0) (b:=.slice A1 n1 c1) (c:=.slice A2 n2 c2) (d:=.int .i64 b.next) r4;have gh:=zh (hb4.2.1 w.heap.size (by omega));have uU:=zh (gm.out _ mh.out);have HAG:=zh hb4.2.2;have HW2:=zh (show w.heap.size+1<w2.heap.size from Nat.lt_of_lt_of_le hz1 gM.out.size);clear r4 hb4 r7;go_wp2
     refine bodyPost_ret (v:=.tuple #[.agg #[.slice A0 n0 c0,.slice A1 n1 c1,.slice A2 n2 c2,.int .i64 b.next],.int .i64 0]) (by simp[results,Tryz.results38,go_sem, *];done) rfl ?_;refine⟨A0,n0,c0,A1,n1,c1,A2,n2,c2,by rw[HE.out],?_,uU.out.trans gh.out⟩;rw[HE.out]
     have hup:∀q,(NS w2.heap.size A0 A1 A2 q∨w2.heap.size≤q)→w.heap.size+1<q:=fun q hq=>by
      have h1:=HW2.out;rcases hq with hq|hq
      ·have h2:=hq.1;omega
      omega
     have hA:Agree (fun q=>w.heap.size+1<q) w7 _:=HAG.out.mono (fun q hq _=>Nat.ne_of_gt hq);have t0:=(((Hp.out.st.sl (tg:=true)).mono (S':=fun q=>w.heap.size+1<q) (fun q hq _=>hup q hq)).frame hA (by simp)).mono (S':=fun q=>w.heap.size≤q) (fun q hq _=>by omega);have t1:=(((Hp.out.th.sl (tg:=true)).mono (S':=fun q=>w.heap.size+1<q) (fun q hq _=>hup q hq)).frame hA (by simp)).mono (S':=fun q=>w.heap.size≤q) (fun q hq _=>by omega);have t2:=(((Hp.out.ta.sl (tg:=true)).mono (S':=fun q=>w.heap.size+1<q) (fun q hq _=>hup q hq)).frame hA (by simp)).mono (S':=fun q=>w.heap.size≤q) (fun q hq _=>by omega);exact⟨t0,t1,t2,Hp.out.nx⟩
theorem zd {tg tg0 tg1 tg2:Bool}{S:Nat→Prop}{w:World}{A0 A1 A2:Option Addr}{n0 c0 n1 c1 n2 c2:Nat}{x:Book}(hi:Bg x.next)
  (h0:Sl tg 86 (qc tg0) w S A0 n0 c0 x.Ba) (h1:Sl tg 90 (qj tg1) w S A1 n1 c1 x.things) (h2:Sl tg2 94 Bu w S A2 n2 c2 x.tags)
  (hn0:n0≤100000000) (pu:n1≤100000000) (rO:n2≤100000000) (hx0:∀y∈x.Ba,y.place.length≤100000000) (hx1:∀y∈x.things,y.list.length≤100000000):
  Calls Tryz.prog 28 #[.agg #[.slice A0 n0 c0,.slice A1 n1 c1,.slice A2 n2 c2,.int .i64 x.next]] w (Xo (KM true) w x):=by
 have HX0:=zh hx0;clear hx0;have M4:=zh hx1;clear hx1
 go_enter Tryz.func28,Tryz.ntmps28
 go_wp2_with fail
 refine(xm (h0.all bz) hn0 HX0.out).mono ?_;rintro e w1 ⟨A3,c3,rfl,nE,hb3⟩
 (obtain⟨rA,hf_w1⟩:=xM hb3;have p7:w.heap.size<w1.heap.size:=(by have:=hb3.size;first|omega|(simp at this;omega));have x6:w.heap.size+1<w1.heap.size:=(by have:=hb3.size;first|omega|(simp at this;omega));have z_w1_2:w.heap.size+1+1<w1.heap.size:=(by have:=hb3.size;first|omega|(simp at this;omega)))
 go_wp2_with fail
 refine(qC (h1.all bz) pu M4.out).mono ?_;rintro e w2 ⟨A4,c4,rfl,uC,hb4⟩
 (obtain⟨GW,hf_w2⟩:=xM hb4;have x7:w.heap.size<w2.heap.size:=(by have:=hb4.size;first|omega|(simp at this;omega));have x8:w.heap.size+1<w2.heap.size:=(by have:=hb4.size;first|omega|(simp at this;omega));have z_w2_2:w.heap.size+1+1<w2.heap.size:=(by have:=hb4.size;first|omega|(simp at this;omega)))
 go_wp2_with fail
 refine(zs (h2.all bz) rO).mono ?_;rintro e w3 ⟨A5,c5,rfl,hown5,gB⟩
 (obtain⟨hc_w3,hf_w3⟩:=xM gB;have z_w3_0:w.heap.size<w3.heap.size:=(by have:=gB.size;first|omega|(simp at this;omega));have z_w3_1:w.heap.size+1<w3.heap.size:=(by have:=gB.size;first|omega|(simp at this;omega));have z_w3_2:w.heap.size+1+1<w3.heap.size:=(by have:=gB.size;first|omega|(simp at this;omega)))
 go_wp2_with fail
 refine bodyPost_ret (v:=.agg #[.slice A3 x.Ba.length c3,.slice A4 x.things.length c4,.slice A5 x.tags.length c5,.int .i64 x.next]) (by simp[results,Tryz.results28,go_sem, *];done) rfl ?_;have hr3:=(nE.sl (tg:=true)).mono (S':=fun b=>w.heap.size+3≤b) (fun b hb _=>by simp at hb;omega);have hr4:=(uC.sl (tg:=true)).mono (S':=fun b=>w.heap.size+3≤b) (fun b hb _=>by simp at hb;omega);have nA:=(hown5.sl (tg:=true)).mono (S':=fun b=>w.heap.size+3≤b) (fun b hb _=>by simp at hb;omega);exact⟨_,rfl,⟨_,_,_,_,_,_,_,_,_,rfl,hi,(hr3.keep (by repeat' (first|(with_reducible exact Be.refl _ _)|(with_reducible refine Be.alloc ?_ _)|(with_reducible refine Be.drew ?_)|(with_reducible refine Be.drewN ?_ _)|(with_reducible refine Be.setCell ?_ ?_ _)|(refine Be.call ?_ (by with_reducible assumption))|(with_reducible refine Be.ext ?_ _)|(simp;done)|(simp;omega)|omega))).mono (fun b hb _=>by omega),(hr4.keep (by repeat' (first|(with_reducible exact Be.refl _ _)|(with_reducible refine Be.alloc ?_ _)|(with_reducible refine Be.drew ?_)|(with_reducible refine Be.drewN ?_ _)|(with_reducible refine Be.setCell ?_ ?_ _)|(refine Be.call ?_ (by with_reducible assumption))|(with_reducible refine Be.ext ?_ _)|(simp;done)|(simp;omega)|omega))).mono (fun b hb _=>by omega),(nA.keep (by repeat' (first|(with_reducible exact Be.refl _ _)|(with_reducible refine Be.alloc ?_ _)|(with_reducible refine Be.drew ?_)|(with_reducible refine Be.drewN ?_ _)|(with_reducible refine Be.setCell ?_ ?_ _)|(refine Be.call ?_ (by with_reducible assumption))|(with_reducible refine Be.ext ?_ _)|(simp;done)|(simp;omega)|omega))).mono (fun b hb _=>by omega)⟩,bz⟩
theorem Ea.places {b:Book}(h:Ea b):∀y∈b.Ba,y.place.length≤100000000:=fun y hy=>by
 have h1:=h.sl;unfold qg at h1;rw[List.take_length] at h1;obtain⟨s,t,e⟩:=List.append_of_mem hy;rw[e,List.flatMap_append,List.flatMap_cons,List.length_append,List.length_append] at h1;omega
theorem Ea.lists {b:Book}(h:Ea b):∀y∈b.things,y.list.length≤100000000:=fun y hy=>by
 have h1:=h.nm;unfold qp at h1;rw[List.take_length] at h1;obtain⟨s,t,e⟩:=List.append_of_mem hy;rw[e,List.flatMap_append,List.flatMap_cons,List.length_append,List.length_append] at h1;omega
end Go.Proofs.YtipecejghioicaaGreat
