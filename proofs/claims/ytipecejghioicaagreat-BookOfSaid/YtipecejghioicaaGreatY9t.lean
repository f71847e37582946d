/- Book.All: the records that make a book. -/
import Derived.Test.YtipecejghioicaaGreatY8t
import Derived.Deep.Light
set_option maxHeartbeats 16000000
set_option maxRecDepth 100000
namespace Go.Proofs.YtipecejghioicaaGreat
open Go.RowKit Go.Silo
def xj (l:List Bc):Int:=if 0<l.length then (l.getD (l.length - 1) default).id+1 else 0
def ji (b:Book):List Bb:=if xj b.Ba<b.next then [⟨1,b.next - 1,ByteArray.empty,ByteArray.empty,[],[⟨0,0⟩]⟩] else []
def xU (b:Book):List Bb:=ji b++b.Ba.map qE++b.things.map qX++b.tags.map xz
theorem zM {α β:Type}{f:α→β}{l:List α}{k:Nat}{d:α}(h:k<l.length):(l.take (k+1)).map f=(l.take k).map f++[f (l.getD k d)]:=by
 rw[qL h,List.map_append];rfl
theorem JJ {tg tg0 tg1 tg2:Bool}{S:Nat→Prop}{w:World}{A0 A1 A2:Option Addr}{n0 c0 n1 c1 n2 c2:Nat}{b:Book}(h:Bv w S tg tg0 tg1 tg2 A0 n0 c0 A1 n1 c1 A2 n2 c2 b) (hn:n0≤100000∧n1≤100000∧n2≤100000) (hp:∀y∈b.Ba,y.place.length≤100000000) (hq:∀y∈b.things,y.list.length≤100000000) (hid:∀j,j<b.Ba.length→0≤(b.Ba.getD j default).id∧(b.Ba.getD j default).id≤1073741824) (hnx:0≤b.next∧b.next≤1073741824):
  Calls Tryz.prog 75 #[.agg #[.slice A0 n0 c0,.slice A1 n1 c1,.slice A2 n2 c2,.int .i64 b.next]] w (qC 61 (qw true) w (xU b)):=by
 obtain⟨i0,nS,hz0,hz1,hz2⟩:=info_parts Tryz.C8;have nT:=zh h.st.len;have nR:=zh h.th.len;have ul:=zh h.ta.len;have hn0:=hn.1;have pH:=hn.2.1;have uf:=hn.2.2;have HP:=zh hp;have HQ:=zh hq;have HI:=zh hid;have hx0:=hnx.1;have hx1:=hnx.2;clear hp hq hid hnx hn;have hal:Below w.heap.size w (w.alloc (.cells #[.slice A0 n0 c0,.slice A1 n1 c1,.slice A2 n2 c2,.int .i64 b.next] 28)):=bz
 have mG:(w.alloc (.cells #[.slice A0 n0 c0,.slice A1 n1 c1,.slice A2 n2 c2,.int .i64 b.next] 28)).heap[w.heap.size]?=some (.cells #[.slice A0 n0 c0,.slice A1 n1 c1,.slice A2 n2 c2,.int .i64 b.next] 28 (0,0)):=by
  have:=heap_alloc_new w (.cells #[.slice A0 n0 c0,.slice A1 n1 c1,.slice A2 n2 c2,.int .i64 b.next] 28);simpa only[World.size_alloc] using this
 have hz:w.heap.size<(w.alloc (.cells #[.slice A0 n0 c0,.slice A1 n1 c1,.slice A2 n2 c2,.int .i64 b.next] 28)).heap.size:=by simp
 have HS:=zh (fun W (hW:Below w.heap.size w W)=>h.st.all hW);have HT:=zh (fun W (hW:Below w.heap.size w W)=>h.th.all hW);have HG:=zh (fun W (hW:Below w.heap.size w W)=>h.ta.all hW);clear h
 go_enter Tryz.func75,Tryz.ntmps75
 go_upto_region 1 with (fail)
 generalize (w.alloc (.cells #[.slice A0 n0 c0,.slice A1 n1 c1,.slice A2 n2 c2,.int .i64 b.next] 28))=W0 at *;have gB:=zh (fun V (hV:Below W0.heap.size W0 V)=>hal.trans (hV.mono hal.size));clear hal;have ROW:=zh (fun V (hV:Below W0.heap.size W0 V)=>(show V.heap[w.heap.size]?=some (.cells #[.slice A0 n0 c0,.slice A1 n1 c1,.slice A2 n2 c2,.int .i64 b.next] 28 (0,0)) from(hV.block _ (by omega)).trans mG));clear mG;have vr:w.heap.size<W0.heap.size:=by omega
 have r0:=ROW.out W0 (Below.refl _ _);have mF:=zc 0 r0 (.slice _ n0 c0) rfl;have nD:=zc 3 r0 (.int .i64 b.next) rfl;clear r0
 go_upto_if 16 with (fail)
 go_cut [3] from 16 (fun t V=>t=.int .i64 (xj b.Ba)∧Hid (Below W0.heap.size W0 V))
 case first=>
  by_cases h0:0<n0
  ·obtain⟨n',hn'⟩:∃n',n0=n'+1:=⟨n0 - 1,by omega⟩;subst hn';obtain⟨bs,os,A3,n3,c3,eA,_,hbs,_,_,_,_,u0,_⟩:=(HS.out W0 (gB.out _ (Below.refl _ _))).Bt (k:=n') (by omega);subst eA;have hi9:=HI.out n' (by rw[nT.out];omega);have yL:Hid (xj b.Ba=(b.Ba.getD n' default).id+1):=zh (by unfold xj;rw[nT.out,if_pos (by omega)];rfl);generalize (b.Ba.getD n' default).id=y at *;have hj1:((n'+1:Nat):Int) - 1=(n':Int):=(by omega);go_wp2
   go_meet
   case rel=>exact⟨by rw[yL.out],zh (Below.refl _ _)⟩
  have yL:Hid (xj b.Ba=0):=zh (by unfold xj;rw[if_neg (by rw[nT.out];exact h0)]);obtain rfl:n0=0:=by omega
  go_wp2
  go_meet
  case rel=>exact⟨by rw[yL.out],zh (Below.refl _ _)⟩
 case rest=>
  rename World=>wc
  obtain⟨rfl,HBc⟩:=hcut;clear mF nD;have r0:=ROW.out wc HBc.out;have nD:=zc 3 r0 (.int .i64 b.next) rfl;clear r0;obtain⟨lb,hlb⟩:∃lb,lb=xj b.Ba:=⟨_,rfl⟩;rw[←hlb];have HPB:Hid (ji b=if lb<b.next then [⟨1,b.next - 1,ByteArray.empty,ByteArray.empty,[],[⟨0,0⟩]⟩] else []):=zh (by unfold ji;rw[←hlb]);clear hlb
  go_upto_if 28 with (fail)
  go_cut [2] from 28 (fun t V=>∃A c,t=.slice A (ji b).length c∧Hid (Silo.Bi 61 (qw true) V W0.heap.size (fun q=>W0.heap.size≤q) A (ji b).length c (ji b))∧Hid (Below W0.heap.size W0 V))
  case first=>
   by_cases hl:lb<b.next
   ·have HE:Hid (ji b=[⟨1,b.next - 1,ByteArray.empty,ByteArray.empty,[],[⟨0,0⟩]⟩]):=zh (by rw[HPB.out,if_pos hl]);have hsl:=kn (p:=⟨0,0⟩) ⟨(show Bf 0 by unfold Bf;omega),(show Bf 0 by unfold Bf;omega)⟩ (heap_alloc_new wc (.cells #[.int .i64 0,.int .i64 0] 88));have nI:=zh hsl;clear hsl;have hbx:(b.next - 1)≤1073741824∧-1≤b.next - 1:=(by omega);have GX:=zh hbx;clear hbx;have HW:=zh HBc.out.size;go_wp2_with (at_builtin;refine qm rfl _ _ 29 rfl i0 (.agg #[.int .i64 0,.int .i64 0,.string ByteArray.empty,.string ByteArray.empty,.slice none 0 0,.slice none 0 0]) 96 Tryz.underlying29 nS hz0 hz1 hz2 rfl (show 0<6 by decide) rfl (Bi.Bp (E:=qw true) (base:=W0.heap.size) (S:=fun q=>W0.heap.size≤q)) (wc.heap.size+1) 61 1 [.int .i64 1,.int .i64 (b.next - 1),.string ⟨#[]⟩,.string ⟨#[]⟩,.slice none 0 0,.slice (some ⟨wc.heap.size,0,none⟩) 1 1] (⟨1,b.next - 1,ByteArray.empty,ByteArray.empty,[],[⟨0,0⟩]⟩:Bb) rfl (by have:=heap_alloc_new (wc.alloc (.cells #[.int .i64 0,.int .i64 0] 88)) (.cells #[.int .i64 1,.int .i64 (b.next - 1),.string ⟨#[]⟩,.string ⟨#[]⟩,.slice none 0 0,.slice (some ⟨wc.heap.size,0,none⟩) 1 1] 61);rwa [World.size_alloc] at this) ⟨_,_,_,_,_,_,rfl,⟨(show Bf 1 by unfold Bf;omega),(show Bf (b.next - 1) by have:=GX.out;unfold Bf;omega),zy,zy⟩,Sl.Bp (by omega),(nI.out.all ((Below.refl _ _).alloc (Nat.le_refl _) _)).mono (fun q hq _=>⟨by have:=HW.out;have:q=wc.heap.size:=hq;omega,fun e=>by cases e⟩)⟩ (by omega) (by omega) (by have:=HW.out;simp;omega) ?_)
    intro A9 c9 w9 hown hg _;have gD:=zh (((HBc.out.alloc HBc.out.size (.cells #[.int .i64 0,.int .i64 0] 88)).alloc (by have:=HW.out;simp;omega) (.cells #[.int .i64 1,.int .i64 (b.next - 1),.string ⟨#[]⟩,.string ⟨#[]⟩,.slice none 0 0,.slice (some ⟨wc.heap.size,0,none⟩) 1 1] 61)).grown hg (by have:=HW.out;simp;omega) (fun k hk=>by cases hk));have HOW:=zh hown;clear hown hg;go_wp2
    go_meet
    case rel=>exact⟨A9,c9,by rw[HE.out];rfl,by rw[HE.out];exact HOW,gD⟩
   have HE:Hid (ji b=[]):=zh (by rw[HPB.out,if_neg hl]);go_wp2
   go_meet
   case rel=>exact⟨none,0,by rw[HE.out];rfl,by rw[HE.out];exact zh Bi.Bp,HBc⟩
  case rest=>
   rename World=>wd
   obtain⟨A,c,rfl,HO,HBd⟩:=hcut;clear nD HBc HPB;have vq:Hid ((ji b).length≤1):=zh (by unfold ji;split<;>simp);generalize hL0:ji b=L0 at *;have HL0E:=zh hL0;clear hL0;have hl0:=vq.out;have r0:=ROW.out wd HBd.out;have mF:=zc 0 r0 (.slice _ n0 c0) rfl;clear r0;go_wp2_with fail
   clear mF
   go_loopw [2,41] (fun lv iv wr=>∃(k:Nat) (A:Option Addr) (c:Nat),k≤n0∧iv=.int .i64 k∧lv=.slice A (L0++(b.Ba.take k).map qE).length c∧Hid (Silo.Bi 61 (qw true) wr W0.heap.size (fun q=>W0.heap.size≤q) A (L0++(b.Ba.take k).map qE).length c (L0++(b.Ba.take k).map qE))∧Hid (Below W0.heap.size W0 wr)) (fun _ iv _=>n0 - (intOf iv).toNat)
   case atStart=>exact⟨0,A,c,Nat.zero_le _,rfl,by simp,by simpa using HO,HBd⟩
   case round=>
    rename World=>wo
    clear HO HBd;obtain⟨k,A,c,hk,rfl,rfl,HO,HB⟩:=hrel;by_cases hlt:k<n0
    ·obtain⟨bs,os,A3,n3,c3,eA,_,hbs,g1,g2,g3,hp3,u0,u1,u2,u3,_⟩:=(HS.out wo (gB.out _ HB.out)).Bt hlt;subst eA;have p6:Hid ((b.Ba.take (k+1)).map qE=(b.Ba.take k).map qE++[qE (b.Ba.getD k default)]):=zh (zM (by rw[nT.out];exact hlt));have HPX:=zh (HP.out _ (jX (d:=default) (by rw[nT.out];exact hlt)));generalize b.Ba.getD k default=x at *;have HX:=zh (And.intro g1 (And.intro g2 g3));clear g1 g2 g3;have ru:=zh hp3;clear hp3;have mD:Hid ((L0++(b.Ba.take k).map qE).length≤100001):=zh (by rw[List.length_append,List.length_map,List.length_take];have:=vq.out;have:=Nat.min_le_left k b.Ba.length;omega);obtain⟨LL,hLL⟩:∃LL,LL=L0++(b.Ba.take k).map qE:=⟨_,rfl⟩;rw[←hLL] at HO mD⊢;have j6:Hid (L0++(b.Ba.take (k+1)).map qE=LL++[qE x]):=zh (by rw[p6.out,hLL,List.append_assoc]);clear hLL p6
     go_upto_region 10 with (fail)
     have nr:Below wo.heap.size wo (wo.alloc (.cells #[.int .i64 x.id,.int .i64 x.len,.int .i64 x.gen,.slice A3 n3 c3] 86)):=(Below.refl _ _).alloc (Nat.le_refl _) _;have hrow:=heap_alloc_new wo (.cells #[.int .i64 x.id,.int .i64 x.len,.int .i64 x.gen,.slice A3 n3 c3] 86);have Hd:wo.heap.size<(wo.alloc (.cells #[.int .i64 x.id,.int .i64 x.len,.int .i64 x.gen,.slice A3 n3 c3] 86)).heap.size:=(by simp);have uW:=zh (HO.out.all nr);have gH:=zt HB nr;have pW:=zh (ru.out.all nr);clear nr u0 u1 u2 u3 HO HB ru;generalize (wo.alloc (.cells #[.int .i64 x.id,.int .i64 x.len,.int .i64 x.gen,.slice A3 n3 c3] 86))=w1 at *;generalize wo.heap.size=g6 at *;have y0:=zc 0 hrow (.int .i64 x.id) rfl;have y1:=zc 1 hrow (.int .i64 x.len) rfl;have y2:=zc 2 hrow (.int .i64 x.gen) rfl;have y3:=zc 3 hrow (.slice A3 n3 c3) rfl;clear hrow;go_wp2_with fail
     refine(Kw (x:=x) HX.out pW.out (by rw[←pW.out.len];exact HPX.out)).mono ?_;clear y0 y1 y2 y3;rintro e w2 ⟨vs,rfl,hrec,hb2⟩;obtain⟨B4,m4,d4,B5,m5,d5,rfl,hok,t4,t5⟩:=hrec;have HREC:=zh (show(qw true).R w2 (fun q=>w1.heap.size≤q) [.int .i64 (qE x).kind,.int .i64 (qE x).id,.string (qE x).name,.string (qE x).digest,.slice B4 m4 d4,.slice B5 m5 d5] (qE x) from⟨_,_,_,_,_,_,rfl,hok,t4,t5⟩);have pI:=zh (uW.out.all hb2);have gF:=zt gH hb2;have HS2:=zh hb2.size;have mY:=zh uW.out.lt;clear hok t4 t5 hb2;have hll:=mD.out;go_wp2_with (at_builtin;refine qm rfl _ _ 29 rfl i0 (.agg #[.int .i64 0,.int .i64 0,.string ByteArray.empty,.string ByteArray.empty,.slice none 0 0,.slice none 0 0]) 96 Tryz.underlying29 nS hz0 hz1 hz2 rfl (show 0<6 by decide) rfl (pI.out.frame (Agree.alloc _ _ _) (by simp)) w2.heap.size 61 1 _ (qE x) rfl (heap_alloc_new _ _) ((qw true).frame (Agree.alloc _ _ _) (by simp) ((qw true).mono (fun q hq _=>⟨Nat.le_trans gH.out.size hq,fun e=>by have:=(mY.out q e.symm).2;omega⟩) HREC.out)) (by omega) (by omega) (by have:=gF.out.size;simp;omega) ?_)
     intro GV GW w3 nB hg3 _;have uM:=zh nB;clear nB;have mr:=zh (((gF.out.alloc gF.out.size _).grown hg3 (by have:=gF.out.size;simp;omega) (fun k hk=>(pI.out.lt k hk).1)));clear hg3;go_wp2
     exact⟨⟨k+1,GV,GW,by omega,by go_num,by rw[j6.out,List.length_append];rfl,by rw[j6.out,List.length_append];exact uM,mr⟩,by simp[intOf];omega⟩
    obtain rfl:k=n0:=by omega
    have j6:Hid ((b.Ba.take k).map qE=b.Ba.map qE):=zh (by rw[List.take_of_length_le (by rw[nT.out];exact Nat.le_refl _)]);rw[j6.out] at HO⊢;have x9:Hid ((L0++b.Ba.map qE).length≤100001):=zh (by rw[List.length_append,List.length_map,nT.out];have:=vq.out;omega);generalize hL1:L0++b.Ba.map qE=L1 at *;have HL1E:=zh hL1;clear hL1;clear vq;have hl1:=x9.out;have r0:=ROW.out wo HB.out;have mK:=zc 1 r0 (.slice _ n1 c1) rfl;clear r0;go_wp2_with fail
    clear mK
    go_loopw [2,54] (fun lv iv wr=>∃(k:Nat) (A:Option Addr) (c:Nat),k≤n1∧iv=.int .i64 k∧lv=.slice A (L1++(b.things.take k).map qX).length c∧Hid (Silo.Bi 61 (qw true) wr W0.heap.size (fun q=>W0.heap.size≤q) A (L1++(b.things.take k).map qX).length c (L1++(b.things.take k).map qX))∧Hid (Below W0.heap.size W0 wr)) (fun _ iv _=>n1 - (intOf iv).toNat)
    case atStart=>exact⟨0,A,c,Nat.zero_le _,rfl,by simp,by simpa using HO,HB⟩
    case round=>
     rename World=>wp
     clear HO HB;obtain⟨k,A,c,hk,rfl,rfl,HO,HB⟩:=hrel;by_cases hlt:k<n1
     ·obtain⟨bs,os,A3,n3,c3,eA,_,hbs,g1,g2,hp3,u0,u1,u2,u3,_⟩:=(HT.out wp (gB.out _ HB.out)).BC hlt;subst eA;have p6:Hid ((b.things.take (k+1)).map qX=(b.things.take k).map qX++[qX (b.things.getD k default)]):=zh (zM (by rw[nR.out];exact hlt));have HPX:=zh (HQ.out _ (jX (d:=default) (by rw[nR.out];exact hlt)));generalize b.things.getD k default=x at *;have HX:=zh (And.intro g1 g2);clear g1 g2;have ru:=zh hp3;clear hp3;have mD:Hid ((L1++(b.things.take k).map qX).length≤300001):=zh (by rw[List.length_append,List.length_map,List.length_take];have:=x9.out;have:=Nat.min_le_left k b.things.length;omega);obtain⟨LL,hLL⟩:∃LL,LL=L1++(b.things.take k).map qX:=⟨_,rfl⟩;rw[←hLL] at HO mD⊢;have j6:Hid (L1++(b.things.take (k+1)).map qX=LL++[qX x]):=zh (by rw[p6.out,hLL,List.append_assoc]);clear hLL p6;obtain⟨dg,ln,Bz,li⟩:=x;simp only at *
      go_upto_region 15 with (fail)
      have nr:Below wp.heap.size wp (wp.alloc (.cells #[.string dg,.int .i64 ln,.bool Bz,.slice A3 n3 c3] 90)):=(Below.refl _ _).alloc (Nat.le_refl _) _;have hrow:=heap_alloc_new wp (.cells #[.string dg,.int .i64 ln,.bool Bz,.slice A3 n3 c3] 90);have Hd:wp.heap.size<(wp.alloc (.cells #[.string dg,.int .i64 ln,.bool Bz,.slice A3 n3 c3] 90)).heap.size:=(by simp);have mY:=zh HO.out.lt;have uW:=zh (HO.out.all nr);have gH:=zt HB nr;have pW:=zh (ru.out.all nr);clear nr u0 u1 u2 u3 HO HB ru;have hg8:some wp.heap.size≠qd A:=fun e=>by have:=(mY.out _ e.symm).2;omega
      generalize (wp.alloc (.cells #[.string dg,.int .i64 ln,.bool Bz,.slice A3 n3 c3] 90))=w1 at *;generalize wp.heap.size=g8 at *;have R8:=zh hrow;have y2:=zc 2 hrow (.bool Bz) rfl;clear hrow mY;have yP:n3≤100000000:=(by rw[←pW.out.len];exact HPX.out);have hll:=mD.out
      cases Bz with
      |false=>
       go_upto_region 18 with (fail)
       clear y2;refine EI (kd:=4) (ln:=ln) (dg:=dg) (xs:=li) uW gH.out.size (by omega) R8 hg8 (zh ⟨(show Bf 4 by unfold Bf;omega),HX.out.2,HX.out.1⟩) (zh (fun V hV=>jm (pW.out.all hV) yP)) rfl rfl rfl rfl ?_;intro v wz A' c' hv hown gJ;simp only[qb,BH,BI,BJ,BL,Act.put,BD,BF,BG];rw[hv];have He:=zh hown;clear hown;have Hf:=zh (gH.out.trans (gJ.below _ gH.out.size (fun q hq=>(uW.out.lt q hq).1)));clear gJ hv;go_wp2
       exact⟨⟨k+1,A',c',by omega,by go_num,by rw[j6.out,List.length_append];rfl,by rw[j6.out,List.length_append];exact He,Hf⟩,by simp[intOf];omega⟩
      |true=>
       go_upto_region 18 with (fail)
       clear y2;refine EI (kd:=5) (ln:=ln) (dg:=dg) (xs:=li) uW gH.out.size (by omega) R8 hg8 (zh ⟨(show Bf 5 by unfold Bf;omega),HX.out.2,HX.out.1⟩) (zh (fun V hV=>jm (pW.out.all hV) yP)) rfl rfl rfl rfl ?_;intro v wz A' c' hv hown gJ;simp only[qb,BH,BI,BJ,BL,Act.put,BD,BF,BG];rw[hv];have He:=zh hown;clear hown;have Hf:=zh (gH.out.trans (gJ.below _ gH.out.size (fun q hq=>(uW.out.lt q hq).1)));clear gJ hv;go_wp2
       exact⟨⟨k+1,A',c',by omega,by go_num,by rw[j6.out,List.length_append];rfl,by rw[j6.out,List.length_append];exact He,Hf⟩,by simp[intOf];omega⟩
     obtain rfl:k=n1:=by omega
     have j6:Hid ((b.things.take k).map qX=b.things.map qX):=zh (by rw[List.take_of_length_le (by rw[nR.out];exact Nat.le_refl _)]);rw[j6.out] at HO⊢;have GA:Hid ((L1++b.things.map qX).length≤300001):=zh (by rw[List.length_append,List.length_map,nR.out];have:=x9.out;omega);generalize hL2:L1++b.things.map qX=L2 at *;have HL2E:=zh hL2;clear hL2 hl1;have hl2:=GA.out;have r0:=ROW.out wp HB.out;have mM:=zc 2 r0 (.slice _ n2 c2) rfl;clear r0;go_wp2_with fail
     clear mM
     go_loopw [2,76] (fun lv iv wr=>∃(k:Nat) (A:Option Addr) (c:Nat),k≤n2∧iv=.int .i64 k∧lv=.slice A (L2++(b.tags.take k).map xz).length c∧Hid (Silo.Bi 61 (qw true) wr W0.heap.size (fun q=>W0.heap.size≤q) A (L2++(b.tags.take k).map xz).length c (L2++(b.tags.take k).map xz))∧Hid (Below W0.heap.size W0 wr)) (fun _ iv _=>n2 - (intOf iv).toNat)
     case atStart=>exact⟨0,A,c,Nat.zero_le _,rfl,by simp,by simpa using HO,HB⟩
     case round=>
      rename World=>wq
      clear HO HB;obtain⟨k,A,c,hk,rfl,rfl,HO,HB⟩:=hrel;by_cases hlt:k<n2
      ·obtain⟨bs,os,eA,_,hbs,g1,g2,u0,u1,_⟩:=(HG.out wq (gB.out _ HB.out)).C9 hlt;subst eA;have p6:Hid ((b.tags.take (k+1)).map xz=(b.tags.take k).map xz++[xz (b.tags.getD k default)]):=zh (zM (by rw[ul.out];exact hlt));generalize b.tags.getD k default=x at *;have HX:=zh (And.intro g1 g2);clear g1 g2;have mD:Hid ((L2++(b.tags.take k).map xz).length≤500001):=zh (by rw[List.length_append,List.length_map,List.length_take];have:=GA.out;have:=Nat.min_le_left k b.tags.length;omega);obtain⟨LL,hLL⟩:∃LL,LL=L2++(b.tags.take k).map xz:=⟨_,rfl⟩;rw[←hLL] at HO mD⊢;have j6:Hid (L2++(b.tags.take (k+1)).map xz=LL++[xz x]):=zh (by rw[p6.out,hLL,List.append_assoc]);clear hLL p6;obtain⟨nm,dg⟩:=x;simp only at *
       go_upto_region 23 with (fail)
       have nr:Below wq.heap.size wq (wq.alloc (.cells #[.string nm,.string dg] 94)):=(Below.refl _ _).alloc (Nat.le_refl _) _;have hrow:=heap_alloc_new wq (.cells #[.string nm,.string dg] 94);have Hd:wq.heap.size<(wq.alloc (.cells #[.string nm,.string dg] 94)).heap.size:=(by simp);have uW:=zh (HO.out.all nr);have gH:=zt HB nr;clear nr u0 u1 HO HB;generalize (wq.alloc (.cells #[.string nm,.string dg] 94))=w1 at *;generalize wq.heap.size=g11 at *;have y0:=zc 0 hrow (.string nm) rfl;have y1:=zc 1 hrow (.string dg) rfl;clear hrow;have hll:=mD.out;go_wp2_with (at_builtin;refine qm rfl _ _ 29 rfl i0 (.agg #[.int .i64 0,.int .i64 0,.string ByteArray.empty,.string ByteArray.empty,.slice none 0 0,.slice none 0 0]) 96 Tryz.underlying29 nS hz0 hz1 hz2 rfl (show 0<6 by decide) rfl (uW.out.frame (Agree.alloc _ _ _) (by simp)) w1.heap.size 61 1 [.int .i64 7,.int .i64 0,.string nm,.string dg,.slice none 0 0,.slice none 0 0] (xz ⟨nm,dg⟩) rfl (heap_alloc_new _ _) ⟨_,_,_,_,_,_,rfl,⟨(show Bf 7 by unfold Bf;omega),(show Bf 0 by unfold Bf;omega),HX.out.1,HX.out.2⟩,Sl.Bp (by omega),Sl.Bp (by omega)⟩ (by omega) (by omega) (by have:=gH.out.size;simp;omega) ?_)
       intro GV GW w3 nB hg3 _;have uM:=zh nB;clear nB;have mr:=zh (((gH.out.alloc gH.out.size _).grown hg3 (by have:=gH.out.size;simp;omega) (fun k hk=>(uW.out.lt k hk).1)));clear hg3;go_wp2
       exact⟨⟨k+1,GV,GW,by omega,by go_num,by rw[j6.out,List.length_append];rfl,by rw[j6.out,List.length_append];exact uM,mr⟩,by simp[intOf];omega⟩
      obtain rfl:k=n2:=by omega
      have j6:Hid ((b.tags.take k).map xz=b.tags.map xz):=zh (by rw[List.take_of_length_le (by rw[ul.out];exact Nat.le_refl _)]);rw[j6.out] at HO⊢;have HLB:Hid (xU b=L2++b.tags.map xz):=zh (by unfold xU;rw[HL0E.out,HL1E.out,HL2E.out]);go_wp2
      go_ret
      refine⟨A,c,by rw[HLB.out];rfl,?_,gB.out _ HB.out⟩;rw[HLB.out];exact(HO.out.lower (Nat.le_of_lt (Nat.lt_of_le_of_lt (Nat.le_refl _) vr))).mono (fun q hq _=>Nat.le_trans (Nat.le_of_lt vr) hq)
end Go.Proofs.YtipecejghioicaaGreat
