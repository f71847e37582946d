import Derived.Test.YtipecejghioicaaGreatY23v
set_option maxHeartbeats 16000000
set_option maxRecDepth 100000
namespace Go.Proofs.YtipecejghioicaaGreat
open Go.RowKit Go.Silo
def xq (l:List Bb):Int:=if 0<l.length then (l.getD (l.length - 1) default).id+1 else 0
def jt (b:Book):List Bc:=if xq b.Ba<b.next then [⟨1,b.next - 1,ByteArray.empty,ByteArray.empty,[],[⟨0,0⟩]⟩] else []
def ja (b:Book):List Bc:=jt b++b.Ba.map qB++b.things.map qR++b.tags.map xB
theorem zO {α β:Type}{f:α→β}{l:List α}{k:Nat}{d:α}(h:k<l.length):(l.take (k+1)).map f=(l.take k).map f++[f (l.getD k d)]:=by
 rw[qE h,List.map_append];rfl
theorem Kw {tg tg0 tg1 tg2:Bool}{S:Nat→Prop}{w:World}{A0 A1 A2:Option Addr}{n0 c0 n1 c1 n2 c2:Nat}{b:Book}(h:Bl w S tg tg0 tg1 tg2 A0 n0 c0 A1 n1 c1 A2 n2 c2 b) (hn:n0≤100000∧n1≤100000∧n2≤100000) (hp:∀y∈b.Ba,y.place.length≤100000000) (hq:∀y∈b.things,y.list.length≤100000000) (hid:∀j,j<b.Ba.length→0≤(b.Ba.getD j default).id∧(b.Ba.getD j default).id≤1073741824) (hnx:0≤b.next∧b.next≤1073741824):
  Calls Tryz.prog 75 #[.agg #[.slice A0 n0 c0,.slice A1 n1 c1,.slice A2 n2 c2,.int .i64 b.next]] w (qy 61 (qi true) w (ja b)):=by
 obtain⟨i0,nS,hz0,hz1,hz2⟩:=info_parts Tryz.BX;have nZ:=zh h.st.len;have nY:=zh h.th.len;have uv:=zh h.ta.len;have hn0:=hn.1;have pu:=hn.2.1;have rO:=hn.2.2;have HP:=zh hp;have HQ:=zh hq;have HI:=zh hid;have hx0:=hnx.1;have hx1:=hnx.2;clear hp hq hid hnx hn;have hal:Below w.heap.size w (w.alloc (.cells #[.slice A0 n0 c0,.slice A1 n1 c1,.slice A2 n2 c2,.int .i64 b.next] 28)):=bz
 have mL:(w.alloc (.cells #[.slice A0 n0 c0,.slice A1 n1 c1,.slice A2 n2 c2,.int .i64 b.next] 28)).heap[w.heap.size]?=some (.cells #[.slice A0 n0 c0,.slice A1 n1 c1,.slice A2 n2 c2,.int .i64 b.next] 28 (0,0)):=by
  have:=heap_alloc_new w (.cells #[.slice A0 n0 c0,.slice A1 n1 c1,.slice A2 n2 c2,.int .i64 b.next] 28);simpa only[World.size_alloc] using this
 have hz:w.heap.size<(w.alloc (.cells #[.slice A0 n0 c0,.slice A1 n1 c1,.slice A2 n2 c2,.int .i64 b.next] 28)).heap.size:=by simp
 have HS:=zh (fun W (hW:Below w.heap.size w W)=>h.st.all hW);have HT:=zh (fun W (hW:Below w.heap.size w W)=>h.th.all hW);have HG:=zh (fun W (hW:Below w.heap.size w W)=>h.ta.all hW);clear h
 go_enter Tryz.func75,Tryz.ntmps75
 go_upto_region 1 with (fail)
 generalize (w.alloc (.cells #[.slice A0 n0 c0,.slice A1 n1 c1,.slice A2 n2 c2,.int .i64 b.next] 28))=W0 at *;have gm:=zh (fun V (hV:Below W0.heap.size W0 V)=>hal.trans (hV.mono hal.size));clear hal;have ROW:=zh (fun V (hV:Below W0.heap.size W0 V)=>(show V.heap[w.heap.size]?=some (.cells #[.slice A0 n0 c0,.slice A1 n1 c1,.slice A2 n2 c2,.int .i64 b.next] 28 (0,0)) from(hV.block _ (by omega)).trans mL));clear mL;have vF:w.heap.size<W0.heap.size:=by omega
 have r0:=ROW.out W0 (Below.refl _ _);have gW:=zc 0 r0 (.slice _ n0 c0) rfl;have n7:=zc 3 r0 (.int .i64 b.next) rfl;clear r0
 go_upto_if 16 with (fail)
 go_cut [3] from 16 (fun t V=>t=.int .i64 (xq b.Ba)∧Hid (Below W0.heap.size W0 V))
 case first=>
  by_cases h0:0<n0
  ·obtain⟨n',hn'⟩:∃n',n0=n'+1:=⟨n0 - 1,by omega⟩;subst hn';obtain⟨bs,os,A3,n3,c3,eA,_,hbs,_,_,_,_,u0,_⟩:=(HS.out W0 (gm.out _ (Below.refl _ _))).Br (k:=n') (by omega);subst eA;have hi9:=HI.out n' (by rw[nZ.out];omega);have GA:Hid (xq b.Ba=(b.Ba.getD n' default).id+1):=zh (by unfold xq;rw[nZ.out,if_pos (by omega)];rfl);generalize (b.Ba.getD n' default).id=y at *;have hj1:((n'+1:Nat):Int) - 1=(n':Int):=(by omega);go_wp2
   go_meet
   case rel=>exact⟨by rw[GA.out],zh (Below.refl _ _)⟩
  have GA:Hid (xq b.Ba=0):=zh (by unfold xq;rw[if_neg (by rw[nZ.out];exact h0)]);obtain rfl:n0=0:=by omega
  go_wp2
  go_meet
  case rel=>exact⟨by rw[GA.out],zh (Below.refl _ _)⟩
 case rest=>
  rename World=>wc
  obtain⟨rfl,mr⟩:=hcut;clear gW n7;have r0:=ROW.out wc mr.out;have n7:=zc 3 r0 (.int .i64 b.next) rfl;clear r0;obtain⟨lb,hlb⟩:∃lb,lb=xq b.Ba:=⟨_,rfl⟩;rw[←hlb];have HPB:Hid (jt b=if lb<b.next then [⟨1,b.next - 1,ByteArray.empty,ByteArray.empty,[],[⟨0,0⟩]⟩] else []):=zh (by unfold jt;rw[←hlb]);clear hlb
  go_upto_if 28 with (fail)
  go_cut [2] from 28 (fun t V=>∃A c,t=.slice A (jt b).length c∧Hid (Silo.Bj 61 (qi true) V W0.heap.size (fun q=>W0.heap.size≤q) A (jt b).length c (jt b))∧Hid (Below W0.heap.size W0 V))
  case first=>
   by_cases hl:lb<b.next
   ·have HE:Hid (jt b=[⟨1,b.next - 1,ByteArray.empty,ByteArray.empty,[],[⟨0,0⟩]⟩]):=zh (by rw[HPB.out,if_pos hl]);have hsl:=kM (p:=⟨0,0⟩) ⟨(show Bg 0 by unfold Bg;omega),(show Bg 0 by unfold Bg;omega)⟩ (heap_alloc_new wc (.cells #[.int .i64 0,.int .i64 0] 88));have mK:=zh hsl;clear hsl;have pc:(b.next - 1)≤1073741824∧-1≤b.next - 1:=(by omega);have nL:=zh pc;clear pc;have HW:=zh mr.out.size;go_wp2_with (at_builtin;refine qk rfl _ _ 29 rfl i0 (.agg #[.int .i64 0,.int .i64 0,.string ByteArray.empty,.string ByteArray.empty,.slice none 0 0,.slice none 0 0]) 96 Tryz.underlying29 nS hz0 hz1 hz2 rfl (show 0<6 by decide) rfl (Bj.Bn (E:=qi true) (base:=W0.heap.size) (S:=fun q=>W0.heap.size≤q)) (wc.heap.size+1) 61 1 [.int .i64 1,.int .i64 (b.next - 1),.string ⟨#[]⟩,.string ⟨#[]⟩,.slice none 0 0,.slice (some ⟨wc.heap.size,0,none⟩) 1 1] (⟨1,b.next - 1,ByteArray.empty,ByteArray.empty,[],[⟨0,0⟩]⟩:Bc) rfl (by have:=heap_alloc_new (wc.alloc (.cells #[.int .i64 0,.int .i64 0] 88)) (.cells #[.int .i64 1,.int .i64 (b.next - 1),.string ⟨#[]⟩,.string ⟨#[]⟩,.slice none 0 0,.slice (some ⟨wc.heap.size,0,none⟩) 1 1] 61);rwa [World.size_alloc] at this) ⟨_,_,_,_,_,_,rfl,⟨(show Bg 1 by unfold Bg;omega),(show Bg (b.next - 1) by have:=nL.out;unfold Bg;omega),zx,zx⟩,Sl.Bn (by omega),(mK.out.all ((Below.refl _ _).alloc (Nat.le_refl _) _)).mono (fun q hq _=>⟨by have:=HW.out;have:q=wc.heap.size:=hq;omega,fun e=>by cases e⟩)⟩ (by omega) (by omega) (by have:=HW.out;simp;omega) ?_)
    intro A9 c9 w9 hown hg _;have gD:=zh (((mr.out.alloc mr.out.size (.cells #[.int .i64 0,.int .i64 0] 88)).alloc (by have:=HW.out;simp;omega) (.cells #[.int .i64 1,.int .i64 (b.next - 1),.string ⟨#[]⟩,.string ⟨#[]⟩,.slice none 0 0,.slice (some ⟨wc.heap.size,0,none⟩) 1 1] 61)).grown hg (by have:=HW.out;simp;omega) (fun k hk=>by cases hk));have HOW:=zh hown;clear hown hg;go_wp2
    go_meet
    case rel=>exact⟨A9,c9,by rw[HE.out];rfl,by rw[HE.out];exact HOW,gD⟩
   have HE:Hid (jt b=[]):=zh (by rw[HPB.out,if_neg hl]);go_wp2
   go_meet
   case rel=>exact⟨none,0,by rw[HE.out];rfl,by rw[HE.out];exact zh Bj.Bn,mr⟩
  case rest=>
   rename World=>wd
   obtain⟨A,c,rfl,HO,HBd⟩:=hcut;clear n7 mr HPB;have vE:Hid ((jt b).length≤1):=zh (by unfold jt;split<;>simp);generalize hL0:jt b=L0 at *;have HL0E:=zh hL0;clear hL0;have hl0:=vE.out;have r0:=ROW.out wd HBd.out;have gW:=zc 0 r0 (.slice _ n0 c0) rfl;clear r0;go_wp2_with fail
   clear gW
   go_loopw [2,41] (fun lv iv wr=>∃(k:Nat) (A:Option Addr) (c:Nat),k≤n0∧iv=.int .i64 k∧lv=.slice A (L0++(b.Ba.take k).map qB).length c∧Hid (Silo.Bj 61 (qi true) wr W0.heap.size (fun q=>W0.heap.size≤q) A (L0++(b.Ba.take k).map qB).length c (L0++(b.Ba.take k).map qB))∧Hid (Below W0.heap.size W0 wr)) (fun _ iv _=>n0 - (intOf iv).toNat)
   case atStart=>exact⟨0,A,c,Nat.zero_le _,rfl,by simp,by simpa using HO,HBd⟩
   case round=>
    rename World=>wo
    clear HO HBd;obtain⟨k,A,c,hk,rfl,rfl,HO,HB⟩:=hrel;by_cases hlt:k<n0
    ·obtain⟨bs,os,A3,n3,c3,eA,_,hbs,g1,g2,g3,hp3,u0,u1,u2,u3,_⟩:=(HS.out wo (gm.out _ HB.out)).Br hlt;subst eA;have pq:Hid ((b.Ba.take (k+1)).map qB=(b.Ba.take k).map qB++[qB (b.Ba.getD k default)]):=zh (zO (by rw[nZ.out];exact hlt));have HPX:=zh (HP.out _ (kz (d:=default) (by rw[nZ.out];exact hlt)));generalize b.Ba.getD k default=x at *;have HX:=zh (And.intro g1 (And.intro g2 g3));clear g1 g2 g3;have vN:=zh hp3;clear hp3;have mY:Hid ((L0++(b.Ba.take k).map qB).length≤100001):=zh (by rw[List.length_append,List.length_map,List.length_take];have:=vE.out;have:=Nat.min_le_left k b.Ba.length;omega);obtain⟨LL,hLL⟩:∃LL,LL=L0++(b.Ba.take k).map qB:=⟨_,rfl⟩;rw[←hLL] at HO mY⊢;have mg:Hid (L0++(b.Ba.take (k+1)).map qB=LL++[qB x]):=zh (by rw[pq.out,hLL,List.append_assoc]);clear hLL pq
     go_upto_region 10 with (fail)
     have nt:Below wo.heap.size wo (wo.alloc (.cells #[.int .i64 x.id,.int .i64 x.len,.int .i64 x.gen,.slice A3 n3 c3] 86)):=(Below.refl _ _).alloc (Nat.le_refl _) _;have hrow:=heap_alloc_new wo (.cells #[.int .i64 x.id,.int .i64 x.len,.int .i64 x.gen,.slice A3 n3 c3] 86);have G3:wo.heap.size<(wo.alloc (.cells #[.int .i64 x.id,.int .i64 x.len,.int .i64 x.gen,.slice A3 n3 c3] 86)).heap.size:=(by simp);have vq:=zh (HO.out.all nt);have gG:=zt HB nt;have rp:=zh (vN.out.all nt);clear nt u0 u1 u2 u3 HO HB vN;generalize (wo.alloc (.cells #[.int .i64 x.id,.int .i64 x.len,.int .i64 x.gen,.slice A3 n3 c3] 86))=w1 at *;generalize wo.heap.size=g6 at *;obtain⟨y0,y1,y2,y3⟩:=zC hrow;clear hrow;go_wp2_with fail
     refine(yb (x:=x) HX.out rp.out (by rw[←rp.out.len];exact HPX.out)).mono ?_;clear y0 y1 y2 y3;rintro e w2 ⟨vs,rfl,hrec,hb2⟩;obtain⟨B4,m4,d4,B5,m5,d5,rfl,hok,t4,t5⟩:=hrec;have HREC:=zh (show(qi true).R w2 (fun q=>w1.heap.size≤q) [.int .i64 (qB x).kind,.int .i64 (qB x).id,.string (qB x).name,.string (qB x).digest,.slice B4 m4 d4,.slice B5 m5 d5] (qB x) from⟨_,_,_,_,_,_,rfl,hok,t4,t5⟩);have pJ:=zh (vq.out.all hb2);have gM:=zt gG hb2;have uk:=zh hb2.size;have mW:=zh vq.out.lt;clear hok t4 t5 hb2;have hll:=mY.out;go_wp2_with (at_builtin;refine qk rfl _ _ 29 rfl i0 (.agg #[.int .i64 0,.int .i64 0,.string ByteArray.empty,.string ByteArray.empty,.slice none 0 0,.slice none 0 0]) 96 Tryz.underlying29 nS hz0 hz1 hz2 rfl (show 0<6 by decide) rfl (pJ.out.frame (Agree.alloc _ _ _) (by simp)) w2.heap.size 61 1 _ (qB x) rfl (heap_alloc_new _ _) ((qi true).frame (Agree.alloc _ _ _) (by simp) ((qi true).mono (fun q hq _=>⟨Nat.le_trans gG.out.size hq,fun e=>by have:=(mW.out q e.symm).2;omega⟩) HREC.out)) (by omega) (by omega) (by have:=gM.out.size;simp;omega) ?_)
     intro M0 M2 w3 nE hg3 _;have uT:=zh nE;clear nE;have mO:=zh (((gM.out.alloc gM.out.size _).grown hg3 (by have:=gM.out.size;simp;omega) (fun k hk=>(pJ.out.lt k hk).1)));clear hg3;go_wp2
     exact⟨⟨k+1,M0,M2,by omega,by go_num,by rw[mg.out,List.length_append];rfl,by rw[mg.out,List.length_append];exact uT,mO⟩,by simp[intOf];omega⟩
    obtain rfl:k=n0:=by omega
    have mg:Hid ((b.Ba.take k).map qB=b.Ba.map qB):=zh (by rw[List.take_of_length_le (by rw[nZ.out];exact Nat.le_refl _)]);rw[mg.out] at HO⊢;have G6:Hid ((L0++b.Ba.map qB).length≤100001):=zh (by rw[List.length_append,List.length_map,nZ.out];have:=vE.out;omega);generalize hL1:L0++b.Ba.map qB=L1 at *;have HL1E:=zh hL1;clear hL1;clear vE;have hl1:=G6.out;have r0:=ROW.out wo HB.out;have j6:=zc 1 r0 (.slice _ n1 c1) rfl;clear r0;go_wp2_with fail
    clear j6
    go_loopw [2,54] (fun lv iv wr=>∃(k:Nat) (A:Option Addr) (c:Nat),k≤n1∧iv=.int .i64 k∧lv=.slice A (L1++(b.things.take k).map qR).length c∧Hid (Silo.Bj 61 (qi true) wr W0.heap.size (fun q=>W0.heap.size≤q) A (L1++(b.things.take k).map qR).length c (L1++(b.things.take k).map qR))∧Hid (Below W0.heap.size W0 wr)) (fun _ iv _=>n1 - (intOf iv).toNat)
    case atStart=>exact⟨0,A,c,Nat.zero_le _,rfl,by simp,by simpa using HO,HB⟩
    case round=>
     rename World=>wp
     clear HO HB;obtain⟨k,A,c,hk,rfl,rfl,HO,HB⟩:=hrel;by_cases hlt:k<n1
     ·obtain⟨bs,os,A3,n3,c3,eA,_,hbs,g1,g2,hp3,u0,u1,u2,u3,_⟩:=(HT.out wp (gm.out _ HB.out)).BH hlt;subst eA;have pq:Hid ((b.things.take (k+1)).map qR=(b.things.take k).map qR++[qR (b.things.getD k default)]):=zh (zO (by rw[nY.out];exact hlt));have HPX:=zh (HQ.out _ (kz (d:=default) (by rw[nY.out];exact hlt)));generalize b.things.getD k default=x at *;have HX:=zh (And.intro g1 g2);clear g1 g2;have vN:=zh hp3;clear hp3;have mY:Hid ((L1++(b.things.take k).map qR).length≤300001):=zh (by rw[List.length_append,List.length_map,List.length_take];have:=G6.out;have:=Nat.min_le_left k b.things.length;omega);obtain⟨LL,hLL⟩:∃LL,LL=L1++(b.things.take k).map qR:=⟨_,rfl⟩;rw[←hLL] at HO mY⊢;have mg:Hid (L1++(b.things.take (k+1)).map qR=LL++[qR x]):=zh (by rw[pq.out,hLL,List.append_assoc]);clear hLL pq;obtain⟨dg,ln,Bv,li⟩:=x;simp only at *
      go_upto_region 15 with (fail)
      have nt:Below wp.heap.size wp (wp.alloc (.cells #[.string dg,.int .i64 ln,.bool Bv,.slice A3 n3 c3] 90)):=(Below.refl _ _).alloc (Nat.le_refl _) _;have hrow:=heap_alloc_new wp (.cells #[.string dg,.int .i64 ln,.bool Bv,.slice A3 n3 c3] 90);have G3:wp.heap.size<(wp.alloc (.cells #[.string dg,.int .i64 ln,.bool Bv,.slice A3 n3 c3] 90)).heap.size:=(by simp);have mW:=zh HO.out.lt;have vq:=zh (HO.out.all nt);have gG:=zt HB nt;have rp:=zh (vN.out.all nt);clear nt u0 u1 u2 u3 HO HB vN;have uu:some wp.heap.size≠qd A:=fun e=>by have:=(mW.out _ e.symm).2;omega
      generalize (wp.alloc (.cells #[.string dg,.int .i64 ln,.bool Bv,.slice A3 n3 c3] 90))=w1 at *;generalize wp.heap.size=g8 at *;have R8:=zh hrow;have y2:=zc 2 hrow (.bool Bv) rfl;clear hrow mW;have GH:n3≤100000000:=(by rw[←rp.out.len];exact HPX.out);have hll:=mY.out
      cases Bv with
      |false=>
       go_upto_region 18 with (fail)
       clear y2;refine Fa (kd:=4) (ln:=ln) (dg:=dg) (xs:=li) vq gG.out.size (by omega) R8 uu (zh ⟨(show Bg 4 by unfold Bg;omega),HX.out.2,HX.out.1⟩) (zh (fun V hV=>jz (rp.out.all hV) GH)) rfl rfl rfl rfl ?_;intro v wz A' c' hv hown gK;simp only[qb,BC,BD,BF,BG,Act.put,Bz,BA,BB];rw[hv];have Mf:=zh hown;clear hown;have Mg:=zh (gG.out.trans (gK.below _ gG.out.size (fun q hq=>(vq.out.lt q hq).1)));clear gK hv;go_wp2
       exact⟨⟨k+1,A',c',by omega,by go_num,by rw[mg.out,List.length_append];rfl,by rw[mg.out,List.length_append];exact Mf,Mg⟩,by simp[intOf];omega⟩
      |true=>
       go_upto_region 18 with (fail)
       clear y2;refine Fa (kd:=5) (ln:=ln) (dg:=dg) (xs:=li) vq gG.out.size (by omega) R8 uu (zh ⟨(show Bg 5 by unfold Bg;omega),HX.out.2,HX.out.1⟩) (zh (fun V hV=>jz (rp.out.all hV) GH)) rfl rfl rfl rfl ?_;intro v wz A' c' hv hown gK;simp only[qb,BC,BD,BF,BG,Act.put,Bz,BA,BB];rw[hv];have Mf:=zh hown;clear hown;have Mg:=zh (gG.out.trans (gK.below _ gG.out.size (fun q hq=>(vq.out.lt q hq).1)));clear gK hv;go_wp2
       exact⟨⟨k+1,A',c',by omega,by go_num,by rw[mg.out,List.length_append];rfl,by rw[mg.out,List.length_append];exact Mf,Mg⟩,by simp[intOf];omega⟩
     obtain rfl:k=n1:=by omega
     have mg:Hid ((b.things.take k).map qR=b.things.map qR):=zh (by rw[List.take_of_length_le (by rw[nY.out];exact Nat.le_refl _)]);rw[mg.out] at HO⊢;have Hu:Hid ((L1++b.things.map qR).length≤300001):=zh (by rw[List.length_append,List.length_map,nY.out];have:=G6.out;omega);generalize hL2:L1++b.things.map qR=L2 at *;have HL2E:=zh hL2;clear hL2 hl1;have hl2:=Hu.out;have r0:=ROW.out wp HB.out;have ma:=zc 2 r0 (.slice _ n2 c2) rfl;clear r0;go_wp2_with fail
     clear ma
     go_loopw [2,76] (fun lv iv wr=>∃(k:Nat) (A:Option Addr) (c:Nat),k≤n2∧iv=.int .i64 k∧lv=.slice A (L2++(b.tags.take k).map xB).length c∧Hid (Silo.Bj 61 (qi true) wr W0.heap.size (fun q=>W0.heap.size≤q) A (L2++(b.tags.take k).map xB).length c (L2++(b.tags.take k).map xB))∧Hid (Below W0.heap.size W0 wr)) (fun _ iv _=>n2 - (intOf iv).toNat)
     case atStart=>exact⟨0,A,c,Nat.zero_le _,rfl,by simp,by simpa using HO,HB⟩
     case round=>
      rename World=>wq
      clear HO HB;obtain⟨k,A,c,hk,rfl,rfl,HO,HB⟩:=hrel;by_cases hlt:k<n2
      ·obtain⟨bs,os,eA,_,hbs,g1,g2,u0,u1,_⟩:=(HG.out wq (gm.out _ HB.out)).Cc hlt;subst eA;have pq:Hid ((b.tags.take (k+1)).map xB=(b.tags.take k).map xB++[xB (b.tags.getD k default)]):=zh (zO (by rw[uv.out];exact hlt));generalize b.tags.getD k default=x at *;have HX:=zh (And.intro g1 g2);clear g1 g2;have mY:Hid ((L2++(b.tags.take k).map xB).length≤500001):=zh (by rw[List.length_append,List.length_map,List.length_take];have:=Hu.out;have:=Nat.min_le_left k b.tags.length;omega);obtain⟨LL,hLL⟩:∃LL,LL=L2++(b.tags.take k).map xB:=⟨_,rfl⟩;rw[←hLL] at HO mY⊢;have mg:Hid (L2++(b.tags.take (k+1)).map xB=LL++[xB x]):=zh (by rw[pq.out,hLL,List.append_assoc]);clear hLL pq;obtain⟨nm,dg⟩:=x;simp only at *
       go_upto_region 23 with (fail)
       have nt:Below wq.heap.size wq (wq.alloc (.cells #[.string nm,.string dg] 94)):=(Below.refl _ _).alloc (Nat.le_refl _) _;have hrow:=heap_alloc_new wq (.cells #[.string nm,.string dg] 94);have G3:wq.heap.size<(wq.alloc (.cells #[.string nm,.string dg] 94)).heap.size:=(by simp);have vq:=zh (HO.out.all nt);have gG:=zt HB nt;clear nt u0 u1 HO HB;generalize (wq.alloc (.cells #[.string nm,.string dg] 94))=w1 at *;generalize wq.heap.size=g11 at *;have y0:=zc 0 hrow (.string nm) rfl;have y1:=zc 1 hrow (.string dg) rfl;clear hrow;have hll:=mY.out;go_wp2_with (at_builtin;refine qk rfl _ _ 29 rfl i0 (.agg #[.int .i64 0,.int .i64 0,.string ByteArray.empty,.string ByteArray.empty,.slice none 0 0,.slice none 0 0]) 96 Tryz.underlying29 nS hz0 hz1 hz2 rfl (show 0<6 by decide) rfl (vq.out.frame (Agree.alloc _ _ _) (by simp)) w1.heap.size 61 1 [.int .i64 7,.int .i64 0,.string nm,.string dg,.slice none 0 0,.slice none 0 0] (xB ⟨nm,dg⟩) rfl (heap_alloc_new _ _) ⟨_,_,_,_,_,_,rfl,⟨(show Bg 7 by unfold Bg;omega),(show Bg 0 by unfold Bg;omega),HX.out.1,HX.out.2⟩,Sl.Bn (by omega),Sl.Bn (by omega)⟩ (by omega) (by omega) (by have:=gG.out.size;simp;omega) ?_)
       intro M0 M2 w3 nE hg3 _;have uT:=zh nE;clear nE;have mO:=zh (((gG.out.alloc gG.out.size _).grown hg3 (by have:=gG.out.size;simp;omega) (fun k hk=>(vq.out.lt k hk).1)));clear hg3;go_wp2
       exact⟨⟨k+1,M0,M2,by omega,by go_num,by rw[mg.out,List.length_append];rfl,by rw[mg.out,List.length_append];exact uT,mO⟩,by simp[intOf];omega⟩
      obtain rfl:k=n2:=by omega
      have mg:Hid ((b.tags.take k).map xB=b.tags.map xB):=zh (by rw[List.take_of_length_le (by rw[uv.out];exact Nat.le_refl _)]);rw[mg.out] at HO⊢;have GI:Hid (ja b=L2++b.tags.map xB):=zh (by unfold ja;rw[HL0E.out,HL1E.out,HL2E.out]);go_wp2
      go_ret
      refine⟨A,c,by rw[GI.out];rfl,?_,gm.out _ HB.out⟩;rw[GI.out];exact(HO.out.lower (Nat.le_of_lt (Nat.lt_of_le_of_lt (Nat.le_refl _) vF))).mono (fun q hq _=>Nat.le_trans (Nat.le_of_lt vF) hq)
theorem Zi {α:Type} [Inhabited α] {R:α→α→Prop}(htr:∀a b c,R a b→R b c→R a c) {l:List α}(h:∀k,0<k→k<l.length→R (l.getD (k - 1) default) (l.getD k default)):l.Pairwise R:=by
 refine Bw.2 (fun i j hij hj=>?_)
 induction j with
 |zero=>omega
 |succ j ih=>
  rcases Nat.lt_or_ge i j with h1|h1
  ·exact htr _ _ _ (ih h1 (by omega)) (by have:=h (j+1) (by omega) hj;simpa using this)
  obtain rfl:i=j:=by omega
  have:=h (i+1) (by omega) hj;simpa using this
theorem zk {s:Shape}{b:Book}(h:qD s b=true):qo s=true∧(0≤b.next∧b.next≤1073741824)∧qF s b.next b.Ba=true∧(∀k,k<b.things.length→qH s b.Ba b.things k=true)∧(∀k,k<b.tags.length→BI b.tags k=true):=by
 unfold qD at h;simp only[Bool.and_eq_true,decide_eq_true_eq] at h;obtain⟨h0,hn,hst,hth,vZ⟩:=h;refine⟨h0,hn,hst,fun k hk=>?_,fun k hk=>?_⟩
 ·unfold qX at hth;simp only[Bool.and_eq_true] at hth;exact List.all_eq_true.1 hth.1 k (List.mem_range.2 hk)
 unfold zW at vZ;simp only[Bool.and_eq_true] at vZ;exact List.all_eq_true.1 vZ.1 k (List.mem_range.2 hk)
theorem xL {s:Shape}{b:Book}(h:qD s b=true):Sorted b:=by
 obtain⟨_,_,hst,hth,vZ⟩:=zk h;refine⟨jn hst,?_,?_⟩
 ·exact Bw.1 (Zi (R:=fun(x y:Entry)=>ql x.digest y.digest=true) (fun _ _ _ h1 h2=>qT h1 h2) (fun k h0 hk=>by
   have:=hth k hk;unfold qH at this;simp only[Bool.and_eq_true,Bool.or_eq_true,decide_eq_true_eq] at this;rcases this.2.1 with h|h
   ·omega
   exact h))
 exact Bw.1 (Zi (R:=fun(x y:Tag)=>ql x.name y.name=true) (fun _ _ _ h1 h2=>qT h1 h2) (fun k h0 hk=>by
  have:=vZ k hk;unfold BI at this;simp only[Bool.and_eq_true,Bool.or_eq_true,decide_eq_true_eq] at this;rcases this.2 with h|h
  ·omega
  exact h))
theorem jU {s:Shape}{b:Book}(h:qD s b=true):b.things.length≤60∧b.tags.length≤40:=by
 unfold qD at h;simp only[Bool.and_eq_true,decide_eq_true_eq] at h;obtain⟨_,_,_,hth,vZ⟩:=h;unfold qX at hth;unfold zW at vZ;simp only[Bool.and_eq_true,decide_eq_true_eq] at hth vZ;exact⟨hth.2.2,vZ.2⟩
def zE (s:Shape) (b:Book) (r:Bc):Book×Int:=
 if (qD s b&&qI r)=true then (match Cj b r with|none=>(⟨[],[],[],0⟩,3)|some b'=>(b',0)) else (⟨[],[],[],0⟩,1)
theorem kn {T:TypeId}(h:88≠T):(qc true).BL T:=by
 rintro w w' S vs x ha hs ⟨A,n,c,rfl,hok,hsl⟩;exact⟨A,n,c,rfl,hok,hsl.BS BL.flat h ha hs⟩
theorem kS {T:TypeId}(h:3≠T):(qj true).BL T:=by
 rintro w w' S vs x ha hs ⟨A,n,c,rfl,hok,hsl⟩;exact⟨A,n,c,rfl,hok,hsl.BS BL.flat h ha hs⟩
theorem OB.DZ {X:Nat→Option Obj}{β bb g:Nat}{A0:Option Addr}{n0 c0:Nat}{A1:Option Addr}{n1 c1:Nat}{A2:Option Addr}{n2 c2:Nat}{b:Book}{W V:World}{cur:Array Value}{fr:Nat×Nat}(h:OB X β bb A0 n0 c0 A1 n1 c1 A2 n2 c2 b W) (hg:W.heap[g]?=some (.cells cur 28 fr)) (hA:Agree (fun q=>q≠g) W V) (hs:W.heap.size≤V.heap.size):
  Bl V (fun q=>β≤q) true true true true A0 n0 c0 A1 n1 c1 A2 n2 c2 b:=by
 have ha:∀(S:Nat→Prop) q,S q→q<W.heap.size→(∀k,W.shape? q≠some (28,k))→V.heap[q]?=W.heap[q]?:=fun S q _ hq hk=>hA q (fun e=>by
  subst e
  exact hk _ (qn hg)) hq
 have hlo:=h.lo
 have hup:∀q,(NS bb A0 A1 A2 q∨β≤q)→β≤q:=fun q hq=>by
  rcases hq with hq|hq
  ·have:=hq.1;omega
  exact hq
 exact⟨((h.st.sl (tg:=true)).mono (S':=fun q=>β≤q) (fun q hq _=>hup q hq)).BS (kn (by decide)) (by decide) (ha _) hs,((h.th.sl (tg:=true)).mono (S':=fun q=>β≤q) (fun q hq _=>hup q hq)).BS (kS (by decide)) (by decide) (ha _) hs,((h.ta.sl (tg:=true)).mono (S':=fun q=>β≤q) (fun q hq _=>hup q hq)).BS BL.flat (by decide) (ha _) hs,h.nx⟩
theorem ka {tg tg0 tg1 tg2 tg4:Bool}{S S4:Nat→Prop}{w:World}{A0 A1 A2 A4 A5:Option Addr}{n0 c0 n1 c1 n2 c2 n4 c4 n5 c5:Nat}{s:Shape}{b:Book}{r:Bc}(hsi:Bg s.K∧Bg s.M∧Bg s.size) (hf:Ea b) (h:Bl w S tg tg0 tg1 tg2 A0 n0 c0 A1 n1 c1 A2 n2 c2 b)
  (hst:qG r.name∧qG r.digest) (hl:Sl tg4 3 Bo w S4 A4 n4 c4 r.list) (hsl:Sl tg4 88 qr w S4 A5 n5 c5 r.slots):
  Calls Tryz.prog 30 #[.agg #[.int .i64 s.K,.int .i64 s.M,.int .i64 s.size],.agg #[.slice A0 n0 c0,.slice A1 n1 c1,.slice A2 n2 c2,.int .i64 b.next],.agg #[.int .i64 r.kind,.int .i64 r.id,.string r.name,.string r.digest,.slice A4 n4 c4,.slice A5 n5 c5]] w (xD (zE s b r) w):=by
 have HM:=zh (fun W (hW:Below w.heap.size w W)=>JU (w:=W) hsi hf (h.all hW));have HRM:=zh (fun W (hW:Below w.heap.size w W)=>XG (w:=W) (r:=r) (hl.all hW) (hsl.all hW));have HOWN:=zh (fun W (hW:Below w.heap.size w W) (hq:qD s b=true)=>Kv (w:=W) (h.all hW) ⟨by have:=h.st.len;have:=hf.st;omega,by have:=h.th.len;have:=(jU hq).1;omega,by have:=h.ta.len;have:=(jU hq).2;omega⟩ hf.places hf.lists);have mZ:=zh ((hl.Bd.mono (S':=fun q=>q<w.heap.size) (fun _ h _=>h.2)));have pI:=zh ((hsl.Bd.mono (S':=fun q=>q<w.heap.size) (fun _ h _=>h.2)));have HST:=zh hst;have HFW:=zh hf;clear h hf hsi hst hl hsl;have hal:Below w.heap.size w ((((w.alloc (.cells #[.int .i64 s.K,.int .i64 s.M,.int .i64 s.size] 23)).alloc (.cells #[.slice A0 n0 c0,.slice A1 n1 c1,.slice A2 n2 c2,.int .i64 b.next] 28)).alloc (.cells #[.int .i64 r.kind,.int .i64 r.id,.string r.name,.string r.digest,.slice A4 n4 c4,.slice A5 n5 c5] 61)).alloc (.cells #[.slice none 0 0,.slice none 0 0,.slice none 0 0,.int .i64 0] 28)):=bz
 have mL:((((w.alloc (.cells #[.int .i64 s.K,.int .i64 s.M,.int .i64 s.size] 23)).alloc (.cells #[.slice A0 n0 c0,.slice A1 n1 c1,.slice A2 n2 c2,.int .i64 b.next] 28)).alloc (.cells #[.int .i64 r.kind,.int .i64 r.id,.string r.name,.string r.digest,.slice A4 n4 c4,.slice A5 n5 c5] 61)).alloc (.cells #[.slice none 0 0,.slice none 0 0,.slice none 0 0,.int .i64 0] 28)).heap[w.heap.size]?=some (.cells #[.int .i64 s.K,.int .i64 s.M,.int .i64 s.size] 23 (0,0)):=by
  rw[Below.heap_alloc _ _ _ (by simp;try omega),Below.heap_alloc _ _ _ (by simp;try omega),Below.heap_alloc _ _ _ (by simp;try omega)];have:=heap_alloc_new w (.cells #[.int .i64 s.K,.int .i64 s.M,.int .i64 s.size] 23);simpa only[World.size_alloc] using this
 have hr1:((((w.alloc (.cells #[.int .i64 s.K,.int .i64 s.M,.int .i64 s.size] 23)).alloc (.cells #[.slice A0 n0 c0,.slice A1 n1 c1,.slice A2 n2 c2,.int .i64 b.next] 28)).alloc (.cells #[.int .i64 r.kind,.int .i64 r.id,.string r.name,.string r.digest,.slice A4 n4 c4,.slice A5 n5 c5] 61)).alloc (.cells #[.slice none 0 0,.slice none 0 0,.slice none 0 0,.int .i64 0] 28)).heap[w.heap.size+1]?=some (.cells #[.slice A0 n0 c0,.slice A1 n1 c1,.slice A2 n2 c2,.int .i64 b.next] 28 (0,0)):=by
  rw[Below.heap_alloc _ _ _ (by simp;try omega),Below.heap_alloc _ _ _ (by simp;try omega)];have:=heap_alloc_new (w.alloc (.cells #[.int .i64 s.K,.int .i64 s.M,.int .i64 s.size] 23)) (.cells #[.slice A0 n0 c0,.slice A1 n1 c1,.slice A2 n2 c2,.int .i64 b.next] 28);simpa only[World.size_alloc] using this
 have hr2:((((w.alloc (.cells #[.int .i64 s.K,.int .i64 s.M,.int .i64 s.size] 23)).alloc (.cells #[.slice A0 n0 c0,.slice A1 n1 c1,.slice A2 n2 c2,.int .i64 b.next] 28)).alloc (.cells #[.int .i64 r.kind,.int .i64 r.id,.string r.name,.string r.digest,.slice A4 n4 c4,.slice A5 n5 c5] 61)).alloc (.cells #[.slice none 0 0,.slice none 0 0,.slice none 0 0,.int .i64 0] 28)).heap[w.heap.size+1+1]?=some (.cells #[.int .i64 r.kind,.int .i64 r.id,.string r.name,.string r.digest,.slice A4 n4 c4,.slice A5 n5 c5] 61 (0,0)):=by
  rw[Below.heap_alloc _ _ _ (by simp;try omega)];have:=heap_alloc_new ((w.alloc (.cells #[.int .i64 s.K,.int .i64 s.M,.int .i64 s.size] 23)).alloc (.cells #[.slice A0 n0 c0,.slice A1 n1 c1,.slice A2 n2 c2,.int .i64 b.next] 28)) (.cells #[.int .i64 r.kind,.int .i64 r.id,.string r.name,.string r.digest,.slice A4 n4 c4,.slice A5 n5 c5] 61);simpa only[World.size_alloc] using this
 have hr3:((((w.alloc (.cells #[.int .i64 s.K,.int .i64 s.M,.int .i64 s.size] 23)).alloc (.cells #[.slice A0 n0 c0,.slice A1 n1 c1,.slice A2 n2 c2,.int .i64 b.next] 28)).alloc (.cells #[.int .i64 r.kind,.int .i64 r.id,.string r.name,.string r.digest,.slice A4 n4 c4,.slice A5 n5 c5] 61)).alloc (.cells #[.slice none 0 0,.slice none 0 0,.slice none 0 0,.int .i64 0] 28)).heap[w.heap.size+1+1+1]?=some (.cells #[.slice none 0 0,.slice none 0 0,.slice none 0 0,.int .i64 0] 28 (0,0)):=by
  have:=heap_alloc_new (((w.alloc (.cells #[.int .i64 s.K,.int .i64 s.M,.int .i64 s.size] 23)).alloc (.cells #[.slice A0 n0 c0,.slice A1 n1 c1,.slice A2 n2 c2,.int .i64 b.next] 28)).alloc (.cells #[.int .i64 r.kind,.int .i64 r.id,.string r.name,.string r.digest,.slice A4 n4 c4,.slice A5 n5 c5] 61)) (.cells #[.slice none 0 0,.slice none 0 0,.slice none 0 0,.int .i64 0] 28);simpa only[World.size_alloc] using this
 have hz:w.heap.size+1+1+1<((((w.alloc (.cells #[.int .i64 s.K,.int .i64 s.M,.int .i64 s.size] 23)).alloc (.cells #[.slice A0 n0 c0,.slice A1 n1 c1,.slice A2 n2 c2,.int .i64 b.next] 28)).alloc (.cells #[.int .i64 r.kind,.int .i64 r.id,.string r.name,.string r.digest,.slice A4 n4 c4,.slice A5 n5 c5] 61)).alloc (.cells #[.slice none 0 0,.slice none 0 0,.slice none 0 0,.int .i64 0] 28)).heap.size:=by simp
 go_enter Tryz.func30,Tryz.ntmps30
 go_upto_region 1 with (fail)
 generalize ((((w.alloc (.cells #[.int .i64 s.K,.int .i64 s.M,.int .i64 s.size] 23)).alloc (.cells #[.slice A0 n0 c0,.slice A1 n1 c1,.slice A2 n2 c2,.int .i64 b.next] 28)).alloc (.cells #[.int .i64 r.kind,.int .i64 r.id,.string r.name,.string r.digest,.slice A4 n4 c4,.slice A5 n5 c5] 61)).alloc (.cells #[.slice none 0 0,.slice none 0 0,.slice none 0 0,.int .i64 0] 28))=W0 at *;have gm:=zh (fun V (hV:Below W0.heap.size W0 V)=>hal.trans (hV.mono hal.size));clear hal;have ROW:=zh (fun V (hV:Below W0.heap.size W0 V)=>(show V.heap[w.heap.size]?=some (.cells #[.int .i64 s.K,.int .i64 s.M,.int .i64 s.size] 23 (0,0))∧V.heap[w.heap.size+1]?=some (.cells #[.slice A0 n0 c0,.slice A1 n1 c1,.slice A2 n2 c2,.int .i64 b.next] 28 (0,0))∧V.heap[w.heap.size+1+1]?=some (.cells #[.int .i64 r.kind,.int .i64 r.id,.string r.name,.string r.digest,.slice A4 n4 c4,.slice A5 n5 c5] 61 (0,0))∧V.heap[w.heap.size+1+1+1]?=some (.cells #[.slice none 0 0,.slice none 0 0,.slice none 0 0,.int .i64 0] 28 (0,0)) from⟨(hV.block _ (by omega)).trans mL,(hV.block _ (by omega)).trans hr1,(hV.block _ (by omega)).trans hr2,(hV.block _ (by omega)).trans hr3⟩));clear mL hr1 hr2 hr3;have hz1:w.heap.size+1+1+1<W0.heap.size:=by omega
 obtain⟨r0,r1,r2,r3⟩:=ROW.out W0 (Below.refl _ _);obtain⟨gW,j6,ma⟩:=xQ r0;obtain⟨pX,ut,ui,vk⟩:=zC r1;clear r0 r1 r2 r3;go_wp2_with fail
 refine(HM.out _ (gm.out _ (Below.refl _ _))).mono ?_;clear gW j6 ma pX ut ui vk;rintro e w1 ⟨rfl,hb1⟩;have gG:=zh hb1;clear hb1 HM;obtain⟨bk,hbk⟩:∃bk,bk=qD s b:=⟨_,rfl⟩;rw[←hbk];have MF:=zh hbk.symm;clear hbk
 cases bk with
 |false=>
  have HE:Hid (zE s b r=(⟨[],[],[],0⟩,1)):=zh (by unfold zE;rw[MF.out];rfl);obtain⟨_,_,_,r4⟩:=ROW.out w1 gG.out;obtain⟨f0,f1,f2,f3,g0,g1,g2,g3⟩:=qN r4;have hb4:=qO (a:=.slice none 0 0) (b:=.slice none 0 0) (c:=.slice none 0 0) (d:=.int .i64 0) r4;have gh:=zh (hb4.2.1 w.heap.size (by omega));have uU:=zh (gm.out _ gG.out);clear r4 hb4;go_wp2
  refine bodyPost_ret (v:=.tuple #[.agg #[.slice none 0 0,.slice none 0 0,.slice none 0 0,.int .i64 0],.int .i64 1]) (by simp[results,Tryz.results30,go_sem, *];done) rfl ?_;exact⟨none,0,0,none,0,0,none,0,0,by rw[HE.out],by rw[HE.out];exact⟨Sl.Bn (by omega),Sl.Bn (by omega),Sl.Bn (by omega),(show Bg 0 by unfold Bg;omega)⟩,uU.out.trans gh.out⟩
 |true=>
  obtain⟨r0,r1,r2,r3⟩:=ROW.out w1 gG.out;obtain⟨b20,b21,b22,b23,b24,b25⟩:=QK r2;clear r0 r1 r2 r3;go_wp2_with fail
  refine(HRM.out _ (gm.out _ gG.out)).mono ?_;clear b20 b21 b22 b23 b24 b25;rintro e w2 ⟨rfl,hb2⟩;have gM:=zt gG hb2;clear hb2 HRM;obtain⟨rk,hrk⟩:∃rk,rk=qI r:=⟨_,rfl⟩;rw[←hrk];have rP:=zh hrk.symm;clear hrk
  cases rk with
  |false=>
   have HE:Hid (zE s b r=(⟨[],[],[],0⟩,1)):=zh (by unfold zE;rw[MF.out,rP.out];rfl);obtain⟨_,_,_,r4⟩:=ROW.out w2 gM.out;obtain⟨f0,f1,f2,f3,g0,g1,g2,g3⟩:=qN r4;have hb4:=qO (a:=.slice none 0 0) (b:=.slice none 0 0) (c:=.slice none 0 0) (d:=.int .i64 0) r4;have gh:=zh (hb4.2.1 w.heap.size (by omega));have uU:=zh (gm.out _ gM.out);clear r4 hb4;go_wp2
   refine bodyPost_ret (v:=.tuple #[.agg #[.slice none 0 0,.slice none 0 0,.slice none 0 0,.int .i64 0],.int .i64 1]) (by simp[results,Tryz.results30,go_sem, *];done) rfl ?_;exact⟨none,0,0,none,0,0,none,0,0,by rw[HE.out],by rw[HE.out];exact⟨Sl.Bn (by omega),Sl.Bn (by omega),Sl.Bn (by omega),(show Bg 0 by unfold Bg;omega)⟩,uU.out.trans gh.out⟩
  |true=>
   have mq:Hid (zE s b r=(match Cj b r with|none=>(⟨[],[],[],0⟩,3)|some b'=>(b',0))):=zh (by unfold zE;rw[MF.out,rP.out];rfl);have hz2:w.heap.size+1+1+1<w2.heap.size:=Nat.lt_of_lt_of_le hz1 gM.out.size;obtain⟨r0,r1,r2,r3⟩:=ROW.out w2 gM.out;obtain⟨pX,ut,ui,vk⟩:=zC r1;clear r0 r1 r2 r3;go_wp2_with fail
   refine(HOWN.out _ (gm.out _ gM.out) MF.out).mono ?_;clear pX ut ui vk;rintro e w3 ⟨B0,k0,B1,k1,B2,k2,rfl,gY,hb3⟩;have gJ:=zh gY;clear gY HOWN;have mO:=zt gM hb3;clear hb3;have HLS:=zh (And.intro (show b.Ba.length≤999999 by have:=HFW.out.st;omega) (jU MF.out));obtain⟨_,r1,_,_⟩:=ROW.out w3 mO.out;obtain⟨f0,f1,f2,f3,g0,g1,g2,g3⟩:=qN r1;generalize hm0:b.Ba.length=m0 at *;generalize nW:b.things.length=m1 at *;generalize hm2:b.tags.length=m2 at *;have HM0:=zh hm0;clear hm0;have HM1:=zh nW;clear nW;have HM2:=zh hm2;clear hm2;have hb4:=qO (a:=.slice B0 m0 k0) (b:=.slice B1 m1 k1) (c:=.slice B2 m2 k2) (d:=.int .i64 b.next) r1;have M3:=zh hb4.1;have HBE:=zh (hb4.2.1 (w.heap.size+1) (by omega));have HAG:=zh hb4.2.2;clear r1 hb4
   go_upto_region 4 with (fail)
   generalize hw4:((((w3.setCell ⟨w.heap.size+1,0,none⟩ (.slice B0 m0 k0)).setCell ⟨w.heap.size+1,1,none⟩ (.slice B1 m1 k1)).setCell ⟨w.heap.size+1,2,none⟩ (.slice B2 m2 k2)).setCell ⟨w.heap.size+1,3,none⟩ (.int .i64 b.next))=w4 at *;have hs4:w3.heap.size=w4.heap.size:=(by rw[←hw4];simp);clear hw4 f0 f1 f2 f3 g0 g1 g2 g3
   have HOB4:Hid (OB (fun g=>if g=w.heap.size+1+1+1 then some (.cells #[.slice none 0 0,.slice none 0 0,.slice none 0 0,.int .i64 0] 28 (0,0)) else none) (w.heap.size+1) (w.heap.size+1) B0 m0 k0 B1 m1 k1 B2 m2 k2 b w4):=zh (gJ.out _ (w.heap.size+1) w4 (by omega) (HAG.out.mono (fun q hq _=>by omega)) (by omega) (fun g o hx=>by
    split at hx
    ·next e=>
     injection hx with hx
     subst e hx;exact⟨by omega,by omega,(HAG.out _ (by omega) (by have:=mO.out.size;omega)).trans (ROW.out w3 mO.out).2.2.2⟩
    cases hx) M3.out)
   have hrc:w4.heap[w.heap.size+1+1]?=some (.cells #[.int .i64 r.kind,.int .i64 r.id,.string r.name,.string r.digest,.slice A4 n4 c4,.slice A5 n5 c5] 61 (0,0)):=(HAG.out _ (by omega) (by have:=mO.out.size;omega)).trans (ROW.out w3 mO.out).2.2.1;have HB4w:Hid (Below w.heap.size w w4):=zh ((gm.out _ mO.out).trans (HBE.out.mono (by omega)));obtain⟨y0,y1,y2,y3,y4,y5⟩:=QK hrc;have HDO:=zh (JY (r:=r) HOB4.out (xL MF.out) ⟨HLS.out.1,by have:=HLS.out.2.1;omega,by have:=HLS.out.2.2;omega⟩ ⟨by have:=(zk MF.out).2.1;omega,by have:=(zk MF.out).2.1;omega⟩ HST.out (mZ.out.all HB4w.out) (pI.out.all HB4w.out) (fun q hq=>by omega) ⟨by have:=(zF rP.out).2.2.2.1;have:=mZ.out.len;omega,by have:=(zF rP.out).2.2.2.2;have:=pI.out.len;omega⟩ rP.out);clear hrc gJ HAG M3 HBE;go_wp2_with fail
   refine HDO.out.mono ?_;clear y0 y1 y2 y3 y4 y5 HDO;rintro e w5 M5;have hO5:=M5.2.1;have he:=M5.1;have mA:=zh (HB4w.out.trans (M5.2.2.mono (by omega)));have hsz5:=M5.2.2.size;clear M5
   cases hdr:Cj b r with
   |none=>
    rw[hdr] at he;have M7:e=.returned (.int .i64 3):=he;clear he;subst M7;have HE:Hid (zE s b r=(⟨[],[],[],0⟩,3)):=zh (by rw[mq.out,hdr]);clear hdr;obtain⟨D0,d0,e0,D1,d1,e1,D2,d2,e2,hob5⟩:=hO5;obtain⟨_,_,_,_,r4⟩:=hob5.ex (w.heap.size+1+1+1) _ (if_pos rfl);clear hob5;obtain⟨f0,f1,f2,f3,g0,g1,g2,g3⟩:=qN r4;have gu:=qO (a:=.slice none 0 0) (b:=.slice none 0 0) (c:=.slice none 0 0) (d:=.int .i64 0) r4;have gh:=zh (gu.2.1 w.heap.size (by omega));clear r4 gu;go_wp2
    refine bodyPost_ret (v:=.tuple #[.agg #[.slice none 0 0,.slice none 0 0,.slice none 0 0,.int .i64 0],.int .i64 3]) (by simp[results,Tryz.results30,go_sem, *];done) rfl ?_;exact⟨none,0,0,none,0,0,none,0,0,by rw[HE.out],by rw[HE.out];exact⟨Sl.Bn (by omega),Sl.Bn (by omega),Sl.Bn (by omega),(show Bg 0 by unfold Bg;omega)⟩,mA.out.trans gh.out⟩
   |some b'=>
    rw[hdr] at he hO5;have M7:e=.returned (.int .i64 0):=he;clear he;subst M7;have HE:Hid (zE s b r=(b',0)):=zh (by rw[mq.out,hdr]);clear hdr;obtain⟨D0,d0,e0,D1,d1,e1,D2,d2,e2,hob5⟩:=hO5;have r7:=hob5.row;obtain⟨_,_,_,_,r4⟩:=hob5.ex (w.heap.size+1+1+1) _ (if_pos rfl);have GG:=zh hob5;clear hob5;obtain⟨x0,x1,x2,x3⟩:=zC r7;obtain⟨f0,f1,f2,f3,g0,g1,g2,g3⟩:=qN r4;have gu:=qO (a:=.slice D0 d0 e0) (b:=.slice D1 d1 e1) (c:=.slice D2 d2 e2) (d:=.int .i64 b'.next) r4;have gh:=zh (gu.2.1 w.heap.size (by omega));have HRD:=zh (GG.out.DZ r4 gu.2.2 (by simp));clear r4 r7 gu;go_wp2
    refine bodyPost_ret (v:=.tuple #[.agg #[.slice D0 d0 e0,.slice D1 d1 e1,.slice D2 d2 e2,.int .i64 b'.next],.int .i64 0]) (by simp[results,Tryz.results30,go_sem, *];done) rfl ?_;refine⟨D0,d0,e0,D1,d1,e1,D2,d2,e2,by rw[HE.out],?_,mA.out.trans gh.out⟩;rw[HE.out];exact HRD.out.mono (fun q hq _=>by omega)
end Go.Proofs.YtipecejghioicaaGreat
