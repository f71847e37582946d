/- Siloref13.fields, siloref13.has: which fields a kind names. -/
import Derived.Test.YtipecejghioicaaGreatC10t
import Derived.Test.YtipecejghioicaaGreatY9t
set_option maxHeartbeats 16000000
set_option maxRecDepth 100000
namespace Go.Proofs.YtipecejghioicaaGreat
open Go.RowKit Go.Silo
theorem Xl {l:List Bc}{k:Nat}(h:k<l.length):xj (l.take (k+1))=(l.getD k default).id+1:=by
 unfold xj;rw[if_pos (by rw[List.length_take];omega),List.length_take,Nat.min_eq_left (by omega),Nat.add_sub_cancel];rw[List.getD_eq_getElem?_getD,List.getElem?_take_of_lt (by omega),←List.getD_eq_getElem?_getD]
theorem QG {tg tg0 tg1 tg2:Bool}{S:Nat→Prop}{w:World}{A0 A1 A2:Option Addr}{n0 c0 n1 c1 n2 c2:Nat}{b:Book}(h:Bv w S tg tg0 tg1 tg2 A0 n0 c0 A1 n1 c1 A2 n2 c2 b) (hn:n0≤100000∧n1≤100000∧n2≤100000) (hp:∀y∈b.Ba,y.place.length≤100000000) (hq:∀y∈b.things,y.list.length≤100000000) (hid:∀j,j<b.Ba.length→0≤(b.Ba.getD j default).id∧(b.Ba.getD j default).id≤1073741824) (hnx:0≤b.next∧b.next≤1073741824):
  Calls Tryz.prog 43 #[.agg #[.slice A0 n0 c0,.slice A1 n1 c1,.slice A2 n2 c2,.int .i64 b.next]] w (qC 61 (qw true) w (xU b)):=by
 obtain⟨i0,nS,hz0,hz1,hz2⟩:=info_parts Tryz.C8;have nT:=zh h.st.len;have nR:=zh h.th.len;have ul:=zh h.ta.len;have hn0:=hn.1;have pH:=hn.2.1;have uf:=hn.2.2;have HP:=zh hp;have HQ:=zh hq;have HI:=zh hid;have hx0:=hnx.1;have hx1:=hnx.2;clear hp hq hid hnx hn;have hal:Below w.heap.size w (w.alloc (.cells #[.slice A0 n0 c0,.slice A1 n1 c1,.slice A2 n2 c2,.int .i64 b.next] 28)):=bz;have mG:(w.alloc (.cells #[.slice A0 n0 c0,.slice A1 n1 c1,.slice A2 n2 c2,.int .i64 b.next] 28)).heap[w.heap.size]?=some (.cells #[.slice A0 n0 c0,.slice A1 n1 c1,.slice A2 n2 c2,.int .i64 b.next] 28 (0,0)):=heap_alloc_new _ _;have hz:w.heap.size<(w.alloc (.cells #[.slice A0 n0 c0,.slice A1 n1 c1,.slice A2 n2 c2,.int .i64 b.next] 28)).heap.size:=by simp
 have HS:=zh (fun W (hW:Below w.heap.size w W)=>h.st.all hW);have HT:=zh (fun W (hW:Below w.heap.size w W)=>h.th.all hW);have HG:=zh (fun W (hW:Below w.heap.size w W)=>h.ta.Bd.all hW);clear h
 go_enter Tryz.func43,Tryz.ntmps43
 go_upto_region 3 with (fail)
 generalize (w.alloc (.cells #[.slice A0 n0 c0,.slice A1 n1 c1,.slice A2 n2 c2,.int .i64 b.next] 28))=W0 at *;have gB:=zh (fun V (hV:Below W0.heap.size W0 V)=>hal.trans (hV.mono hal.size));clear hal;have ROW:=zh (fun V (hV:Below W0.heap.size W0 V)=>(show V.heap[w.heap.size]?=some (.cells #[.slice A0 n0 c0,.slice A1 n1 c1,.slice A2 n2 c2,.int .i64 b.next] 28 (0,0)) from(hV.block _ (by omega)).trans mG));clear mG;have vr:w.heap.size<W0.heap.size:=by omega
 go_wp2_with fail
 go_loopw [4,5] (fun mv iv wr=>∃k:Nat,k≤n0∧iv=.int .i64 k∧mv=.int .i64 (xj (b.Ba.take k))∧Hid (Below W0.heap.size W0 wr)) (fun _ iv _=>n0 - (intOf iv).toNat)
 case atStart=>exact⟨0,Nat.zero_le _,rfl,rfl,zh (Below.refl _ _)⟩
 case round=>
  rename World=>wc
  obtain⟨k,hk,rfl,rfl,HBc⟩:=hrel;have r0:=ROW.out wc HBc.out;have mF:=zc 0 r0 (.slice _ n0 c0) rfl;have nD:=zc 3 r0 (.int .i64 b.next) rfl;clear r0;by_cases hlt:k<n0
  ·obtain⟨bs,os,A3,n3,c3,eA,_,hbs,_,_,_,_,u0,_⟩:=(HS.out wc (gB.out _ HBc.out)).Bt hlt;subst eA;have hi9:=HI.out k (by rw[nT.out];omega);have yL:Hid (xj (b.Ba.take (k+1))=(b.Ba.getD k default).id+1):=zh (Xl (by rw[nT.out];exact hlt));generalize (b.Ba.getD k default).id=y at *;generalize xj (b.Ba.take k)=lk at *;go_wp2
   exact⟨⟨k+1,by omega,by go_num,by rw[yL.out],HBc⟩,by simp[intOf];omega⟩
  obtain rfl:k=n0:=by omega
  have hlk:xj (b.Ba.take k)=xj b.Ba:=by rw[List.take_of_length_le (by rw[nT.out];exact Nat.le_refl _)]
  rw[hlk];obtain⟨lb,hlb⟩:∃lb,lb=xj b.Ba:=⟨_,rfl⟩;rw[←hlb];have HPB:Hid (ji b=if lb<b.next then [⟨1,b.next - 1,ByteArray.empty,ByteArray.empty,[],[⟨0,0⟩]⟩] else []):=zh (by unfold ji;rw[←hlb]);clear hlb hlk
  go_upto_if 29 with (fail)
  clear mF
  go_cut [3] from 29 (fun t V=>∃A c,t=.slice A (ji b).length c∧Hid (Silo.Bi 61 (qw true) V W0.heap.size (fun q=>W0.heap.size≤q) A (ji b).length c (ji b))∧Hid (Below W0.heap.size W0 V))
  case first=>
   by_cases hl:lb<b.next
   ·have HE:Hid (ji b=[⟨1,b.next - 1,ByteArray.empty,ByteArray.empty,[],[⟨0,0⟩]⟩]):=zh (by rw[HPB.out,if_pos hl]);have hsl:=kn (p:=⟨0,0⟩) ⟨(show Bf 0 by unfold Bf;omega),(show Bf 0 by unfold Bf;omega)⟩ (heap_alloc_new wc (.cells #[.int .i64 0,.int .i64 0] 88));have nI:=zh hsl;clear hsl;have hbx:(b.next - 1)≤1073741824∧-1≤b.next - 1:=(by omega);have GX:=zh hbx;clear hbx;have HW:=zh HBc.out.size;go_wp2_with (at_builtin;refine qm rfl _ _ 29 rfl i0 (.agg #[.int .i64 0,.int .i64 0,.string ByteArray.empty,.string ByteArray.empty,.slice none 0 0,.slice none 0 0]) 96 Tryz.underlying29 nS hz0 hz1 hz2 rfl (show 0<6 by decide) rfl (Bi.Bp (E:=qw true) (base:=W0.heap.size) (S:=fun q=>W0.heap.size≤q)) (wc.heap.size+1) 61 1 [.int .i64 1,.int .i64 (b.next - 1),.string ⟨#[]⟩,.string ⟨#[]⟩,.slice none 0 0,.slice (some ⟨wc.heap.size,0,none⟩) 1 1] (⟨1,b.next - 1,ByteArray.empty,ByteArray.empty,[],[⟨0,0⟩]⟩:Bb) rfl (by have:=heap_alloc_new (wc.alloc (.cells #[.int .i64 0,.int .i64 0] 88)) (.cells #[.int .i64 1,.int .i64 (b.next - 1),.string ⟨#[]⟩,.string ⟨#[]⟩,.slice none 0 0,.slice (some ⟨wc.heap.size,0,none⟩) 1 1] 61);rwa [World.size_alloc] at this) ⟨_,_,_,_,_,_,rfl,⟨(show Bf 1 by unfold Bf;omega),(show Bf (b.next - 1) by have:=GX.out;unfold Bf;omega),zy,zy⟩,Sl.Bp (by omega),(nI.out.all ((Below.refl _ _).alloc (Nat.le_refl _) _)).mono (fun q hq _=>⟨by have:=HW.out;have:q=wc.heap.size:=hq;omega,fun e=>by cases e⟩)⟩ (by omega) (by omega) (by have:=HW.out;simp;omega) ?_)
    intro A9 c9 w9 hown hg _;have gD:=zh (((HBc.out.alloc HBc.out.size (.cells #[.int .i64 0,.int .i64 0] 88)).alloc (by have:=HW.out;simp;omega) (.cells #[.int .i64 1,.int .i64 (b.next - 1),.string ⟨#[]⟩,.string ⟨#[]⟩,.slice none 0 0,.slice (some ⟨wc.heap.size,0,none⟩) 1 1] 61)).grown hg (by have:=HW.out;simp;omega) (fun k hk=>by cases hk));have HOW:=zh hown;clear hown hg;go_wp2
    go_meet
    case rel=>exact⟨A9,c9,by rw[HE.out];rfl,by rw[HE.out];exact HOW,gD⟩
   have HE:Hid (ji b=[]):=zh (by rw[HPB.out,if_neg hl]);go_wp2
   go_meet
   case rel=>exact⟨none,0,by rw[HE.out];rfl,by rw[HE.out];exact zh Bi.Bp,HBc⟩
  case rest=>
   rename World=>wd
   obtain⟨A,c,rfl,HO,HBd⟩:=hcut;clear nD HBc HPB;have vq:Hid ((ji b).length≤1):=zh (by unfold ji;split<;>simp);generalize hL0:ji b=L0 at *;have HL0E:=zh hL0;clear hL0;have hl0:=vq.out;go_wp2_with fail
   go_loopw [3,6] (fun lv iv wr=>∃(j:Nat) (A:Option Addr) (c:Nat),j≤k∧iv=.int .i64 j∧lv=.slice A (L0++(b.Ba.take j).map qE).length c∧Hid (Silo.Bi 61 (qw true) wr W0.heap.size (fun q=>W0.heap.size≤q) A (L0++(b.Ba.take j).map qE).length c (L0++(b.Ba.take j).map qE))∧Hid (Below W0.heap.size W0 wr)) (fun _ iv _=>k - (intOf iv).toNat)
   case atStart=>exact⟨0,A,c,Nat.zero_le _,rfl,by simp,by simpa using HO,HBd⟩
   case round=>
    rename World=>wo
    clear HO HBd;obtain⟨j,A,c,hk,rfl,rfl,HO,HB⟩:=hrel;have r0:=ROW.out wo HB.out;have mF:=zc 0 r0 (.slice _ _ c0) rfl;clear r0;by_cases hlt:j<k
    ·obtain⟨bs,os,A3,n3,c3,eA,_,hbs,g1,g2,g3,hp3,u0,u1,u2,u3,_⟩:=(HS.out wo (gB.out _ HB.out)).Bt hlt;subst eA;have HPX:=zh (HP.out _ (jX (d:=default) (by rw[nT.out];exact hlt)));have p6:Hid ((b.Ba.take (j+1)).map qE=(b.Ba.take j).map qE++[qE (b.Ba.getD j default)]):=zh (zM (by rw[nT.out];exact hlt));have mD:Hid ((L0++(b.Ba.take j).map qE).length≤100001):=zh (by rw[List.length_append,List.length_map,List.length_take];have:=vq.out;have:=Nat.min_le_left j b.Ba.length;omega);obtain⟨LL,hLL⟩:∃LL,LL=L0++(b.Ba.take j).map qE:=⟨_,rfl⟩;rw[←hLL] at HO mD⊢;have j6:Hid (L0++(b.Ba.take (j+1)).map qE=LL++[qE (b.Ba.getD j default)]):=zh (by rw[p6.out,hLL,List.append_assoc]);clear hLL p6;generalize b.Ba.getD j default=x at *;obtain⟨id,ln,gn,pl⟩:=x;simp only at *;have HX:=zh (And.intro g1 (And.intro g2 g3));clear g1 g2 g3;have ru:=zh hp3;clear hp3
     go_upto_region 13 with (fail)
     have nr:Below wo.heap.size wo (wo.alloc (.cells #[.int .i64 id,.int .i64 ln,.int .i64 gn,.slice A3 n3 c3] 86)):=(Below.refl _ _).alloc (Nat.le_refl _) _;have hrow:=heap_alloc_new wo (.cells #[.int .i64 id,.int .i64 ln,.int .i64 gn,.slice A3 n3 c3] 86);have GC:some wo.heap.size≠qd A:=fun e=>by have:=(HO.out.lt _ e.symm).2;omega
     have uW:=zh (HO.out.all nr);have gH:=zt HB nr;have pW:=zh (ru.out.all nr);clear nr u0 u1 u2 u3 HO HB ru mF;generalize (wo.alloc (.cells #[.int .i64 id,.int .i64 ln,.int .i64 gn,.slice A3 n3 c3] 86))=w1 at *;generalize wo.heap.size=g7 at *;have yP:n3≤100000000:=(by rw[←pW.out.len];exact HPX.out);have hll:=mD.out;refine ln13 (id:=id) (ln:=ln) (gn:=gn) (xs:=pl) uW gH.out.size (by omega) (zh hrow) GC HX (zh (fun V hV=>xq (pW.out.all hV) yP)) rfl rfl rfl ?_;intro v wz A' c' hv hown gJ;simp only[qb,BH,BI,BJ,BL,Act.put,BD,BF,BG];rw[hv];have He:=zh hown;clear hown;have Hf:=zh (gH.out.trans (gJ.below _ gH.out.size (fun q hq=>(uW.out.lt q hq).1)));clear gJ hv hrow;go_wp2
     exact⟨⟨j+1,A',c',by omega,by go_num,by rw[j6.out,List.length_append];rfl,by rw[j6.out,List.length_append];exact He,Hf⟩,by simp[intOf];omega⟩
    obtain rfl:j=k:=by omega
    have j6:Hid ((b.Ba.take j).map qE=b.Ba.map qE):=zh (by rw[List.take_of_length_le (by rw[nT.out];exact Nat.le_refl _)]);rw[j6.out] at HO⊢;have x9:Hid ((L0++b.Ba.map qE).length≤100001):=zh (by rw[List.length_append,List.length_map,nT.out];have:=vq.out;omega);generalize hL1:L0++b.Ba.map qE=L1 at *;have HL1E:=zh hL1;clear hL1;have hl1:=x9.out;go_wp2_with fail
    clear mF
    go_loopw [3,8] (fun lv iv wr=>∃(k:Nat) (A:Option Addr) (c:Nat),k≤n1∧iv=.int .i64 k∧lv=.slice A (L1++(b.things.take k).map qX).length c∧Hid (Silo.Bi 61 (qw true) wr W0.heap.size (fun q=>W0.heap.size≤q) A (L1++(b.things.take k).map qX).length c (L1++(b.things.take k).map qX))∧Hid (Below W0.heap.size W0 wr)) (fun _ iv _=>n1 - (intOf iv).toNat)
    case atStart=>exact⟨0,A,c,Nat.zero_le _,rfl,by simp,by simpa using HO,HB⟩
    case round=>
     rename World=>wp
     clear HO HB;obtain⟨k,A,c,hk,rfl,rfl,HO,HB⟩:=hrel;have r0:=ROW.out wp HB.out;have mK:=zc 1 r0 (.slice _ n1 c1) rfl;clear r0;by_cases hlt:k<n1
     ·obtain⟨bs,os,A3,n3,c3,eA,_,hbs,g1,g2,hp3,u0,u1,u2,u3,_⟩:=(HT.out wp (gB.out _ HB.out)).BC hlt;subst eA;have HPX:=zh (HQ.out _ (jX (d:=default) (by rw[nR.out];exact hlt)));have p6:Hid ((b.things.take (k+1)).map qX=(b.things.take k).map qX++[qX (b.things.getD k default)]):=zh (zM (by rw[nR.out];exact hlt));have mD:Hid ((L1++(b.things.take k).map qX).length≤300001):=zh (by rw[List.length_append,List.length_map,List.length_take];have:=x9.out;have:=Nat.min_le_left k b.things.length;omega);obtain⟨LL,hLL⟩:∃LL,LL=L1++(b.things.take k).map qX:=⟨_,rfl⟩;rw[←hLL] at HO mD⊢;have j6:Hid (L1++(b.things.take (k+1)).map qX=LL++[qX (b.things.getD k default)]):=zh (by rw[p6.out,hLL,List.append_assoc]);clear hLL p6;generalize b.things.getD k default=x at *;obtain⟨dg,ln,Bz,li⟩:=x;simp only at *;have HX:=zh (And.intro g1 g2);clear g1 g2;have ru:=zh hp3;clear hp3
      go_upto_region 18 with (fail)
      have nr:Below wp.heap.size wp (wp.alloc (.cells #[.string dg,.int .i64 ln,.bool Bz,.slice A3 n3 c3] 90)):=(Below.refl _ _).alloc (Nat.le_refl _) _;have hrow:=heap_alloc_new wp (.cells #[.string dg,.int .i64 ln,.bool Bz,.slice A3 n3 c3] 90);have Hd:wp.heap.size<(wp.alloc (.cells #[.string dg,.int .i64 ln,.bool Bz,.slice A3 n3 c3] 90)).heap.size:=(by simp);have uW:=zh (HO.out.all nr);have gH:=zt HB nr;have pW:=zh (ru.out.all nr);clear nr u0 u1 u2 u3 HO HB ru mK;generalize (wp.alloc (.cells #[.string dg,.int .i64 ln,.bool Bz,.slice A3 n3 c3] 90))=w1 at *;generalize wp.heap.size=g9 at *;have yP:n3≤100000000:=(by rw[←pW.out.len];exact HPX.out);have hll:=mD.out;refine ln18 (dg:=dg) (ln:=ln) (Bz:=Bz) (xs:=li) (zh hrow) (zh (fun V hV=>xE (pW.out.all hV) yP)) rfl rfl ?_;intro v w2 g A4 c4 hv hg hr2 hs2 hb2;simp only[qb,BH,BI,BJ,BL,Act.put,BD,BF,BG];rw[hv];have HOL:Hid (∀q,qd A=some q→q<w1.heap.size):=zh (fun q hq=>(uW.out.lt q hq).2);have uM:Hid (Silo.Bi 61 (qw true) w2 W0.heap.size (fun q=>W0.heap.size≤q∧q≠g) A LL.length c LL):=zh ((uW.out.mono (S':=fun q=>W0.heap.size≤q∧q≠g) (fun q hq hlt=>⟨hq,fun e=>by omega⟩)).all hb2);have pI:=zh (uW.out.all hb2);have gF:=zt gH hb2;have R2:=zh hr2;have S2:=zh hs2;have y2:=(zo 2 ((hb2.block _ Hd).trans hrow)).trans (show _=some (.bool Bz:Value) from rfl);have h12:=hb2.size;have h01:=gH.out.size;have hgl:g<w2.heap.size:=(zl hr2);clear hv hr2 hs2 hb2 hrow uW gH pW
      go_upto_if 86 with (fail)
      clear y2
      go_cut [10] from 86 to 91 (fun t V=>t=.pointer (some ⟨g,0,none⟩)∧Hid (V.heap[g]?=some (.cells #[.int .i64 (if Bz then 5 else 4),.int .i64 ln,.string ⟨#[]⟩,.string dg,.slice A4 li.length c4,.slice none 0 0] 61 (0,0))∧Sl true 3 Bo V (fun q=>w1.heap.size≤q) A4 li.length c4 li∧Silo.Bi 61 (qw true) V W0.heap.size (fun q=>W0.heap.size≤q∧q≠g) A LL.length c LL∧Below W0.heap.size W0 V))
      case first=>
       cases Bz with
       |false=>
        have HF:=zh (show w2.heap[g]?=some (.cells #[.int .i64 (if false then 5 else 4),.int .i64 ln,.string ⟨#[]⟩,.string dg,.slice A4 li.length c4,.slice none 0 0] 61 (0,0))∧Sl true 3 Bo w2 (fun q=>w1.heap.size≤q) A4 li.length c4 li∧Silo.Bi 61 (qw true) w2 W0.heap.size (fun q=>W0.heap.size≤q∧q≠g) A LL.length c LL∧Below W0.heap.size W0 w2 from⟨R2.out,S2.out,uM.out,gF.out⟩);go_wp2
        go_meet
        case rel=>exact⟨rfl,HF⟩
       |true=>
        have f0:=zc 0 R2.out (.int .i64 4) rfl;have f1:=zf 0 R2.out
        have HF:=zh (show(w2.setCell ⟨g,0,none⟩ (.int .i64 5)).heap[g]?=some (.cells #[.int .i64 (if true then 5 else 4),.int .i64 ln,.string ⟨#[]⟩,.string dg,.slice A4 li.length c4,.slice none 0 0] 61 (0,0))∧Sl true 3 Bo (w2.setCell ⟨g,0,none⟩ (.int .i64 5)) (fun q=>w1.heap.size≤q) A4 li.length c4 li∧Silo.Bi 61 (qw true) (w2.setCell ⟨g,0,none⟩ (.int .i64 5)) W0.heap.size (fun q=>W0.heap.size≤q∧q≠g) A LL.length c LL∧Below W0.heap.size W0 (w2.setCell ⟨g,0,none⟩ (.int .i64 5)) from
         ⟨by simp[World.setCell,Array.getElem?_modify,R2.out],S2.out.Cc (T:=61) (ZP _) (by decide) (w':=w2.setCell ⟨g,0,none⟩ (.int .i64 5)) (fun q _ _ hq=>Below.heap_setCell _ _ _ _ (fun e=>by subst e;exact hq _ (qy R2.out))) (by simp),uM.out.frame (fun q hq _=>Below.heap_setCell _ _ _ _ (fun e=>by
          subst e;rcases hq with hq|hq
          ·exact hq.2 rfl
          have:=(uM.out.lt _ hq.symm).2;have:=(HOL.out _ hq.symm);omega)) (by simp),gF.out.setCell (show W0.heap.size≤g by omega) _⟩)
        go_wp2
        go_meet
        case rel=>exact⟨rfl,HF⟩
      case rest=>
       rename World=>w3
       obtain⟨rfl,HF⟩:=hcut;obtain⟨hr3,hs3,GU,hb3⟩:=HF.out;have f0:=zc 0 hr3 (.int .i64 (if Bz then 5 else 4)) rfl;have f1:=zc 1 hr3 (.int .i64 ln) rfl;have f2:=zc 2 hr3 (.string ⟨#[]⟩) rfl;have f3:=zc 3 hr3 (.string dg) rfl;have f4:=zc 4 hr3 (.slice A4 li.length c4) rfl;have f5:=zc 5 hr3 (.slice none 0 0) rfl;have HO4:=zh (GU.mono (S':=fun q=>W0.heap.size≤q) (fun q hq _=>hq.1));have HS4:=zh hs3;have gW:=zh hb3;have mY:=zh GU.lt;have h3:=hb3.size;have Hc:Bf (if Bz then 5 else 4):=by cases Bz<;>(unfold Bf;simp)
       have ry:=zh Hc;clear Hc;clear hr3 hs3 GU hb3 HF R2 S2 pI gF uM;obtain⟨kd,Hc⟩:∃kd:Int,kd=if Bz then 5 else 4:=⟨_,rfl⟩
       rw[←Hc] at f0 ry;have HTR:Hid (qX ⟨dg,ln,Bz,li⟩=⟨kd,ln,ByteArray.empty,dg,li,[]⟩):=zh (by unfold qX;rw[Hc]);clear Hc;go_wp2_with (at_builtin;refine qm rfl _ _ 29 rfl i0 (.agg #[.int .i64 0,.int .i64 0,.string ByteArray.empty,.string ByteArray.empty,.slice none 0 0,.slice none 0 0]) 96 Tryz.underlying29 nS hz0 hz1 hz2 rfl (show 0<6 by decide) rfl (HO4.out.frame (Agree.alloc _ _ _) (by simp)) w3.heap.size 61 1 [.int .i64 kd,.int .i64 ln,.string ⟨#[]⟩,.string dg,.slice A4 li.length c4,.slice none 0 0] (⟨kd,ln,ByteArray.empty,dg,li,[]⟩:Bb) rfl (heap_alloc_new _ _) ⟨_,_,_,_,_,_,rfl,⟨ry.out,HX.out.2,zy,HX.out.1⟩,(HS4.out.all ((Below.refl _ _).alloc (Nat.le_refl _) _)).mono (fun q hq _=>⟨by have hq:w1.heap.size≤q:=hq;omega,fun e=>by have hq:w1.heap.size≤q:=hq;have:=HOL.out q e.symm;omega⟩),Sl.Bp (by omega)⟩ (by omega) (by omega) (by simp;omega) ?_)
       clear f0 f1 f2 f3 f4 f5;intro GV GW w4 uw hg4 _;have He:=zh uw;clear uw;have Hf:=zh ((gW.out.alloc gW.out.size _).grown hg4 (by simp;omega) (fun q hq=>(mY.out q hq).1));clear hg4;go_wp2
       exact⟨⟨k+1,GV,GW,by omega,by go_num,by rw[j6.out,List.length_append];rfl,by rw[j6.out,HTR.out,List.length_append];exact He,Hf⟩,by simp[intOf];omega⟩
     obtain rfl:k=n1:=by omega
     have j6:Hid ((b.things.take k).map qX=b.things.map qX):=zh (by rw[List.take_of_length_le (by rw[nR.out];exact Nat.le_refl _)]);rw[j6.out] at HO⊢;have GA:Hid ((L1++b.things.map qX).length≤300001):=zh (by rw[List.length_append,List.length_map,nR.out];have:=x9.out;omega);generalize hL2:L1++b.things.map qX=L2 at *;have HL2E:=zh hL2;clear hL2 hl1;have hl2:=GA.out;go_wp2_with fail
     clear mK
     go_loopw [3,11] (fun lv iv wr=>∃(k:Nat) (A:Option Addr) (c:Nat),k≤n2∧iv=.int .i64 k∧lv=.slice A (L2++(b.tags.take k).map xz).length c∧Hid (Silo.Bi 61 (qw true) wr W0.heap.size (fun q=>W0.heap.size≤q) A (L2++(b.tags.take k).map xz).length c (L2++(b.tags.take k).map xz))∧Hid (Below W0.heap.size W0 wr)) (fun _ iv _=>n2 - (intOf iv).toNat)
     case atStart=>exact⟨0,A,c,Nat.zero_le _,rfl,by simp,by simpa using HO,HB⟩
     case round=>
      rename World=>wq
      clear HO HB;obtain⟨i,A,c,hk,rfl,rfl,HO,HB⟩:=hrel;have r0:=ROW.out wq HB.out;have mM:=zc 2 r0 (.slice _ n2 c2) rfl;clear r0;by_cases hlt:i<n2
      ·obtain⟨bs,os,eA,hSb,hbs,g1,g2,u0,u1,_⟩:=(HG.out wq (gB.out _ HB.out)).C9 hlt;have ui:bs<w.heap.size:=hSb.2;subst eA;have p6:Hid ((b.tags.take (i+1)).map xz=(b.tags.take i).map xz++[xz (b.tags.getD i default)]):=zh (zM (by rw[ul.out];exact hlt));have mD:Hid ((L2++(b.tags.take i).map xz).length≤500001):=zh (by rw[List.length_append,List.length_map,List.length_take];have:=GA.out;have:=Nat.min_le_left i b.tags.length;omega);obtain⟨LL,hLL⟩:∃LL,LL=L2++(b.tags.take i).map xz:=⟨_,rfl⟩;rw[←hLL] at HO mD⊢;have j6:Hid (L2++(b.tags.take (i+1)).map xz=LL++[xz (b.tags.getD i default)]):=zh (by rw[p6.out,hLL,List.append_assoc]);clear hLL p6;generalize b.tags.getD i default=x at *;obtain⟨nm,dg⟩:=x;simp only at *;have hll:=mD.out;have hzq:=HB.out.size;have Gy:some w.heap.size≠qd A:=fun e=>by have:=(HO.out.lt _ e.symm).1;omega
       have hne9:some bs≠qd A:=fun e=>by have:=(HO.out.lt _ e.symm).1;omega
       go_upto_region 25 with (fail)
       clear mM;refine ln25 (b9:=bs) (o9:=os) (k:=i) (n2:=n2) (nm:=nm) (dg:=dg) HO HB.out.size (by omega) hlt (zh (ROW.out wq HB.out)) Gy ⟨hbs,hne9⟩ (zh ⟨u0,u1⟩) (zh ⟨g1,g2⟩) rfl rfl rfl rfl ?_;intro v wz A' c' hv hown gJ;simp only[qb,BH,BI,BJ,BL,Act.put,BD,BF,BG];rw[hv];have He:=zh hown;clear hown;have Hf:=zh (HB.out.trans (gJ.below _ HB.out.size (fun q hq=>(HO.out.lt q hq).1)));clear gJ hv u0 u1;go_wp2
       exact⟨⟨i+1,A',c',by omega,by go_num,by rw[j6.out,List.length_append];rfl,by rw[j6.out,List.length_append];exact He,Hf⟩,by simp[intOf];omega⟩
      obtain rfl:i=n2:=by omega
      have j6:Hid ((b.tags.take i).map xz=b.tags.map xz):=zh (by rw[List.take_of_length_le (by rw[ul.out];exact Nat.le_refl _)]);rw[j6.out] at HO⊢;have HLB:Hid (xU b=L2++b.tags.map xz):=zh (by unfold xU;rw[HL0E.out,HL1E.out,HL2E.out]);go_wp2
      go_ret
      refine⟨A,c,by rw[HLB.out];rfl,?_,gB.out _ HB.out⟩;rw[HLB.out];exact(HO.out.lower (Nat.le_of_lt (Nat.lt_of_le_of_lt (Nat.le_refl _) vr))).mono (fun q hq _=>Nat.le_trans (Nat.le_of_lt vr) hq)
theorem zC {tg tg5 tg' tg5':Bool}{T T5 T' T5':TypeId}{S S5 S' S5':Nat→Prop}{w:World}{A4 A5 A4' A5':Option Addr}{n4 c4 n5 c5 n4' c4' n5' c5':Nat}{x y:Bb}(h:Sl tg T Bo w S A4 n4 c4 x.list) (h5:Sl tg5 T5 qq w S5 A5 n5 c5 x.slots) (h':Sl tg' T' Bo w S' A4' n4' c4' y.list) (h5':Sl tg5' T5' qq w S5' A5' n5' c5' y.slots):
  Calls Tryz.prog 35 #[.agg #[.int .i64 x.kind,.int .i64 x.id,.string x.name,.string x.digest,.slice A4 n4 c4,.slice A5 n5 c5],.agg #[.int .i64 y.kind,.int .i64 y.id,.string y.name,.string y.digest,.slice A4' n4' c4',.slice A5' n5' c5']] w (Bl (.bool (decide (x=y))) w):=by
 obtain⟨xk,xi,xn,xd,xl,xs⟩:=x;obtain⟨yk,yi,yn,yd,yl,ys⟩:=y;simp only at h h5 h' h5'⊢;rw[show decide ((⟨xk,xi,xn,xd,xl,xs⟩:Bb)=⟨yk,yi,yn,yd,yl,ys⟩)=decide (xk=yk∧xi=yi∧xn=yn∧xd=yd∧xl=yl∧xs=ys) from decide_eq_decide.2 Bb.Bq];generalize hr:decide (xk=yk∧xi=yi∧xn=yn∧xd=yd∧xl=yl∧xs=ys)=r;have HR:=zh hr;clear hr
 go_enter Tryz.func35,Tryz.ntmps35
 go_wp2_with (first
  |(go_at_call 26;refine(kL (h.all bz) (h'.all bz)).mono ?_;rintro e w1 ⟨rfl,hb1⟩;(obtain⟨mV,hf_w1⟩:=qn hb1;have mt:w.heap.size<w1.heap.size:=(by have:=hb1.size;first|omega|(simp at this;omega));have vO:w.heap.size+1<w1.heap.size:=(by have:=hb1.size;first|omega|(simp at this;omega))))
  |(go_at_call 69;refine(kg (h5.all bz) (h5'.all bz)).mono ?_;rintro e w2 ⟨rfl,hb2⟩;(obtain⟨nU,hf_w2⟩:=qn hb2;have ni:w.heap.size<w2.heap.size:=(by have:=hb2.size;first|omega|(simp at this;omega));have vP:w.heap.size+1<w2.heap.size:=(by have:=hb2.size;first|omega|(simp at this;omega)))))
 all_goals
  go_ret
  exact⟨by rw[←HR.out];first|(simp_all [toList_inj];done)|(simp[*,toList_inj];done),bz⟩
theorem Zw {tg tg5:Bool}{T T5:TypeId}{S S5:Nat→Prop}{w:World}{A4 A5:Option Addr}{n4 c4 n5 c5:Nat}{x:Bb}(hok:Bf x.kind∧Bf x.id∧qM x.name∧qM x.digest) (h:Sl tg T Bo w S A4 n4 c4 x.list) (h5:Sl tg5 T5 qq w S5 A5 n5 c5 x.slots) (hn:n4≤100000000∧n5≤100000000):
  Calls Tryz.prog 29 #[.agg #[.int .i64 x.kind,.int .i64 x.id,.string x.name,.string x.digest,.slice A4 n4 c4,.slice A5 n5 c5]] w (Jn (qw true) w x):=by
 go_enter Tryz.func29,Tryz.ntmps29
 go_wp2_with fail
 refine(xE (h.all bz) hn.1).mono ?_;rintro e w1 ⟨A8,c8,rfl,nB,hb3⟩
 (obtain⟨mV,hf_w1⟩:=qn hb3;have mt:w.heap.size<w1.heap.size:=(by have:=hb3.size;first|omega|(simp at this;omega));have vO:w.heap.size+1<w1.heap.size:=(by have:=hb3.size;first|omega|(simp at this;omega));have z_w1_2:w.heap.size+1+1<w1.heap.size:=(by have:=hb3.size;first|omega|(simp at this;omega)))
 go_wp2_with fail
 refine(xq (h5.all bz) hn.2).mono ?_;rintro e w2 ⟨A9,c9,rfl,uw,hb4⟩
 (obtain⟨nU,hf_w2⟩:=qn hb4;have ni:w.heap.size<w2.heap.size:=(by have:=hb4.size;first|omega|(simp at this;omega));have vP:w.heap.size+1<w2.heap.size:=(by have:=hb4.size;first|omega|(simp at this;omega));have z_w2_2:w.heap.size+1+1<w2.heap.size:=(by have:=hb4.size;first|omega|(simp at this;omega)))
 go_wp2_with fail
 refine bodyPost_ret (v:=.agg #[.int .i64 x.kind,.int .i64 x.id,.string x.name,.string x.digest,.slice A8 x.list.length c8,.slice A9 x.slots.length c9]) (by simp[results,Tryz.results29,go_sem, *];done) rfl ?_;have hr:=(nB.sl (tg:=true)).mono (S':=fun b=>w.heap.size+3≤b) (fun b hb _=>by simp at hb;omega);have hr4:=(uw.sl (tg:=true)).mono (S':=fun b=>w.heap.size+3≤b) (fun b hb _=>by simp at hb;omega);exact⟨_,rfl,⟨_,_,_,_,_,_,rfl,hok,(hr.keep (by repeat' (first|(with_reducible exact Bg.refl _ _)|(with_reducible refine Bg.alloc ?_ _)|(with_reducible refine Bg.drew ?_)|(with_reducible refine Bg.drewN ?_ _)|(with_reducible refine Bg.setCell ?_ ?_ _)|(refine Bg.call ?_ (by with_reducible assumption))|(with_reducible refine Bg.ext ?_ _)|(simp;done)|(simp;omega)|omega))).mono (fun b hb _=>by omega),(hr4.keep (by repeat' (first|(with_reducible exact Bg.refl _ _)|(with_reducible refine Bg.alloc ?_ _)|(with_reducible refine Bg.drew ?_)|(with_reducible refine Bg.drewN ?_ _)|(with_reducible refine Bg.setCell ?_ ?_ _)|(refine Bg.call ?_ (by with_reducible assumption))|(with_reducible refine Bg.ext ?_ _)|(simp;done)|(simp;omega)|omega))).mono (fun b hb _=>by omega)⟩,bz⟩
theorem jG {tg tg' tg1 tg1':Bool}{T T':TypeId}{S S':Nat→Prop}{w:World}{A A':Option Addr}{n c n' c':Nat}{xs ys:List (Bb)}(h:Sl tg T (qw tg1) w S A n c xs) (h':Sl tg' T' (qw tg1') w S' A' n' c' ys):
  Calls Tryz.prog 41 #[.slice A n c,.slice A' n' c'] w (Bl (.bool (decide (xs=ys))) w):=by
 have HL:=zh h.len;have rH:=zh h'.len;have hcap:n≤9223372036854775807:=Nat.le_trans h.le h.cap;by_cases hne:n=n'
 ·subst hne
  go_enter Tryz.func41,Tryz.ntmps41
  go_wp2
  go_loopw [5] (fun i wr=>∃k:Nat,k≤n∧i=.int .i64 k∧Below w.heap.size w wr∧Hid (xs.take k=ys.take k)) (fun i _=>n - (intOf i).toNat)
  case atStart=>exact⟨0,Nat.zero_le _,rfl,Below.refl _ _,zh (by simp)⟩
  case round=>
   obtain⟨k,hk,rfl,hB,he⟩:=hrel;by_cases hlt:k<n
   ·obtain⟨b,off,A4,n4,c4,A5,n5,c5,rfl,hS,hbl,g1,g2,g3,g4,h4,h5,hc0,hc1,hc2,hc3,z7,hc5,_⟩:=(h.all hB).Ca hlt;obtain⟨b',off',A4',n4',c4',A5',n5',c5',rfl,hS',hbl',g1',g2',g3',g4',h4',h5',hc0',hc1',hc2',hc3',hc4',hc5',_⟩:=(h'.all hB).Ca hlt;generalize hx:xs.getD k default=x at *;generalize hy:ys.getD k default=y at *;have HX:=zh hx;clear hx;have HY:=zh hy;clear hy;have HB:=zh hB;clear hB;have pc:=xc wr;by_cases hxy:x=y
    ·have hc:=fun X=>(zC (h4.all bz) (h5.all bz) (h4'.all bz) (h5'.all bz):Calls _ _ _ (wr.ext X) _)
     rw[decide_eq_true hxy] at hc;have HC:=zh hc;clear hc;have HXY:=zh hxy;clear hxy;go_wp2
     refine zi (by kernel_rfl) (by kernel_rfl) ?_
     repeat (go_big_quiet_step ((go_at_call 35;exact Bl.ext (HC.out _))))
     refine wpQuiet_nil ?_;rintro _ ⟨X,rfl⟩;go_wp2
     go_roundw
     case rel=>
      have hB:=HB.out;exact⟨k+1,by omega,by go_num,bz,zh (zY he.out (by rw[HL.out];exact hlt) (by rw[rH.out];exact hlt) (HX.out.trans (HXY.out.trans HY.out.symm)))⟩
     case measure=>simp[intOf];omega
    have hc:=fun X=>(zC (h4.all bz) (h5.all bz) (h4'.all bz) (h5'.all bz):Calls _ _ _ (wr.ext X) _)
    rw[decide_eq_false hxy] at hc;have HC:=zh hc;clear hc;have HF:Hid (xs≠ys):=zh (fun e=>by subst e;exact hxy (HX.out.symm.trans HY.out));clear hxy;go_wp2
    refine zi (by kernel_rfl) (by kernel_rfl) ?_
    repeat (go_big_quiet_step ((go_at_call 35;exact Bl.ext (HC.out _))))
    refine wpQuiet_nil ?_;rintro _ ⟨X,rfl⟩;go_wp2
    go_ret
    have hB:=HB.out;exact⟨by rw[decide_eq_false HF.out];rfl,bz⟩
   go_wp2
   go_ret
   obtain rfl:k=n:=by omega
   have e:=he.out;rw[List.take_of_length_le (by rw[HL.out];exact Nat.le_refl _),List.take_of_length_le (by rw[rH.out];exact Nat.le_refl _)] at e;exact⟨by rw[decide_eq_true e];rfl,hB⟩
 have z8:((n:Int) !=(n':Int))=true:=by simp;omega
 have HF:Hid (xs≠ys):=zh (fun e=>by subst e;exact hne (HL.out.symm.trans rH.out))
 go_enter Tryz.func41,Tryz.ntmps41
 go_wp2
 go_ret
 exact⟨by rw[decide_eq_false HF.out];rfl,Below.refl _ _⟩
theorem QV {tg tg1:Bool}{T:TypeId}{S:Nat→Prop}{w:World}{A:Option Addr}{n c:Nat}{xs:List (Bb)}(h:Sl tg T (qw tg1) w S A n c xs) (hn:n≤100000000) (hx:∀x∈xs,x.list.length≤100000000∧x.slots.length≤100000000):
  Calls Tryz.prog 37 #[.slice A n c] w (qC 61 (qw true) w xs):=by
 obtain⟨i0,hi,hz0,hz1,hz2⟩:=info_parts Tryz.C8;have hl:=h.len;have HL:=zh hl;have HX:=zh hx;clear hx
 go_enter Tryz.func37,Tryz.ntmps37
 clear hl;go_wp2
 go_loopw [3,4] (fun v i wr=>∃k:Nat,∃A' c',k≤n∧i=.int .i64 k∧v=.slice A' k c'∧Bi 61 (qw true) wr w.heap.size (fun b=>w.heap.size≤b) A' k c' (xs.take k)∧Below w.heap.size w wr) (fun _ i _=>n - (intOf i).toNat)
 case atStart=>exact⟨0,none,0,Nat.zero_le _,rfl,rfl,by simpa using Bi.Bp,Below.refl _ _⟩
 case round=>
  obtain⟨k,A',c',hk,rfl,rfl,hown,hb⟩:=hrel;by_cases hlt:k<n
  ·have hlx:=HX.out (xs.getD k default) (by rw[List.getD_eq_getElem?_getD,List.getElem?_eq_getElem (by have:=HL.out;omega)];exact List.getElem_mem _);obtain⟨b,off,A4,n4,c4,A5,n5,c5,rfl,hS,hbl,g1,g2,g3,g4,h4,h5,hc0,hc1,hc2,hc3,z7,hc5,_⟩:=(h.all hb).Ca hlt;generalize hx:xs.getD k default=x at *;have HXK:=zh hx;clear hx;have HB:=zh hb;clear hb;go_wp2_with fail
   refine(Zw ⟨g1,g2,g3,g4⟩ h4 h5 ⟨by have:=h4.len;omega,by have:=h5.len;omega⟩).mono ?_;rintro e w2 ⟨_,rfl,⟨A8,n8,c8,A9,n9,c9,rfl,hok3,h8,h9⟩,hb3⟩;have pY:=hown.all hb3;have hs3:=hb3.size;have GU:=hown.above (fun b hb=>Nat.le_trans HB.out.size hb);go_wp2_with (at_builtin;refine qm rfl _ _ 29 rfl i0 (.agg #[.int .i64 0,.int .i64 0,.string ByteArray.empty,.string ByteArray.empty,.slice none 0 0,.slice none 0 0]) 96 Tryz.underlying29 hi hz0 hz1 hz2 rfl (by decide) rfl (pY.frame (Agree.alloc _ _ _) (by simp)) w2.heap.size 61 1 _ x rfl (heap_alloc_new _ _) ⟨_,_,_,_,_,_,rfl,hok3,((h8.mono (fun b hb _=>GU b hb)).all bz),((h9.mono (fun b hb _=>GU b hb)).all bz)⟩ (by omega) (by omega) (by have:=HB.out.size;simp;omega) ?_)
   intro A2 c2 w3 hown2 hg2 _;go_wp2
   go_roundw
   case rel=>
    have hb:=HB.out;refine⟨k+1,A2,c2,by omega,by go_num,rfl,?_,?_⟩
    ·rw[qL (d:=default) (by have:=HL.out;omega),HXK.out];exact hown2
    exact((via hb hb3 (Nat.le_refl _)).alloc (by have:=hb.size;omega) _).grown hg2 (by have:=hb.size;simp;omega) (fun k hk=>(pY.lt k hk).1)
   case measure=>simp[intOf];omega
  go_wp2
  go_ret
  obtain rfl:k=n:=by omega
  have e1:=HL.out;subst e1;rw[List.take_length] at hown;exact⟨A',c',rfl,hown,hb⟩
def Zx (k:Int):ByteArray:=if k=1 then ⟨#[73,83]⟩ else if k=2 then ⟨#[73,76,83]⟩ else if k=3 then ⟨#[73]⟩ else if k=4 then ⟨#[73,68,76]⟩ else if k=5 then ⟨#[73,68,76]⟩ else if k=6 then ⟨#[68]⟩ else if k=7 then ⟨#[78,68]⟩ else if k=8 then ⟨#[78]⟩ else ⟨#[]⟩
theorem zX {w:World}{k:Int}(hk:1≤k∧k≤8):Calls Tryz.prog 64 #[.int .i64 k] w (Bl (.string (Zx k)) w):=by
 rcases (by omega:k=1∨k=2∨k=3∨k=4∨k=5∨k=6∨k=7∨k=8) with h|h|h|h|h|h|h|h<;>subst h
 ·go_enter Tryz.func64,Tryz.ntmps64
  go_wp2
  go_ret
  exact⟨by rfl,bz⟩
 ·go_enter Tryz.func64,Tryz.ntmps64
  go_wp2
  go_ret
  exact⟨by rfl,bz⟩
 ·go_enter Tryz.func64,Tryz.ntmps64
  go_wp2
  go_ret
  exact⟨by rfl,bz⟩
 ·go_enter Tryz.func64,Tryz.ntmps64
  go_wp2
  go_ret
  exact⟨by rfl,bz⟩
 ·go_enter Tryz.func64,Tryz.ntmps64
  go_wp2
  go_ret
  exact⟨by rfl,bz⟩
 ·go_enter Tryz.func64,Tryz.ntmps64
  go_wp2
  go_ret
  exact⟨by rfl,bz⟩
 ·go_enter Tryz.func64,Tryz.ntmps64
  go_wp2
  go_ret
  exact⟨by rfl,bz⟩
 go_enter Tryz.func64,Tryz.ntmps64
 go_wp2
 go_ret
 exact⟨by rfl,bz⟩
def qS (s:ByteArray) (c:Nat):Bool:=(List.range s.size).any (fun i=>decide ((s.data.getD i 0).toNat=c))
theorem KG {s:ByteArray}{k:Nat}(h:k<s.size):s.data.getD k 0=s[k]:=by
 have h2:k<s.data.size:=h;unfold Array.getD;rw[dif_pos h2];rfl
theorem JP {s:ByteArray}{c k:Nat}(hk:k<s.size) (h:(s.data.getD k 0).toNat=c):qS s c=true:=List.any_eq_true.2 ⟨k,List.mem_range.2 hk,decide_eq_true h⟩
theorem XV {s:ByteArray}{c:Nat}(h:∀j,j<s.size→(s.data.getD j 0).toNat≠c):qS s c=false:=List.any_eq_false.2 (fun j hj=>by rw[decide_eq_false (h j (List.mem_range.1 hj))];decide)
theorem ql {w:World}{s:ByteArray}{c:Nat}(hs:s.size≤3):Calls Tryz.prog 65 #[.string s,.int .u8 c] w (Bl (.bool (qS s c)) w):=by
 go_enter Tryz.func65,Tryz.ntmps65
 go_wp2
 go_loopw [5] (fun i wr=>∃k:Nat,k≤s.size∧i=.int .i64 k∧Below w.heap.size w wr∧Hid (∀j,j<k→(s.data.getD j 0).toNat≠c)) (fun i _=>s.size - (intOf i).toNat)
 case atStart=>exact⟨0,Nat.zero_le _,rfl,Below.refl _ _,zh (fun j hj=>by omega)⟩
 case round=>
  obtain⟨k,hk,rfl,hB,he⟩:=hrel;by_cases hlt:k<s.size
  ·have hge:=KG hlt;by_cases hq:(s.data.getD k 0).toNat=c
   ·have HT:Hid (qS s c=true):=zh (JP hlt hq);have hb:((s[k].toNat:Int)==(c:Int))=true:=(by rw[hge] at hq;rw[hq];exact beq_self_eq_true _);clear hge hq;go_wp2
    go_ret
    exact⟨by rw[HT.out];rfl,hB⟩
   have HN:Hid (∀j,j<k+1→(s.data.getD j 0).toNat≠c):=zh (fun j hj=>by
    by_cases e:j=k
    ·rw[e];exact hq
    exact he.out j (by omega))
   have hb:((s[k].toNat:Int)==(c:Int))=false:=by
    rw[hge] at hq;rw[beq_eq_false_iff_ne];omega
   clear hge hq;go_wp2
   go_roundw
   case rel=>exact⟨k+1,by omega,by go_num,hB,HN⟩
   case measure=>simp[intOf];omega
  have HF:Hid (qS s c=false):=zh (XV (fun j hj=>he.out j (by omega)));go_wp2
  go_ret
  exact⟨by rw[HF.out];rfl,hB⟩
end Go.Proofs.YtipecejghioicaaGreat
