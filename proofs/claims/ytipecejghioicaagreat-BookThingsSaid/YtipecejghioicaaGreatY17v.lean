import Derived.Test.YtipecejghioicaaGreatY10v
set_option maxHeartbeats 8000000
set_option maxRecDepth 100000
namespace Go.Proofs.YtipecejghioicaaGreat
open Go.RowKit Go.Silo
def qI (r:Bc):Bool:=decide (1≤r.kind∧r.kind≤8)&&
 ((!xE r.kind 105||qW r.id)&&((!xE r.kind 110||decide (1≤r.name.size∧r.name.size≤40))&&((!xE r.kind 100||decide (r.digest.size=32))&&((!xE r.kind 108||jS r.kind r.list)&&((!xE r.kind 115||xZ r.slots)&&
   ((xE r.kind 105||decide (r.id=0))&&((xE r.kind 110||decide (r.name=ByteArray.empty))&&((xE r.kind 100||decide (r.digest=ByteArray.empty))&&((xE r.kind 108||decide (r.list.length=0))&&(xE r.kind 115||decide (r.slots.length=0)))))))))))
theorem QH (x:ByteArray):x.toList=[]↔x=ByteArray.empty:=by
 rw[Lib.toList_data];constructor
 ·intro h
  cases x with
  |mk d=>simp only[ByteArray.empty,ByteArray.emptyWithCapacity] at *;congr 1;exact Array.toList_eq_nil_iff.1 h
 intro h;subst h;rfl
theorem js {W:World}{g:Nat}{a b c d e f:Value}{T:TypeId}{p:Nat×Nat}(h:W.heap[g]?=some (.cells #[a,b,c,d,e,f] T p)):W.cell? ⟨g,0,none⟩=some a∧W.cell? ⟨g,1,none⟩=some b∧W.cell? ⟨g,2,none⟩=some c∧W.cell? ⟨g,3,none⟩=some d∧W.cell? ⟨g,4,none⟩=some e∧W.cell? ⟨g,5,none⟩=some f:=
 ⟨zo 0 h,zo 1 h,zo 2 h,zo 3 h,zo 4 h,zo 5 h⟩
def XF (bI bN bD bL bS:Bool):Prop:=∀(tg:Bool) (S:Nat→Prop) (w:World) (A4 A5:Option Addr) (n4 c4 n5 c5:Nat) (r:Bc),1≤r.kind∧r.kind≤8→xE r.kind 105=bI→xE r.kind 110=bN→xE r.kind 100=bD→xE r.kind 108=bL→xE r.kind 115=bS→Sl tg 3 Bo w S A4 n4 c4 r.list→Sl tg 88 qr w S A5 n5 c5 r.slots→
  Calls Tryz.prog 61 #[.agg #[.int .i64 r.kind,.int .i64 r.id,.string r.name,.string r.digest,.slice A4 n4 c4,.slice A5 n5 c5]] w (Bh (.bool (qI r)) w)
theorem Zh {P:Prop}(h:P:=by
 unfold XF;intro tg S w A4 A5 n4 c4 n5 c5 r hk eI eN eD eL eS hl hs;obtain⟨k0,id,nm,dg,li,sl⟩:=r;simp only at hk eI eN eD eL eS hl hs⊢;have mg:=zh hl.len;have HSN:=zh hs.len;have MC:n4≤9223372036854775807:=Nat.le_trans hl.le hl.cap;have hcap5:n5≤9223372036854775807:=Nat.le_trans hs.le hs.cap;have HL:=zh (fun W (hW:Below w.heap.size w W)=>I4 (kd:=k0) (id:=id) (nm:=nm) (dg:=dg) (B:=A5) (n5:=n5) (c5:=c5) (hl.all hW));have HS:=zh (fun W (hW:Below w.heap.size w W)=>yh (hs.all hW));obtain⟨R,hR⟩:∃R,R=qI ⟨k0,id,nm,dg,li,sl⟩:=⟨_,rfl⟩;rw[←hR];unfold qI at hR;simp only at hR;rw[decide_eq_true hk,Bool.true_and,eI,eN,eD,eL,eS,mg.out,HSN.out] at hR;obtain⟨q1,hq1⟩:∃q1,q1=qW id:=⟨_,rfl⟩;rw[←hq1] at hR;have uB:=zh hq1;clear hq1;obtain⟨q2,hq2⟩:∃q2,q2=decide (1≤nm.size∧nm.size≤40):=⟨_,rfl⟩;rw[←hq2] at hR;have nB:=zh hq2;clear hq2;obtain⟨q3,hq3⟩:∃q3,q3=decide (dg.size=32):=⟨_,rfl⟩;rw[←hq3] at hR;have nH:=zh hq3;clear hq3;obtain⟨q4,hq4⟩:∃q4,q4=jS k0 li:=⟨_,rfl⟩;rw[←hq4] at hR;have HQ4:=zh hq4;clear hq4;obtain⟨q5,hq5⟩:∃q5,q5=xZ sl:=⟨_,rfl⟩;rw[←hq5] at hR;have HQ5:=zh hq5;clear hq5;obtain⟨p1,hp1⟩:∃p1,p1=decide (id=0):=⟨_,rfl⟩;rw[←hp1] at hR;have HP1:=zh hp1;clear hp1;obtain⟨p2,hp2⟩:∃p2,p2=decide (nm=ByteArray.empty):=⟨_,rfl⟩;rw[←hp2] at hR;have HP2:=zh hp2;clear hp2;obtain⟨p3,hp3⟩:∃p3,p3=decide (dg=ByteArray.empty):=⟨_,rfl⟩;rw[←hp3] at hR;have vN:=zh hp3;clear hp3;obtain⟨p4,hp4⟩:∃p4,p4=decide (n4=0):=⟨_,rfl⟩;rw[←hp4] at hR;have HP4:=zh hp4;clear hp4;obtain⟨p5,hp5⟩:∃p5,p5=decide (n5=0):=⟨_,rfl⟩;rw[←hp5] at hR;have HP5:=zh hp5;clear hp5;have HR:=zh hR;clear hR hl hs;have hk1:¬k0<1:=by omega
 have hk2:¬8<k0:=by omega
 have EI:=zh eI;clear eI;have EN:=zh eN;clear eN;have ED:=zh eD;clear eD;have EL:=zh eL;clear eL;have ES:=zh eS;clear eS;clear hk;have hal:Below w.heap.size w (w.alloc (.cells #[.int .i64 k0,.int .i64 id,.string nm,.string dg,.slice A4 n4 c4,.slice A5 n5 c5] 61)):=(Below.refl _ _).alloc (Nat.le_refl _) _;have rH:=heap_alloc_new w (.cells #[.int .i64 k0,.int .i64 id,.string nm,.string dg,.slice A4 n4 c4,.slice A5 n5 c5] 61);have hz:w.heap.size<(w.alloc (.cells #[.int .i64 k0,.int .i64 id,.string nm,.string dg,.slice A4 n4 c4,.slice A5 n5 c5] 61)).heap.size:=by simp
 go_enter Tryz.func61,Tryz.ntmps61
 go_upto_region 1 with (fail)
 generalize (w.alloc (.cells #[.int .i64 k0,.int .i64 id,.string nm,.string dg,.slice A4 n4 c4,.slice A5 n5 c5] 61))=W0 at *;have gm:=zh hal;clear hal;have ROW:=zh (fun V (hV:Below W0.heap.size W0 V)=>(show V.heap[w.heap.size]?=some (.cells #[.int .i64 k0,.int .i64 id,.string nm,.string dg,.slice A4 n4 c4,.slice A5 n5 c5] 61 (0,0)) from(hV.block _ hz).trans rH));clear rH;have HB:Hid (Below W0.heap.size W0 W0):=zh (Below.refl _ _);have HC:=zh (fun V=>km (w:=V) (k:=k0) (c:=105));rw[EI.out] at HC;obtain⟨b0,b1,b2,b3,b4,b5⟩:=js (ROW.out _ HB.out);go_wp2_with fail
 refine(HC.out _).mono ?_;clear b0 b1 b2 b3 b4 b5;rintro e wn ⟨rfl,hbn⟩;have HB:=zt HB hbn;clear hbn;clear HC
 first
 |obtain⟨b0,b1,b2,b3,b4,b5⟩:=js (ROW.out _ HB.out)
  go_wp2_with fail
  refine(CR (n:=id)).mono ?_;clear b0 b1 b2 b3 b4 b5;rw[←uB.out];rintro e wn ⟨rfl,hbn⟩;have HB:=zt HB hbn;clear hbn
  cases q1
  ·go_wp2
   go_ret
   exact⟨by rw[HR.out];rfl,gm.out.trans (HB.out.mono gm.out.size)⟩
 |skip
 have HC:=zh (fun V=>km (w:=V) (k:=k0) (c:=110));rw[EN.out] at HC;obtain⟨b0,b1,b2,b3,b4,b5⟩:=js (ROW.out _ HB.out);go_wp2_with fail
 refine(HC.out _).mono ?_;clear b0 b1 b2 b3 b4 b5;rintro e wn ⟨rfl,hbn⟩;have HB:=zt HB hbn;clear hbn;clear HC
 first
 |obtain⟨b0,b1,b2,b3,b4,b5⟩:=js (ROW.out _ HB.out)
  cases q2
  ·have hz:=of_decide_eq_false nB.out.symm;by_cases hz1:nm.size<1
   ·have hz2:nm.size=0:=(by omega);clear hz hz1;go_wp2
    go_ret
    exact⟨by rw[HR.out];rfl,gm.out.trans (HB.out.mono gm.out.size)⟩
   have hz2:¬nm.size≤40:=(by omega);clear hz;go_wp2
   go_ret
   exact⟨by rw[HR.out];rfl,gm.out.trans (HB.out.mono gm.out.size)⟩
  have hz1:=(of_decide_eq_true nB.out.symm).1;have hz2:=(of_decide_eq_true nB.out.symm).2;clear b0 b1 b2 b3 b4 b5
 |skip
 have HC:=zh (fun V=>km (w:=V) (k:=k0) (c:=100));rw[ED.out] at HC;obtain⟨b0,b1,b2,b3,b4,b5⟩:=js (ROW.out _ HB.out);go_wp2_with fail
 refine(HC.out _).mono ?_;clear b0 b1 b2 b3 b4 b5;rintro e wn ⟨rfl,hbn⟩;have HB:=zt HB hbn;clear hbn;clear HC
 first
 |obtain⟨b0,b1,b2,b3,b4,b5⟩:=js (ROW.out _ HB.out)
  cases q3
  ·have hd1:=of_decide_eq_false nH.out.symm
   first
   |go_wp2
    go_ret
    exact⟨by rw[HR.out];rfl,gm.out.trans (HB.out.mono gm.out.size)⟩
    done
   |have hd2:((dg.size:Int) !=32)=true:=by simp;omega
    clear hd1;go_wp2
    go_ret
    exact⟨by rw[HR.out];rfl,gm.out.trans (HB.out.mono gm.out.size)⟩
  have hd1:=of_decide_eq_true nH.out.symm;clear b0 b1 b2 b3 b4 b5
 |skip
 have HC:=zh (fun V=>km (w:=V) (k:=k0) (c:=108));rw[EL.out] at HC;obtain⟨b0,b1,b2,b3,b4,b5⟩:=js (ROW.out _ HB.out);go_wp2_with fail
 refine(HC.out _).mono ?_;clear b0 b1 b2 b3 b4 b5;rintro e wn ⟨rfl,hbn⟩;have HB:=zt HB hbn;clear hbn;clear HC
 first
 |obtain⟨b0,b1,b2,b3,b4,b5⟩:=js (ROW.out _ HB.out)
  go_wp2_with fail
  refine(HL.out _ (zu gm HB.out)).mono ?_;clear b0 b1 b2 b3 b4 b5;rw[←HQ4.out];rintro e wn ⟨rfl,hbn⟩;have HB:=zt HB hbn;clear hbn
  cases q4
  ·go_wp2
   go_ret
   exact⟨by rw[HR.out];rfl,gm.out.trans (HB.out.mono gm.out.size)⟩
 |skip
 have HC:=zh (fun V=>km (w:=V) (k:=k0) (c:=115));rw[ES.out] at HC;obtain⟨b0,b1,b2,b3,b4,b5⟩:=js (ROW.out _ HB.out);go_wp2_with fail
 refine(HC.out _).mono ?_;clear b0 b1 b2 b3 b4 b5;rintro e wn ⟨rfl,hbn⟩;have HB:=zt HB hbn;clear hbn;clear HC
 first
 |obtain⟨b0,b1,b2,b3,b4,b5⟩:=js (ROW.out _ HB.out)
  go_wp2_with fail
  refine(HS.out _ (zu gm HB.out)).mono ?_;clear b0 b1 b2 b3 b4 b5;rw[←HQ5.out];rintro e wn ⟨rfl,hbn⟩;have HB:=zt HB hbn;clear hbn
  cases q5
  ·go_wp2
   go_ret
   exact⟨by rw[HR.out];rfl,gm.out.trans (HB.out.mono gm.out.size)⟩
 |skip
 have HC:=zh (fun V=>km (w:=V) (k:=k0) (c:=105));rw[EI.out] at HC;obtain⟨b0,b1,b2,b3,b4,b5⟩:=js (ROW.out _ HB.out);go_wp2_with fail
 refine(HC.out _).mono ?_;clear b0 b1 b2 b3 b4 b5;rintro e wn ⟨rfl,hbn⟩;have HB:=zt HB hbn;clear hbn;clear HC
 first
 |obtain⟨b0,b1,b2,b3,b4,b5⟩:=js (ROW.out _ HB.out)
  cases p1
  ·have ht:=of_decide_eq_false HP1.out.symm;go_wp2
   go_ret
   exact⟨by rw[HR.out];rfl,gm.out.trans (HB.out.mono gm.out.size)⟩
  have ht:=of_decide_eq_true HP1.out.symm;subst ht;clear b0 b1 b2 b3 b4 b5
 |skip
 have HC:=zh (fun V=>km (w:=V) (k:=k0) (c:=110));rw[EN.out] at HC;obtain⟨b0,b1,b2,b3,b4,b5⟩:=js (ROW.out _ HB.out);go_wp2_with fail
 refine(HC.out _).mono ?_;clear b0 b1 b2 b3 b4 b5;rintro e wn ⟨rfl,hbn⟩;have HB:=zt HB hbn;clear hbn;clear HC
 first
 |obtain⟨b0,b1,b2,b3,b4,b5⟩:=js (ROW.out _ HB.out)
  cases p2
  ·have ht:¬nm.toList=[]:=fun e=>of_decide_eq_false HP2.out.symm ((QH _).1 e);go_wp2
   go_ret
   exact⟨by rw[HR.out];rfl,gm.out.trans (HB.out.mono gm.out.size)⟩
  have ht:nm.toList=[]:=(QH _).2 (of_decide_eq_true HP2.out.symm);clear b0 b1 b2 b3 b4 b5
 |skip
 have HC:=zh (fun V=>km (w:=V) (k:=k0) (c:=100));rw[ED.out] at HC;obtain⟨b0,b1,b2,b3,b4,b5⟩:=js (ROW.out _ HB.out);go_wp2_with fail
 refine(HC.out _).mono ?_;clear b0 b1 b2 b3 b4 b5;rintro e wn ⟨rfl,hbn⟩;have HB:=zt HB hbn;clear hbn;clear HC
 first
 |obtain⟨b0,b1,b2,b3,b4,b5⟩:=js (ROW.out _ HB.out)
  cases p3
  ·have ht:¬dg.toList=[]:=fun e=>of_decide_eq_false vN.out.symm ((QH _).1 e);go_wp2
   go_ret
   exact⟨by rw[HR.out];rfl,gm.out.trans (HB.out.mono gm.out.size)⟩
  have ht:dg.toList=[]:=(QH _).2 (of_decide_eq_true vN.out.symm);clear b0 b1 b2 b3 b4 b5
 |skip
 have HC:=zh (fun V=>km (w:=V) (k:=k0) (c:=108));rw[EL.out] at HC;obtain⟨b0,b1,b2,b3,b4,b5⟩:=js (ROW.out _ HB.out);go_wp2_with fail
 refine(HC.out _).mono ?_;clear b0 b1 b2 b3 b4 b5;rintro e wn ⟨rfl,hbn⟩;have HB:=zt HB hbn;clear hbn;clear HC
 first
 |obtain⟨b0,b1,b2,b3,b4,b5⟩:=js (ROW.out _ HB.out)
  cases p4
  ·have ht:=of_decide_eq_false HP4.out.symm;go_wp2
   go_ret
   exact⟨by rw[HR.out];rfl,gm.out.trans (HB.out.mono gm.out.size)⟩
  have ht:=of_decide_eq_true HP4.out.symm;subst ht;clear b0 b1 b2 b3 b4 b5
 |skip
 have HC:=zh (fun V=>km (w:=V) (k:=k0) (c:=115));rw[ES.out] at HC;obtain⟨b0,b1,b2,b3,b4,b5⟩:=js (ROW.out _ HB.out);go_wp2_with fail
 refine(HC.out _).mono ?_;clear b0 b1 b2 b3 b4 b5;rintro e wn ⟨rfl,hbn⟩;have HB:=zt HB hbn;clear hbn;clear HC
 first
 |obtain⟨b0,b1,b2,b3,b4,b5⟩:=js (ROW.out _ HB.out)
  cases p5
  ·have ht0:=of_decide_eq_false HP5.out.symm;have ht:((n5:Int)==0)=false:=(by simp;omega);clear ht0;go_wp2
   go_ret
   exact⟨by rw[HR.out];rfl,gm.out.trans (HB.out.mono gm.out.size)⟩
  have ht:=of_decide_eq_true HP5.out.symm;subst ht
 |skip
 first
 |go_wp2
  go_ret
  exact⟨by rw[HR.out];rfl,gm.out.trans (HB.out.mono gm.out.size)⟩
 |obtain⟨b0,b1,b2,b3,b4,b5⟩:=js (ROW.out _ HB.out)
  go_wp2
  go_ret
  exact⟨by rw[HR.out];rfl,gm.out.trans (HB.out.mono gm.out.size)⟩):P:=h
theorem Ko:XF true false false false true:=Zh
theorem Kp:XF true false false true true:=Zh
theorem Kq:XF true false false false false:=Zh
theorem ZN:XF true false true true false:=Zh
theorem Kr:XF false false true false false:=Zh
theorem Ks:XF false true true false false:=Zh
theorem Kt:XF false true false false false:=Zh
theorem XG {tg:Bool}{S:Nat→Prop}{w:World}{A4 A5:Option Addr}{n4 c4 n5 c5:Nat}{r:Bc}(hl:Sl tg 3 Bo w S A4 n4 c4 r.list) (hs:Sl tg 88 qr w S A5 n5 c5 r.slots):
  Calls Tryz.prog 61 #[.agg #[.int .i64 r.kind,.int .i64 r.id,.string r.name,.string r.digest,.slice A4 n4 c4,.slice A5 n5 c5]] w (Bh (.bool (qI r)) w):=by
 obtain⟨k,id,nm,dg,li,sl⟩:=r;simp only at hl hs⊢;by_cases h1:k<1
 ·have HE:Hid (qI ⟨k,id,nm,dg,li,sl⟩=false):=zh (by unfold qI;rw[decide_eq_false (by simp only;omega)];rfl);generalize qI ⟨k,id,nm,dg,li,sl⟩=R at *;clear hl hs
  go_enter Tryz.func61,Tryz.ntmps61
  go_wp2
  go_ret
  exact⟨by rw[HE.out];rfl,bz⟩
 by_cases h2:8<k
 ·have HE:Hid (qI ⟨k,id,nm,dg,li,sl⟩=false):=zh (by unfold qI;rw[decide_eq_false (by simp only;omega)];rfl);generalize qI ⟨k,id,nm,dg,li,sl⟩=R at *;clear hl hs
  go_enter Tryz.func61,Tryz.ntmps61
  go_wp2
  go_ret
  exact⟨by rw[HE.out];rfl,bz⟩
 rcases (by omega:k=1∨k=2∨k=3∨k=4∨k=5∨k=6∨k=7∨k=8) with h|h|h|h|h|h|h|h<;>subst h
 ·refine Ko _ _ _ _ _ _ _ _ _ (⟨1,id,nm,dg,li,sl⟩) ?_ ?_ ?_ ?_ ?_ ?_ hl hs<;>dsimp only<;>decide
 ·refine Kp _ _ _ _ _ _ _ _ _ (⟨2,id,nm,dg,li,sl⟩) ?_ ?_ ?_ ?_ ?_ ?_ hl hs<;>dsimp only<;>decide
 ·refine Kq _ _ _ _ _ _ _ _ _ (⟨3,id,nm,dg,li,sl⟩) ?_ ?_ ?_ ?_ ?_ ?_ hl hs<;>dsimp only<;>decide
 ·refine ZN _ _ _ _ _ _ _ _ _ (⟨4,id,nm,dg,li,sl⟩) ?_ ?_ ?_ ?_ ?_ ?_ hl hs<;>dsimp only<;>decide
 ·refine ZN _ _ _ _ _ _ _ _ _ (⟨5,id,nm,dg,li,sl⟩) ?_ ?_ ?_ ?_ ?_ ?_ hl hs<;>dsimp only<;>decide
 ·refine Kr _ _ _ _ _ _ _ _ _ (⟨6,id,nm,dg,li,sl⟩) ?_ ?_ ?_ ?_ ?_ ?_ hl hs<;>dsimp only<;>decide
 ·refine Ks _ _ _ _ _ _ _ _ _ (⟨7,id,nm,dg,li,sl⟩) ?_ ?_ ?_ ?_ ?_ ?_ hl hs<;>dsimp only<;>decide
 refine Kt _ _ _ _ _ _ _ _ _ (⟨8,id,nm,dg,li,sl⟩) ?_ ?_ ?_ ?_ ?_ ?_ hl hs<;>dsimp only<;>decide
end Go.Proofs.YtipecejghioicaaGreat
namespace Go.Silo
open Go Go.RowKit
section
variable {α κ:Type}{key:α→κ}{lt:κ→κ→Bool}
theorem yj {β:Type}{l:List β}{p:Nat}{v:β}(h:l[p]?=some v):l.set p v=l:=by
 refine List.ext_getElem? (fun j=>?_);rw[List.getElem?_set]
 split
 ·next e=>subst e;rw[if_pos (List.getElem?_eq_some_iff.1 h).1,h]
 rfl
theorem Qc [DecidableEq κ] [Inhabited α] (htr:∀a b c,lt a b=true→lt b c=true→lt a c=true) (hto:∀a b,lt a b=false→a≠b→lt b a=true) {l:List α}{x:α}{p:Nat}{is:Bool}(h:l.Pairwise (fun a b=>lt (key a) (key b)=true))
  (hp:p=(l.takeWhile (fun y=>lt (key y) (key x))).length) (his:is=decide (p<l.length∧key (l.getD p default)=key x)):(qP p is x l).Pairwise (fun a b=>lt (key a) (key b)=true):=by
 have hle:p≤l.length:=by rw[hp];exact(List.takeWhile_prefix _).length_le
 have htk:l.take p=l.takeWhile (fun y=>lt (key y) (key x)):=by
  rw[hp];exact(List.prefix_iff_eq_take.1 (List.takeWhile_prefix _)).symm
 have hlt:∀a∈l.take p,lt (key a) (key x)=true:=fun a ha=>by
  rw[htk] at ha;exact(List.all_eq_true.1 (List.all_takeWhile (p:=fun y=>lt (key y) (key x)) (l:=l))) a ha
 have hhd:∀c,l[p]?=some c→lt (key c) (key x)=false:=fun c hc=>by
  have hdw:l.drop p=l.dropWhile (fun y=>lt (key y) (key x)):=by
   have h1:=List.takeWhile_append_dropWhile (p:=fun y=>lt (key y) (key x)) (l:=l);have h2:=List.take_append_drop p l;rw[htk] at h2;exact List.append_cancel_left (h2.trans h1.symm)
  have hd0:(l.dropWhile (fun y=>lt (key y) (key x))).head?=some c:=by rw[←hdw,List.head?_drop];exact hc
  have hne:l.dropWhile (fun y=>lt (key y) (key x))≠[]:=fun e=>by rw[e] at hd0;cases hd0
  have h3:=List.head_dropWhile_not (fun y=>lt (key y) (key x)) hne
  have h4:(l.dropWhile (fun y=>lt (key y) (key x))).head hne=c:=by
   have:=List.head?_eq_some_head hne;rw[this] at hd0;injection hd0
  rw[h4] at h3;exact h3
 unfold qP
 cases is with
 |true=>
  obtain⟨hpl,hk⟩:=of_decide_eq_true his.symm;simp only[if_true]
  have hm:(l.set p x).map key=l.map key:=by
   rw[List.map_set];refine yj ?_;rw[List.getElem?_map,List.getElem?_eq_getElem hpl];rw[List.getD_eq_getElem?_getD,List.getElem?_eq_getElem hpl] at hk;exact congrArg some hk
  have h2:(l.map key).Pairwise (fun a b=>lt a b=true):=List.pairwise_map.2 h;rw[←hm] at h2;exact List.pairwise_map.1 h2
 |false=>
  simp only[Bool.false_eq_true,if_false];unfold xc;have hsp:=h;rw[←List.take_append_drop p l,List.pairwise_append] at hsp;obtain⟨h1,h2,h3⟩:=hsp
  have hx:∀b∈l.drop p,lt (key x) (key b)=true:=by
   cases hd:l.drop p with
   |nil=>intro b hb;cases hb
   |cons c r=>
    have hc:l[p]?=some c:=(by have:=List.head?_drop (l:=l) (i:=p);rw[hd] at this;exact this.symm);have hpl:p<l.length:=(List.getElem?_eq_some_iff.1 hc).1
    have hck:key c≠key x:=fun e=>by
     have:=of_decide_eq_false his.symm;exact this ⟨hpl,by rw[List.getD_eq_getElem?_getD,hc];exact e⟩
    have hxc:=hto _ _ (hhd c hc) hck;intro b hb;rcases List.mem_cons.1 hb with rfl|hb
    ·exact hxc
    rw[hd] at h2;exact htr _ _ _ hxc ((List.pairwise_cons.1 h2).1 b hb)
  rw[List.pairwise_append];refine⟨h1,?_,fun a ha b hb=>?_⟩
  ·rw[List.singleton_append,List.pairwise_cons];exact⟨hx,h2⟩
  rw[List.singleton_append] at hb;rcases List.mem_cons.1 hb with rfl|hb
  ·exact hlt a ha
  exact h3 a ha b hb
theorem Qd {R:α→α→Prop}{l:List α}{p:Nat}(h:l.Pairwise R):(xo p l).Pairwise R:=by
 unfold xo;refine h.sublist ?_;have h2:=List.take_append_drop p l;conv=>rhs;rw[←h2]
 refine List.Sublist.append (List.Sublist.refl _) ?_;rw[show l.drop (p+1)=(l.drop p).drop 1 by rw[List.drop_drop]];exact List.drop_sublist _ _
end
end Go.Silo
namespace Go.Proofs.YtipecejghioicaaGreat
open Go.RowKit Go.Silo
theorem Bw {α:Type} [Inhabited α] {R:α→α→Prop}{l:List α}:l.Pairwise R↔∀i j,i<j→j<l.length→R (l.getD i default) (l.getD j default):=by
 rw[List.pairwise_iff_getElem];have e:∀j (hj:j<l.length),l.getD j default=l[j]:=fun j hj=>by rw[List.getD_eq_getElem?_getD,List.getElem?_eq_getElem hj];rfl
 constructor
 ·intro h i j hij hj;rw[e i (by omega),e j hj];exact h i j (by omega) hj hij
 intro h i j hi hj hij;have:=h i j hij hj
 rwa [e i hi,e j hj] at this
theorem I5 (a b c:Int) (h1:decide (a<b)=true) (h2:decide (b<c)=true):decide (a<c)=true:=by simp at *;omega
theorem I6 (a b:Int) (h1:decide (a<b)=false) (h2:a≠b):decide (b<a)=true:=by simp at *;omega
theorem Sorted.Fe {b:Book}{r:Bc}(h:Sorted b):Sorted (Fe b r):=by
 unfold Proofs.YtipecejghioicaaGreat.Fe
 split
 ·exact⟨h.s,h.t,h.g⟩
 split
 ·refine⟨?_,h.t,h.g⟩;have h1:b.Ba.Pairwise (fun x y=>decide (x.id<y.id)=true):=Bw.2 (fun i j hij hj=>decide_eq_true (h.s i j hij hj));have h2:=Qc (key:=Bb.id) (lt:=fun a b=>decide (a<b)) I5 I6 (x:=⟨r.id,r.list.getD 0 0,r.list.getD 1 0,r.slots⟩) h1 (p:=xC b.Ba r.id) rfl (is:=CQ b.Ba r.id) rfl;intro i j hij hj;exact of_decide_eq_true (Bw.1 h2 i j hij hj)
 split
 ·refine⟨h.s,?_,h.g⟩;have h1:b.things.Pairwise (fun x y=>ql x.digest y.digest=true):=Bw.2 h.t;exact Bw.1 (Qc (key:=Entry.digest) (lt:=ql) (fun _ _ _=>qT) (fun _ _=>Qn) (x:=⟨r.digest,r.id,decide (r.kind=5),r.list⟩) h1 (p:=zj Entry.digest b.things r.digest) rfl (is:=Cg Entry.digest b.things r.digest) rfl)
 refine⟨h.s,h.t,?_⟩;have h1:b.tags.Pairwise (fun x y=>ql x.name y.name=true):=Bw.2 h.g;exact Bw.1 (Qc (key:=Tag.name) (lt:=ql) (fun _ _ _=>qT) (fun _ _=>Qn) (x:=⟨r.name,r.digest⟩) h1 (p:=zj Tag.name b.tags r.name) rfl (is:=Cg Tag.name b.tags r.name) rfl)
theorem Sorted.Cj {b b':Book}{r:Bc}(h:Sorted b) (he:Cj b r=some b'):Sorted b':=by
 unfold Proofs.YtipecejghioicaaGreat.Cj at he
 split at he
 ·split at he
  ·injection he with he;subst he
   exact⟨(Bw (R:=fun(x y:Bb)=>x.id<y.id)).1 (Qd ((Bw (R:=fun(x y:Bb)=>x.id<y.id)).2 h.s)),h.t,h.g⟩
  cases he
 split at he
 ·split at he
  ·injection he with he;subst he
   exact⟨h.s,(Bw (R:=fun(x y:Entry)=>ql x.digest y.digest=true)).1 (Qd ((Bw (R:=fun(x y:Entry)=>ql x.digest y.digest=true)).2 h.t)),h.g⟩
  cases he
 split at he
 ·split at he
  ·injection he with he;subst he
   exact⟨h.s,h.t,(Bw (R:=fun(x y:Tag)=>ql x.name y.name=true)).1 (Qd ((Bw (R:=fun(x y:Tag)=>ql x.name y.name=true)).2 h.g))⟩
  cases he
 injection he with he;subst he
 exact h.Fe
theorem zF {r:Bc}(h:qI r=true):(1≤r.kind∧r.kind≤8)∧(0≤r.id∧r.id≤1073741824)∧(r.kind=2→r.list.length=2)∧(r.list.length≤2000∧r.slots.length≤14):=by
 unfold qI at h;simp only[Bool.and_eq_true,decide_eq_true_eq] at h;obtain⟨hk,hi,_,_,hl,hs,hi0,_,_,hl0,hs0⟩:=h;refine⟨hk,?_,fun h2=>?_,?_,?_⟩
 ·cases hq:xE r.kind 105 with
  |true=>rw[hq] at hi;simp only[Bool.not_true,Bool.false_or] at hi;unfold qW at hi;exact of_decide_eq_true hi
  |false=>rw[hq] at hi0;simp only[Bool.false_or] at hi0;have:=of_decide_eq_true hi0;omega
 ·rw[h2,show xE 2 108=true by decide] at hl;simp only[Bool.not_true,Bool.false_or] at hl;unfold jS at hl;simp only[Bool.and_eq_true] at hl;have:=hl.1;simpa using this
 ·cases hq:xE r.kind 108 with
  |true=>
   rw[hq] at hl;simp only[Bool.not_true,Bool.false_or] at hl;unfold jS at hl;simp only[Bool.and_eq_true] at hl;exact of_decide_eq_true hl.2.1
  |false=>rw[hq] at hl0;simp only[Bool.false_or] at hl0;have:=of_decide_eq_true hl0;omega
 cases hq:xE r.kind 115 with
 |true=>
  rw[hq] at hs;simp only[Bool.not_true,Bool.false_or] at hs;unfold xZ at hs;simp only[Bool.and_eq_true] at hs;exact of_decide_eq_true hs.2.1
 |false=>rw[hq] at hs0;simp only[Bool.false_or] at hs0;have:=of_decide_eq_true hs0;omega
theorem JY {tg:Bool}{S:Nat→Prop}{X:Nat→Option Obj}{β bb:Nat}{w:World}{A0:Option Addr}{n0 c0:Nat}{A1:Option Addr}{n1 c1:Nat}{A2:Option Addr}{n2 c2:Nat}{A4 A5:Option Addr}{n4 c4 n5 c5:Nat}{b:Book}{r:Bc}(gY:OB X β bb A0 n0 c0 A1 n1 c1 A2 n2 c2 b w) (hs:Sorted b)
  (hn:n0≤999999∧n1≤999999∧n2≤999999) (hnx:b.next≤1073741825∧-1≤b.next) (hst:qG r.name∧qG r.digest) (hl:Sl tg 3 Bo w S A4 n4 c4 r.list) (hsl:Sl tg 88 qr w S A5 n5 c5 r.slots) (hS:∀k,S k→k<β) (mV:n4≤100000000∧n5≤100000000) (hok:qI r=true):
  Calls Tryz.prog 63 #[.pointer (some ⟨bb,0,none⟩),.agg #[.int .i64 r.kind,.int .i64 r.id,.string r.name,.string r.digest,.slice A4 n4 c4,.slice A5 n5 c5]] w (CG X β bb (Cj b r) b w):=by
 obtain⟨⟨k1,k2⟩,hid,hl2,_⟩:=zF hok;by_cases ho:r.kind=3∨r.kind=6∨r.kind=8
 ·exact yB gY hs hn hnx hid hst hl hsl hS mV ho
 have hi:r.kind=1∨(r.kind=2∧r.list.length=2)∨r.kind=4∨r.kind=5∨r.kind=7:=by
  rcases (by omega:r.kind=1∨r.kind=2∨r.kind=4∨r.kind=5∨r.kind=7) with h|h|h|h|h
  ·exact .inl h
  ·exact .inr (.inl ⟨h,hl2 h⟩)
  ·exact .inr (.inr (.inl h))
  ·exact .inr (.inr (.inr (.inl h)))
  exact .inr (.inr (.inr (.inr h)))
 have hd:Cj b r=some (Fe b r):=by
  unfold Cj;rw[if_neg (fun h=>ho (.inl h)),if_neg (fun h=>ho (.inr (.inl h))),if_neg (fun h=>ho (.inr (.inr h)))]
 refine(Do_c gY hs hn hnx hid hst hl hsl hS mV hi).mono ?_;rintro e w' ⟨h1,h2,h3⟩;rw[hd];exact⟨h1,h2,h3⟩
theorem yD {tg:Bool}{S:Nat→Prop}{w:World}{A4 A5:Option Addr}{n4 c4 n5 c5:Nat}{r:Bc}(hl:Sl tg 3 Bo w S A4 n4 c4 r.list) (hs:Sl tg 88 qr w S A5 n5 c5 r.slots):
  Calls Tryz.prog 71 #[.agg #[.int .i64 r.kind,.int .i64 r.id,.string r.name,.string r.digest,.slice A4 n4 c4,.slice A5 n5 c5]] w (Bh (.bool (!qI r)) w):=by
 have HC:=zh (fun W (hW:Below w.heap.size w W)=>XG (w:=W) (r:=r) (hl.all hW) (hs.all hW));generalize qI r=q at *
 go_enter Tryz.func71,Tryz.ntmps71
 go_wp2_with fail
 refine(HC.out _ bz).mono ?_;rintro e w1 ⟨rfl,hb1⟩;go_wp2
 go_ret
 exact⟨rfl,bz⟩
theorem ZA {tg:Bool}{T:TypeId}{S:Nat→Prop}{w:World}{A:Option Addr}{n c:Nat}{xs:List Bc}(h:Sl tg T (qi tg) w S A n c xs):
  Calls Tryz.prog 108 #[.slice A n c,.func (.func 71) #[] #[]] w (Bh (.int .i64 (idxOf (fun r=>!qI r) xs)) w):=by
 have HL:=zh h.len;have hcap:n≤9223372036854775807:=Nat.le_trans h.le h.cap
 go_enter Tryz.func108,Tryz.ntmps108
 go_wp2
 go_loopw [5,8] (fun _ i wr=>∃k:Nat,k≤n∧i=.int .i64 k∧Below w.heap.size w wr∧Hid (∀j,j<k→(!qI (xs.getD j default))=false)) (fun _ i _=>n - (intOf i).toNat)
 case atStart=>exact⟨0,Nat.zero_le _,rfl,Below.refl _ _,zh (fun j hj=>by omega)⟩
 case round=>
  obtain⟨k,hk,rfl,hB,he⟩:=hrel;by_cases hlt:k<n
  ·obtain⟨b,off,A4,n4,c4,A5,n5,c5,rfl,hS,hbl,g1,g2,g3,g4,hl4,hs5,hc0,hc1,hc2,hc3,x4,hc5,_⟩:=(h.all hB).BQ hlt;have hcall:=yD (r:=xs.getD k default) hl4 hs5;generalize hx:xs.getD k default=x at *;have HX:=zh hx;clear hx;have HB:=zh hB;clear hB;have HC:=zh hcall;clear hcall;go_wp2_with fail
   refine HC.out.mono ?_;rintro e w2 ⟨rfl,hb2⟩;have gM:=zh hb2;clear hb2;clear hl4 hs5
   cases hpx:(!qI x) with
   |true=>
    have HF:Hid (idxOf (fun r=>!qI r) xs=(k:Int)):=zh (zU (d:=default) (by have:=HL.out;omega) (by rw[HX.out];exact hpx) he.out);clear hpx;go_wp2
    go_ret
    exact⟨by rw[HF.out];rfl,via HB.out gM.out (Nat.le_refl _)⟩
   |false=>
    have HF:Hid (∀j,j<k+1→(!qI (xs.getD j default))=false):=zh (fun j hj=>by
     by_cases hjk:j=k
     ·subst hjk;rw[HX.out];exact hpx
     exact he.out j (by omega))
    clear hpx;go_wp2
    go_roundw
    case rel=>exact⟨k+1,by omega,by go_num,via HB.out gM.out (Nat.le_refl _),HF⟩
    case measure=>simp[intOf];omega
  have HF:Hid (idxOf (fun r=>!qI r) xs=-1):=zh (xV (d:=default) fun j hj=>he.out j (by have:=HL.out;omega));go_wp2
  go_ret
  exact⟨by rw[HF.out];rfl,hB⟩
theorem Qe {tg:Bool}{T:TypeId}{S:Nat→Prop}{w:World}{A:Option Addr}{n c:Nat}{xs:List Bc}(h:Sl tg T (qi tg) w S A n c xs):
  Calls Tryz.prog 73 #[.slice A n c,.func (.func 71) #[] #[]] w (Bh (.bool (xs.any (fun r=>!qI r))) w):=by
 have HQ:=zh (jx (xs:=xs) (p:=fun r=>!qI r))
 go_enter Tryz.func73,Tryz.ntmps73
 go_wp2_with fail
 refine(ZA h).mono ?_;rintro e w2 ⟨rfl,hb2⟩;generalize hi:idxOf (fun r=>!qI r) xs=i at *;go_wp2
 all_goals
  go_ret
  refine⟨?_,hb2⟩;rw[HQ.out]
  first|rfl|(congr 2;simp_all;done)|(congr 2;simp_all;omega)
end Go.Proofs.YtipecejghioicaaGreat
namespace Go.Silo
open Go Go.RowKit
theorem kQ {a b:List Nat}(h:a.Sublist b):a.sum≤b.sum:=by
 induction h with
 |slnil=>exact Nat.le_refl _
 |cons a _ ih=>rw[List.sum_cons];omega
 |cons_cons a _ ih=>rw[List.sum_cons,List.sum_cons];omega
theorem XH {α:Type}{f:α→Nat}{l:List α}{p:Nat}{is:Bool}{x:α}:((qP p is x l).map f).sum≤(l.map f).sum+f x:=by
 have hd:=List.take_append_drop p l
 have hs:(l.map f).sum=((l.take p).map f).sum+((l.drop p).map f).sum:=by
  conv=>lhs;rw[←hd]
  rw[List.map_append,List.sum_append]
 unfold qP
 cases is with
 |true=>
  simp only[if_true];rw[List.set_eq_take_append_cons_drop]
  split
  ·have h1:((l.drop (p+1)).map f).sum≤((l.drop p).map f).sum:=by
    refine kQ (List.Sublist.map f ?_);rw[show l.drop (p+1)=(l.drop p).drop 1 by rw[List.drop_drop]];exact List.drop_sublist _ _
   rw[List.map_append,List.sum_append,List.map_cons,List.sum_cons,hs];omega
  omega
 |false=>
  simp only[Bool.false_eq_true,if_false];unfold xc;rw[List.map_append,List.sum_append,List.map_append,List.sum_append,hs];simp;omega
theorem Cy {α:Type}{l:List α}{p:Nat}:(xo p l).Sublist l:=by
 unfold xo;have h2:=List.take_append_drop p l;conv=>rhs;rw[←h2]
 refine List.Sublist.append (List.Sublist.refl _) ?_;rw[show l.drop (p+1)=(l.drop p).drop 1 by rw[List.drop_drop]];exact List.drop_sublist _ _
end Go.Silo
namespace Go.Proofs.YtipecejghioicaaGreat
open Go.RowKit Go.Silo
def zX (l:List Bc):Option Book:=l.foldl (fun o r=>o.bind (fun b=>Cj b r)) (some ⟨[],[],[],0⟩)
theorem Qp (l:List Bc) (r:Bc):zX (l++[r])=(zX l).bind (fun b=>Cj b r):=by simp[zX,List.foldl_append]
theorem Jv (l:List Bc):l.foldl (fun(o:Option Book) r=>o.bind (fun b=>Cj b r)) none=none:=by
 induction l with
 |nil=>rfl
 |cons a l ih=>exact ih
theorem Qq {l:List Bc}{k:Nat}(h:zX (l.take k)=none):zX l=none:=by
 have h2:=List.take_append_drop k l;rw[←h2];unfold zX at *;rw[List.foldl_append,h];exact Jv _
structure BInv (b:Book) (k t:Nat):Prop where
 so:Sorted b
 ls:b.Ba.length≤k
 lt:b.things.length≤k
 lg:b.tags.length≤k
 nx:0≤b.next∧b.next≤1073741825
 ss:(b.Ba.map (fun y=>y.place.length)).sum≤14* k
 st:(b.things.map (fun y=>y.list.length)).sum≤t
theorem BInv.start:BInv ⟨[],[],[],0⟩ 0 0:=⟨⟨fun i j _ h=>by simp at h,fun i j _ h=>by simp at h,fun i j _ h=>by simp at h⟩,Nat.le_refl _,Nat.le_refl _,Nat.le_refl _,by simp,by simp,by simp⟩
theorem BInv.step {b b':Book}{k t:Nat}{r:Bc}(h:BInv b k t) (hr:qI r=true) (he:Cj b r=some b'):BInv b' (k+1) (t+r.list.length):=by
 obtain⟨_,⟨hi1,hi2⟩,_,_,hsl⟩:=zF hr;have mP:=h.so.Cj he;obtain⟨_,h1,h2,h3,⟨h4,h4'⟩,h5,h6⟩:=h;unfold Cj at he
 split at he
 ·split at he
  ·injection he with he;subst he
   exact⟨mP,Nat.le_trans (Cy.length_le) (by omega),by simp only;omega,by simp only;omega,⟨h4,h4'⟩,Nat.le_trans (kQ (List.Sublist.map _ Cy)) (by omega),by simp only;omega⟩
  cases he
 split at he
 ·split at he
  ·injection he with he;subst he
   exact⟨mP,by simp only;omega,Nat.le_trans (Cy.length_le) (by omega),by simp only;omega,⟨h4,h4'⟩,by simp only;omega,Nat.le_trans (kQ (List.Sublist.map _ Cy)) (by omega)⟩
  cases he
 split at he
 ·split at he
  ·injection he with he;subst he
   exact⟨mP,by simp only;omega,by simp only;omega,Nat.le_trans (Cy.length_le) (by omega),⟨h4,h4'⟩,by simp only;omega,by simp only;omega⟩
  cases he
 injection he with he;subst he
 revert mP
 unfold Fe
 split
 ·intro mP;exact⟨mP,by simp only;omega,by simp only;omega,by simp only;omega,by simp only;omega,by simp only;omega,by simp only;omega⟩
 split
 ·intro mP;refine⟨mP,?_,by simp only;omega,by simp only;omega,by simp only;omega,?_,by simp only;omega⟩
  ·have:=Za (is:=CQ b.Ba r.id) (x:=(⟨r.id,r.list.getD 0 0,r.list.getD 1 0,r.slots⟩:Bb)) (JX b.Ba r.id);show(Ej b.Ba _).length≤_;unfold Ej;simp only at *;omega
  have:=XH (f:=fun(y:Bb)=>y.place.length) (l:=b.Ba) (p:=xC b.Ba r.id) (is:=CQ b.Ba r.id) (x:=(⟨r.id,r.list.getD 0 0,r.list.getD 1 0,r.slots⟩:Bb));show((Ej b.Ba _).map _).sum≤_;unfold Ej;simp only at *;omega
 split
 ·intro mP;refine⟨mP,by simp only;omega,?_,by simp only;omega,⟨h4,h4'⟩,by simp only;omega,?_⟩
  ·have:=Za (is:=Cg Entry.digest b.things r.digest) (x:=(⟨r.digest,r.id,decide (r.kind=5),r.list⟩:Entry)) (kP Entry.digest b.things r.digest);show(XD Entry.digest b.things _).length≤_;unfold XD;simp only at *;omega
  have:=XH (f:=fun(y:Entry)=>y.list.length) (l:=b.things) (p:=zj Entry.digest b.things r.digest) (is:=Cg Entry.digest b.things r.digest) (x:=(⟨r.digest,r.id,decide (r.kind=5),r.list⟩:Entry));show((XD Entry.digest b.things _).map _).sum≤_;unfold XD;simp only at *;omega
 intro mP;refine⟨mP,by simp only;omega,by simp only;omega,?_,⟨h4,h4'⟩,by simp only;omega,by simp only;omega⟩;have:=Za (is:=Cg Tag.name b.tags r.name) (x:=(⟨r.name,r.digest⟩:Tag)) (kP Tag.name b.tags r.name);show(XD Tag.name b.tags _).length≤_;unfold XD;simp only at *;omega
theorem BInv.few {b:Book}{k t:Nat}(h:BInv b k t) (hk:k≤4000) (ht:t≤1000000):Ea b:=by
 refine⟨Nat.le_trans h.ls hk,?_,?_⟩
 ·unfold qg;rw[List.take_length,List.length_flatMap];have:=h.ss;omega
 unfold qp;rw[List.take_length,List.length_flatMap];have:=h.st;omega
end Go.Proofs.YtipecejghioicaaGreat
