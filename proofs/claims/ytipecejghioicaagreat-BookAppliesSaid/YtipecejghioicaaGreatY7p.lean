/- Book.Do, for the records that put something in. -/
import Derived.Test.YtipecejghioicaaGreatY6p
import Derived.Test.YtipecejghioicaaGreatR4p
import Derived.Deep.CutBlock
import Derived.Deep.Cut
import Derived.Test.YtipecejghioicaaGreatDatap
set_option maxHeartbeats 8000000
set_option maxRecDepth 100000
namespace Go.Silo
open Go Go.RowKit
theorem xY {α:Type}{p:α→Bool}{d:α}:∀{l:List α}{i:Nat},i≤l.length→(∀j,j<i→p (l.getD j d)=true)→(i<l.length→p (l.getD i d)=false)→(l.takeWhile p).length=i
 |[],i,h,_,_=>by simp at h;simp[h]
 |a::l,0,_,_,h2=>by
  have:=h2 (by simp);simp at this;simp[this]
 |a::l,i+1,h,h1,h2=>by
  have ha:=h1 0 (by omega);simp at ha;rw[List.takeWhile_cons,if_pos ha,List.length_cons]
  congr 1
  refine xY (d:=d) (by simp at h;omega) (fun j hj=>?_) (fun hl=>?_)
  ·have:=h1 (j+1) (by omega);simpa using this
  have:=h2 (by simp;omega);simpa using this
end Go.Silo
namespace Go.Proofs.YtipecejghioicaaGreat
open Go.RowKit Go.Silo
def xq (l:List Bc) (x:Int):Nat:=(l.takeWhile (fun y=>decide (y.id<x))).length
def CE (l:List Bc) (x:Int):Bool:=decide (xq l x<l.length∧(l.getD (xq l x) default).id=x)
def DV (l:List Bc) (x:Bc):List Bc:=qT (xq l x.id) (CE l x.id) x l
def zm {α:Type}(key:α→ByteArray) (l:List α) (x:ByteArray):Nat:=(l.takeWhile (fun y=>qo (key y) x)).length
def Ce {α:Type} [Inhabited α] (key:α→ByteArray) (l:List α) (x:ByteArray):Bool:=decide (zm key l x<l.length∧key (l.getD (zm key l x) default)=x)
def ZH {α:Type} [Inhabited α] (key:α→ByteArray) (l:List α) (x:α):List α:=qT (zm key l (key x)) (Ce key l (key x)) x l
theorem kb {l:List Bc}{x:Int}{k:Nat}{is:Bool}(hk:k≤l.length) (e:is=decide (k<l.length∧(l.getD k default).id=x)) (h1:∀j,j<k→(l.getD j default).id<x) (h2:∀j,k≤j→j<l.length→x≤(l.getD j default).id):k=xq l x∧is=CE l x:=by
 have hp:xq l x=k:=xY (d:=default) hk (fun j hj=>by simpa using h1 j hj) (fun hl=>decide_eq_false (Int.not_lt.2 (h2 k (Nat.le_refl _) hl)));refine⟨hp.symm,?_⟩;unfold CE;rw[hp];exact e
theorem zF {α:Type} [Inhabited α] {key:α→ByteArray}{l:List α}{x:ByteArray}{k:Nat}{is:Bool}(hk:k≤l.length) (e:is=decide (k<l.length∧key (l.getD k default)=x)) (h1:∀j,j<k→qo (key (l.getD j default)) x=true) (h2:∀j,k≤j→j<l.length→qo (key (l.getD j default)) x=false):k=zm key l x∧is=Ce key l x:=by
 have hp:zm key l x=k:=xY (d:=default) hk (fun j hj=>h1 j hj) (fun hl=>h2 k (Nat.le_refl _) hl);refine⟨hp.symm,?_⟩;unfold Ce;rw[hp];exact e
theorem XN (l:List Bc) (x:Int):xq l x≤l.length:=by unfold xq;exact(List.takeWhile_prefix _).length_le
theorem kc {α:Type}(key:α→ByteArray) (l:List α) (x:ByteArray):zm key l x≤l.length:=by unfold zm;exact(List.takeWhile_prefix _).length_le
structure Sorted (b:Book):Prop where
 s:∀i j,i<j→j<b.Ba.length→(b.Ba.getD i default).id<(b.Ba.getD j default).id
 t:∀i j,i<j→j<b.things.length→qo (b.things.getD i default).digest (b.things.getD j default).digest=true
 g:∀i j,i<j→j<b.tags.length→qo (b.tags.getD i default).name (b.tags.getD j default).name=true
def EG (b:Book) (r:Bb):Book:=
 if r.kind=1 then {b with next:=max b.next (r.id+1)}
 else if r.kind=2 then {b with Ba:=DV b.Ba ⟨r.id,r.list.getD 0 0,r.list.getD 1 0,r.slots⟩,next:=max b.next (r.id+1)}
 else if r.kind=4∨r.kind=5 then {b with things:=ZH Entry.digest b.things ⟨r.digest,r.id,decide (r.kind=5),r.list⟩}
 else {b with tags:=ZH Tag.name b.tags ⟨r.name,r.digest⟩}
def RetDo (X:Nat→Option Obj) (β bb:Nat) (b':Book) (w:World) (e:Ending) (w':World):Prop:=
 e=.returned (.int .i64 0)∧(∃A0 n0 c0 A1 n1 c1 A2 n2 c2,OB X β bb A0 n0 c0 A1 n1 c1 A2 n2 c2 b' w')∧Below β w w'
theorem Do_c {tg:Bool}{S:Nat→Prop}{X:Nat→Option Obj}{β bb:Nat}{w:World}{A0:Option Addr}{n0 c0:Nat}{A1:Option Addr}{n1 c1:Nat}{A2:Option Addr}{n2 c2:Nat}{A4 A5:Option Addr}{n4 c4 n5 c5:Nat}{b:Book}{r:Bb}(mv:OB X β bb A0 n0 c0 A1 n1 c1 A2 n2 c2 b w) (hs:Sorted b)
  (hn:n0≤999999∧n1≤999999∧n2≤999999) (hnx:b.next≤1073741825∧-1≤b.next) (hid:0≤r.id∧r.id≤1073741824) (hst:qN r.name∧qN r.digest) (hl:Sl tg 3 qD w S A4 n4 c4 r.list) (hsl:Sl tg 88 qp w S A5 n5 c5 r.slots) (hS:∀k,S k→k<β) (nE:n4≤100000000∧n5≤100000000)
  (hk:r.kind=1∨(r.kind=2∧r.list.length=2)∨r.kind=4∨r.kind=5∨r.kind=7):
  Calls Tryz.prog 63 #[.pointer (some ⟨bb,0,none⟩),.agg #[.int .i64 r.kind,.int .i64 r.id,.string r.name,.string r.digest,.slice A4 n4 c4,.slice A5 n5 c5]] w (RetDo X β bb (EG b r) w):=by
 obtain⟨kd,id,nm,dg,li,xs⟩:=r;simp only at hid hst hl hsl hk⊢;have rH:=mv.box;have hgl:Below w.heap.size w (w.alloc (.cells #[.int .i64 kd,.int .i64 id,.string nm,.string dg,.slice A4 n4 c4,.slice A5 n5 c5] 61)):=(Below.refl _ _).alloc (Nat.le_refl _) _;have nL:=heap_alloc_new w (.cells #[.int .i64 kd,.int .i64 id,.string nm,.string dg,.slice A4 n4 c4,.slice A5 n5 c5] 61);have gU:=zh (mv.all hgl);have hgb:w.heap.size≠bb:=by omega
 have HG0:Hid (some w.heap.size≠qd A0∧some w.heap.size≠qd A1∧some w.heap.size≠qd A2):=zh ⟨fun e=>by have:=(mv.st.lt _ e.symm).2;omega,fun e=>by have:=(mv.th.lt _ e.symm).2;omega,fun e=>by have:=(mv.ta.lt _ e.symm).2;omega⟩;have HL:=zh (hl.all hgl);have mZ:=zh (hsl.all hgl);have mq:=zh (show Below β w (w.alloc (.cells #[.int .i64 kd,.int .i64 id,.string nm,.string dg,.slice A4 n4 c4,.slice A5 n5 c5] 61)) from hgl.mono (Nat.le_trans mv.lo (Nat.le_of_lt rH)));have hlo:=mv.lo;have HN:=zh (And.intro mv.st.len (And.intro mv.th.len mv.ta.len));have pc:=zh hs;have hI1:Bn (id+1):=by unfold Bn;omega
 have hI2:Bn (max b.next (id+1)):=by unfold Bn;omega
 have hI0:Bn id:=by unfold Bn;omega
 have HFL:Hid (∀k,S k→k<(w.alloc (.cells #[.int .i64 kd,.int .i64 id,.string nm,.string dg,.slice A4 n4 c4,.slice A5 n5 c5] 61)).heap.size∧some k≠qd A0∧k≠bb):=zh (fun k hk=>by
  have h1:=hS k hk;refine⟨by simp;omega,fun e=>?_,by omega⟩
  have:=(mv.st.lt _ e.symm).1;omega)
 clear mv hl hsl hs
 go_enter Tryz.func63,Tryz.ntmps63
 rcases hk with rfl|⟨rfl,h2⟩|hk45|hk5|rfl
 ·skip
  go_upto_region 3 with (fail)
  generalize (w.alloc (.cells #[.int .i64 1,.int .i64 id,.string nm,.string dg,.slice A4 n4 c4,.slice A5 n5 c5] 61))=w1 at *;have RR:=zh nL;clear nL hgl;refine do3 gU RR hI1 hI2 rfl rfl rfl ?_;intro v wz hob2 hb2;simp only[qa,BG,BH,BI,BJ,Act.put,BC,BD,BF];have vP:=zh hob2;have gM:=zh (mq.out.trans hb2);clear hob2 hb2;go_wp2
  go_ret
  exact⟨by trivial,⟨_,_,_,_,_,_,_,_,_,vP.out⟩,gM.out⟩
 ·skip
  go_upto_region 5 with (fail)
  generalize (w.alloc (.cells #[.int .i64 2,.int .i64 id,.string nm,.string dg,.slice A4 n4 c4,.slice A5 n5 c5] 61))=w1 at *;have RR:=zh nL;clear nL hgl
  refine do5 (P:=fun k is=>k=xq b.Ba id∧is=CE b.Ba id) gU RR (zh (fun V hV=>(Qe (w:=V) (nx:=b.next) (x:=id) ((gU.out.all hV).st.sl (tg:=true)) (by omega) (fun i j h1 h2=>pc.out.s i j h1 (by rw[HN.out.1];exact h2))).mono (fun e w' he=>by
   obtain⟨k,hk,e1,h1,h2,hb⟩:=he
   exact⟨k,_,e1,kb hk rfl h1 h2,hb⟩))) rfl rfl rfl ?_
  intro v w2 k is hv1 hv2 hp hb2;simp only[qa,BG,BH,BI,BJ,Act.put,BC,BD,BF];rw[hv1,hv2];obtain⟨rfl,rfl⟩:=hp;have vP:=zh (gU.out.all hb2);have RR2:=zh (zb hb2 RR.out);have gM:=zh (mq.out.trans (hb2.mono (Nat.le_trans hlo (Nat.le_of_lt gU.out.box))));have HSL2:=zh (mZ.out.all hb2);have hlen:n4=2:=by rw[←h2];exact HL.out.len.symm
  subst hlen;obtain⟨b4,o4,eA4,hSb,hb4,q0,y0,_⟩:=(HL.out.all hb2).BN (k:=0) (by omega);obtain⟨b4',o4',eB4,_,_,q1,y1,_⟩:=(HL.out.all hb2).BN (k:=1) (by omega);subst eA4;injection eB4 with eB4;injection eB4 with e1 e2;subst e1;subst e2
  have HF4:=zh (HFL.out b4 hSb);rw[Nat.add_zero] at y0;have Hl:Hid (∀V:World,V.heap[b4]?=w2.heap[b4]?→V.cell? ⟨b4,o4,none⟩=some (.int .i64 (li.getD 0 0))∧V.cell? ⟨b4,o4+1,none⟩=some (.int .i64 (li.getD 1 0))):=zh (fun V hV=>⟨(World.cell?_of_block (a:=⟨b4,o4,none⟩) hV).trans y0,(World.cell?_of_block (a:=⟨b4,o4+1,none⟩) hV).trans y1⟩);have HQ:=zh (And.intro hI0 (And.intro q0 q1));clear y0 y1 q0 q1 hv1 hv2 hSb
  go_upto_region 6 with (fail)
  refine do6 (q0:=li.getD 0 0) (q1:=li.getD 1 0) (xs:=xs) HQ.out vP RR2 hgb HG0.out.1 (by rw[←HN.out.1];exact XN _ _) (fun h=>by unfold CE at h;have:=of_decide_eq_true h;rw[←HN.out.1];exact this.1) hn.1 (zh (fun V hV=>Qk (HSL2.out.all hV) nE.2)) ⟨hb4,HF4.out.2.1,HF4.out.2.2⟩ Hl rfl rfl rfl rfl rfl ?_;intro v w3 A' n' c' ue hr3 hb3;simp only[qa,BG,BH,BI,BJ,Act.put,BC,BD,BF];have Ha:=zh ue;have RR3:=zh hr3;have mL:=zh (gM.out.trans hb3);clear ue hr3 hb3
  go_upto_region 7 with (fail)
  refine do7 Ha RR3 hI1 hI2 rfl rfl rfl ?_;intro v wz hob4 hb4;simp only[qa,BG,BH,BI,BJ,Act.put,BC,BD,BF];have HO4:=zh hob4;have ma:=zh (mL.out.trans hb4);clear hob4 hb4;go_wp2
  go_ret
  exact⟨by trivial,⟨_,_,_,_,_,_,_,_,_,HO4.out⟩,ma.out⟩
 ·subst hk45
  go_upto_region 13 with (fail)
  generalize (w.alloc (.cells #[.int .i64 4,.int .i64 id,.string nm,.string dg,.slice A4 n4 c4,.slice A5 n5 c5] 61))=w1 at *;have RR:=zh nL;clear nL hgl
  refine do13 (P:=fun k is=>k=zm Entry.digest b.things dg∧is=Ce Entry.digest b.things dg) gU RR (zh (fun V hV=>(Ze (w:=V) (nx:=b.next) (x:=dg) ((gU.out.all hV).th.sl (tg:=true)) (by omega) (fun i j h1 h2=>pc.out.t i j h1 (by rw[HN.out.2.1];exact h2))).mono (fun e w' he=>by
   obtain⟨k,hk,e1,h1,h2,hb⟩:=he
   exact⟨k,_,e1,zF hk rfl h1 h2,hb⟩))) rfl rfl rfl ?_
  intro v w2 k is hv1 hv2 hp hb2;simp only[qa,BG,BH,BI,BJ,Act.put,BC,BD,BF];rw[hv1,hv2];obtain⟨rfl,rfl⟩:=hp;have vP:=zh (gU.out.all hb2);have RR2:=zh (zb hb2 RR.out);have gM:=zh (mq.out.trans (hb2.mono (Nat.le_trans hlo (Nat.le_of_lt gU.out.box))));have yA:=zh (HL.out.all hb2);clear hv1 hv2 hb2
  go_upto_region 14 with (fail)
  refine do14 (BO:=false) (xs:=li) ⟨hst.2,hI0⟩ (by decide) (by decide) vP RR2 hgb HG0.out.2.1 (by rw[←HN.out.2.1];exact kc _ _ _) (fun h=>by unfold Ce at h;have:=of_decide_eq_true h;rw[←HN.out.2.1];exact this.1) hn.2.1 (zh (fun V hV=>kn (yA.out.all hV) nE.1)) rfl rfl rfl rfl rfl ?_;intro v w3 A' n' c' ue _ hb3;simp only[qa,BG,BH,BI,BJ,Act.put,BC,BD,BF];have Ha:=zh ue;have mL:=zh (gM.out.trans hb3);clear ue hb3;go_wp2
  go_ret
  exact⟨by trivial,⟨_,_,_,_,_,_,_,_,_,Ha.out⟩,mL.out⟩
 ·subst hk5
  go_upto_region 13 with (fail)
  generalize (w.alloc (.cells #[.int .i64 5,.int .i64 id,.string nm,.string dg,.slice A4 n4 c4,.slice A5 n5 c5] 61))=w1 at *;have RR:=zh nL;clear nL hgl
  refine do13 (P:=fun k is=>k=zm Entry.digest b.things dg∧is=Ce Entry.digest b.things dg) gU RR (zh (fun V hV=>(Ze (w:=V) (nx:=b.next) (x:=dg) ((gU.out.all hV).th.sl (tg:=true)) (by omega) (fun i j h1 h2=>pc.out.t i j h1 (by rw[HN.out.2.1];exact h2))).mono (fun e w' he=>by
   obtain⟨k,hk,e1,h1,h2,hb⟩:=he
   exact⟨k,_,e1,zF hk rfl h1 h2,hb⟩))) rfl rfl rfl ?_
  intro v w2 k is hv1 hv2 hp hb2;simp only[qa,BG,BH,BI,BJ,Act.put,BC,BD,BF];rw[hv1,hv2];obtain⟨rfl,rfl⟩:=hp;have vP:=zh (gU.out.all hb2);have RR2:=zh (zb hb2 RR.out);have gM:=zh (mq.out.trans (hb2.mono (Nat.le_trans hlo (Nat.le_of_lt gU.out.box))));have yA:=zh (HL.out.all hb2);clear hv1 hv2 hb2
  go_upto_region 14 with (fail)
  refine do14 (BO:=true) (xs:=li) ⟨hst.2,hI0⟩ (by decide) (by decide) vP RR2 hgb HG0.out.2.1 (by rw[←HN.out.2.1];exact kc _ _ _) (fun h=>by unfold Ce at h;have:=of_decide_eq_true h;rw[←HN.out.2.1];exact this.1) hn.2.1 (zh (fun V hV=>kn (yA.out.all hV) nE.1)) rfl rfl rfl rfl rfl ?_;intro v w3 A' n' c' ue _ hb3;simp only[qa,BG,BH,BI,BJ,Act.put,BC,BD,BF];have Ha:=zh ue;have mL:=zh (gM.out.trans hb3);clear ue hb3;go_wp2
  go_ret
  exact⟨by trivial,⟨_,_,_,_,_,_,_,_,_,Ha.out⟩,mL.out⟩
 skip
 go_upto_region 19 with (fail)
 generalize (w.alloc (.cells #[.int .i64 7,.int .i64 id,.string nm,.string dg,.slice A4 n4 c4,.slice A5 n5 c5] 61))=w1 at *;have RR:=zh nL;clear nL hgl
 refine do19 (P:=fun k is=>k=zm Tag.name b.tags nm∧is=Ce Tag.name b.tags nm) gU RR (zh (fun V hV=>(kF (w:=V) (x:=nm) ((gU.out.all hV).ta.sl (tg:=true)) (by omega) (fun i j h1 h2=>pc.out.g i j h1 (by rw[HN.out.2.2];exact h2))).mono (fun e w' he=>by
  obtain⟨k,hk,e1,h1,h2,hb⟩:=he
  exact⟨k,_,e1,zF hk rfl h1 h2,hb⟩))) rfl rfl rfl ?_
 intro v w2 k is hv1 hv2 hp hb2;simp only[qa,BG,BH,BI,BJ,Act.put,BC,BD,BF];rw[hv1,hv2];obtain⟨rfl,rfl⟩:=hp;have vP:=zh (gU.out.all hb2);have RR2:=zh (zb hb2 RR.out);have gM:=zh (mq.out.trans (hb2.mono (Nat.le_trans hlo (Nat.le_of_lt gU.out.box))));clear hv1 hv2 hb2
 go_upto_region 20 with (fail)
 refine do20 hst vP RR2 hgb HG0.out.2.2 (by rw[←HN.out.2.2];exact kc _ _ _) (fun h=>by unfold Ce at h;have:=of_decide_eq_true h;rw[←HN.out.2.2];exact this.1) hn.2.2 rfl rfl rfl rfl rfl ?_;intro v w3 A' n' c' ue _ hb3;simp only[qa,BG,BH,BI,BJ,Act.put,BC,BD,BF];have Ha:=zh ue;have mL:=zh (gM.out.trans hb3);clear ue hb3;go_wp2
 go_ret
 exact⟨by trivial,⟨_,_,_,_,_,_,_,_,_,Ha.out⟩,mL.out⟩
end Go.Proofs.YtipecejghioicaaGreat
