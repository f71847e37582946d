/- Book.Do, for the records that put something in. -/
import Derived.Test.YtipecejghioicaaGreatY6s
import Derived.Test.YtipecejghioicaaGreatR2s
import Derived.Deep.CutBlock
import Derived.Deep.Cut
import Derived.Test.YtipecejghioicaaGreatP0s
set_option maxHeartbeats 8000000
set_option maxRecDepth 100000
namespace Go.Silo
open Go Go.RowKit
theorem xE {α:Type}{p:α→Bool}{d:α}:∀{l:List α}{i:Nat},i≤l.length→(∀j,j<i→p (l.getD j d)=true)→(i<l.length→p (l.getD i d)=false)→(l.takeWhile p).length=i
 |[],i,h,_,_=>by simp at h;simp[h]
 |a::l,0,_,_,h2=>by
  have:=h2 (by simp);simp at this;simp[this]
 |a::l,i+1,h,h1,h2=>by
  have ha:=h1 0 (by omega);simp at ha;rw[List.takeWhile_cons,if_pos ha,List.length_cons]
  congr 1
  refine xE (d:=d) (by simp at h;omega) (fun j hj=>?_) (fun hl=>?_)
  ·have:=h1 (j+1) (by omega);simpa using this
  have:=h2 (by simp;omega);simpa using this
end Go.Silo
namespace Go.Proofs.YtipecejghioicaaGreat
open Go.RowKit Go.Silo
def jx (l:List Bb) (x:Int):Nat:=(l.takeWhile (fun y=>decide (y.id<x))).length
def Dk (l:List Bb) (x:Int):Bool:=decide (jx l x<l.length∧(l.getD (jx l x) default).id=x)
def DX (l:List Bb) (x:Bb):List Bb:=xV (jx l x.id) (Dk l x.id) x l
def xl {α:Type}(key:α→ByteArray) (l:List α) (x:ByteArray):Nat:=(l.takeWhile (fun y=>qr (key y) x)).length
def Cw {α:Type} [Inhabited α] (key:α→ByteArray) (l:List α) (x:ByteArray):Bool:=decide (xl key l x<l.length∧key (l.getD (xl key l x) default)=x)
def ZK {α:Type} [Inhabited α] (key:α→ByteArray) (l:List α) (x:α):List α:=xV (xl key l (key x)) (Cw key l (key x)) x l
theorem Xx {l:List Bb}{x:Int}{k:Nat}{is:Bool}(hk:k≤l.length) (e:is=decide (k<l.length∧(l.getD k default).id=x)) (h1:∀j,j<k→(l.getD j default).id<x) (h2:∀j,k≤j→j<l.length→x≤(l.getD j default).id):k=jx l x∧is=Dk l x:=by
 have hp:jx l x=k:=xE (d:=default) hk (fun j hj=>by simpa using h1 j hj) (fun hl=>decide_eq_false (Int.not_lt.2 (h2 k (Nat.le_refl _) hl)));refine⟨hp.symm,?_⟩;unfold Dk;rw[hp];exact e
theorem jJ {α:Type} [Inhabited α] {key:α→ByteArray}{l:List α}{x:ByteArray}{k:Nat}{is:Bool}(hk:k≤l.length) (e:is=decide (k<l.length∧key (l.getD k default)=x)) (h1:∀j,j<k→qr (key (l.getD j default)) x=true) (h2:∀j,k≤j→j<l.length→qr (key (l.getD j default)) x=false):k=xl key l x∧is=Cw key l x:=by
 have hp:xl key l x=k:=xE (d:=default) hk (fun j hj=>h1 j hj) (fun hl=>h2 k (Nat.le_refl _) hl);refine⟨hp.symm,?_⟩;unfold Cw;rw[hp];exact e
theorem Xy (l:List Bb) (x:Int):jx l x≤l.length:=by unfold jx;exact(List.takeWhile_prefix _).length_le
theorem jK {α:Type}(key:α→ByteArray) (l:List α) (x:ByteArray):xl key l x≤l.length:=by unfold xl;exact(List.takeWhile_prefix _).length_le
structure Sorted (b:Book):Prop where
 s:∀i j,i<j→j<b.Ba.length→(b.Ba.getD i default).id<(b.Ba.getD j default).id
 t:∀i j,i<j→j<b.things.length→qr (b.things.getD i default).digest (b.things.getD j default).digest=true
 g:∀i j,i<j→j<b.tags.length→qr (b.tags.getD i default).name (b.tags.getD j default).name=true
def Ex (b:Book) (r:Bt):Book:=
 if r.kind=1 then {b with next:=max b.next (r.id+1)}
 else if r.kind=2 then {b with Ba:=DX b.Ba ⟨r.id,r.list.getD 0 0,r.list.getD 1 0,r.slots⟩,next:=max b.next (r.id+1)}
 else if r.kind=4∨r.kind=5 then {b with things:=ZK Entry.digest b.things ⟨r.digest,r.id,decide (r.kind=5),r.list⟩}
 else {b with tags:=ZK Tag.name b.tags ⟨r.name,r.digest⟩}
def RetDo (X:Nat→Option Obj) (β bb:Nat) (b':Book) (w:World) (e:Ending) (w':World):Prop:=
 e=.returned (.int .i64 0)∧(∃A0 n0 c0 A1 n1 c1 A2 n2 c2,OB X β bb A0 n0 c0 A1 n1 c1 A2 n2 c2 b' w')∧Below β w w'
theorem Do_c {tg:Bool}{S:Nat→Prop}{X:Nat→Option Obj}{β bb:Nat}{w:World}{A0:Option Addr}{n0 c0:Nat}{A1:Option Addr}{n1 c1:Nat}{A2:Option Addr}{n2 c2:Nat}{A4 A5:Option Addr}{n4 c4 n5 c5:Nat}{b:Book}{r:Bt}(gw:OB X β bb A0 n0 c0 A1 n1 c1 A2 n2 c2 b w) (hs:Sorted b)
  (hn:n0≤999999∧n1≤999999∧n2≤999999) (hnx:b.next≤1073741825∧-1≤b.next) (hid:0≤r.id∧r.id≤1073741824) (hst:zd r.name∧zd r.digest) (hl:Sl tg 3 Bd w S A4 n4 c4 r.list) (hsl:Sl tg 88 qz w S A5 n5 c5 r.slots) (hS:∀k,S k→k<β) (rW:n4≤100000000∧n5≤100000000)
  (hk:r.kind=1∨(r.kind=2∧r.list.length=2)∨r.kind=4∨r.kind=5∨r.kind=7):
  Calls Tryz.prog 63 #[.pointer (some ⟨bb,0,none⟩),.agg #[.int .i64 r.kind,.int .i64 r.id,.string r.name,.string r.digest,.slice A4 n4 c4,.slice A5 n5 c5]] w (RetDo X β bb (Ex b r) w):=by
 obtain⟨kd,id,nm,dg,li,xs⟩:=r;simp only at hid hst hl hsl hk⊢;have p8:=gw.box;have hgl:Below w.heap.size w (w.alloc (.cells #[.int .i64 kd,.int .i64 id,.string nm,.string dg,.slice A4 n4 c4,.slice A5 n5 c5] 61)):=(Below.refl _ _).alloc (Nat.le_refl _) _;have mZ:=heap_alloc_new w (.cells #[.int .i64 kd,.int .i64 id,.string nm,.string dg,.slice A4 n4 c4,.slice A5 n5 c5] 61);have gi:=zh (gw.all hgl);have hgb:w.heap.size≠bb:=by omega
 have HG0:Hid (some w.heap.size≠qa A0∧some w.heap.size≠qa A1∧some w.heap.size≠qa A2):=zh ⟨fun e=>by have:=(gw.st.lt _ e.symm).2;omega,fun e=>by have:=(gw.th.lt _ e.symm).2;omega,fun e=>by have:=(gw.ta.lt _ e.symm).2;omega⟩;have HL:=zh (hl.all hgl);have pM:=zh (hsl.all hgl);have gK:=zh (show Below β w (w.alloc (.cells #[.int .i64 kd,.int .i64 id,.string nm,.string dg,.slice A4 n4 c4,.slice A5 n5 c5] 61)) from hgl.mono (Nat.le_trans gw.lo (Nat.le_of_lt p8)));have hlo:=gw.lo;have HN:=zh (And.intro gw.st.len (And.intro gw.th.len gw.ta.len));have pm:=zh hs;have hI1:Bo (id+1):=by unfold Bo;omega
 have hI2:Bo (max b.next (id+1)):=by unfold Bo;omega
 have hI0:Bo id:=by unfold Bo;omega
 have HFL:Hid (∀k,S k→k<(w.alloc (.cells #[.int .i64 kd,.int .i64 id,.string nm,.string dg,.slice A4 n4 c4,.slice A5 n5 c5] 61)).heap.size∧some k≠qa A0∧k≠bb):=zh (fun k hk=>by
  have h1:=hS k hk;refine⟨by simp;omega,fun e=>?_,by omega⟩
  have:=(gw.st.lt _ e.symm).1;omega)
 clear gw hl hsl hs
 go_enter Tryz.func63,Tryz.ntmps63
 rcases hk with rfl|⟨rfl,h2⟩|hk45|hk5|rfl
 ·skip
  go_upto_region 3 with (fail)
  generalize (w.alloc (.cells #[.int .i64 1,.int .i64 id,.string nm,.string dg,.slice A4 n4 c4,.slice A5 n5 c5] 61))=w1 at *;have RR:=zh mZ;clear mZ hgl;refine do3 gi RR hI1 hI2 rfl rfl rfl ?_;intro v wz hob2 hb2;simp only[qc,BR,BS,BU,BV,Act.put,BO,BP,BQ];have rE:=zh hob2;have gu:=zh (gK.out.trans hb2);clear hob2 hb2;go_wp2
  go_ret
  exact⟨by trivial,⟨_,_,_,_,_,_,_,_,_,rE.out⟩,gu.out⟩
 ·skip
  go_upto_region 5 with (fail)
  generalize (w.alloc (.cells #[.int .i64 2,.int .i64 id,.string nm,.string dg,.slice A4 n4 c4,.slice A5 n5 c5] 61))=w1 at *;have RR:=zh mZ;clear mZ hgl
  refine do5 (P:=fun k is=>k=jx b.Ba id∧is=Dk b.Ba id) gi RR (zh (fun V hV=>(kS (w:=V) (nx:=b.next) (x:=id) ((gi.out.all hV).st.sl (tg:=true)) (by omega) (fun i j h1 h2=>pm.out.s i j h1 (by rw[HN.out.1];exact h2))).mono (fun e w' he=>by
   obtain⟨k,hk,e1,h1,h2,hb⟩:=he
   exact⟨k,_,e1,Xx hk rfl h1 h2,hb⟩))) rfl rfl rfl ?_
  intro v w2 k is hv1 hv2 hp hb2;simp only[qc,BR,BS,BU,BV,Act.put,BO,BP,BQ];rw[hv1,hv2];obtain⟨rfl,rfl⟩:=hp;have rE:=zh (gi.out.all hb2);have RR2:=zh (zb hb2 RR.out);have gu:=zh (gK.out.trans (hb2.mono (Nat.le_trans hlo (Nat.le_of_lt gi.out.box))));have HSL2:=zh (pM.out.all hb2);have hlen:n4=2:=by rw[←h2];exact HL.out.len.symm
  subst hlen;obtain⟨b4,o4,eA4,hSb,hb4,q0,y0,_⟩:=(HL.out.all hb2).BD (k:=0) (by omega);obtain⟨b4',o4',eB4,_,_,q1,y1,_⟩:=(HL.out.all hb2).BD (k:=1) (by omega);subst eA4;injection eB4 with eB4;injection eB4 with e1 e2;subst e1;subst e2
  have HF4:=zh (HFL.out b4 hSb);rw[Nat.add_zero] at y0;have yI:Hid (∀V:World,V.heap[b4]?=w2.heap[b4]?→V.cell? ⟨b4,o4,none⟩=some (.int .i64 (li.getD 0 0))∧V.cell? ⟨b4,o4+1,none⟩=some (.int .i64 (li.getD 1 0))):=zh (fun V hV=>⟨(World.cell?_of_block (a:=⟨b4,o4,none⟩) hV).trans y0,(World.cell?_of_block (a:=⟨b4,o4+1,none⟩) hV).trans y1⟩);have HQ:=zh (And.intro hI0 (And.intro q0 q1));clear y0 y1 q0 q1 hv1 hv2 hSb
  go_upto_region 6 with (fail)
  refine do6 (q0:=li.getD 0 0) (q1:=li.getD 1 0) (xs:=xs) HQ.out rE RR2 hgb HG0.out.1 (by rw[←HN.out.1];exact Xy _ _) (fun h=>by unfold Dk at h;have:=of_decide_eq_true h;rw[←HN.out.1];exact this.1) hn.1 (zh (fun V hV=>Qd (HSL2.out.all hV) rW.2)) ⟨hb4,HF4.out.2.1,HF4.out.2.2⟩ yI rfl rfl rfl rfl rfl ?_;intro v w3 A' n' c' nR hr3 hb3;simp only[qc,BR,BS,BU,BV,Act.put,BO,BP,BQ];have uA:=zh nR;have RR3:=zh hr3;have gG:=zh (gu.out.trans hb3);clear nR hr3 hb3
  go_upto_region 7 with (fail)
  refine do7 uA RR3 hI1 hI2 rfl rfl rfl ?_;intro v wz hob4 hb4;simp only[qc,BR,BS,BU,BV,Act.put,BO,BP,BQ];have yH:=zh hob4;have gv:=zh (gG.out.trans hb4);clear hob4 hb4;go_wp2
  go_ret
  exact⟨by trivial,⟨_,_,_,_,_,_,_,_,_,yH.out⟩,gv.out⟩
 ·subst hk45
  go_upto_region 13 with (fail)
  generalize (w.alloc (.cells #[.int .i64 4,.int .i64 id,.string nm,.string dg,.slice A4 n4 c4,.slice A5 n5 c5] 61))=w1 at *;have RR:=zh mZ;clear mZ hgl
  refine do13 (P:=fun k is=>k=xl Entry.digest b.things dg∧is=Cw Entry.digest b.things dg) gi RR (zh (fun V hV=>(Zc (w:=V) (nx:=b.next) (x:=dg) ((gi.out.all hV).th.sl (tg:=true)) (by omega) (fun i j h1 h2=>pm.out.t i j h1 (by rw[HN.out.2.1];exact h2))).mono (fun e w' he=>by
   obtain⟨k,hk,e1,h1,h2,hb⟩:=he
   exact⟨k,_,e1,jJ hk rfl h1 h2,hb⟩))) rfl rfl rfl ?_
  intro v w2 k is hv1 hv2 hp hb2;simp only[qc,BR,BS,BU,BV,Act.put,BO,BP,BQ];rw[hv1,hv2];obtain⟨rfl,rfl⟩:=hp;have rE:=zh (gi.out.all hb2);have RR2:=zh (zb hb2 RR.out);have gu:=zh (gK.out.trans (hb2.mono (Nat.le_trans hlo (Nat.le_of_lt gi.out.box))));have uk:=zh (HL.out.all hb2);clear hv1 hv2 hb2
  go_upto_region 14 with (fail)
  refine do14 (BC:=false) (xs:=li) ⟨hst.2,hI0⟩ (by decide) (by decide) rE RR2 hgb HG0.out.2.1 (by rw[←HN.out.2.1];exact jK _ _ _) (fun h=>by unfold Cw at h;have:=of_decide_eq_true h;rw[←HN.out.2.1];exact this.1) hn.2.1 (zh (fun V hV=>jQ (uk.out.all hV) rW.1)) rfl rfl rfl rfl rfl ?_;intro v w3 A' n' c' nR _ hb3;simp only[qc,BR,BS,BU,BV,Act.put,BO,BP,BQ];have uA:=zh nR;have gG:=zh (gu.out.trans hb3);clear nR hb3;go_wp2
  go_ret
  exact⟨by trivial,⟨_,_,_,_,_,_,_,_,_,uA.out⟩,gG.out⟩
 ·subst hk5
  go_upto_region 13 with (fail)
  generalize (w.alloc (.cells #[.int .i64 5,.int .i64 id,.string nm,.string dg,.slice A4 n4 c4,.slice A5 n5 c5] 61))=w1 at *;have RR:=zh mZ;clear mZ hgl
  refine do13 (P:=fun k is=>k=xl Entry.digest b.things dg∧is=Cw Entry.digest b.things dg) gi RR (zh (fun V hV=>(Zc (w:=V) (nx:=b.next) (x:=dg) ((gi.out.all hV).th.sl (tg:=true)) (by omega) (fun i j h1 h2=>pm.out.t i j h1 (by rw[HN.out.2.1];exact h2))).mono (fun e w' he=>by
   obtain⟨k,hk,e1,h1,h2,hb⟩:=he
   exact⟨k,_,e1,jJ hk rfl h1 h2,hb⟩))) rfl rfl rfl ?_
  intro v w2 k is hv1 hv2 hp hb2;simp only[qc,BR,BS,BU,BV,Act.put,BO,BP,BQ];rw[hv1,hv2];obtain⟨rfl,rfl⟩:=hp;have rE:=zh (gi.out.all hb2);have RR2:=zh (zb hb2 RR.out);have gu:=zh (gK.out.trans (hb2.mono (Nat.le_trans hlo (Nat.le_of_lt gi.out.box))));have uk:=zh (HL.out.all hb2);clear hv1 hv2 hb2
  go_upto_region 14 with (fail)
  refine do14 (BC:=true) (xs:=li) ⟨hst.2,hI0⟩ (by decide) (by decide) rE RR2 hgb HG0.out.2.1 (by rw[←HN.out.2.1];exact jK _ _ _) (fun h=>by unfold Cw at h;have:=of_decide_eq_true h;rw[←HN.out.2.1];exact this.1) hn.2.1 (zh (fun V hV=>jQ (uk.out.all hV) rW.1)) rfl rfl rfl rfl rfl ?_;intro v w3 A' n' c' nR _ hb3;simp only[qc,BR,BS,BU,BV,Act.put,BO,BP,BQ];have uA:=zh nR;have gG:=zh (gu.out.trans hb3);clear nR hb3;go_wp2
  go_ret
  exact⟨by trivial,⟨_,_,_,_,_,_,_,_,_,uA.out⟩,gG.out⟩
 skip
 go_upto_region 19 with (fail)
 generalize (w.alloc (.cells #[.int .i64 7,.int .i64 id,.string nm,.string dg,.slice A4 n4 c4,.slice A5 n5 c5] 61))=w1 at *;have RR:=zh mZ;clear mZ hgl
 refine do19 (P:=fun k is=>k=xl Tag.name b.tags nm∧is=Cw Tag.name b.tags nm) gi RR (zh (fun V hV=>(kr (w:=V) (x:=nm) ((gi.out.all hV).ta.sl (tg:=true)) (by omega) (fun i j h1 h2=>pm.out.g i j h1 (by rw[HN.out.2.2];exact h2))).mono (fun e w' he=>by
  obtain⟨k,hk,e1,h1,h2,hb⟩:=he
  exact⟨k,_,e1,jJ hk rfl h1 h2,hb⟩))) rfl rfl rfl ?_
 intro v w2 k is hv1 hv2 hp hb2;simp only[qc,BR,BS,BU,BV,Act.put,BO,BP,BQ];rw[hv1,hv2];obtain⟨rfl,rfl⟩:=hp;have rE:=zh (gi.out.all hb2);have RR2:=zh (zb hb2 RR.out);have gu:=zh (gK.out.trans (hb2.mono (Nat.le_trans hlo (Nat.le_of_lt gi.out.box))));clear hv1 hv2 hb2
 go_upto_region 20 with (fail)
 refine do20 hst rE RR2 hgb HG0.out.2.2 (by rw[←HN.out.2.2];exact jK _ _ _) (fun h=>by unfold Cw at h;have:=of_decide_eq_true h;rw[←HN.out.2.2];exact this.1) hn.2.2 rfl rfl rfl rfl rfl ?_;intro v w3 A' n' c' nR _ hb3;simp only[qc,BR,BS,BU,BV,Act.put,BO,BP,BQ];have uA:=zh nR;have gG:=zh (gu.out.trans hb3);clear nR hb3;go_wp2
 go_ret
 exact⟨by trivial,⟨_,_,_,_,_,_,_,_,_,uA.out⟩,gG.out⟩
end Go.Proofs.YtipecejghioicaaGreat
