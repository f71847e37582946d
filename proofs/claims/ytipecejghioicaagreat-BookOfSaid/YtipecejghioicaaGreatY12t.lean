/- Slices.Delete of one element at rows of structures of one's own. -/
import Derived.Test.YtipecejghioicaaGreatY6t
set_option maxHeartbeats 8000000
set_option maxRecDepth 100000
namespace Go.Silo
open Go Go.RowKit
theorem jg {α:Type}{p:α→Bool}{d:α}:∀{l:List α}{i:Nat},i≤l.length→(∀j,j<i→p (l.getD j d)=true)→(i<l.length→p (l.getD i d)=false)→(l.takeWhile p).length=i
 |[],i,h,_,_=>by simp at h;simp[h]
 |a::l,0,_,_,h2=>by
  have:=h2 (by simp);simp at this;simp[this]
 |a::l,i+1,h,h1,h2=>by
  have ha:=h1 0 (by omega);simp at ha;rw[List.takeWhile_cons,if_pos ha,List.length_cons]
  congr 1
  refine jg (d:=d) (by simp at h;omega) (fun j hj=>?_) (fun hl=>?_)
  ·have:=h1 (j+1) (by omega);simpa using this
  have:=h2 (by simp;omega);simpa using this
end Go.Silo
namespace Go.Proofs.YtipecejghioicaaGreat
open Go.RowKit Go.Silo
def xA (l:List Bc) (x:Int):Nat:=(l.takeWhile (fun y=>decide (y.id<x))).length
def CB (l:List Bc) (x:Int):Bool:=decide (xA l x<l.length∧(l.getD (xA l x) default).id=x)
def E8 (l:List Bc) (x:Bc):List Bc:=qV (xA l x.id) (CB l x.id) x l
def zr {α:Type}(key:α→ByteArray) (l:List α) (x:ByteArray):Nat:=(l.takeWhile (fun y=>qr (key y) x)).length
def Ce {α:Type} [Inhabited α] (key:α→ByteArray) (l:List α) (x:ByteArray):Bool:=decide (zr key l x<l.length∧key (l.getD (zr key l x) default)=x)
def ZW {α:Type} [Inhabited α] (key:α→ByteArray) (l:List α) (x:α):List α:=qV (zr key l (key x)) (Ce key l (key x)) x l
theorem kr {l:List Bc}{x:Int}{k:Nat}{is:Bool}(hk:k≤l.length) (e:is=decide (k<l.length∧(l.getD k default).id=x)) (h1:∀j,j<k→(l.getD j default).id<x) (h2:∀j,k≤j→j<l.length→x≤(l.getD j default).id):k=xA l x∧is=CB l x:=by
 have hp:xA l x=k:=jg (d:=default) hk (fun j hj=>by simpa using h1 j hj) (fun hl=>decide_eq_false (Int.not_lt.2 (h2 k (Nat.le_refl _) hl)));refine⟨hp.symm,?_⟩;unfold CB;rw[hp];exact e
theorem zG {α:Type} [Inhabited α] {key:α→ByteArray}{l:List α}{x:ByteArray}{k:Nat}{is:Bool}(hk:k≤l.length) (e:is=decide (k<l.length∧key (l.getD k default)=x)) (h1:∀j,j<k→qr (key (l.getD j default)) x=true) (h2:∀j,k≤j→j<l.length→qr (key (l.getD j default)) x=false):k=zr key l x∧is=Ce key l x:=by
 have hp:zr key l x=k:=jg (d:=default) hk (fun j hj=>h1 j hj) (fun hl=>h2 k (Nat.le_refl _) hl);refine⟨hp.symm,?_⟩;unfold Ce;rw[hp];exact e
theorem Ji (l:List Bc) (x:Int):xA l x≤l.length:=by unfold xA;exact(List.takeWhile_prefix _).length_le
theorem ks {α:Type}(key:α→ByteArray) (l:List α) (x:ByteArray):zr key l x≤l.length:=by unfold zr;exact(List.takeWhile_prefix _).length_le
structure Sorted (b:Book):Prop where
 s:∀i j,i<j→j<b.Ba.length→(b.Ba.getD i default).id<(b.Ba.getD j default).id
 t:∀i j,i<j→j<b.things.length→qr (b.things.getD i default).digest (b.things.getD j default).digest=true
 g:∀i j,i<j→j<b.tags.length→qr (b.tags.getD i default).name (b.tags.getD j default).name=true
def EK (b:Book) (r:Bb):Book:=
 if r.kind=1 then {b with next:=max b.next (r.id+1)}
 else if r.kind=2 then {b with Ba:=E8 b.Ba ⟨r.id,r.list.getD 0 0,r.list.getD 1 0,r.slots⟩,next:=max b.next (r.id+1)}
 else if r.kind=4∨r.kind=5 then {b with things:=ZW Entry.digest b.things ⟨r.digest,r.id,decide (r.kind=5),r.list⟩}
 else {b with tags:=ZW Tag.name b.tags ⟨r.name,r.digest⟩}
def RetDo (X:Nat→Option Obj) (β bb:Nat) (b':Book) (w:World) (e:Ending) (w':World):Prop:=
 e=.returned (.int .i64 0)∧(∃A0 n0 c0 A1 n1 c1 A2 n2 c2,OB X β bb A0 n0 c0 A1 n1 c1 A2 n2 c2 b' w')∧Below β w w'
theorem Do_c {tg:Bool}{S:Nat→Prop}{X:Nat→Option Obj}{β bb:Nat}{w:World}{A0:Option Addr}{n0 c0:Nat}{A1:Option Addr}{n1 c1:Nat}{A2:Option Addr}{n2 c2:Nat}{A4 A5:Option Addr}{n4 c4 n5 c5:Nat}{b:Book}{r:Bb}(mi:OB X β bb A0 n0 c0 A1 n1 c1 A2 n2 c2 b w) (hs:Sorted b)
  (hn:n0≤999999∧n1≤999999∧n2≤999999) (hnx:b.next≤1073741825∧-1≤b.next) (hid:0≤r.id∧r.id≤1073741824) (hst:qM r.name∧qM r.digest) (hl:Sl tg 3 Bo w S A4 n4 c4 r.list) (hsl:Sl tg 88 qq w S A5 n5 c5 r.slots) (hS:∀k,S k→k<β) (mX:n4≤100000000∧n5≤100000000)
  (hk:r.kind=1∨(r.kind=2∧r.list.length=2)∨r.kind=4∨r.kind=5∨r.kind=7):
  Calls Tryz.prog 63 #[.pointer (some ⟨bb,0,none⟩),.agg #[.int .i64 r.kind,.int .i64 r.id,.string r.name,.string r.digest,.slice A4 n4 c4,.slice A5 n5 c5]] w (RetDo X β bb (EK b r) w):=by
 obtain⟨kd,id,nm,dg,li,xs⟩:=r;simp only at hid hst hl hsl hk⊢;have ui:=mi.box;have hgl:Below w.heap.size w (w.alloc (.cells #[.int .i64 kd,.int .i64 id,.string nm,.string dg,.slice A4 n4 c4,.slice A5 n5 c5] 61)):=(Below.refl _ _).alloc (Nat.le_refl _) _;have nv:=heap_alloc_new w (.cells #[.int .i64 kd,.int .i64 id,.string nm,.string dg,.slice A4 n4 c4,.slice A5 n5 c5] 61);have gP:=zh (mi.all hgl);have hgb:w.heap.size≠bb:=by omega
 have HG0:Hid (some w.heap.size≠qd A0∧some w.heap.size≠qd A1∧some w.heap.size≠qd A2):=zh ⟨fun e=>by have:=(mi.st.lt _ e.symm).2;omega,fun e=>by have:=(mi.th.lt _ e.symm).2;omega,fun e=>by have:=(mi.ta.lt _ e.symm).2;omega⟩;have HL:=zh (hl.all hgl);have nI:=zh (hsl.all hgl);have mS:=zh (show Below β w (w.alloc (.cells #[.int .i64 kd,.int .i64 id,.string nm,.string dg,.slice A4 n4 c4,.slice A5 n5 c5] 61)) from hgl.mono (Nat.le_trans mi.lo (Nat.le_of_lt ui)));have hlo:=mi.lo;have HN:=zh (And.intro mi.st.len (And.intro mi.th.len mi.ta.len));have nQ:=zh hs;have hI1:Bf (id+1):=by unfold Bf;omega
 have hI2:Bf (max b.next (id+1)):=by unfold Bf;omega
 have hI0:Bf id:=by unfold Bf;omega
 have HFL:Hid (∀k,S k→k<(w.alloc (.cells #[.int .i64 kd,.int .i64 id,.string nm,.string dg,.slice A4 n4 c4,.slice A5 n5 c5] 61)).heap.size∧some k≠qd A0∧k≠bb):=zh (fun k hk=>by
  have h1:=hS k hk;refine⟨by simp;omega,fun e=>?_,by omega⟩
  have:=(mi.st.lt _ e.symm).1;omega)
 clear mi hl hsl hs
 go_enter Tryz.func63,Tryz.ntmps63
 rcases hk with rfl|⟨rfl,h2⟩|hk45|hk5|rfl
 ·skip
  go_upto_region 3 with (fail)
  generalize (w.alloc (.cells #[.int .i64 1,.int .i64 id,.string nm,.string dg,.slice A4 n4 c4,.slice A5 n5 c5] 61))=w1 at *;have RR:=zh nv;clear nv hgl;refine do3 gP RR hI1 hI2 rfl rfl rfl ?_;intro v wz hob2 hb2;simp only[qb,BH,BI,BJ,BL,Act.put,BD,BF,BG];have pI:=zh hob2;have gF:=zh (mS.out.trans hb2);clear hob2 hb2;go_wp2
  go_ret
  exact⟨by trivial,⟨_,_,_,_,_,_,_,_,_,pI.out⟩,gF.out⟩
 ·skip
  go_upto_region 5 with (fail)
  generalize (w.alloc (.cells #[.int .i64 2,.int .i64 id,.string nm,.string dg,.slice A4 n4 c4,.slice A5 n5 c5] 61))=w1 at *;have RR:=zh nv;clear nv hgl
  refine do5 (P:=fun k is=>k=xA b.Ba id∧is=CB b.Ba id) gP RR (zh (fun V hV=>(Qr (w:=V) (nx:=b.next) (x:=id) ((gP.out.all hV).st.sl (tg:=true)) (by omega) (fun i j h1 h2=>nQ.out.s i j h1 (by rw[HN.out.1];exact h2))).mono (fun e w' he=>by
   obtain⟨k,hk,e1,h1,h2,hb⟩:=he
   exact⟨k,_,e1,kr hk rfl h1 h2,hb⟩))) rfl rfl rfl ?_
  intro v w2 k is hv1 hv2 hp hb2;simp only[qb,BH,BI,BJ,BL,Act.put,BD,BF,BG];rw[hv1,hv2];obtain⟨rfl,rfl⟩:=hp;have pI:=zh (gP.out.all hb2);have RR2:=zh (zb hb2 RR.out);have gF:=zh (mS.out.trans (hb2.mono (Nat.le_trans hlo (Nat.le_of_lt gP.out.box))));have HSL2:=zh (nI.out.all hb2);have hlen:n4=2:=by rw[←h2];exact HL.out.len.symm
  subst hlen;obtain⟨b4,o4,eA4,hSb,hb4,q0,y0,_⟩:=(HL.out.all hb2).BR (k:=0) (by omega);obtain⟨b4',o4',eB4,_,_,q1,y1,_⟩:=(HL.out.all hb2).BR (k:=1) (by omega);subst eA4;injection eB4 with eB4;injection eB4 with e1 e2;subst e1;subst e2
  have HF4:=zh (HFL.out b4 hSb);rw[Nat.add_zero] at y0;have Hb:Hid (∀V:World,V.heap[b4]?=w2.heap[b4]?→V.cell? ⟨b4,o4,none⟩=some (.int .i64 (li.getD 0 0))∧V.cell? ⟨b4,o4+1,none⟩=some (.int .i64 (li.getD 1 0))):=zh (fun V hV=>⟨(World.cell?_of_block (a:=⟨b4,o4,none⟩) hV).trans y0,(World.cell?_of_block (a:=⟨b4,o4+1,none⟩) hV).trans y1⟩);have HQ:=zh (And.intro hI0 (And.intro q0 q1));clear y0 y1 q0 q1 hv1 hv2 hSb
  go_upto_region 6 with (fail)
  refine do6 (q0:=li.getD 0 0) (q1:=li.getD 1 0) (xs:=xs) HQ.out pI RR2 hgb HG0.out.1 (by rw[←HN.out.1];exact Ji _ _) (fun h=>by unfold CB at h;have:=of_decide_eq_true h;rw[←HN.out.1];exact this.1) hn.1 (zh (fun V hV=>jW (HSL2.out.all hV) mX.2)) ⟨hb4,HF4.out.2.1,HF4.out.2.2⟩ Hb rfl rfl rfl rfl rfl ?_;intro v w3 A' n' c' rN hr3 hb3;simp only[qb,BH,BI,BJ,BL,Act.put,BD,BF,BG];have uM:=zh rN;have RR3:=zh hr3;have mr:=zh (gF.out.trans hb3);clear rN hr3 hb3
  go_upto_region 7 with (fail)
  refine do7 uM RR3 hI1 hI2 rfl rfl rfl ?_;intro v wz hob4 hb4;simp only[qb,BH,BI,BJ,BL,Act.put,BD,BF,BG];have HO4:=zh hob4;have gW:=zh (mr.out.trans hb4);clear hob4 hb4;go_wp2
  go_ret
  exact⟨by trivial,⟨_,_,_,_,_,_,_,_,_,HO4.out⟩,gW.out⟩
 ·subst hk45
  go_upto_region 13 with (fail)
  generalize (w.alloc (.cells #[.int .i64 4,.int .i64 id,.string nm,.string dg,.slice A4 n4 c4,.slice A5 n5 c5] 61))=w1 at *;have RR:=zh nv;clear nv hgl
  refine do13 (P:=fun k is=>k=zr Entry.digest b.things dg∧is=Ce Entry.digest b.things dg) gP RR (zh (fun V hV=>(Zr (w:=V) (nx:=b.next) (x:=dg) ((gP.out.all hV).th.sl (tg:=true)) (by omega) (fun i j h1 h2=>nQ.out.t i j h1 (by rw[HN.out.2.1];exact h2))).mono (fun e w' he=>by
   obtain⟨k,hk,e1,h1,h2,hb⟩:=he
   exact⟨k,_,e1,zG hk rfl h1 h2,hb⟩))) rfl rfl rfl ?_
  intro v w2 k is hv1 hv2 hp hb2;simp only[qb,BH,BI,BJ,BL,Act.put,BD,BF,BG];rw[hv1,hv2];obtain⟨rfl,rfl⟩:=hp;have pI:=zh (gP.out.all hb2);have RR2:=zh (zb hb2 RR.out);have gF:=zh (mS.out.trans (hb2.mono (Nat.le_trans hlo (Nat.le_of_lt gP.out.box))));have ul:=zh (HL.out.all hb2);clear hv1 hv2 hb2
  go_upto_region 14 with (fail)
  refine do14 (Bz:=false) (xs:=li) ⟨hst.2,hI0⟩ (by decide) (by decide) pI RR2 hgb HG0.out.2.1 (by rw[←HN.out.2.1];exact ks _ _ _) (fun h=>by unfold Ce at h;have:=of_decide_eq_true h;rw[←HN.out.2.1];exact this.1) hn.2.1 (zh (fun V hV=>jm (ul.out.all hV) mX.1)) rfl rfl rfl rfl rfl ?_;intro v w3 A' n' c' rN _ hb3;simp only[qb,BH,BI,BJ,BL,Act.put,BD,BF,BG];have uM:=zh rN;have mr:=zh (gF.out.trans hb3);clear rN hb3;go_wp2
  go_ret
  exact⟨by trivial,⟨_,_,_,_,_,_,_,_,_,uM.out⟩,mr.out⟩
 ·subst hk5
  go_upto_region 13 with (fail)
  generalize (w.alloc (.cells #[.int .i64 5,.int .i64 id,.string nm,.string dg,.slice A4 n4 c4,.slice A5 n5 c5] 61))=w1 at *;have RR:=zh nv;clear nv hgl
  refine do13 (P:=fun k is=>k=zr Entry.digest b.things dg∧is=Ce Entry.digest b.things dg) gP RR (zh (fun V hV=>(Zr (w:=V) (nx:=b.next) (x:=dg) ((gP.out.all hV).th.sl (tg:=true)) (by omega) (fun i j h1 h2=>nQ.out.t i j h1 (by rw[HN.out.2.1];exact h2))).mono (fun e w' he=>by
   obtain⟨k,hk,e1,h1,h2,hb⟩:=he
   exact⟨k,_,e1,zG hk rfl h1 h2,hb⟩))) rfl rfl rfl ?_
  intro v w2 k is hv1 hv2 hp hb2;simp only[qb,BH,BI,BJ,BL,Act.put,BD,BF,BG];rw[hv1,hv2];obtain⟨rfl,rfl⟩:=hp;have pI:=zh (gP.out.all hb2);have RR2:=zh (zb hb2 RR.out);have gF:=zh (mS.out.trans (hb2.mono (Nat.le_trans hlo (Nat.le_of_lt gP.out.box))));have ul:=zh (HL.out.all hb2);clear hv1 hv2 hb2
  go_upto_region 14 with (fail)
  refine do14 (Bz:=true) (xs:=li) ⟨hst.2,hI0⟩ (by decide) (by decide) pI RR2 hgb HG0.out.2.1 (by rw[←HN.out.2.1];exact ks _ _ _) (fun h=>by unfold Ce at h;have:=of_decide_eq_true h;rw[←HN.out.2.1];exact this.1) hn.2.1 (zh (fun V hV=>jm (ul.out.all hV) mX.1)) rfl rfl rfl rfl rfl ?_;intro v w3 A' n' c' rN _ hb3;simp only[qb,BH,BI,BJ,BL,Act.put,BD,BF,BG];have uM:=zh rN;have mr:=zh (gF.out.trans hb3);clear rN hb3;go_wp2
  go_ret
  exact⟨by trivial,⟨_,_,_,_,_,_,_,_,_,uM.out⟩,mr.out⟩
 skip
 go_upto_region 19 with (fail)
 generalize (w.alloc (.cells #[.int .i64 7,.int .i64 id,.string nm,.string dg,.slice A4 n4 c4,.slice A5 n5 c5] 61))=w1 at *;have RR:=zh nv;clear nv hgl
 refine do19 (P:=fun k is=>k=zr Tag.name b.tags nm∧is=Ce Tag.name b.tags nm) gP RR (zh (fun V hV=>(kQ (w:=V) (x:=nm) ((gP.out.all hV).ta.sl (tg:=true)) (by omega) (fun i j h1 h2=>nQ.out.g i j h1 (by rw[HN.out.2.2];exact h2))).mono (fun e w' he=>by
  obtain⟨k,hk,e1,h1,h2,hb⟩:=he
  exact⟨k,_,e1,zG hk rfl h1 h2,hb⟩))) rfl rfl rfl ?_
 intro v w2 k is hv1 hv2 hp hb2;simp only[qb,BH,BI,BJ,BL,Act.put,BD,BF,BG];rw[hv1,hv2];obtain⟨rfl,rfl⟩:=hp;have pI:=zh (gP.out.all hb2);have RR2:=zh (zb hb2 RR.out);have gF:=zh (mS.out.trans (hb2.mono (Nat.le_trans hlo (Nat.le_of_lt gP.out.box))));clear hv1 hv2 hb2
 go_upto_region 20 with (fail)
 refine do20 hst pI RR2 hgb HG0.out.2.2 (by rw[←HN.out.2.2];exact ks _ _ _) (fun h=>by unfold Ce at h;have:=of_decide_eq_true h;rw[←HN.out.2.2];exact this.1) hn.2.2 rfl rfl rfl rfl rfl ?_;intro v w3 A' n' c' rN _ hb3;simp only[qb,BH,BI,BJ,BL,Act.put,BD,BF,BG];have uM:=zh rN;have mr:=zh (gF.out.trans hb3);clear rN hb3;go_wp2
 go_ret
 exact⟨by trivial,⟨_,_,_,_,_,_,_,_,_,uM.out⟩,mr.out⟩
end Go.Proofs.YtipecejghioicaaGreat
namespace Go.Silo
open Go Go.RowKit
theorem jh {P:Program}(w:World) (t e ty:TypeId) (z:Value) (vs:List Value) (ht:P.underlying t=some (.slice e)) (hv:∀w,(zeroValue e).run P w=.ok z w) (hz:(Builtin.zeroCells z.cells 1).toList=vs) (h1:∀v∈vs,v.oneCell'=true)
  (g o c:Nat) (cur:Array Value) (T:TypeId) (hg:w.heap[g]?=some (.cells cur T (0,0))) (hfit:o+vs.length≤cur.size):
  (Builtin.clear_ #[t] ty #[.slice (some ⟨g,o,none⟩) 1 c]).run P w=.ok (.tuple #[]) (w.setRow g (cur.toList.take o++vs++cur.toList.drop (o+vs.length)).toArray):=by
 have hst:=run_storeCells_at P g o T vs 0 cur w hg (by simpa using hfit) h1;simp[Builtin.clear_,run_underlying ht,hv,hz,hst]
def xh {α:Type}(i:Nat) (l:List α):List α:=l.take i++l.drop (i+1)
theorem QC {α:Type}{i:Nat}{l:List α}(h:i<l.length):(xh i l).length=l.length - 1:=by simp[xh];omega
def Fp {α:Type}(T:TypeId) (E:Enc α) (w:World) (base:Nat) (S:Nat→Prop) (A:Option Addr) (n c:Nat) (l:List α) (i:Nat) (e:Ending) (w':World):Prop:=
 e=.returned (.slice A (n - 1) c)∧Bi T E w' base S A (n - 1) c (xh i l)∧w.grownBy w' (qd A)
theorem kE {L Z:List Value}{a z N:Nat}(hz:Z.length=z) (ha:a+z≤N) (hN:N≤L.length):
  ((L.take a++(L.take N).drop (a+z)++L.drop (a+((L.take N).drop (a+z)).length)).take (N - z)++Z++(L.take a++(L.take N).drop (a+z)++L.drop (a+((L.take N).drop (a+z)).length)).drop (N - z+Z.length)).take (N - z)=(L.take N).take a++(L.take N).drop (a+z)∧
  (L.take a++(L.take N).drop (a+z)++L.drop (a+((L.take N).drop (a+z)).length)).length=L.length∧
  ((L.take a++(L.take N).drop (a+z)++L.drop (a+((L.take N).drop (a+z)).length)).take (N - z)++Z++(L.take a++(L.take N).drop (a+z)++L.drop (a+((L.take N).drop (a+z)).length)).drop (N - z+Z.length)).length=L.length:=by
 have h1:((L.take N).drop (a+z)).length=N - (a+z):=by rw[List.length_drop,List.length_take,Nat.min_eq_left hN]
 have h2:(L.take a).length=a:=by rw[List.length_take,Nat.min_eq_left (by omega)]
 have h3:(L.take a++(L.take N).drop (a+z)).length=N - z:=by rw[List.length_append,h1,h2];omega
 have h4:(L.take a++(L.take N).drop (a+z)++L.drop (a+((L.take N).drop (a+z)).length)).length=L.length:=by rw[List.length_append,h3,List.length_drop,h1];omega
 have e1:(L.take a++(L.take N).drop (a+z)++L.drop (a+((L.take N).drop (a+z)).length)).take (N - z)=L.take a++(L.take N).drop (a+z):=List.take_left' h3;refine⟨?_,h4,?_⟩
 ·rw[e1,List.append_assoc,List.take_left' h3,List.take_take,Nat.min_eq_left (by omega)]
 have hX:∀X:List Value,X.length=L.length→(X.take (N - z)++Z++X.drop (N - z+Z.length)).length=L.length:=fun X hX=>by simp only[List.length_append,List.length_take,List.length_drop,hX,hz];omega
 exact hX _ h4
end Go.Silo
namespace Go.Proofs.YtipecejghioicaaGreat
open Go.RowKit Go.Silo
theorem QR {tg:Bool}{w:World}{base:Nat}{S:Nat→Prop}{A:Option Addr}{n c i:Nat}{l:List Bc}(h:Bi 86 (qc tg) w base S A n c l) (hi:i<n) (hn:n≤1000000):
  Calls Tryz.prog 123 #[.slice A n c,.int .i64 (i:Int),.int .i64 ((i:Int)+1)] w (Fp 86 (qc tg) w base S A n c l i):=by
 obtain⟨i0,nS,hz0,hz1,hz2⟩:=info_parts Tryz.BV;have mixed:Tryz.prog.follows .mixedOrders=true:=by kernel_rfl
 obtain⟨g,cur,eA,hgb,hgl,hh,hnc,hcm,hcs,hR,hl⟩:=h.row (.inl (by omega));subst eA;have Gf:c≤9223372036854775807:=h.le.2;have hcs:cur.size=c* 4:=hcs;have hR:Reads (qc tg) w (fun b=>S b∧some b≠some g) (cur.toList.take (n* 4)) l:=hR;obtain⟨m,rfl⟩:∃m,n=m+1:=⟨n - 1,by omega⟩;have hN:(m+1)* 4≤c* 4:=Nat.mul_le_mul_right _ hnc;have Hq:i* 4+4≤(m+1)* 4:=by have:=Nat.mul_le_mul_right 4 (show i+1≤m+1 by omega);omega
 obtain⟨news,hnw⟩:∃news,news=(cur.toList.take ((m+1)* 4)).drop (i* 4+4):=⟨_,rfl⟩;have hnl:news.length=(m - i)* 4:=by rw[hnw,List.length_drop,List.length_take,Array.length_toList,Nat.min_eq_left (by omega),Nat.sub_mul];omega
 obtain⟨e1,e2,e3⟩:=kE (L:=cur.toList) (Z:=[.int .i64 0,.int .i64 0,.int .i64 0,.slice none 0 0]) (a:=i* 4) (z:=4) (N:=(m+1)* 4) rfl Hq (by rw[Array.length_toList];omega);rw[←hnw] at e1 e2 e3;rw[show(m+1)* 4 - 4=m* 4 by omega] at e1 e3;obtain⟨c1,hc1⟩:∃c1,c1=cur.toList.take (i* 4)++news++cur.toList.drop (i* 4+news.length):=⟨_,rfl⟩;rw[←hc1] at e1 e2 e3;obtain⟨c2,hc2⟩:∃c2,c2=c1.take (m* 4)++[.int .i64 0,.int .i64 0,.int .i64 0,.slice none 0 0]++c1.drop (m* 4+([.int .i64 0,.int .i64 0,.int .i64 0,.slice none 0 0]:List Value).length):=⟨_,rfl⟩;rw[←hc2] at e1 e3
 obtain⟨A',hA',hsrc⟩:∃A':Addr,(if c=i+1 then some (⟨g,0,none⟩:Addr) else some ⟨g,(i+1)* 4,none⟩)=some A'∧Hid (∀t u,news[t]?=some u→w.drew.cell? (A'.add t)=some u):=by
  by_cases hce:c=i+1
  ·refine⟨⟨g,0,none⟩,by simp[hce],zh (fun t u hu=>?_)⟩;have h0:news.length=0:=(by rw[hnl,show m - i=0 by omega,Nat.zero_mul]);rw[List.length_eq_zero_iff.1 h0] at hu;simp at hu
  refine⟨⟨g,(i+1)* 4,none⟩,by simp[hce],zh (fun t u hu=>?_)⟩;rw[Addr.add_lit,show(i+1)* 4=i* 4+4 by omega];have ht:t<(m - i)* 4:=by have:=(List.getElem?_eq_some_iff.1 hu).1;omega
  rw[hnw,List.getElem?_drop,List.getElem?_take_of_lt (by rw[Nat.sub_mul] at ht;omega)] at hu;exact(cell_of_row w.drew g _ _ _ _ hh).trans (by simpa using hu)
 have HS1:Hid (news.length=(m - i)* 4):=zh hnl;have HS2:Hid (∀u∈news,u.oneCell'=true):=zh (fun u hu=>hR.cells u (List.mem_of_mem_drop (by rw[←hnw];exact hu)))
 have HS3:Hid (∀t,t<news.length→(w.drew.cell? ⟨g,0+i* 4+t,none⟩).isSome=true∧w.drew.frozen? ⟨g,0+i* 4+t,none⟩=false):=zh (fun t ht=>by
  have h1:t<(m - i)* 4:=by omega
  refine⟨?_,frozen_of_row w.drew g _ _ _ hh⟩
  rw[cell_of_row w.drew g _ _ _ _ hh,Array.getElem?_eq_getElem (by rw[Nat.sub_mul] at h1;omega)];rfl)
 obtain⟨W1,hW1⟩:∃W1,W1=w.drew.setCells g (0+i* 4) news:=⟨_,rfl⟩
 have nN:W1.heap[g]?=some (.cells c1.toArray 86 (0,0)):=by
  rw[hW1,hc1,Nat.zero_add];exact xv news (i* 4) cur w.drew hh (by rw[hnl,Nat.sub_mul];omega)
 have hcl:∀ty cc,(Builtin.clear_ #[24] ty #[.slice (some ⟨g,m* 4,none⟩) 1 cc]).run Tryz.prog W1=.ok (.tuple #[]) (W1.setRow g c2.toArray):=fun ty cc=>by
  have:=jh (P:=Tryz.prog) W1 24 86 ty (.agg #[.int .i64 0,.int .i64 0,.int .i64 0,.slice none 0 0]) [.int .i64 0,.int .i64 0,.int .i64 0,.slice none 0 0] Tryz.underlying24 Tryz.zeroValue86 (by first|rfl|decide|(simp[Builtin.zeroCells,Value.cells];done)|(simp[Builtin.zeroCells,Value.cells];rfl)|kernel_rfl) (by simp[Value.oneCell']) g (m* 4) cc c1.toArray 86 nN (by rw[List.size_toArray,e2,Array.length_toList];show m* 4+4≤cur.size;omega);rw[hc2];exact this
 obtain⟨W2,hW2⟩:∃W2,W2=W1.setRow g c2.toArray:=⟨_,rfl⟩;rw[←hW2] at hcl;have vw:W2.heap[g]?=some (.cells c2.toArray 86 (0,0)):=by rw[hW2];exact setRow_heap _ g _ _ 86 (0,0) nN
 have hg1:w.grownBy W1 (some g):=by
  rw[hW1];obtain⟨a,b,c,d,e⟩:=xw (g:=g) news (0+i* 4) w.drew;exact⟨a,b,c,d,e⟩
 have hgr:w.grownBy W2 (some g):=⟨by rw[hW2];exact hg1.os,by rw[hW2];exact hg1.tape,by rw[hW2];exact hg1.output,by rw[hW2,setRow_size];exact hg1.size,fun k hk hne=>by
  rw[hW2];refine(setRow_other _ g k _ (fun e=>hne (by rw[e]))).trans ?_
  rw[hW1];exact zE (fun e=>hne (by rw[e])) _ _ _⟩
 have HOWN:Hid (Bi 86 (qc tg) W2 base S (some ⟨g,0,none⟩) m c (xh i l)):=zh (by
  refine Bi.Co hgb vw (by omega) hcm (by rw[List.size_toArray];exact e3.trans (by rw[Array.length_toList];exact hcs)) ?_ (by rw[QC (by omega)];omega);have h1:=(hR.take (i:=i) (by omega)).append (hR.drop (i:=i+1))
  have e4:c2.toArray.toList.take (m* (qc tg).sz)=(cur.toList.take ((m+1)* 4)).take (i* 4)++(cur.toList.take ((m+1)* 4)).drop ((i+1)* 4):=by
   rw[show(i+1)* 4=i* 4+4 by omega,←hnw];exact e1
  rw[e4]
  exact h1.frame (Agree.grown hgr (fun b hb=>hb.2)) hgr.size)
 have vz:=zh hgr;have HW:=zh hW1;have hic:i≤c:=by omega
 have hjc:i+1≤c:=by omega
 have hmc:m≤c:=by omega
 have hw1:IntKind.i64.wrap ((i:Int)+1)=(i:Int)+1:=by rw[IntKind.wrap_i64];omega
 have hb1:(0:Int)≤(i:Int)+1:=by omega
 have htn:((i:Int)+1).toNat=i+1:=by omega
 have hne:¬((i:Int)=(i:Int)+1):=by omega
 have him:i+(m - i)=m:=by omega
 have hmm:m+1 - (i+1)=m - i:=by omega
 have hsub:m+1 - m=1:=by omega
 have him2:(i:Int)≤(m:Int):=by omega
 clear hW1 hW2 hgr hg1 nN vw e1 e2 e3 hc1 hc2 hnw hnl hR hcs hh hcm h hl
 go_enter Tryz.func123,Tryz.ntmps123
 go_wp2_with fail
 go_region_law_o (refine step_append_room rfl (.tmp 22) (.tmp 25) 24 rfl 86 i0 4 Tryz.underlying24 nS hz1 g 0 i c (by simp[Act.eval,Act.put]) A' (m - i) (c - (i+1)) news (by simp[Act.eval,Act.put]) HS1.out hsrc.out HS2.out (by omega) HS3.out ?_;rw[←HW.out])
 go_wp2
 go_ret
 exact⟨rfl,HOWN.out,vz.out⟩
theorem Zs {tg:Bool}{w:World}{base:Nat}{S:Nat→Prop}{A:Option Addr}{n c i:Nat}{l:List Entry}(h:Bi 90 (qj tg) w base S A n c l) (hi:i<n) (hn:n≤1000000):
  Calls Tryz.prog 127 #[.slice A n c,.int .i64 (i:Int),.int .i64 ((i:Int)+1)] w (Fp 90 (qj tg) w base S A n c l i):=by
 obtain⟨i0,nS,hz0,hz1,hz2⟩:=info_parts Tryz.Bu;have mixed:Tryz.prog.follows .mixedOrders=true:=by kernel_rfl
 obtain⟨g,cur,eA,hgb,hgl,hh,hnc,hcm,hcs,hR,hl⟩:=h.row (.inl (by omega));subst eA;have Gf:c≤9223372036854775807:=h.le.2;have hcs:cur.size=c* 4:=hcs;have hR:Reads (qj tg) w (fun b=>S b∧some b≠some g) (cur.toList.take (n* 4)) l:=hR;obtain⟨m,rfl⟩:∃m,n=m+1:=⟨n - 1,by omega⟩;have hN:(m+1)* 4≤c* 4:=Nat.mul_le_mul_right _ hnc;have Hq:i* 4+4≤(m+1)* 4:=by have:=Nat.mul_le_mul_right 4 (show i+1≤m+1 by omega);omega
 obtain⟨news,hnw⟩:∃news,news=(cur.toList.take ((m+1)* 4)).drop (i* 4+4):=⟨_,rfl⟩;have hnl:news.length=(m - i)* 4:=by rw[hnw,List.length_drop,List.length_take,Array.length_toList,Nat.min_eq_left (by omega),Nat.sub_mul];omega
 obtain⟨e1,e2,e3⟩:=kE (L:=cur.toList) (Z:=[.string ByteArray.empty,.int .i64 0,.bool false,.slice none 0 0]) (a:=i* 4) (z:=4) (N:=(m+1)* 4) rfl Hq (by rw[Array.length_toList];omega);rw[←hnw] at e1 e2 e3;rw[show(m+1)* 4 - 4=m* 4 by omega] at e1 e3;obtain⟨c1,hc1⟩:∃c1,c1=cur.toList.take (i* 4)++news++cur.toList.drop (i* 4+news.length):=⟨_,rfl⟩;rw[←hc1] at e1 e2 e3;obtain⟨c2,hc2⟩:∃c2,c2=c1.take (m* 4)++[.string ByteArray.empty,.int .i64 0,.bool false,.slice none 0 0]++c1.drop (m* 4+([.string ByteArray.empty,.int .i64 0,.bool false,.slice none 0 0]:List Value).length):=⟨_,rfl⟩;rw[←hc2] at e1 e3
 obtain⟨A',hA',hsrc⟩:∃A':Addr,(if c=i+1 then some (⟨g,0,none⟩:Addr) else some ⟨g,(i+1)* 4,none⟩)=some A'∧Hid (∀t u,news[t]?=some u→w.drew.cell? (A'.add t)=some u):=by
  by_cases hce:c=i+1
  ·refine⟨⟨g,0,none⟩,by simp[hce],zh (fun t u hu=>?_)⟩;have h0:news.length=0:=(by rw[hnl,show m - i=0 by omega,Nat.zero_mul]);rw[List.length_eq_zero_iff.1 h0] at hu;simp at hu
  refine⟨⟨g,(i+1)* 4,none⟩,by simp[hce],zh (fun t u hu=>?_)⟩;rw[Addr.add_lit,show(i+1)* 4=i* 4+4 by omega];have ht:t<(m - i)* 4:=by have:=(List.getElem?_eq_some_iff.1 hu).1;omega
  rw[hnw,List.getElem?_drop,List.getElem?_take_of_lt (by rw[Nat.sub_mul] at ht;omega)] at hu;exact(cell_of_row w.drew g _ _ _ _ hh).trans (by simpa using hu)
 have HS1:Hid (news.length=(m - i)* 4):=zh hnl;have HS2:Hid (∀u∈news,u.oneCell'=true):=zh (fun u hu=>hR.cells u (List.mem_of_mem_drop (by rw[←hnw];exact hu)))
 have HS3:Hid (∀t,t<news.length→(w.drew.cell? ⟨g,0+i* 4+t,none⟩).isSome=true∧w.drew.frozen? ⟨g,0+i* 4+t,none⟩=false):=zh (fun t ht=>by
  have h1:t<(m - i)* 4:=by omega
  refine⟨?_,frozen_of_row w.drew g _ _ _ hh⟩
  rw[cell_of_row w.drew g _ _ _ _ hh,Array.getElem?_eq_getElem (by rw[Nat.sub_mul] at h1;omega)];rfl)
 obtain⟨W1,hW1⟩:∃W1,W1=w.drew.setCells g (0+i* 4) news:=⟨_,rfl⟩
 have nN:W1.heap[g]?=some (.cells c1.toArray 90 (0,0)):=by
  rw[hW1,hc1,Nat.zero_add];exact xv news (i* 4) cur w.drew hh (by rw[hnl,Nat.sub_mul];omega)
 have hcl:∀ty cc,(Builtin.clear_ #[25] ty #[.slice (some ⟨g,m* 4,none⟩) 1 cc]).run Tryz.prog W1=.ok (.tuple #[]) (W1.setRow g c2.toArray):=fun ty cc=>by
  have:=jh (P:=Tryz.prog) W1 25 90 ty (.agg #[.string ByteArray.empty,.int .i64 0,.bool false,.slice none 0 0]) [.string ByteArray.empty,.int .i64 0,.bool false,.slice none 0 0] Tryz.underlying25 Tryz.zeroValue90 (by first|rfl|decide|(simp[Builtin.zeroCells,Value.cells];done)|(simp[Builtin.zeroCells,Value.cells];rfl)|kernel_rfl) (by simp[Value.oneCell']) g (m* 4) cc c1.toArray 90 nN (by rw[List.size_toArray,e2,Array.length_toList];show m* 4+4≤cur.size;omega);rw[hc2];exact this
 obtain⟨W2,hW2⟩:∃W2,W2=W1.setRow g c2.toArray:=⟨_,rfl⟩;rw[←hW2] at hcl;have vw:W2.heap[g]?=some (.cells c2.toArray 90 (0,0)):=by rw[hW2];exact setRow_heap _ g _ _ 90 (0,0) nN
 have hg1:w.grownBy W1 (some g):=by
  rw[hW1];obtain⟨a,b,c,d,e⟩:=xw (g:=g) news (0+i* 4) w.drew;exact⟨a,b,c,d,e⟩
 have hgr:w.grownBy W2 (some g):=⟨by rw[hW2];exact hg1.os,by rw[hW2];exact hg1.tape,by rw[hW2];exact hg1.output,by rw[hW2,setRow_size];exact hg1.size,fun k hk hne=>by
  rw[hW2];refine(setRow_other _ g k _ (fun e=>hne (by rw[e]))).trans ?_
  rw[hW1];exact zE (fun e=>hne (by rw[e])) _ _ _⟩
 have HOWN:Hid (Bi 90 (qj tg) W2 base S (some ⟨g,0,none⟩) m c (xh i l)):=zh (by
  refine Bi.Co hgb vw (by omega) hcm (by rw[List.size_toArray];exact e3.trans (by rw[Array.length_toList];exact hcs)) ?_ (by rw[QC (by omega)];omega);have h1:=(hR.take (i:=i) (by omega)).append (hR.drop (i:=i+1))
  have e4:c2.toArray.toList.take (m* (qj tg).sz)=(cur.toList.take ((m+1)* 4)).take (i* 4)++(cur.toList.take ((m+1)* 4)).drop ((i+1)* 4):=by
   rw[show(i+1)* 4=i* 4+4 by omega,←hnw];exact e1
  rw[e4]
  exact h1.frame (Agree.grown hgr (fun b hb=>hb.2)) hgr.size)
 have vz:=zh hgr;have HW:=zh hW1;have hic:i≤c:=by omega
 have hjc:i+1≤c:=by omega
 have hmc:m≤c:=by omega
 have hw1:IntKind.i64.wrap ((i:Int)+1)=(i:Int)+1:=by rw[IntKind.wrap_i64];omega
 have hb1:(0:Int)≤(i:Int)+1:=by omega
 have htn:((i:Int)+1).toNat=i+1:=by omega
 have hne:¬((i:Int)=(i:Int)+1):=by omega
 have him:i+(m - i)=m:=by omega
 have hmm:m+1 - (i+1)=m - i:=by omega
 have hsub:m+1 - m=1:=by omega
 have him2:(i:Int)≤(m:Int):=by omega
 clear hW1 hW2 hgr hg1 nN vw e1 e2 e3 hc1 hc2 hnw hnl hR hcs hh hcm h hl
 go_enter Tryz.func127,Tryz.ntmps127
 go_wp2_with fail
 go_region_law_o (refine step_append_room rfl (.tmp 22) (.tmp 25) 25 rfl 90 i0 4 Tryz.underlying25 nS hz1 g 0 i c (by simp[Act.eval,Act.put]) A' (m - i) (c - (i+1)) news (by simp[Act.eval,Act.put]) HS1.out hsrc.out HS2.out (by omega) HS3.out ?_;rw[←HW.out])
 go_wp2
 go_ret
 exact⟨rfl,HOWN.out,vz.out⟩
theorem XJ {w:World}{base:Nat}{S:Nat→Prop}{A:Option Addr}{n c i:Nat}{l:List Tag}(h:Bi 94 Bw w base S A n c l) (hi:i<n) (hn:n≤1000000):
  Calls Tryz.prog 130 #[.slice A n c,.int .i64 (i:Int),.int .i64 ((i:Int)+1)] w (Fp 94 Bw w base S A n c l i):=by
 obtain⟨i0,nS,hz0,hz1,hz2⟩:=info_parts Tryz.BX;have mixed:Tryz.prog.follows .mixedOrders=true:=by kernel_rfl
 obtain⟨g,cur,eA,hgb,hgl,hh,hnc,hcm,hcs,hR,hl⟩:=h.row (.inl (by omega));subst eA;have Gf:c≤9223372036854775807:=h.le.2;have hcs:cur.size=c* 2:=hcs;have hR:Reads Bw w (fun b=>S b∧some b≠some g) (cur.toList.take (n* 2)) l:=hR;obtain⟨m,rfl⟩:∃m,n=m+1:=⟨n - 1,by omega⟩;have hN:(m+1)* 2≤c* 2:=Nat.mul_le_mul_right _ hnc;have Hq:i* 2+2≤(m+1)* 2:=by have:=Nat.mul_le_mul_right 2 (show i+1≤m+1 by omega);omega
 obtain⟨news,hnw⟩:∃news,news=(cur.toList.take ((m+1)* 2)).drop (i* 2+2):=⟨_,rfl⟩;have hnl:news.length=(m - i)* 2:=by rw[hnw,List.length_drop,List.length_take,Array.length_toList,Nat.min_eq_left (by omega),Nat.sub_mul];omega
 obtain⟨e1,e2,e3⟩:=kE (L:=cur.toList) (Z:=[.string ByteArray.empty,.string ByteArray.empty]) (a:=i* 2) (z:=2) (N:=(m+1)* 2) rfl Hq (by rw[Array.length_toList];omega);rw[←hnw] at e1 e2 e3;rw[show(m+1)* 2 - 2=m* 2 by omega] at e1 e3;obtain⟨c1,hc1⟩:∃c1,c1=cur.toList.take (i* 2)++news++cur.toList.drop (i* 2+news.length):=⟨_,rfl⟩;rw[←hc1] at e1 e2 e3;obtain⟨c2,hc2⟩:∃c2,c2=c1.take (m* 2)++[.string ByteArray.empty,.string ByteArray.empty]++c1.drop (m* 2+([.string ByteArray.empty,.string ByteArray.empty]:List Value).length):=⟨_,rfl⟩;rw[←hc2] at e1 e3
 obtain⟨A',hA',hsrc⟩:∃A':Addr,(if c=i+1 then some (⟨g,0,none⟩:Addr) else some ⟨g,(i+1)* 2,none⟩)=some A'∧Hid (∀t u,news[t]?=some u→w.drew.cell? (A'.add t)=some u):=by
  by_cases hce:c=i+1
  ·refine⟨⟨g,0,none⟩,by simp[hce],zh (fun t u hu=>?_)⟩;have h0:news.length=0:=(by rw[hnl,show m - i=0 by omega,Nat.zero_mul]);rw[List.length_eq_zero_iff.1 h0] at hu;simp at hu
  refine⟨⟨g,(i+1)* 2,none⟩,by simp[hce],zh (fun t u hu=>?_)⟩;rw[Addr.add_lit,show(i+1)* 2=i* 2+2 by omega];have ht:t<(m - i)* 2:=by have:=(List.getElem?_eq_some_iff.1 hu).1;omega
  rw[hnw,List.getElem?_drop,List.getElem?_take_of_lt (by rw[Nat.sub_mul] at ht;omega)] at hu;exact(cell_of_row w.drew g _ _ _ _ hh).trans (by simpa using hu)
 have HS1:Hid (news.length=(m - i)* 2):=zh hnl;have HS2:Hid (∀u∈news,u.oneCell'=true):=zh (fun u hu=>hR.cells u (List.mem_of_mem_drop (by rw[←hnw];exact hu)))
 have HS3:Hid (∀t,t<news.length→(w.drew.cell? ⟨g,0+i* 2+t,none⟩).isSome=true∧w.drew.frozen? ⟨g,0+i* 2+t,none⟩=false):=zh (fun t ht=>by
  have h1:t<(m - i)* 2:=by omega
  refine⟨?_,frozen_of_row w.drew g _ _ _ hh⟩
  rw[cell_of_row w.drew g _ _ _ _ hh,Array.getElem?_eq_getElem (by rw[Nat.sub_mul] at h1;omega)];rfl)
 obtain⟨W1,hW1⟩:∃W1,W1=w.drew.setCells g (0+i* 2) news:=⟨_,rfl⟩
 have nN:W1.heap[g]?=some (.cells c1.toArray 94 (0,0)):=by
  rw[hW1,hc1,Nat.zero_add];exact xv news (i* 2) cur w.drew hh (by rw[hnl,Nat.sub_mul];omega)
 have hcl:∀ty cc,(Builtin.clear_ #[26] ty #[.slice (some ⟨g,m* 2,none⟩) 1 cc]).run Tryz.prog W1=.ok (.tuple #[]) (W1.setRow g c2.toArray):=fun ty cc=>by
  have:=jh (P:=Tryz.prog) W1 26 94 ty (.agg #[.string ByteArray.empty,.string ByteArray.empty]) [.string ByteArray.empty,.string ByteArray.empty] Tryz.underlying26 Tryz.zeroValue94 (by first|rfl|decide|(simp[Builtin.zeroCells,Value.cells];done)|(simp[Builtin.zeroCells,Value.cells];rfl)|kernel_rfl) (by simp[Value.oneCell']) g (m* 2) cc c1.toArray 94 nN (by rw[List.size_toArray,e2,Array.length_toList];show m* 2+2≤cur.size;omega);rw[hc2];exact this
 obtain⟨W2,hW2⟩:∃W2,W2=W1.setRow g c2.toArray:=⟨_,rfl⟩;rw[←hW2] at hcl;have vw:W2.heap[g]?=some (.cells c2.toArray 94 (0,0)):=by rw[hW2];exact setRow_heap _ g _ _ 94 (0,0) nN
 have hg1:w.grownBy W1 (some g):=by
  rw[hW1];obtain⟨a,b,c,d,e⟩:=xw (g:=g) news (0+i* 2) w.drew;exact⟨a,b,c,d,e⟩
 have hgr:w.grownBy W2 (some g):=⟨by rw[hW2];exact hg1.os,by rw[hW2];exact hg1.tape,by rw[hW2];exact hg1.output,by rw[hW2,setRow_size];exact hg1.size,fun k hk hne=>by
  rw[hW2];refine(setRow_other _ g k _ (fun e=>hne (by rw[e]))).trans ?_
  rw[hW1];exact zE (fun e=>hne (by rw[e])) _ _ _⟩
 have HOWN:Hid (Bi 94 Bw W2 base S (some ⟨g,0,none⟩) m c (xh i l)):=zh (by
  refine Bi.Co hgb vw (by omega) hcm (by rw[List.size_toArray];exact e3.trans (by rw[Array.length_toList];exact hcs)) ?_ (by rw[QC (by omega)];omega);have h1:=(hR.take (i:=i) (by omega)).append (hR.drop (i:=i+1))
  have e4:c2.toArray.toList.take (m* Bw.sz)=(cur.toList.take ((m+1)* 2)).take (i* 2)++(cur.toList.take ((m+1)* 2)).drop ((i+1)* 2):=by
   rw[show(i+1)* 2=i* 2+2 by omega,←hnw];exact e1
  rw[e4]
  exact h1.frame (Agree.grown hgr (fun b hb=>hb.2)) hgr.size)
 have vz:=zh hgr;have HW:=zh hW1;have hic:i≤c:=by omega
 have hjc:i+1≤c:=by omega
 have hmc:m≤c:=by omega
 have hw1:IntKind.i64.wrap ((i:Int)+1)=(i:Int)+1:=by rw[IntKind.wrap_i64];omega
 have hb1:(0:Int)≤(i:Int)+1:=by omega
 have htn:((i:Int)+1).toNat=i+1:=by omega
 have hne:¬((i:Int)=(i:Int)+1):=by omega
 have him:i+(m - i)=m:=by omega
 have hmm:m+1 - (i+1)=m - i:=by omega
 have hsub:m+1 - m=1:=by omega
 have him2:(i:Int)≤(m:Int):=by omega
 clear hW1 hW2 hgr hg1 nN vw e1 e2 e3 hc1 hc2 hnw hnl hR hcs hh hcm h hl
 go_enter Tryz.func130,Tryz.ntmps130
 go_wp2_with fail
 go_region_law_o (refine step_append_room rfl (.tmp 22) (.tmp 25) 26 rfl 94 i0 2 Tryz.underlying26 nS hz1 g 0 i c (by simp[Act.eval,Act.put]) A' (m - i) (c - (i+1)) news (by simp[Act.eval,Act.put]) HS1.out hsrc.out HS2.out (by omega) HS3.out ?_;rw[←HW.out])
 go_wp2
 go_ret
 exact⟨rfl,HOWN.out,vz.out⟩
end Go.Proofs.YtipecejghioicaaGreat
