/- The data of the program, as plain structures; how each kind lies in cells; element k of a slice. -/
import Derived.Test.YtipecejghioicaaGreatBasep
import Derived.Maps.OwnSet
namespace Go.Silo
open Go.RowKit
theorem zo {w:World}{g:Nat}{cs:Array Value}{t:TypeId}{fr:Nat×Nat}(j:Nat) (h:w.heap[g]?=some (.cells cs t fr)):w.cell? ⟨g,j,none⟩=cs[j]?:=cell_of_row w g j cs t fr h
theorem zc {w:World}{g:Nat}{cs:Array Value}{t:TypeId}{fr:Nat×Nat}(j:Nat) (h:w.heap[g]?=some (.cells cs t fr)) (x:Value) (e:cs[j]?=some x):w.cell? ⟨g,j,none⟩=some x:=(cell_of_row w g j cs t fr h).trans e
theorem zf {w:World}{g:Nat}{cs:Array Value}{t:TypeId}(j:Nat) (h:w.heap[g]?=some (.cells cs t (0,0))):w.frozen? ⟨g,j,none⟩=false:=frozen_of_row w g j cs t h
theorem zh {p:Prop}(h:p):Hid p:=Lib.hid h
theorem zl {α:Type}{a:Array α}{i:Nat}{x:α}(h:a[i]?=some x):i<a.size:=(Array.getElem?_eq_some_iff.1 h).1
theorem zb {w w':World}{g:Nat}{x:Obj}(b:Below w.heap.size w w') (h:w.heap[g]?=some x):w'.heap[g]?=some x:=(b.block _ (zl h)).trans h
theorem zv {a b:Value}(h:a=b) (c:Value) (e:b=c):a=c:=h.trans e
theorem zu {w w' w'':World}(h:Hid (Below w.heap.size w w')) (k:Below w'.heap.size w' w''):Below w.heap.size w w'':=h.out.trans (k.mono h.out.size)
theorem zt {w w' w'':World}(h:Hid (Below w.heap.size w w')) (k:Below w'.heap.size w' w''):Hid (Below w.heap.size w w''):=h.out.trans (k.mono h.out.size)
theorem bz {B:Nat}{w w':World}(h:Below B w w':=by repeat' (first|(with_reducible exact Below.refl _ _)|(with_reducible refine Below.alloc ?_ ?_ _)|(with_reducible refine Below.drew ?_)|(with_reducible refine below_drewN ?_ _)|(with_reducible refine Below.setCell ?_ ?_ _)|(refine via ?_ (by with_reducible assumption) ?_)|(refine via ?_ (zn _ _) ?_)|go_size)):Below B w w':=h
theorem BC {α:Type}(l:List α) (i:Nat) (a:α):l.toArray.setIfInBounds i a=(l.set i a).toArray:=List.setIfInBounds_toArray l i a
theorem BD {α:Type}{x:α}{xs:List α}{i:Nat}{a:α}:(x::xs).set (i+1) a=x::xs.set i a:=rfl
theorem BF {α:Type}{x:α}{xs:List α}{a:α}:(x::xs).set 0 a=a::xs:=rfl
theorem BG {α β:Type}{f:α→β}{a:α}{l:List α}:(a::l).map f=f a::l.map f:=rfl
theorem BH {α β:Type}{f:α→β}:([]:List α).map f=[]:=rfl
theorem BI {α β:Type}{f:β→α→β}{b:β}{a:α}{l:List α}:(a::l).foldl f b=l.foldl f (f b a):=rfl
theorem BJ {α β:Type}{f:β→α→β}{b:β}:([]:List α).foldl f b=b:=rfl
end Go.Silo
namespace Go.Silo
open Go Go.RowKit
open Go.Maps (Keyed)
theorem jM {H:Type}{P:Program}{e:TypeId}(he:P.underlying e=some .bool) {v:Value}{z:DataW H×List MemPlace}(h:plainElem P e v=some z):∃x,v=.bool x∧z=(.lit (.bool x),[]):=by
 unfold plainElem at h;rw[he] at h
 cases v<;>simp at h
 subst h;exact⟨_,rfl,rfl⟩
def BR (P:Program) (k e:TypeId) (w:World) (b n:Nat) (L:List Value):Prop:=
 ∃D:DataW Unit,w.ownsMap P k (plainElem P e) b n D∧∀v kl,keyOf P k v=some kl→∃x:Bool,D.atKey kl (.lit (.bool false))=.lit (.bool x)∧(x=true↔v∈L)
section
variable {P:Program}{k e t:TypeId}{w w':World}{b n:Nat}{L:List Value}
theorem BR.made:BR P k e (w.alloc (.map #[] 0)) w.heap.size 0 []:=⟨.map [],World.ownsMap_made _ _ _ _,fun _ _ _=>⟨false,rfl,by simp⟩⟩
theorem BR.lt (h:BR P k e w b n L):b<w.heap.size:=by obtain⟨D,h,_⟩:=h;exact h.lt
theorem BR.block (h:BR P k e w b n L) (hb:w'.heap[b]?=w.heap[b]?):BR P k e w' b n L:=by
 obtain⟨D,⟨es,clock,h1,h2⟩,hx⟩:=h;exact⟨D,⟨es,clock,hb.trans h1,h2⟩,hx⟩
theorem BR.all (h:BR P k e w b n L) (hb:Below w.heap.size w w'):BR P k e w' b n L:=h.block (hb.block _ h.lt)
theorem BR.mono (h:BR P k e w b n L) {n':Nat}(hn:n≤n'):BR P k e w b n' L:=by
 obtain⟨D,h,hx⟩:=h;exact⟨D,h.mono hn,hx⟩
theorem BR.look (h:BR P k e w b n L) (K:Keyed P k) (ht:P.underlying t=some (.map k e)) (he:P.underlying e=some .bool) (hz:(zeroValue e).run P w=.ok (.bool false) w) {key:Value}{kl:Lit}(hkey:keyOf P k key=some kl):
  ∃x:Bool,(Instr.lookup t (.map (some b)) key false).run P w=.ok (.bool x) w∧(x=true↔key∈L):=by
 obtain⟨D,h,hx⟩:=h;obtain⟨v,ps,hrun,hv⟩:=h.lookup K ht hz (plainElem_bool he false) hkey;obtain⟨x,rfl,hz'⟩:=jM he hv;obtain⟨x',hx1,hx2⟩:=hx key kl hkey;simp only[Prod.mk.injEq] at hz';rw[hx1] at hz';have hxx:x'=x:=by have:=hz'.1;simpa using this
 subst hxx;exact⟨x',hrun,hx2⟩
theorem BR.put (h:BR P k e w b n L) (K:Keyed P k) (ht:P.underlying t=some (.map k e)) (he:P.underlying e=some .bool) (hn:n<maxLen) {key:Value}{kl:Lit}(hkey:keyOf P k key=some kl):
  ∃w',(Instr.mapUpdate t (.map (some b)) key (.bool true)).run P w=.ok () w'∧BR P k e w' b (n+1) (L++[key])∧w.grownBy w' (some b):=by
 obtain⟨D,h,hx⟩:=h;obtain⟨w',hrun,hown,hg⟩:=h.update K ht hn hkey (plainElem_bool he true);refine⟨w',hrun,⟨_,hown,fun v kl' hv=>?_⟩,hg⟩;by_cases hkk:kl'=kl
 ·subst hkk;obtain rfl:=K.inj hv hkey;exact⟨true,Maps.atKey_put_same h.isMap (K.key hkey) _ _,by simp⟩
 obtain⟨x,h1,h2⟩:=hx v kl' hv;refine⟨x,(Maps.atKey_put_other hkk _ _).trans h1,?_⟩;rw[h2];have hne:v≠key:=fun e=>by subst e;rw[hkey] at hv;injection hv with hv;exact hkk hv.symm
 simp[hne]
end
theorem kI {P:Program}{k e:TypeId}(w:World) {ops:Array Oper}{rest:List Oper}{o:Oper}{a:Act}{Q:Exit→Act→World→Prop}
  (hg:o.guard=none) (m x:Operand) (t:TypeId) (hop:o.op=Op.lookup t m x false) (K:Keyed P k) (ht:P.underlying t=some (.map k e)) (he:P.underlying e=some .bool) (hz:(zeroValue e).run P w=.ok (.bool false) w) (b n:Nat) (L:List Value)
  (hm:a.eval m=.map (some b)) (gD:BR P k e w b n L) (key:Value) (kl:Lit) (hx:a.eval x=key) (hkey:keyOf P k key=some kl)
  (hK:∀x:Bool,(x=true↔key∈L)→wpList P ops Q rest (a.put o.dst (.bool x)) w):
  wpList P ops Q (o::rest) a w:=by
 refine wpList_plain hg fun K' hK'=>?_;obtain⟨c,hrun,hc⟩:=gD.look K ht he hz hkey;unfold Oper.wp;simp[execOp,hop,hm,hx,hrun,Result.andThen];exact hK' _ _ (hK c hc)
theorem xE {P:Program}{k e:TypeId}(w:World) {ops:Array Oper}{rest:List Oper}{o:Oper}{a:Act}{Q:Exit→Act→World→Prop}
  (hg:o.guard=none) (m x v:Operand) (t:TypeId) (hop:o.op=Op.mapUpdate t m x v) (K:Keyed P k) (ht:P.underlying t=some (.map k e)) (he:P.underlying e=some .bool) (b n:Nat) (L:List Value)
  (hm:a.eval m=.map (some b)) (gD:BR P k e w b n L) (hn:n<maxLen) (key:Value) (kl:Lit) (hx:a.eval x=key) (hv:a.eval v=.bool true) (hkey:keyOf P k key=some kl)
  (hK:∀w',BR P k e w' b (n+1) (L++[key])→w.grownBy w' (some b)→wpList P ops Q rest (a.put o.dst undef) w'):
  wpList P ops Q (o::rest) a w:=by
 refine wpList_plain hg fun K' hK'=>?_;obtain⟨w',hrun,r1,r2⟩:=gD.put K ht he hn hkey;unfold Oper.wp;simp[execOp,hop,hm,hx,hv,hrun,Result.andThen];exact hK' _ _ (hK w' r1 r2)
end Go.Silo
namespace Go.Silo
open Go.RowKit
def Bn (x:Int):Prop:=-9223372036854775808≤x∧x≤9223372036854775807
def qN (x:ByteArray):Prop:=x.size≤maxLen
def qD:Enc Int:=flat 1 (fun x=>[.int .i64 x]) Bn (fun _=>rfl) (fun x=>by simp[Value.oneCell'])
def Cf:Enc Bool:=flat 1 (fun x=>[.bool x]) (fun _=>True) (fun _=>rfl) (fun x=>by simp[Value.oneCell'])
def strE:Enc ByteArray:=flat 1 (fun x=>[.string x]) qN (fun _=>rfl) (fun x=>by simp[Value.oneCell'])
theorem Sl.BN {tg:Bool}{T:TypeId}{w:World}{S:Nat→Prop}{A:Option Addr}{n c:Nat}{xs:List Int}(h:Sl tg T qD w S A n c xs) {k:Nat}(hk:k<n):∃b off,A=some ⟨b,off,none⟩∧S b∧b<w.heap.size∧
  Bn (xs.getD k 0)∧
  w.cell? ⟨b,off+k,none⟩=some (.int .i64 (xs.getD k 0))∧
  w.frozen? ⟨b,off+k,none⟩=false:=by
 obtain⟨h1,_,_,h4⟩:=h;obtain⟨b,off,e,hb,hlt,_,hc⟩:=h4 (by omega);have hx:xs[k]?=some (xs.getD k 0):=by rw[List.getD_eq_getElem?_getD,List.getElem?_eq_getElem (by omega)];rfl
 obtain⟨vs,⟨rfl,hi⟩,hcc⟩:=hc k _ hx;have q0:=hcc 0 _ rfl;simp only[qD,flat,Nat.mul_one,Nat.add_zero] at q0;exact⟨b,off,e,hb,hlt,hi,q0.1,q0.2⟩
theorem Sl.Dn {tg:Bool}{T:TypeId}{w:World}{S:Nat→Prop}{A:Option Addr}{n c:Nat}{xs:List Bool}(h:Sl tg T Cf w S A n c xs) {k:Nat}(hk:k<n):∃b off,A=some ⟨b,off,none⟩∧S b∧b<w.heap.size∧
  w.cell? ⟨b,off+k,none⟩=some (.bool (xs.getD k false))∧
  w.frozen? ⟨b,off+k,none⟩=false:=by
 obtain⟨h1,_,_,h4⟩:=h;obtain⟨b,off,e,hb,hlt,_,hc⟩:=h4 (by omega);have hx:xs[k]?=some (xs.getD k false):=by rw[List.getD_eq_getElem?_getD,List.getElem?_eq_getElem (by omega)];rfl
 obtain⟨vs,⟨rfl,hi⟩,hcc⟩:=hc k _ hx;have q0:=hcc 0 _ rfl;simp only[Cf,flat,Nat.mul_one,Nat.add_zero] at q0;exact⟨b,off,e,hb,hlt,q0.1,q0.2⟩
structure Shape where
 K:Int
 M:Int
 size:Int
theorem Shape.Br {a b:Shape}:a=b↔(a.K=b.K∧a.M=b.M∧a.size=b.size):=by cases a;cases b;simp
instance:DecidableEq Shape:=fun a b=>decidable_of_iff (a.K=b.K∧a.M=b.M∧a.size=b.size) (Iff.symm Shape.Br)
instance:Inhabited Shape:=⟨⟨0,0,0⟩⟩
def EM:Enc Shape:=flat 3 (fun x=>[.int .i64 x.K,.int .i64 x.M,.int .i64 x.size]) (fun x=>Bn x.K∧Bn x.M∧Bn x.size) (fun _=>rfl) (fun x=>by simp[Value.oneCell'])
structure Slot where
 disk:Int
 pos:Int
theorem Slot.Br {a b:Slot}:a=b↔(a.disk=b.disk∧a.pos=b.pos):=by cases a;cases b;simp
instance:DecidableEq Slot:=fun a b=>decidable_of_iff (a.disk=b.disk∧a.pos=b.pos) (Iff.symm Slot.Br)
instance:Inhabited Slot:=⟨⟨0,0⟩⟩
def qp:Enc Slot:=flat 2 (fun x=>[.int .i64 x.disk,.int .i64 x.pos]) (fun x=>Bn x.disk∧Bn x.pos) (fun _=>rfl) (fun x=>by simp[Value.oneCell'])
theorem Sl.BA {tg:Bool}{T:TypeId}{w:World}{S:Nat→Prop}{A:Option Addr}{n c:Nat}{xs:List Slot}(h:Sl tg T qp w S A n c xs) {k:Nat}(hk:k<n):∃b off,A=some ⟨b,off,none⟩∧S b∧b<w.heap.size∧
  Bn (xs.getD k default).disk∧
  Bn (xs.getD k default).pos∧
  w.cell? ⟨b,off+k* 2,none⟩=some (.int .i64 (xs.getD k default).disk)∧
  w.cell? ⟨b,off+k* 2+1,none⟩=some (.int .i64 (xs.getD k default).pos)∧
  w.frozen? ⟨b,off+k* 2,none⟩=false∧
  w.frozen? ⟨b,off+k* 2+1,none⟩=false:=by
 obtain⟨h1,_,_,h4⟩:=h;obtain⟨b,off,e,hb,hlt,_,hc⟩:=h4 (by omega);have hx:xs[k]?=some (xs.getD k default):=by rw[List.getD_eq_getElem?_getD,List.getElem?_eq_getElem (by omega)];rfl
 obtain⟨vs,⟨rfl,hi⟩,hcc⟩:=hc k _ hx;have q0:=hcc 0 _ rfl;have q1:=hcc 1 _ rfl;simp only[qp,flat,Nat.add_zero] at q0 q1;exact⟨b,off,e,hb,hlt,hi.1,hi.2,q0.1,q1.1,q0.2,q1.2⟩
structure CL where
 Cj:Int
 index:Int
theorem CL.Br {a b:CL}:a=b↔(a.Cj=b.Cj∧a.index=b.index):=by cases a;cases b;simp
instance:DecidableEq CL:=fun a b=>decidable_of_iff (a.Cj=b.Cj∧a.index=b.index) (Iff.symm CL.Br)
instance:Inhabited CL:=⟨⟨0,0⟩⟩
structure Tag where
 name:ByteArray
 digest:ByteArray
theorem Tag.Br {a b:Tag}:a=b↔(a.name=b.name∧a.digest=b.digest):=by cases a;cases b;simp
instance:DecidableEq Tag:=fun a b=>decidable_of_iff (a.name=b.name∧a.digest=b.digest) (Iff.symm Tag.Br)
instance:Inhabited Tag:=⟨⟨ByteArray.empty,ByteArray.empty⟩⟩
def Bv:Enc Tag:=flat 2 (fun x=>[.string x.name,.string x.digest]) (fun x=>qN x.name∧qN x.digest) (fun _=>rfl) (fun x=>by simp[Value.oneCell'])
theorem Sl.Cc {tg:Bool}{T:TypeId}{w:World}{S:Nat→Prop}{A:Option Addr}{n c:Nat}{xs:List Tag}(h:Sl tg T Bv w S A n c xs) {k:Nat}(hk:k<n):∃b off,A=some ⟨b,off,none⟩∧S b∧b<w.heap.size∧
  qN (xs.getD k default).name∧
  qN (xs.getD k default).digest∧
  w.cell? ⟨b,off+k* 2,none⟩=some (.string (xs.getD k default).name)∧
  w.cell? ⟨b,off+k* 2+1,none⟩=some (.string (xs.getD k default).digest)∧
  w.frozen? ⟨b,off+k* 2,none⟩=false∧
  w.frozen? ⟨b,off+k* 2+1,none⟩=false:=by
 obtain⟨h1,_,_,h4⟩:=h;obtain⟨b,off,e,hb,hlt,_,hc⟩:=h4 (by omega);have hx:xs[k]?=some (xs.getD k default):=by rw[List.getD_eq_getElem?_getD,List.getElem?_eq_getElem (by omega)];rfl
 obtain⟨vs,⟨rfl,hi⟩,hcc⟩:=hc k _ hx;have q0:=hcc 0 _ rfl;have q1:=hcc 1 _ rfl;simp only[Bv,flat,Nat.add_zero] at q0 q1;exact⟨b,off,e,hb,hlt,hi.1,hi.2,q0.1,q1.1,q0.2,q1.2⟩
structure Bc where
 id:Int
 len:Int
 gen:Int
 place:List Slot
theorem Bc.Br {a b:Bc}:a=b↔(a.id=b.id∧a.len=b.len∧a.gen=b.gen∧a.place=b.place):=by cases a;cases b;simp
instance:DecidableEq Bc:=fun a b=>decidable_of_iff (a.id=b.id∧a.len=b.len∧a.gen=b.gen∧a.place=b.place) (Iff.symm Bc.Br)
instance:Inhabited Bc:=⟨⟨0,0,0,[]⟩⟩
def qc (tg:Bool):Enc Bc where
 sz:=4
 R w S vs x:=∃A3 n3 c3,vs=[.int .i64 x.id,.int .i64 x.len,.int .i64 x.gen,.slice A3 n3 c3]∧(Bn x.id∧Bn x.len∧Bn x.gen)∧Sl tg 88 qp w S A3 n3 c3 x.place
 len h:=by obtain⟨A3,n3,c3,rfl,_,_⟩:=h;rfl
 one h:=by obtain⟨A3,n3,c3,rfl,_,_⟩:=h;simp[Value.oneCell']
 mono hS h:=by obtain⟨A3,n3,c3,rfl,hok,h3⟩:=h;exact⟨_,_,_,rfl,hok,h3.mono hS⟩
 frame hA hs h:=by obtain⟨A3,n3,c3,rfl,hok,h3⟩:=h;exact⟨_,_,_,rfl,hok,h3.frame hA hs⟩
theorem Sl.Bu {tg tg1:Bool}{T:TypeId}{w:World}{S:Nat→Prop}{A:Option Addr}{n c:Nat}{xs:List Bc}(h:Sl tg T (qc tg1) w S A n c xs) {k:Nat}(hk:k<n):∃b off A3 n3 c3,A=some ⟨b,off,none⟩∧S b∧b<w.heap.size∧
  Bn (xs.getD k default).id∧
  Bn (xs.getD k default).len∧
  Bn (xs.getD k default).gen∧
  Sl tg1 88 qp w S A3 n3 c3 (xs.getD k default).place∧
  w.cell? ⟨b,off+k* 4,none⟩=some (.int .i64 (xs.getD k default).id)∧
  w.cell? ⟨b,off+k* 4+1,none⟩=some (.int .i64 (xs.getD k default).len)∧
  w.cell? ⟨b,off+k* 4+2,none⟩=some (.int .i64 (xs.getD k default).gen)∧
  w.cell? ⟨b,off+k* 4+3,none⟩=some (.slice A3 n3 c3)∧
  w.frozen? ⟨b,off+k* 4,none⟩=false∧
  w.frozen? ⟨b,off+k* 4+1,none⟩=false∧
  w.frozen? ⟨b,off+k* 4+2,none⟩=false∧
  w.frozen? ⟨b,off+k* 4+3,none⟩=false:=by
 obtain⟨h1,_,_,h4⟩:=h;obtain⟨b,off,e,hb,hlt,_,hc⟩:=h4 (by omega);have hx:xs[k]?=some (xs.getD k default):=by rw[List.getD_eq_getElem?_getD,List.getElem?_eq_getElem (by omega)];rfl
 obtain⟨vs,⟨A3,n3,c3,rfl,hok,h3⟩,hcc⟩:=hc k _ hx;have q0:=hcc 0 _ rfl;have q1:=hcc 1 _ rfl;have q2:=hcc 2 _ rfl;have q3:=hcc 3 _ rfl;simp only[qc,Nat.add_zero] at q0 q1 q2 q3;exact⟨b,off,A3,n3,c3,e,hb,hlt,hok.1,hok.2.1,hok.2.2,h3,q0.1,q1.1,q2.1,q3.1,q0.2,q1.2,q2.2,q3.2⟩
structure Entry where
 digest:ByteArray
 len:Int
 BO:Bool
 list:List Int
theorem Entry.Br {a b:Entry}:a=b↔(a.digest=b.digest∧a.len=b.len∧a.BO=b.BO∧a.list=b.list):=by cases a;cases b;simp
instance:DecidableEq Entry:=fun a b=>decidable_of_iff (a.digest=b.digest∧a.len=b.len∧a.BO=b.BO∧a.list=b.list) (Iff.symm Entry.Br)
instance:Inhabited Entry:=⟨⟨ByteArray.empty,0,false,[]⟩⟩
def qj (tg:Bool):Enc Entry where
 sz:=4
 R w S vs x:=∃A3 n3 c3,vs=[.string x.digest,.int .i64 x.len,.bool x.BO,.slice A3 n3 c3]∧(qN x.digest∧Bn x.len)∧Sl tg 3 qD w S A3 n3 c3 x.list
 len h:=by obtain⟨A3,n3,c3,rfl,_,_⟩:=h;rfl
 one h:=by obtain⟨A3,n3,c3,rfl,_,_⟩:=h;simp[Value.oneCell']
 mono hS h:=by obtain⟨A3,n3,c3,rfl,hok,h3⟩:=h;exact⟨_,_,_,rfl,hok,h3.mono hS⟩
 frame hA hs h:=by obtain⟨A3,n3,c3,rfl,hok,h3⟩:=h;exact⟨_,_,_,rfl,hok,h3.frame hA hs⟩
theorem Sl.BP {tg tg1:Bool}{T:TypeId}{w:World}{S:Nat→Prop}{A:Option Addr}{n c:Nat}{xs:List Entry}(h:Sl tg T (qj tg1) w S A n c xs) {k:Nat}(hk:k<n):∃b off A3 n3 c3,A=some ⟨b,off,none⟩∧S b∧b<w.heap.size∧
  qN (xs.getD k default).digest∧
  Bn (xs.getD k default).len∧
  Sl tg1 3 qD w S A3 n3 c3 (xs.getD k default).list∧
  w.cell? ⟨b,off+k* 4,none⟩=some (.string (xs.getD k default).digest)∧
  w.cell? ⟨b,off+k* 4+1,none⟩=some (.int .i64 (xs.getD k default).len)∧
  w.cell? ⟨b,off+k* 4+2,none⟩=some (.bool (xs.getD k default).BO)∧
  w.cell? ⟨b,off+k* 4+3,none⟩=some (.slice A3 n3 c3)∧
  w.frozen? ⟨b,off+k* 4,none⟩=false∧
  w.frozen? ⟨b,off+k* 4+1,none⟩=false∧
  w.frozen? ⟨b,off+k* 4+2,none⟩=false∧
  w.frozen? ⟨b,off+k* 4+3,none⟩=false:=by
 obtain⟨h1,_,_,h4⟩:=h;obtain⟨b,off,e,hb,hlt,_,hc⟩:=h4 (by omega);have hx:xs[k]?=some (xs.getD k default):=by rw[List.getD_eq_getElem?_getD,List.getElem?_eq_getElem (by omega)];rfl
 obtain⟨vs,⟨A3,n3,c3,rfl,hok,h3⟩,hcc⟩:=hc k _ hx;have q0:=hcc 0 _ rfl;have q1:=hcc 1 _ rfl;have q2:=hcc 2 _ rfl;have q3:=hcc 3 _ rfl;simp only[qj,Nat.add_zero] at q0 q1 q2 q3;exact⟨b,off,A3,n3,c3,e,hb,hlt,hok.1,hok.2,h3,q0.1,q1.1,q2.1,q3.1,q0.2,q1.2,q2.2,q3.2⟩
structure Dk where
 Cj:Int
 index:List Int
 to:List Slot
theorem Dk.Br {a b:Dk}:a=b↔(a.Cj=b.Cj∧a.index=b.index∧a.to=b.to):=by cases a;cases b;simp
instance:DecidableEq Dk:=fun a b=>decidable_of_iff (a.Cj=b.Cj∧a.index=b.index∧a.to=b.to) (Iff.symm Dk.Br)
instance:Inhabited Dk:=⟨⟨0,[],[]⟩⟩
def needE (tg:Bool):Enc Dk where
 sz:=3
 R w S vs x:=∃A1 n1 c1 A2 n2 c2,vs=[.int .i64 x.Cj,.slice A1 n1 c1,.slice A2 n2 c2]∧(Bn x.Cj)∧Sl tg 3 qD w S A1 n1 c1 x.index∧Sl tg 88 qp w S A2 n2 c2 x.to
 len h:=by obtain⟨A1,n1,c1,A2,n2,c2,rfl,_,_,_⟩:=h;rfl
 one h:=by obtain⟨A1,n1,c1,A2,n2,c2,rfl,_,_,_⟩:=h;simp[Value.oneCell']
 mono hS h:=by obtain⟨A1,n1,c1,A2,n2,c2,rfl,hok,h1,h2⟩:=h;exact⟨_,_,_,_,_,_,rfl,hok,h1.mono hS,h2.mono hS⟩
 frame hA hs h:=by obtain⟨A1,n1,c1,A2,n2,c2,rfl,hok,h1,h2⟩:=h;exact⟨_,_,_,_,_,_,rfl,hok,h1.frame hA hs,h2.frame hA hs⟩
structure Bb where
 kind:Int
 id:Int
 name:ByteArray
 digest:ByteArray
 list:List Int
 slots:List Slot
theorem Bb.Br {a b:Bb}:a=b↔(a.kind=b.kind∧a.id=b.id∧a.name=b.name∧a.digest=b.digest∧a.list=b.list∧a.slots=b.slots):=by cases a;cases b;simp
instance:DecidableEq Bb:=fun a b=>decidable_of_iff (a.kind=b.kind∧a.id=b.id∧a.name=b.name∧a.digest=b.digest∧a.list=b.list∧a.slots=b.slots) (Iff.symm Bb.Br)
instance:Inhabited Bb:=⟨⟨0,0,ByteArray.empty,ByteArray.empty,[],[]⟩⟩
def zX (tg:Bool):Enc Bb where
 sz:=6
 R w S vs x:=∃A4 n4 c4 A5 n5 c5,vs=[.int .i64 x.kind,.int .i64 x.id,.string x.name,.string x.digest,.slice A4 n4 c4,.slice A5 n5 c5]∧(Bn x.kind∧Bn x.id∧qN x.name∧qN x.digest)∧Sl tg 3 qD w S A4 n4 c4 x.list∧Sl tg 88 qp w S A5 n5 c5 x.slots
 len h:=by obtain⟨A4,n4,c4,A5,n5,c5,rfl,_,_,_⟩:=h;rfl
 one h:=by obtain⟨A4,n4,c4,A5,n5,c5,rfl,_,_,_⟩:=h;simp[Value.oneCell']
 mono hS h:=by obtain⟨A4,n4,c4,A5,n5,c5,rfl,hok,h4,h5⟩:=h;exact⟨_,_,_,_,_,_,rfl,hok,h4.mono hS,h5.mono hS⟩
 frame hA hs h:=by obtain⟨A4,n4,c4,A5,n5,c5,rfl,hok,h4,h5⟩:=h;exact⟨_,_,_,_,_,_,rfl,hok,h4.frame hA hs,h5.frame hA hs⟩
theorem Sl.Cz {tg tg1:Bool}{T:TypeId}{w:World}{S:Nat→Prop}{A:Option Addr}{n c:Nat}{xs:List Bb}(h:Sl tg T (zX tg1) w S A n c xs) {k:Nat}(hk:k<n):∃b off A4 n4 c4 A5 n5 c5,A=some ⟨b,off,none⟩∧S b∧b<w.heap.size∧
  Bn (xs.getD k default).kind∧
  Bn (xs.getD k default).id∧
  qN (xs.getD k default).name∧
  qN (xs.getD k default).digest∧
  Sl tg1 3 qD w S A4 n4 c4 (xs.getD k default).list∧
  Sl tg1 88 qp w S A5 n5 c5 (xs.getD k default).slots∧
  w.cell? ⟨b,off+k* 6,none⟩=some (.int .i64 (xs.getD k default).kind)∧
  w.cell? ⟨b,off+k* 6+1,none⟩=some (.int .i64 (xs.getD k default).id)∧
  w.cell? ⟨b,off+k* 6+2,none⟩=some (.string (xs.getD k default).name)∧
  w.cell? ⟨b,off+k* 6+3,none⟩=some (.string (xs.getD k default).digest)∧
  w.cell? ⟨b,off+k* 6+4,none⟩=some (.slice A4 n4 c4)∧
  w.cell? ⟨b,off+k* 6+5,none⟩=some (.slice A5 n5 c5)∧
  w.frozen? ⟨b,off+k* 6,none⟩=false∧
  w.frozen? ⟨b,off+k* 6+1,none⟩=false∧
  w.frozen? ⟨b,off+k* 6+2,none⟩=false∧
  w.frozen? ⟨b,off+k* 6+3,none⟩=false∧
  w.frozen? ⟨b,off+k* 6+4,none⟩=false∧
  w.frozen? ⟨b,off+k* 6+5,none⟩=false:=by
 obtain⟨h1,_,_,h4⟩:=h;obtain⟨b,off,e,hb,hlt,_,hc⟩:=h4 (by omega);have hx:xs[k]?=some (xs.getD k default):=by rw[List.getD_eq_getElem?_getD,List.getElem?_eq_getElem (by omega)];rfl
 obtain⟨vs,⟨A4,n4,c4,A5,n5,c5,rfl,hok,h4,h5⟩,hcc⟩:=hc k _ hx;have q0:=hcc 0 _ rfl;have q1:=hcc 1 _ rfl;have q2:=hcc 2 _ rfl;have q3:=hcc 3 _ rfl;have q4:=hcc 4 _ rfl;have q5:=hcc 5 _ rfl;simp only[zX,Nat.add_zero] at q0 q1 q2 q3 q4 q5;exact⟨b,off,A4,n4,c4,A5,n5,c5,e,hb,hlt,hok.1,hok.2.1,hok.2.2.1,hok.2.2.2,h4,h5,q0.1,q1.1,q2.1,q3.1,q4.1,q5.1,q0.2,q1.2,q2.2,q3.2,q4.2,q5.2⟩
structure BQ where
 live:List Bool
 free:List (List Int)
theorem BQ.Br {a b:BQ}:a=b↔(a.live=b.live∧a.free=b.free):=by cases a;cases b;simp
instance:DecidableEq BQ:=fun a b=>decidable_of_iff (a.live=b.live∧a.free=b.free) (Iff.symm BQ.Br)
instance:Inhabited BQ:=⟨⟨[],[]⟩⟩
structure Book where
 Ba:List Bc
 things:List Entry
 tags:List Tag
 next:Int
theorem Book.Br {a b:Book}:a=b↔(a.Ba=b.Ba∧a.things=b.things∧a.tags=b.tags∧a.next=b.next):=by cases a;cases b;simp
instance:DecidableEq Book:=fun a b=>decidable_of_iff (a.Ba=b.Ba∧a.things=b.things∧a.tags=b.tags∧a.next=b.next) (Iff.symm Book.Br)
instance:Inhabited Book:=⟨⟨[],[],[],0⟩⟩
def JH (tg:Bool):Enc Book where
 sz:=4
 R w S vs x:=∃A0 n0 c0 A1 n1 c1 A2 n2 c2,vs=[.slice A0 n0 c0,.slice A1 n1 c1,.slice A2 n2 c2,.int .i64 x.next]∧(Bn x.next)∧Sl tg 86 (qc tg) w S A0 n0 c0 x.Ba∧Sl tg 90 (qj tg) w S A1 n1 c1 x.things∧Sl tg 94 Bv w S A2 n2 c2 x.tags
 len h:=by obtain⟨A0,n0,c0,A1,n1,c1,A2,n2,c2,rfl,_,_,h1,_⟩:=h;rfl
 one h:=by obtain⟨A0,n0,c0,A1,n1,c1,A2,n2,c2,rfl,_,_,h1,_⟩:=h;simp[Value.oneCell']
 mono hS h:=by obtain⟨A0,n0,c0,A1,n1,c1,A2,n2,c2,rfl,hok,h0,h1,h2⟩:=h;exact⟨_,_,_,_,_,_,_,_,_,rfl,hok,h0.mono hS,h1.mono hS,h2.mono hS⟩
 frame hA hs h:=by obtain⟨A0,n0,c0,A1,n1,c1,A2,n2,c2,rfl,hok,h0,h1,h2⟩:=h;exact⟨_,_,_,_,_,_,_,_,_,rfl,hok,h0.frame hA hs,h1.frame hA hs,h2.frame hA hs⟩
structure DF where
 act:Int
 d:Int
 n:Int
 is:Bool
 disk:Int
 pos:Int
 l:List Int
theorem DF.Br {a b:DF}:a=b↔(a.act=b.act∧a.d=b.d∧a.n=b.n∧a.is=b.is∧a.disk=b.disk∧a.pos=b.pos∧a.l=b.l):=by cases a;cases b;simp
instance:DecidableEq DF:=fun a b=>decidable_of_iff (a.act=b.act∧a.d=b.d∧a.n=b.n∧a.is=b.is∧a.disk=b.disk∧a.pos=b.pos∧a.l=b.l) (Iff.symm DF.Br)
instance:Inhabited DF:=⟨⟨0,0,0,false,0,0,[]⟩⟩
theorem Bo.BN {T:TypeId}{w:World}{S:Nat→Prop}{A:Option Addr}{n c base:Nat}{xs:List Int}(h:Bo T qD w base S A n c xs) {k:Nat}(hk:k<n):∃g,A=some ⟨g,0,none⟩∧base≤g∧g<w.heap.size∧Bn (xs.getD k 0)∧w.cell? ⟨g,k,none⟩=some (.int .i64 (xs.getD k 0))∧w.frozen? ⟨g,k,none⟩=false:=by
 obtain⟨g,rfl,hb,hlt⟩:=h.form (by omega);obtain⟨b,off,e,_,_,q1,q2,q3⟩:=(h.sl (tg:=false)).BN hk;injection e with e;injection e with e1 e2 _;subst e1;subst e2
 rw[Nat.zero_add] at q2 q3;exact⟨g,rfl,hb,hlt,q1,q2,q3⟩
end Go.Silo
