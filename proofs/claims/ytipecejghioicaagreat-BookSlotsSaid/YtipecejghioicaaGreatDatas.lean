/- The data of the program, as plain structures; how each kind lies in cells; element k of a slice. -/
import Derived.Test.YtipecejghioicaaGreatBases
import Derived.Test.YtipecejghioicaaGreatP0s
namespace Go.Silo
open Go.RowKit
def Bo (x:Int):Prop:=-9223372036854775808≤x∧x≤9223372036854775807
def zd (x:ByteArray):Prop:=x.size≤maxLen
def Bd:Enc Int:=flat 1 (fun x=>[.int .i64 x]) Bo (fun _=>rfl) (fun x=>by simp[Value.oneCell'])
def Bn:Enc Bool:=flat 1 (fun x=>[.bool x]) (fun _=>True) (fun _=>rfl) (fun x=>by simp[Value.oneCell'])
def strE:Enc ByteArray:=flat 1 (fun x=>[.string x]) zd (fun _=>rfl) (fun x=>by simp[Value.oneCell'])
theorem Sl.BD {tg:Bool}{T:TypeId}{w:World}{S:Nat→Prop}{A:Option Addr}{n c:Nat}{xs:List Int}(h:Sl tg T Bd w S A n c xs) {k:Nat}(hk:k<n):∃b off,A=some ⟨b,off,none⟩∧S b∧b<w.heap.size∧
  Bo (xs.getD k 0)∧
  w.cell? ⟨b,off+k,none⟩=some (.int .i64 (xs.getD k 0))∧
  w.frozen? ⟨b,off+k,none⟩=false:=by
 obtain⟨h1,_,_,h4⟩:=h;obtain⟨b,off,e,hb,hlt,_,hc⟩:=h4 (by omega);have hx:xs[k]?=some (xs.getD k 0):=by rw[List.getD_eq_getElem?_getD,List.getElem?_eq_getElem (by omega)];rfl
 obtain⟨vs,⟨rfl,hi⟩,hcc⟩:=hc k _ hx;have q0:=hcc 0 _ rfl;simp only[Bd,flat,Nat.mul_one,Nat.add_zero] at q0;exact⟨b,off,e,hb,hlt,hi,q0.1,q0.2⟩
theorem Sl.Cm {tg:Bool}{T:TypeId}{w:World}{S:Nat→Prop}{A:Option Addr}{n c:Nat}{xs:List Bool}(h:Sl tg T Bn w S A n c xs) {k:Nat}(hk:k<n):∃b off,A=some ⟨b,off,none⟩∧S b∧b<w.heap.size∧
  w.cell? ⟨b,off+k,none⟩=some (.bool (xs.getD k false))∧
  w.frozen? ⟨b,off+k,none⟩=false:=by
 obtain⟨h1,_,_,h4⟩:=h;obtain⟨b,off,e,hb,hlt,_,hc⟩:=h4 (by omega);have hx:xs[k]?=some (xs.getD k false):=by rw[List.getD_eq_getElem?_getD,List.getElem?_eq_getElem (by omega)];rfl
 obtain⟨vs,⟨rfl,hi⟩,hcc⟩:=hc k _ hx;have q0:=hcc 0 _ rfl;simp only[Bn,flat,Nat.mul_one,Nat.add_zero] at q0;exact⟨b,off,e,hb,hlt,q0.1,q0.2⟩
structure Shape where
 K:Int
 M:Int
 size:Int
theorem Shape.Bl {a b:Shape}:a=b↔(a.K=b.K∧a.M=b.M∧a.size=b.size):=by cases a;cases b;simp
instance:DecidableEq Shape:=fun a b=>decidable_of_iff (a.K=b.K∧a.M=b.M∧a.size=b.size) (Iff.symm Shape.Bl)
instance:Inhabited Shape:=⟨⟨0,0,0⟩⟩
def EC:Enc Shape:=flat 3 (fun x=>[.int .i64 x.K,.int .i64 x.M,.int .i64 x.size]) (fun x=>Bo x.K∧Bo x.M∧Bo x.size) (fun _=>rfl) (fun x=>by simp[Value.oneCell'])
structure Slot where
 disk:Int
 pos:Int
theorem Slot.Bl {a b:Slot}:a=b↔(a.disk=b.disk∧a.pos=b.pos):=by cases a;cases b;simp
instance:DecidableEq Slot:=fun a b=>decidable_of_iff (a.disk=b.disk∧a.pos=b.pos) (Iff.symm Slot.Bl)
instance:Inhabited Slot:=⟨⟨0,0⟩⟩
def qz:Enc Slot:=flat 2 (fun x=>[.int .i64 x.disk,.int .i64 x.pos]) (fun x=>Bo x.disk∧Bo x.pos) (fun _=>rfl) (fun x=>by simp[Value.oneCell'])
theorem Sl.BX {tg:Bool}{T:TypeId}{w:World}{S:Nat→Prop}{A:Option Addr}{n c:Nat}{xs:List Slot}(h:Sl tg T qz w S A n c xs) {k:Nat}(hk:k<n):∃b off,A=some ⟨b,off,none⟩∧S b∧b<w.heap.size∧
  Bo (xs.getD k default).disk∧
  Bo (xs.getD k default).pos∧
  w.cell? ⟨b,off+k* 2,none⟩=some (.int .i64 (xs.getD k default).disk)∧
  w.cell? ⟨b,off+k* 2+1,none⟩=some (.int .i64 (xs.getD k default).pos)∧
  w.frozen? ⟨b,off+k* 2,none⟩=false∧
  w.frozen? ⟨b,off+k* 2+1,none⟩=false:=by
 obtain⟨h1,_,_,h4⟩:=h;obtain⟨b,off,e,hb,hlt,_,hc⟩:=h4 (by omega);have hx:xs[k]?=some (xs.getD k default):=by rw[List.getD_eq_getElem?_getD,List.getElem?_eq_getElem (by omega)];rfl
 obtain⟨vs,⟨rfl,hi⟩,hcc⟩:=hc k _ hx;have q0:=hcc 0 _ rfl;have q1:=hcc 1 _ rfl;simp only[qz,flat,Nat.add_zero] at q0 q1;exact⟨b,off,e,hb,hlt,hi.1,hi.2,q0.1,q1.1,q0.2,q1.2⟩
structure Cz where
 Cf:Int
 index:Int
theorem Cz.Bl {a b:Cz}:a=b↔(a.Cf=b.Cf∧a.index=b.index):=by cases a;cases b;simp
instance:DecidableEq Cz:=fun a b=>decidable_of_iff (a.Cf=b.Cf∧a.index=b.index) (Iff.symm Cz.Bl)
instance:Inhabited Cz:=⟨⟨0,0⟩⟩
structure Tag where
 name:ByteArray
 digest:ByteArray
theorem Tag.Bl {a b:Tag}:a=b↔(a.name=b.name∧a.digest=b.digest):=by cases a;cases b;simp
instance:DecidableEq Tag:=fun a b=>decidable_of_iff (a.name=b.name∧a.digest=b.digest) (Iff.symm Tag.Bl)
instance:Inhabited Tag:=⟨⟨ByteArray.empty,ByteArray.empty⟩⟩
def Bz:Enc Tag:=flat 2 (fun x=>[.string x.name,.string x.digest]) (fun x=>zd x.name∧zd x.digest) (fun _=>rfl) (fun x=>by simp[Value.oneCell'])
theorem Sl.Ci {tg:Bool}{T:TypeId}{w:World}{S:Nat→Prop}{A:Option Addr}{n c:Nat}{xs:List Tag}(h:Sl tg T Bz w S A n c xs) {k:Nat}(hk:k<n):∃b off,A=some ⟨b,off,none⟩∧S b∧b<w.heap.size∧
  zd (xs.getD k default).name∧
  zd (xs.getD k default).digest∧
  w.cell? ⟨b,off+k* 2,none⟩=some (.string (xs.getD k default).name)∧
  w.cell? ⟨b,off+k* 2+1,none⟩=some (.string (xs.getD k default).digest)∧
  w.frozen? ⟨b,off+k* 2,none⟩=false∧
  w.frozen? ⟨b,off+k* 2+1,none⟩=false:=by
 obtain⟨h1,_,_,h4⟩:=h;obtain⟨b,off,e,hb,hlt,_,hc⟩:=h4 (by omega);have hx:xs[k]?=some (xs.getD k default):=by rw[List.getD_eq_getElem?_getD,List.getElem?_eq_getElem (by omega)];rfl
 obtain⟨vs,⟨rfl,hi⟩,hcc⟩:=hc k _ hx;have q0:=hcc 0 _ rfl;have q1:=hcc 1 _ rfl;simp only[Bz,flat,Nat.add_zero] at q0 q1;exact⟨b,off,e,hb,hlt,hi.1,hi.2,q0.1,q1.1,q0.2,q1.2⟩
structure Bb where
 id:Int
 len:Int
 gen:Int
 place:List Slot
theorem Bb.Bl {a b:Bb}:a=b↔(a.id=b.id∧a.len=b.len∧a.gen=b.gen∧a.place=b.place):=by cases a;cases b;simp
instance:DecidableEq Bb:=fun a b=>decidable_of_iff (a.id=b.id∧a.len=b.len∧a.gen=b.gen∧a.place=b.place) (Iff.symm Bb.Bl)
instance:Inhabited Bb:=⟨⟨0,0,0,[]⟩⟩
def qe (tg:Bool):Enc Bb where
 sz:=4
 R w S vs x:=∃A3 n3 c3,vs=[.int .i64 x.id,.int .i64 x.len,.int .i64 x.gen,.slice A3 n3 c3]∧(Bo x.id∧Bo x.len∧Bo x.gen)∧Sl tg 88 qz w S A3 n3 c3 x.place
 len h:=by obtain⟨A3,n3,c3,rfl,_,_⟩:=h;rfl
 one h:=by obtain⟨A3,n3,c3,rfl,_,_⟩:=h;simp[Value.oneCell']
 mono hS h:=by obtain⟨A3,n3,c3,rfl,hok,h3⟩:=h;exact⟨_,_,_,rfl,hok,h3.mono hS⟩
 frame hA hs h:=by obtain⟨A3,n3,c3,rfl,hok,h3⟩:=h;exact⟨_,_,_,rfl,hok,h3.frame hA hs⟩
theorem Sl.Bq {tg tg1:Bool}{T:TypeId}{w:World}{S:Nat→Prop}{A:Option Addr}{n c:Nat}{xs:List Bb}(h:Sl tg T (qe tg1) w S A n c xs) {k:Nat}(hk:k<n):∃b off A3 n3 c3,A=some ⟨b,off,none⟩∧S b∧b<w.heap.size∧
  Bo (xs.getD k default).id∧
  Bo (xs.getD k default).len∧
  Bo (xs.getD k default).gen∧
  Sl tg1 88 qz w S A3 n3 c3 (xs.getD k default).place∧
  w.cell? ⟨b,off+k* 4,none⟩=some (.int .i64 (xs.getD k default).id)∧
  w.cell? ⟨b,off+k* 4+1,none⟩=some (.int .i64 (xs.getD k default).len)∧
  w.cell? ⟨b,off+k* 4+2,none⟩=some (.int .i64 (xs.getD k default).gen)∧
  w.cell? ⟨b,off+k* 4+3,none⟩=some (.slice A3 n3 c3)∧
  w.frozen? ⟨b,off+k* 4,none⟩=false∧
  w.frozen? ⟨b,off+k* 4+1,none⟩=false∧
  w.frozen? ⟨b,off+k* 4+2,none⟩=false∧
  w.frozen? ⟨b,off+k* 4+3,none⟩=false:=by
 obtain⟨h1,_,_,h4⟩:=h;obtain⟨b,off,e,hb,hlt,_,hc⟩:=h4 (by omega);have hx:xs[k]?=some (xs.getD k default):=by rw[List.getD_eq_getElem?_getD,List.getElem?_eq_getElem (by omega)];rfl
 obtain⟨vs,⟨A3,n3,c3,rfl,hok,h3⟩,hcc⟩:=hc k _ hx;have q0:=hcc 0 _ rfl;have q1:=hcc 1 _ rfl;have q2:=hcc 2 _ rfl;have q3:=hcc 3 _ rfl;simp only[qe,Nat.add_zero] at q0 q1 q2 q3;exact⟨b,off,A3,n3,c3,e,hb,hlt,hok.1,hok.2.1,hok.2.2,h3,q0.1,q1.1,q2.1,q3.1,q0.2,q1.2,q2.2,q3.2⟩
structure Entry where
 digest:ByteArray
 len:Int
 BC:Bool
 list:List Int
theorem Entry.Bl {a b:Entry}:a=b↔(a.digest=b.digest∧a.len=b.len∧a.BC=b.BC∧a.list=b.list):=by cases a;cases b;simp
instance:DecidableEq Entry:=fun a b=>decidable_of_iff (a.digest=b.digest∧a.len=b.len∧a.BC=b.BC∧a.list=b.list) (Iff.symm Entry.Bl)
instance:Inhabited Entry:=⟨⟨ByteArray.empty,0,false,[]⟩⟩
def ql (tg:Bool):Enc Entry where
 sz:=4
 R w S vs x:=∃A3 n3 c3,vs=[.string x.digest,.int .i64 x.len,.bool x.BC,.slice A3 n3 c3]∧(zd x.digest∧Bo x.len)∧Sl tg 3 Bd w S A3 n3 c3 x.list
 len h:=by obtain⟨A3,n3,c3,rfl,_,_⟩:=h;rfl
 one h:=by obtain⟨A3,n3,c3,rfl,_,_⟩:=h;simp[Value.oneCell']
 mono hS h:=by obtain⟨A3,n3,c3,rfl,hok,h3⟩:=h;exact⟨_,_,_,rfl,hok,h3.mono hS⟩
 frame hA hs h:=by obtain⟨A3,n3,c3,rfl,hok,h3⟩:=h;exact⟨_,_,_,rfl,hok,h3.frame hA hs⟩
theorem Sl.BF {tg tg1:Bool}{T:TypeId}{w:World}{S:Nat→Prop}{A:Option Addr}{n c:Nat}{xs:List Entry}(h:Sl tg T (ql tg1) w S A n c xs) {k:Nat}(hk:k<n):∃b off A3 n3 c3,A=some ⟨b,off,none⟩∧S b∧b<w.heap.size∧
  zd (xs.getD k default).digest∧
  Bo (xs.getD k default).len∧
  Sl tg1 3 Bd w S A3 n3 c3 (xs.getD k default).list∧
  w.cell? ⟨b,off+k* 4,none⟩=some (.string (xs.getD k default).digest)∧
  w.cell? ⟨b,off+k* 4+1,none⟩=some (.int .i64 (xs.getD k default).len)∧
  w.cell? ⟨b,off+k* 4+2,none⟩=some (.bool (xs.getD k default).BC)∧
  w.cell? ⟨b,off+k* 4+3,none⟩=some (.slice A3 n3 c3)∧
  w.frozen? ⟨b,off+k* 4,none⟩=false∧
  w.frozen? ⟨b,off+k* 4+1,none⟩=false∧
  w.frozen? ⟨b,off+k* 4+2,none⟩=false∧
  w.frozen? ⟨b,off+k* 4+3,none⟩=false:=by
 obtain⟨h1,_,_,h4⟩:=h;obtain⟨b,off,e,hb,hlt,_,hc⟩:=h4 (by omega);have hx:xs[k]?=some (xs.getD k default):=by rw[List.getD_eq_getElem?_getD,List.getElem?_eq_getElem (by omega)];rfl
 obtain⟨vs,⟨A3,n3,c3,rfl,hok,h3⟩,hcc⟩:=hc k _ hx;have q0:=hcc 0 _ rfl;have q1:=hcc 1 _ rfl;have q2:=hcc 2 _ rfl;have q3:=hcc 3 _ rfl;simp only[ql,Nat.add_zero] at q0 q1 q2 q3;exact⟨b,off,A3,n3,c3,e,hb,hlt,hok.1,hok.2,h3,q0.1,q1.1,q2.1,q3.1,q0.2,q1.2,q2.2,q3.2⟩
structure Dc where
 Cf:Int
 index:List Int
 to:List Slot
theorem Dc.Bl {a b:Dc}:a=b↔(a.Cf=b.Cf∧a.index=b.index∧a.to=b.to):=by cases a;cases b;simp
instance:DecidableEq Dc:=fun a b=>decidable_of_iff (a.Cf=b.Cf∧a.index=b.index∧a.to=b.to) (Iff.symm Dc.Bl)
instance:Inhabited Dc:=⟨⟨0,[],[]⟩⟩
def needE (tg:Bool):Enc Dc where
 sz:=3
 R w S vs x:=∃A1 n1 c1 A2 n2 c2,vs=[.int .i64 x.Cf,.slice A1 n1 c1,.slice A2 n2 c2]∧(Bo x.Cf)∧Sl tg 3 Bd w S A1 n1 c1 x.index∧Sl tg 88 qz w S A2 n2 c2 x.to
 len h:=by obtain⟨A1,n1,c1,A2,n2,c2,rfl,_,_,_⟩:=h;rfl
 one h:=by obtain⟨A1,n1,c1,A2,n2,c2,rfl,_,_,_⟩:=h;simp[Value.oneCell']
 mono hS h:=by obtain⟨A1,n1,c1,A2,n2,c2,rfl,hok,h1,h2⟩:=h;exact⟨_,_,_,_,_,_,rfl,hok,h1.mono hS,h2.mono hS⟩
 frame hA hs h:=by obtain⟨A1,n1,c1,A2,n2,c2,rfl,hok,h1,h2⟩:=h;exact⟨_,_,_,_,_,_,rfl,hok,h1.frame hA hs,h2.frame hA hs⟩
structure Bt where
 kind:Int
 id:Int
 name:ByteArray
 digest:ByteArray
 list:List Int
 slots:List Slot
theorem Bt.Bl {a b:Bt}:a=b↔(a.kind=b.kind∧a.id=b.id∧a.name=b.name∧a.digest=b.digest∧a.list=b.list∧a.slots=b.slots):=by cases a;cases b;simp
instance:DecidableEq Bt:=fun a b=>decidable_of_iff (a.kind=b.kind∧a.id=b.id∧a.name=b.name∧a.digest=b.digest∧a.list=b.list∧a.slots=b.slots) (Iff.symm Bt.Bl)
instance:Inhabited Bt:=⟨⟨0,0,ByteArray.empty,ByteArray.empty,[],[]⟩⟩
def xn (tg:Bool):Enc Bt where
 sz:=6
 R w S vs x:=∃A4 n4 c4 A5 n5 c5,vs=[.int .i64 x.kind,.int .i64 x.id,.string x.name,.string x.digest,.slice A4 n4 c4,.slice A5 n5 c5]∧(Bo x.kind∧Bo x.id∧zd x.name∧zd x.digest)∧Sl tg 3 Bd w S A4 n4 c4 x.list∧Sl tg 88 qz w S A5 n5 c5 x.slots
 len h:=by obtain⟨A4,n4,c4,A5,n5,c5,rfl,_,_,_⟩:=h;rfl
 one h:=by obtain⟨A4,n4,c4,A5,n5,c5,rfl,_,_,_⟩:=h;simp[Value.oneCell']
 mono hS h:=by obtain⟨A4,n4,c4,A5,n5,c5,rfl,hok,h4,h5⟩:=h;exact⟨_,_,_,_,_,_,rfl,hok,h4.mono hS,h5.mono hS⟩
 frame hA hs h:=by obtain⟨A4,n4,c4,A5,n5,c5,rfl,hok,h4,h5⟩:=h;exact⟨_,_,_,_,_,_,rfl,hok,h4.frame hA hs,h5.frame hA hs⟩
theorem Sl.Dm {tg tg1:Bool}{T:TypeId}{w:World}{S:Nat→Prop}{A:Option Addr}{n c:Nat}{xs:List Bt}(h:Sl tg T (xn tg1) w S A n c xs) {k:Nat}(hk:k<n):∃b off A4 n4 c4 A5 n5 c5,A=some ⟨b,off,none⟩∧S b∧b<w.heap.size∧
  Bo (xs.getD k default).kind∧
  Bo (xs.getD k default).id∧
  zd (xs.getD k default).name∧
  zd (xs.getD k default).digest∧
  Sl tg1 3 Bd w S A4 n4 c4 (xs.getD k default).list∧
  Sl tg1 88 qz w S A5 n5 c5 (xs.getD k default).slots∧
  w.cell? ⟨b,off+k* 6,none⟩=some (.int .i64 (xs.getD k default).kind)∧
  w.cell? ⟨b,off+k* 6+1,none⟩=some (.int .i64 (xs.getD k default).id)∧
  w.cell? ⟨b,off+k* 6+2,none⟩=some (.string (xs.getD k default).name)∧
  w.cell? ⟨b,off+k* 6+3,none⟩=some (.string (xs.getD k default).digest)∧
  w.cell? ⟨b,off+k* 6+4,none⟩=some (.slice A4 n4 c4)∧
  w.cell? ⟨b,off+k* 6+5,none⟩=some (.slice A5 n5 c5)∧
  w.frozen? ⟨b,off+k* 6,none⟩=false∧
  w.frozen? ⟨b,off+k* 6+1,none⟩=false∧
  w.frozen? ⟨b,off+k* 6+2,none⟩=false∧
  w.frozen? ⟨b,off+k* 6+3,none⟩=false∧
  w.frozen? ⟨b,off+k* 6+4,none⟩=false∧
  w.frozen? ⟨b,off+k* 6+5,none⟩=false:=by
 obtain⟨h1,_,_,h4⟩:=h;obtain⟨b,off,e,hb,hlt,_,hc⟩:=h4 (by omega);have hx:xs[k]?=some (xs.getD k default):=by rw[List.getD_eq_getElem?_getD,List.getElem?_eq_getElem (by omega)];rfl
 obtain⟨vs,⟨A4,n4,c4,A5,n5,c5,rfl,hok,h4,h5⟩,hcc⟩:=hc k _ hx;have q0:=hcc 0 _ rfl;have q1:=hcc 1 _ rfl;have q2:=hcc 2 _ rfl;have q3:=hcc 3 _ rfl;have q4:=hcc 4 _ rfl;have q5:=hcc 5 _ rfl;simp only[xn,Nat.add_zero] at q0 q1 q2 q3 q4 q5;exact⟨b,off,A4,n4,c4,A5,n5,c5,e,hb,hlt,hok.1,hok.2.1,hok.2.2.1,hok.2.2.2,h4,h5,q0.1,q1.1,q2.1,q3.1,q4.1,q5.1,q0.2,q1.2,q2.2,q3.2,q4.2,q5.2⟩
structure Bg where
 live:List Bool
 free:List (List Int)
theorem Bg.Bl {a b:Bg}:a=b↔(a.live=b.live∧a.free=b.free):=by cases a;cases b;simp
instance:DecidableEq Bg:=fun a b=>decidable_of_iff (a.live=b.live∧a.free=b.free) (Iff.symm Bg.Bl)
instance:Inhabited Bg:=⟨⟨[],[]⟩⟩
def kF (tg:Bool):Enc Bg where
 sz:=2
 R w S vs x:=∃A0 n0 c0 A1 n1 c1,vs=[.slice A0 n0 c0,.slice A1 n1 c1]∧(True)∧Sl tg 4 Bn w S A0 n0 c0 x.live∧Sl tg 36 (Cg tg 3 Bd) w S A1 n1 c1 x.free
 len h:=by obtain⟨A0,n0,c0,A1,n1,c1,rfl,_,_,_⟩:=h;rfl
 one h:=by obtain⟨A0,n0,c0,A1,n1,c1,rfl,_,_,_⟩:=h;simp[Value.oneCell']
 mono hS h:=by obtain⟨A0,n0,c0,A1,n1,c1,rfl,hok,h0,h1⟩:=h;exact⟨_,_,_,_,_,_,rfl,hok,h0.mono hS,h1.mono hS⟩
 frame hA hs h:=by obtain⟨A0,n0,c0,A1,n1,c1,rfl,hok,h0,h1⟩:=h;exact⟨_,_,_,_,_,_,rfl,hok,h0.frame hA hs,h1.frame hA hs⟩
structure Book where
 Ba:List Bb
 things:List Entry
 tags:List Tag
 next:Int
theorem Book.Bl {a b:Book}:a=b↔(a.Ba=b.Ba∧a.things=b.things∧a.tags=b.tags∧a.next=b.next):=by cases a;cases b;simp
instance:DecidableEq Book:=fun a b=>decidable_of_iff (a.Ba=b.Ba∧a.things=b.things∧a.tags=b.tags∧a.next=b.next) (Iff.symm Book.Bl)
instance:Inhabited Book:=⟨⟨[],[],[],0⟩⟩
def bookE (tg:Bool):Enc Book where
 sz:=4
 R w S vs x:=∃A0 n0 c0 A1 n1 c1 A2 n2 c2,vs=[.slice A0 n0 c0,.slice A1 n1 c1,.slice A2 n2 c2,.int .i64 x.next]∧(Bo x.next)∧Sl tg 86 (qe tg) w S A0 n0 c0 x.Ba∧Sl tg 90 (ql tg) w S A1 n1 c1 x.things∧Sl tg 94 Bz w S A2 n2 c2 x.tags
 len h:=by obtain⟨A0,n0,c0,A1,n1,c1,A2,n2,c2,rfl,_,_,h1,_⟩:=h;rfl
 one h:=by obtain⟨A0,n0,c0,A1,n1,c1,A2,n2,c2,rfl,_,_,h1,_⟩:=h;simp[Value.oneCell']
 mono hS h:=by obtain⟨A0,n0,c0,A1,n1,c1,A2,n2,c2,rfl,hok,h0,h1,h2⟩:=h;exact⟨_,_,_,_,_,_,_,_,_,rfl,hok,h0.mono hS,h1.mono hS,h2.mono hS⟩
 frame hA hs h:=by obtain⟨A0,n0,c0,A1,n1,c1,A2,n2,c2,rfl,hok,h0,h1,h2⟩:=h;exact⟨_,_,_,_,_,_,_,_,_,rfl,hok,h0.frame hA hs,h1.frame hA hs,h2.frame hA hs⟩
structure Dz where
 act:Int
 d:Int
 n:Int
 is:Bool
 disk:Int
 pos:Int
 l:List Int
theorem Dz.Bl {a b:Dz}:a=b↔(a.act=b.act∧a.d=b.d∧a.n=b.n∧a.is=b.is∧a.disk=b.disk∧a.pos=b.pos∧a.l=b.l):=by cases a;cases b;simp
instance:DecidableEq Dz:=fun a b=>decidable_of_iff (a.act=b.act∧a.d=b.d∧a.n=b.n∧a.is=b.is∧a.disk=b.disk∧a.pos=b.pos∧a.l=b.l) (Iff.symm Dz.Bl)
instance:Inhabited Dz:=⟨⟨0,0,0,false,0,0,[]⟩⟩
theorem Sl.Di {α:Type}{E:Enc α}{tg tg':Bool}{T T':TypeId}{w:World}{S:Nat→Prop}{A:Option Addr}{n c:Nat}{xs:List (List α)}(h:Sl tg T (Cg tg' T' E) w S A n c xs) {k:Nat}(hk:k<n):∃b off A' n' c',A=some ⟨b,off,none⟩∧S b∧b<w.heap.size∧Sl tg' T' E w S A' n' c' (xs.getD k [])∧
  w.cell? ⟨b,off+k,none⟩=some (.slice A' n' c')∧w.frozen? ⟨b,off+k,none⟩=false:=by
 obtain⟨h1,_,_,h4⟩:=h;obtain⟨b,off,e,hb,hlt,_,hc⟩:=h4 (by omega);have hx:xs[k]?=some (xs.getD k []):=by rw[List.getD_eq_getElem?_getD,List.getElem?_eq_getElem (by omega)];rfl
 obtain⟨vs,⟨A',n',c',rfl,hi⟩,hcc⟩:=hc k _ hx;have:=hcc 0 _ rfl;simp only[Cg,Nat.mul_one,Nat.add_zero] at this;exact⟨b,off,A',n',c',e,hb,hlt,hi,this.1,this.2⟩
theorem Be.BD {T:TypeId}{w:World}{S:Nat→Prop}{A:Option Addr}{n c base:Nat}{xs:List Int}(h:Be T Bd w base S A n c xs) {k:Nat}(hk:k<n):∃g,A=some ⟨g,0,none⟩∧base≤g∧g<w.heap.size∧Bo (xs.getD k 0)∧w.cell? ⟨g,k,none⟩=some (.int .i64 (xs.getD k 0))∧w.frozen? ⟨g,k,none⟩=false:=by
 obtain⟨g,rfl,hb,hlt⟩:=h.form (by omega);obtain⟨b,off,e,_,_,q1,q2,q3⟩:=(h.sl (tg:=false)).BD hk;injection e with e;injection e with e1 e2 _;subst e1;subst e2
 rw[Nat.zero_add] at q2 q3;exact⟨g,rfl,hb,hlt,q1,q2,q3⟩
theorem Jr {w:World}{S:Nat→Prop}{x:Int}(h:Bo x):Bd.R w S [.int .i64 x] x:=⟨rfl,h⟩
end Go.Silo
