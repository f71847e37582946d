import Derived.Test.YtipecejghioicaaGreatBasev
namespace Go.Silo
open Go.RowKit
theorem zo {w:World}{g:Nat}{cs:Array Value}{t:TypeId}{fr:Nat×Nat}(j:Nat) (h:w.heap[g]?=some (.cells cs t fr)):w.cell? ⟨g,j,none⟩=cs[j]?:=cell_of_row w g j cs t fr h
theorem zc {w:World}{g:Nat}{cs:Array Value}{t:TypeId}{fr:Nat×Nat}(j:Nat) (h:w.heap[g]?=some (.cells cs t fr)) (x:Value) (e:cs[j]?=some x):w.cell? ⟨g,j,none⟩=some x:=(cell_of_row w g j cs t fr h).trans e
theorem zf {w:World}{g:Nat}{cs:Array Value}{t:TypeId}(j:Nat) (h:w.heap[g]?=some (.cells cs t (0,0))):w.frozen? ⟨g,j,none⟩=false:=frozen_of_row w g j cs t h
theorem zh {p:Prop}(h:p):Hid p:=Lib.hid h
theorem zl {α:Type}{a:Array α}{i:Nat}{x:α}(h:a[i]?=some x):i<a.size:=(Array.getElem?_eq_some_iff.1 h).1
theorem zb {w w':World}{g:Nat}{x:Obj}(b:Below w.heap.size w w') (h:w.heap[g]?=some x):w'.heap[g]?=some x:=(b.block _ (zl h)).trans h
theorem zv {a b:Value}(h:a=b) (c:Value) (e:b=c):a=c:=h.trans e
theorem zu {w w' w'':World}(h:Hid (Below w.heap.size w w')) (k:Below w'.heap.size w' w''):Below w.heap.size w w'':=h.out.trans (k.mono h.out.size)
theorem zt {w w' w'':World}(h:Hid (Below w.heap.size w w')) (k:Below w'.heap.size w' w''):Hid (Below w.heap.size w w''):=h.out.trans (k.mono h.out.size)
theorem bz {B:Nat}{w w':World}(h:Below B w w':=by repeat' (first|(with_reducible exact Below.refl _ _)|(with_reducible refine Below.alloc ?_ ?_ _)|(with_reducible refine Below.drew ?_)|(with_reducible refine below_drewN ?_ _)|(with_reducible refine Below.setCell ?_ ?_ _)|(refine via ?_ (by with_reducible assumption) ?_)|(refine via ?_ (zr _ _) ?_)|go_size)):Below B w w':=h
theorem Bz {α:Type}(l:List α) (i:Nat) (a:α):l.toArray.setIfInBounds i a=(l.set i a).toArray:=List.setIfInBounds_toArray l i a
theorem BA {α:Type}{x:α}{xs:List α}{i:Nat}{a:α}:(x::xs).set (i+1) a=x::xs.set i a:=rfl
theorem BB {α:Type}{x:α}{xs:List α}{a:α}:(x::xs).set 0 a=a::xs:=rfl
theorem BC {α β:Type}{f:α→β}{a:α}{l:List α}:(a::l).map f=f a::l.map f:=rfl
theorem BD {α β:Type}{f:α→β}:([]:List α).map f=[]:=rfl
theorem BF {α β:Type}{f:β→α→β}{b:β}{a:α}{l:List α}:(a::l).foldl f b=l.foldl f (f b a):=rfl
theorem BG {α β:Type}{f:β→α→β}{b:β}:([]:List α).foldl f b=b:=rfl
theorem qN {w:World}{g:Nat}{a0 a1 a2 a3:Value}{t:TypeId}(h:w.heap[g]?=some (.cells #[a0,a1,a2,a3] t (0,0))):w.cell? ⟨g,0,none⟩=some a0∧w.cell? ⟨g,1,none⟩=some a1∧w.cell? ⟨g,2,none⟩=some a2∧w.cell? ⟨g,3,none⟩=some a3∧w.frozen? ⟨g,0,none⟩=false∧w.frozen? ⟨g,1,none⟩=false∧w.frozen? ⟨g,2,none⟩=false∧w.frozen? ⟨g,3,none⟩=false:=⟨cell_of_row _ _ 0 _ _ _ h,cell_of_row _ _ 1 _ _ _ h,cell_of_row _ _ 2 _ _ _ h,cell_of_row _ _ 3 _ _ _ h,frozen_of_row _ _ 0 _ _ h,frozen_of_row _ _ 1 _ _ h,frozen_of_row _ _ 2 _ _ h,frozen_of_row _ _ 3 _ _ h⟩
theorem zC {w:World}{g:Nat}{a0 a1 a2 a3:Value}{t:TypeId}(h:w.heap[g]?=some (.cells #[a0,a1,a2,a3] t (0,0))):w.cell? ⟨g,0,none⟩=some a0∧w.cell? ⟨g,1,none⟩=some a1∧w.cell? ⟨g,2,none⟩=some a2∧w.cell? ⟨g,3,none⟩=some a3:=⟨cell_of_row _ _ 0 _ _ _ h,cell_of_row _ _ 1 _ _ _ h,cell_of_row _ _ 2 _ _ _ h,cell_of_row _ _ 3 _ _ _ h⟩
theorem rwqf {w:World}{g:Nat}{a0 a1 a2 a3:Value}{t:TypeId}(h:w.heap[g]?=some (.cells #[a0,a1,a2,a3] t (0,0))):w.frozen? ⟨g,0,none⟩=false∧w.frozen? ⟨g,1,none⟩=false∧w.frozen? ⟨g,2,none⟩=false∧w.frozen? ⟨g,3,none⟩=false:=⟨frozen_of_row _ _ 0 _ _ h,frozen_of_row _ _ 1 _ _ h,frozen_of_row _ _ 2 _ _ h,frozen_of_row _ _ 3 _ _ h⟩
theorem QK {w:World}{g:Nat}{a0 a1 a2 a3 a4 a5:Value}{t:TypeId}(h:w.heap[g]?=some (.cells #[a0,a1,a2,a3,a4,a5] t (0,0))):w.cell? ⟨g,0,none⟩=some a0∧w.cell? ⟨g,1,none⟩=some a1∧w.cell? ⟨g,2,none⟩=some a2∧w.cell? ⟨g,3,none⟩=some a3∧w.cell? ⟨g,4,none⟩=some a4∧w.cell? ⟨g,5,none⟩=some a5:=⟨cell_of_row _ _ 0 _ _ _ h,cell_of_row _ _ 1 _ _ _ h,cell_of_row _ _ 2 _ _ _ h,cell_of_row _ _ 3 _ _ _ h,cell_of_row _ _ 4 _ _ _ h,cell_of_row _ _ 5 _ _ _ h⟩
theorem ZQ {w:World}{g:Nat}{a0 a1 a2 a3 a4 a5 a6 a7 a8 a9:Value}{t:TypeId}(h:w.heap[g]?=some (.cells #[a0,a1,a2,a3,a4,a5,a6,a7,a8,a9] t (0,0))):w.cell? ⟨g,0,none⟩=some a0∧w.cell? ⟨g,1,none⟩=some a1∧w.cell? ⟨g,2,none⟩=some a2∧w.cell? ⟨g,3,none⟩=some a3∧w.cell? ⟨g,4,none⟩=some a4∧w.cell? ⟨g,5,none⟩=some a5∧w.cell? ⟨g,6,none⟩=some a6∧w.cell? ⟨g,7,none⟩=some a7∧w.cell? ⟨g,8,none⟩=some a8∧w.cell? ⟨g,9,none⟩=some a9:=⟨cell_of_row _ _ 0 _ _ _ h,cell_of_row _ _ 1 _ _ _ h,cell_of_row _ _ 2 _ _ _ h,cell_of_row _ _ 3 _ _ _ h,cell_of_row _ _ 4 _ _ _ h,cell_of_row _ _ 5 _ _ _ h,cell_of_row _ _ 6 _ _ _ h,cell_of_row _ _ 7 _ _ _ h,cell_of_row _ _ 8 _ _ _ h,cell_of_row _ _ 9 _ _ _ h⟩
theorem Kd {w:World}{g:Nat}{a0 a1 a2 a3 a4 a5 a6 a7 a8 a9:Value}{t:TypeId}(h:w.heap[g]?=some (.cells #[a0,a1,a2,a3,a4,a5,a6,a7,a8,a9] t (0,0))):w.cell? ⟨g,0,none⟩=some a0∧w.cell? ⟨g,1,none⟩=some a1∧w.cell? ⟨g,2,none⟩=some a2∧w.cell? ⟨g,3,none⟩=some a3∧w.cell? ⟨g,4,none⟩=some a4∧w.cell? ⟨g,5,none⟩=some a5∧w.cell? ⟨g,6,none⟩=some a6:=⟨cell_of_row _ _ 0 _ _ _ h,cell_of_row _ _ 1 _ _ _ h,cell_of_row _ _ 2 _ _ _ h,cell_of_row _ _ 3 _ _ _ h,cell_of_row _ _ 4 _ _ _ h,cell_of_row _ _ 5 _ _ _ h,cell_of_row _ _ 6 _ _ _ h⟩
theorem xQ {w:World}{g:Nat}{a0 a1 a2:Value}{t:TypeId}(h:w.heap[g]?=some (.cells #[a0,a1,a2] t (0,0))):w.cell? ⟨g,0,none⟩=some a0∧w.cell? ⟨g,1,none⟩=some a1∧w.cell? ⟨g,2,none⟩=some a2:=⟨cell_of_row _ _ 0 _ _ _ h,cell_of_row _ _ 1 _ _ _ h,cell_of_row _ _ 2 _ _ _ h⟩
end Go.Silo
namespace Go.Silo
open Go
def upd (D:Nat→Bool) (i:Nat):Nat→Bool:=fun k=>if k=i then true else D k
theorem xj (D:Nat→Bool) (i:Nat):upd D i i=true:=by simp[upd]
theorem qK (D:Nat→Bool) {i k:Nat}(h:k≠i):upd D i k=D k:=by simp[upd,h]
def jC (P:Program) (ops:Array Oper) (Q:Exit→Act→World→Prop) (I:(Nat→Bool)→Act→World→Prop) (i:Nat) (o:Oper):Prop:=
 ∀D a w,I D a w→D i=false→(∀e∈o.after,Region.binds .any e=true→D e.on=true)→
  ∀K:Act→World→Prop,(∀a w,I (upd D i) a w→K a w)→if Region.wanted o (yielded ops a.tmps)=true then Oper.wp P o a w K Q else K (a.put o.dst undef) w
def Cm (P:Program) (ops:Array Oper) (Q:Exit→Act→World→Prop) (I:(Nat→Bool)→Act→World→Prop):Nat→List Oper→Prop
 |_,[]=>True
 |i,o::l=>jC P ops Q I i o∧Cm P ops Q I (i+1) l
theorem Cm.get {P:Program}{ops:Array Oper}{Q:Exit→Act→World→Prop}{I:(Nat→Bool)→Act→World→Prop}:∀{l:List Oper}{j i:Nat}{o:Oper},Cm P ops Q I j l→l[i]?=some o→jC P ops Q I (j+i) o
 |[],_,_,_,_,h=>by simp at h
 |o::l,j,0,_,hs,h=>by simp at h;subst h;exact hs.1
 |o::l,j,i+1,_,hs,h=>by
  have:=Cm.get (i:=i) hs.2 (by simpa using h);rw[show j+(i+1)=j+1+i by omega];exact this
theorem Jd {l:List Bool}{i:Nat}(h:l[i]?=some false):(l.set i true).countP (fun b=>!b)+1=l.countP (fun b=>!b):=by
 induction l generalizing i with
 |nil=>simp at h
 |cons b l ih=>
  cases i with
  |zero=>simp at h;subst h;simp
  |succ i=>
   have:=ih (i:=i) (by simpa using h);rw[List.set_cons_succ,List.countP_cons,List.countP_cons];omega
theorem Ke {P:Program}{ops:Array Oper}{Q:Exit→Act→World→Prop}{I:(Nat→Bool)→Act→World→Prop}
  (um:∀(i:Nat) (o:Oper),ops[i]?=some o→∀e∈o.after,Region.binds .any e=true→e.on<i) (hs:∀(i:Nat) (o:Oper),ops[i]?=some o→jC P ops Q I i o)
  (hend:∀D a w,I D a w→(∀i,i<ops.size→D i=true)→Q .normal a w):
  ∀(fuel:Nat) (L:Array Bool) (a:Act) (w:World),L.size=ops.size→L.toList.countP (fun b=>!b)≤fuel→I (fun k=>L.getD k false) a w→wpAny P .any ops Q fuel L a w:=by
 have stuck:∀L:Array Bool,L.size=ops.size→Region.ready .any ops L=[]→∀i,i<ops.size→L.getD i false=true:=by
  intro L hL hr i
  induction i using Nat.strongRecOn with
  |_ i ih=>
   intro hi
   cases hb:L.getD i false with
   |true=>rfl
   |false=>
    exfalso
    have hlt:i<L.size:=by omega
    have hbt:L.getD i true=false:=by
     simp[Array.getElem?_eq_getElem hlt] at hb⊢;exact hb
    have ho:ops[i]?=some ops[i]:=Array.getElem?_eq_getElem hi;have:i∈Region.ready .any ops L:=mem_ready.2 ⟨hbt,_,ho,fun e he hb=>ih e.on (um i _ ho e he hb) (Nat.lt_trans (um i _ ho e he hb) hi)⟩;rw[hr] at this
    cases this
 intro fuel
 induction fuel with
 |zero=>
  intro L a w hL hc hI
  have hall:∀i,i<ops.size→L.getD i false=true:=by
   intro i hi;have hlt:i<L.size:=(by omega);have h0:L.toList.countP (fun b=>!b)=0:=(by omega);rw[List.countP_eq_zero] at h0;have:=h0 L[i] (by simp);simp at this;simp[Array.getElem?_eq_getElem hlt,this]
  refine⟨?_,hend _ a w hI hall⟩
  cases hr:Region.ready .any ops L with
  |nil=>rfl
  |cons i r=>
   exfalso
   have hm:i∈Region.ready .any ops L:=(by rw[hr];simp);obtain⟨h1,o,ho,_⟩:=mem_ready.1 hm;have hi:i<ops.size:=(zl ho);have h2:=hall i hi;have hlt:i<L.size:=(by omega);simp[Array.getElem?_eq_getElem hlt] at h1 h2;rw[h1] at h2;cases h2
 |succ fuel ih=>
  intro L a w hL hc hI;refine⟨fun hr=>hend _ a w hI (stuck L hL hr),fun i hm=>?_⟩;obtain⟨h1,o,ho,hdep⟩:=mem_ready.1 hm;have hi:i<ops.size:=(zl ho);have hlt:i<L.size:=by omega
  have hLi:L[i]=false:=by simpa[Array.getElem?_eq_getElem hlt] using h1
  refine wpOp_step ho (fun K' hK=>hs i o ho _ a w hI (by simp[Array.getElem?_eq_getElem hlt,hLi]) hdep K' (fun a' w' hI'=>hK a' w' (ih _ a' w' (by simpa using hL) ?_ ?_)))
  ·have:=Jd (l:=L.toList) (i:=i) (by simp[Array.getElem?_eq_getElem hlt,hLi]);rw[Array.toList_setIfInBounds];omega
  have:(fun k=>(L.setIfInBounds i true).getD k false)=upd (fun k=>L.getD k false) i:=by
   funext k
   by_cases hk:k=i
   ·subst hk;rw[xj];simp[hlt]
   rw[qK _ hk];simp[Array.getElem?_setIfInBounds_ne (Ne.symm hk)]
  rw[this];exact hI'
def kC (l:List Oper):Bool:=l.zipIdx.all fun p=>p.1.after.all fun e=>!Region.binds .any e||decide (e.on<p.2)
theorem QL {P:Program}{id:Nat}{Q:Exit→Act→World→Prop}{a:Act}{w:World}{l:List Oper}(hm:P.follows .mixedOrders=true) (um:kC l=true)
  (I:(Nat→Bool)→Act→World→Prop) (h0:I (fun _=>false) a w.drew) (hs:Cm P l.toArray Q I 0 l) (hend:∀D a w,I D a w→(∀i,i<l.length→D i=true)→Q .normal a w):
  (Code.region id l.toArray true).wp P Q a w:=by
 refine wp_region_any hm (Ke ?_ ?_ (fun D a w hI h=>hend D a w hI (by simpa using h)) _ _ a w.drew (by simp) ?_ ?_)
 ·intro i o ho e he hb;unfold kC at um;rw[List.all_eq_true] at um;have h1:=um (o,i) (List.mem_zipIdx_iff_getElem?.2 (by simpa using ho));have h2:=Array.all_eq_true_iff_forall_mem.1 h1 e he;simpa[hb] using h2
 ·intro i o ho;have:=hs.get (i:=i) (by simpa using ho);simpa using this
 ·have:(Array.replicate l.toArray.size false).toList.countP (fun b=>!b)≤(Array.replicate l.toArray.size false).toList.length:=List.countP_le_length;simpa using this
 have:(fun k=>(Array.replicate l.toArray.size false).getD k false)=fun _=>false:=by
  funext k
  rcases Nat.lt_or_ge k l.toArray.size with h|h
  ·simp[Array.getElem?_replicate];split<;>rfl
  simp[Array.getElem?_replicate];split<;>rfl
 rw[this];exact h0
def xT (a:Act) (ds:List Nat) (v:Nat→Value):Act:=⟨(a.tmps.toList.zipIdx.map (fun p=>if ds.contains p.2 then v p.2 else p.1)).toArray,a.defers⟩
theorem xN (a:Act) (ds:List Nat) (v:Nat→Value) (t:Nat):(xT a ds v).tmps[t]?=(a.tmps[t]?).map (fun u=>if ds.contains t then v t else u):=by
 simp only[xT,List.getElem?_toArray,List.getElem?_map,List.getElem?_zipIdx,Array.getElem?_toList,Option.map_map]
 cases a.tmps[t]? with
 |none=>rfl
 |some u=>simp
theorem Kf (a:Act) (ds:List Nat) (v:Nat→Value):(xT a ds v).tmps.size=a.tmps.size:=by simp[xT]
theorem QE {a b:Act}(h:∀t:Nat,a.tmps[t]?=b.tmps[t]?) (hd:a.defers=b.defers):a=b:=by
 obtain⟨x,d⟩:=a;obtain⟨y,e⟩:=b;simp only at h hd;rw[hd,Array.ext_getElem? h]
theorem kD (a:Act) (ds:List Nat) (v:Nat→Value) (d:Nat) (x:Value) (h:ds.contains d=true):(xT a ds v).put (some d) x=xT a ds (fun t=>if t=d then x else v t):=by
 refine QE (fun t=>?_) rfl;rw[xN];show((xT a ds v).tmps.setIfInBounds d x)[t]?=_;by_cases ht:t=d
 ·subst ht;simp only[h,if_true];rw[Array.getElem?_setIfInBounds_self,Kf];by_cases hs:t<a.tmps.size
  ·rw[if_pos hs,Array.getElem?_eq_getElem hs];simp
  rw[if_neg hs,Array.getElem?_eq_none (by omega)];rfl
 rw[Array.getElem?_setIfInBounds_ne (Ne.symm ht),xN];simp only[if_neg ht]
theorem ZH (a:Act) (ds:List Nat):xT a ds (fun t=>a.eval (.tmp t))=a:=by
 refine QE (fun t=>?_) rfl;rw[xN]
 cases h:a.tmps[t]? with
 |none=>rfl
 |some u=>simp[Act.eval,h]
theorem kV (a:Act) (ds:List Nat) (v:Nat→Value) (t:Nat) (h:ds.contains t=true) (hs:t<a.tmps.size):(xT a ds v).eval (.tmp t)=v t:=by
 show((xT a ds v).tmps.getD t undef)=_;rw[Array.getD_eq_getD_getElem?,xN,Array.getElem?_eq_getElem hs];simp;intro hh;simp at h;exact absurd h hh
theorem QM (a:Act) (ds:List Nat) (v:Nat→Value) (t:Nat) (h:ds.contains t=false):(xT a ds v).eval (.tmp t)=a.eval (.tmp t):=by
 show((xT a ds v).tmps.getD t undef)=a.tmps.getD t undef;rw[Array.getD_eq_getD_getElem?,xN,Array.getD_eq_getD_getElem?];simp only[h]
 cases a.tmps[t]?<;>rfl
theorem QN (a:Act) (ds:List Nat) (v v':Nat→Value) (h:∀t,ds.contains t=true→v t=v' t):xT a ds v=xT a ds v':=by
 refine QE (fun t=>?_) rfl;rw[xN,xN]
 cases hc:ds.contains t with
 |false=>simp
 |true=>simp[h t hc]
def zG (pos:Nat→Option Nat) (fx:Nat→Value) (us:List Value) (t:Nat):Value:=match pos t with|some k=>us.getD k undef|none=>fx t
def Fv (l:List Oper) (n:Nat) (ds chain:List Nat) (pos:Nat→Option Nat) (lim:Nat→Nat) (tl:Nat→List Nat) (i:Nat) (o:Oper):Bool:=
 o.guard.isNone&&(match o.dst with|none=>chain.contains i|some d=>ds.contains d&&decide (d<n)&&(match chain.idxOf? i with|some k=>pos d==some k|none=>pos d==none)&&l.zipIdx.all fun q=>q.2==i||q.1.dst !=some d)&&
 (match chain.idxOf? i with
  |some k=>k==0||(match chain[k - 1]? with|some c=>o.after.any fun e=>Region.binds .any e&&e.on==c|none=>false)
  |none=>match chain[lim i]? with
   |none=>true
   |some c=>match l[c]? with|none=>false|some oc=>oc.after.any fun e=>Region.binds .any e&&e.on==i)&&
 (tl i).all fun t=>o.after.any fun e=>Region.binds .any e&&(match l[e.on]? with|some oj=>oj.dst==some t|none=>false)
def Je (l:List Oper) (n:Nat) (ds chain:List Nat) (pos:Nat→Option Nat) (lim:Nat→Nat) (tl:Nat→List Nat):Bool:=
 (l.zipIdx.all fun p=>Fv l n ds chain pos lim tl p.2 p.1)&&chain.all (fun c=>decide (c<l.length))&&(chain.zipIdx.all fun p=>chain.idxOf? p.1==some p.2)&&ds.all (fun d=>l.any fun o=>o.dst==some d)
def Cs (P:Program) (ops:Array Oper) (Q:Exit→Act→World→Prop) (a0:Act) (ds chain:List Nat) (pos:Nat→Option Nat) (fx:Nat→Value) (lim:Nat→Nat) (tl:Nat→List Nat) (Wd:List Value→World→Prop) (i:Nat) (o:Oper):Prop:=
 match chain.idxOf? i with
 |none=>∀(ρ:Operand→Value) us w,(∀t,ds.contains t=false→ρ (.tmp t)=a0.eval (.tmp t))→(∀t∈tl i,ρ (.tmp t)=zG pos fx us t)→(∀v,ρ (.const v)=v)→us.length≤lim i→Wd us w→
   (execOp ρ o).run P w=.ok (.value (fx (o.dst.getD 0))) w
 |some k=>∀(a:Act) us w,(∀t,ds.contains t=false→a.eval (.tmp t)=a0.eval (.tmp t))→(∀t∈tl i,a.eval (.tmp t)=zG pos fx us t)→us.length=k→Wd us w→
   ∀K:Act→World→Prop,(∀x w',Wd (us++[x]) w'→K (a.put o.dst x) w')→if Region.wanted o (yielded ops a.tmps)=true then Oper.wp P o a w K Q else K (a.put o.dst undef) w
def CX (P:Program) (ops:Array Oper) (Q:Exit→Act→World→Prop) (a0:Act) (ds chain:List Nat) (pos:Nat→Option Nat) (fx:Nat→Value) (lim:Nat→Nat) (tl:Nat→List Nat) (Wd:List Value→World→Prop):Nat→List Oper→Prop
 |_,[]=>True
 |i,o::l=>Cs P ops Q a0 ds chain pos fx lim tl Wd i o∧CX P ops Q a0 ds chain pos fx lim tl Wd (i+1) l
theorem CX.get {P:Program}{ops:Array Oper}{Q:Exit→Act→World→Prop}{a0:Act}{ds chain:List Nat}{pos:Nat→Option Nat}{fx:Nat→Value}{lim:Nat→Nat}{tl:Nat→List Nat}{Wd:List Value→World→Prop}:
  ∀{l:List Oper}{j i:Nat}{o:Oper},CX P ops Q a0 ds chain pos fx lim tl Wd j l→l[i]?=some o→Cs P ops Q a0 ds chain pos fx lim tl Wd (j+i) o
 |[],_,_,_,_,h=>by simp at h
 |o::l,j,0,_,hs,h=>by simp at h;subst h;exact hs.1
 |o::l,j,i+1,_,hs,h=>by
  have:=CX.get (i:=i) hs.2 (by simpa using h);rw[show j+(i+1)=j+1+i by omega];exact this
theorem zU {l:List Nat}{i k:Nat}(h:l.idxOf? i=some k):l[k]?=some i:=by
 induction l generalizing k with
 |nil=>simp at h
 |cons x l ih=>
  rw[List.idxOf?_cons] at h
  split at h
  ·rename_i hx;simp at hx;injection h with h;subst h;simp[hx]
  cases hl:l.idxOf? i with
  |none=>rw[hl] at h;cases h
  |some m=>rw[hl] at h;injection h with h;subst h;simpa using ih hl
theorem ZR {P:Program}{id:Nat}{Q:Exit→Act→World→Prop}{a0:Act}{w:World}{l:List Oper}(hm:P.follows .mixedOrders=true) (um:kC l=true)
  (ds chain:List Nat) (pos:Nat→Option Nat) (fx:Nat→Value) (lim:Nat→Nat) (tl:Nat→List Nat) (Wd:List Value→World→Prop) (hchk:Je l a0.tmps.size ds chain pos lim tl=true)
  (h0:Wd [] w.drew) (hops:CX P l.toArray Q a0 ds chain pos fx lim tl Wd 0 l)
  (hend:∀us w',us.length=chain.length→Wd us w'→Q .normal (xT a0 ds (zG pos fx us)) w'):
  (Code.region id l.toArray true).wp P Q a0 w:=by
 unfold Je at hchk;simp only[Bool.and_eq_true] at hchk;obtain⟨⟨⟨hc1,hc2⟩,hc3⟩,x4⟩:=hchk;have C:∀(i:Nat) (o:Oper),l[i]?=some o→Fv l a0.tmps.size ds chain pos lim tl i o=true:=fun i o ho=>(List.all_eq_true.1 hc1) (o,i) (List.mem_zipIdx_iff_getElem?.2 (by simpa using ho))
 have CI:∀(k c:Nat),chain[k]?=some c→chain.idxOf? c=some k:=fun k c hk=>by
  have:=(List.all_eq_true.1 hc3) (c,k) (List.mem_zipIdx_iff_getElem?.2 (by simpa using hk));simpa using this
 have G:∀(i:Nat) (o:Oper),l[i]?=some o→o.guard=none:=fun i o ho=>by
  have:=C i o ho;unfold Fv at this;simp only[Bool.and_eq_true] at this;simpa using this.1.1.1
 have DD:∀(i:Nat) (o:Oper) (d:Nat),l[i]?=some o→o.dst=some d→ds.contains d=true∧d<a0.tmps.size∧pos d=chain.idxOf? i∧∀(j:Nat) (oj:Oper),l[j]?=some oj→oj.dst=some d→j=i:=fun i o d ho hd=>by
  have:=C i o ho;unfold Fv at this;simp only[Bool.and_eq_true,hd] at this;obtain⟨⟨⟨_,⟨⟨⟨h1,h2⟩,h3⟩,h4⟩⟩,_⟩,_⟩:=this;refine⟨h1,by simpa using h2,?_,fun j oj hj mG=>?_⟩
  ·cases hk:chain.idxOf? i with
   |none=>rw[hk] at h3;simpa using h3
   |some k=>rw[hk] at h3;simpa using h3
  have h5:=(List.all_eq_true.1 h4) (oj,j) (List.mem_zipIdx_iff_getElem?.2 (by simpa using hj));simp[mG] at h5;exact h5
 have DN:∀(i:Nat) (o:Oper),l[i]?=some o→o.dst=none→chain.idxOf? i≠none:=fun i o ho hd=>by
  have:=C i o ho;unfold Fv at this;simp only[Bool.and_eq_true,hd] at this;obtain⟨⟨⟨_,h1⟩,_⟩,_⟩:=this;obtain⟨k,hk⟩:=List.mem_iff_getElem?.1 (by simpa using h1:i∈chain);rw[CI k i hk];simp
 have ORD:∀(i:Nat) (o:Oper),l[i]?=some o→(match chain.idxOf? i with
  |some k=>k==0||(match chain[k - 1]? with|some c=>o.after.any fun e=>Region.binds .any e&&e.on==c|none=>false)
  |none=>match chain[lim i]? with
   |none=>true
   |some c=>match l[c]? with|none=>false|some oc=>oc.after.any fun e=>Region.binds .any e&&e.on==i)=true:=fun i o ho=>by
  have:=C i o ho;unfold Fv at this;simp only[Bool.and_eq_true] at this;exact this.1.2
 have TL:∀(i:Nat) (o:Oper),l[i]?=some o→∀t∈tl i,∃e∈o.after,Region.binds .any e=true∧∃oj,l[e.on]?=some oj∧oj.dst=some t:=fun i o ho t ht=>by
  have:=C i o ho;unfold Fv at this;simp only[Bool.and_eq_true] at this;have h2:=(List.all_eq_true.1 this.2) t ht;obtain⟨e,he,hb⟩:=Array.any_eq_true'.1 h2;simp only[Bool.and_eq_true] at hb;refine⟨e,he,hb.1,?_⟩
  cases hj:l[e.on]? with
  |none=>rw[hj] at hb;simp at hb
  |some oj=>rw[hj] at hb;exact⟨oj,rfl,by simpa using hb.2⟩
 refine QL hm um (fun D a w=>∃us v,a=xT a0 ds v∧Wd us w∧us.length≤chain.length∧(∀(k c:Nat),chain[k]?=some c→(D c=true↔k<us.length))∧
   (∀(i:Nat) (o:Oper) (d:Nat),l[i]?=some o→o.dst=some d→D i=true→v d=zG pos fx us d)∧(∀(i:Nat) (o:Oper),l[i]?=some o→D i=true→∀e∈o.after,Region.binds .any e=true→D e.on=true)) ?_ ?_ ?_
 ·exact⟨[],_,(ZH a0 ds).symm,h0,Nat.zero_le _,fun k c _=>by simp,fun _ _ _ _ _ h=>(by cases h),fun _ _ _ h=>(by cases h)⟩
 ·have key:∀(i:Nat) (o:Oper),l[i]?=some o→Cs P l.toArray Q a0 ds chain pos fx lim tl Wd i o→jC P l.toArray Q (fun D a w=>∃us v,a=xT a0 ds v∧Wd us w∧us.length≤chain.length∧(∀(k c:Nat),chain[k]?=some c→(D c=true↔k<us.length))∧
    (∀(i:Nat) (o:Oper) (d:Nat),l[i]?=some o→o.dst=some d→D i=true→v d=zG pos fx us d)∧(∀(i:Nat) (o:Oper),l[i]?=some o→D i=true→∀e∈o.after,Region.binds .any e=true→D e.on=true)) i o:=by
   intro i o ho hok D a w ⟨us,v,ha,hW,hlen,hst,hval,hcl⟩ Mt hdep K hK
   have x5:∀(j:Nat) (oj:Oper),l[j]?=some oj→upd D i j=true→∀e∈oj.after,Region.binds .any e=true→upd D i e.on=true:=by
    intro j oj hj pp e he hb;by_cases pK:j=i
    ·subst pK;rw[ho] at hj;injection hj with hj;subst hj
     by_cases h:e.on=j
     ·rw[h];exact xj _ _
     rw[qK _ h];exact hdep e he hb
    rw[qK _ pK] at pp;have:=hcl j oj hj pp e he hb;by_cases h:e.on=i
    ·rw[h];exact xj _ _
    rw[qK _ h];exact this
   have hin:∀t∈tl i,a.eval (.tmp t)=zG pos fx us t:=by
    intro t ht;obtain⟨e,he,hb,oj,hj,mG⟩:=TL i o ho t ht;have hd:=DD _ _ _ hj mG;rw[ha,kV _ _ _ _ hd.1 hd.2.1];exact hval _ _ _ hj mG (hdep e he hb)
   have hout:∀t,ds.contains t=false→a.eval (.tmp t)=a0.eval (.tmp t):=fun t ht=>by rw[ha];exact QM _ _ _ _ ht
   have p6:=ORD i o ho;unfold Cs at hok
   cases uh:chain.idxOf? i with
   |none=>
    rw[uh] at hok p6;simp only at hok p6
    have hlim:us.length≤lim i:=by
     cases hc:chain[lim i]? with
     |none=>have:=List.getElem?_eq_none_iff.1 hc;omega
     |some c=>
      rw[hc] at p6;simp only at p6
      cases hlc:l[c]? with
      |none=>rw[hlc] at p6;cases p6
      |some oc=>
       rw[hlc] at p6;simp only at p6;obtain⟨e,he,hb⟩:=Array.any_eq_true'.1 p6;simp only[Bool.and_eq_true,beq_iff_eq] at hb;rcases Nat.lt_or_ge (lim i) us.length with h|h
       ·have h1:=(hst _ _ hc).2 h;have h2:=hcl c oc hlc h1 e he hb.1;rw[hb.2,Mt] at h2;cases h2
       exact h
    have hrun:=hok a.eval us w hout hin (fun _=>rfl) hlim hW;have hw:Region.wanted o (yielded l.toArray a.tmps)=true:=(by simp[Region.wanted,G i o ho]);rw[if_pos hw];simp only[Oper.wp,hrun,Oper.upon]
    cases hd:o.dst with
    |none=>exact absurd uh (DN i o ho hd)
    |some d=>
     obtain⟨d1,d2,d3,d4⟩:=DD i o d ho hd;refine hK _ _ ⟨us,fun t=>if t=d then fx d else v t,by rw[ha];exact kD _ _ _ _ _ d1,hW,hlen,fun k c hkc=>?_,fun j oj d' hj mG pp=>?_,x5⟩
     ·have:c≠i:=fun h=>by subst h;rw[CI k c hkc] at uh;cases uh
      rw[qK _ this];exact hst k c hkc
     by_cases hdd:d'=d
     ·subst hdd;simp only[if_true];unfold zG;rw[d3,uh]
     have pK:j≠i:=fun h=>by subst h;rw[ho] at hj;injection hj with hj;subst hj;rw[hd] at mG;injection mG with mG;exact hdd mG.symm
     simp only[if_neg hdd];rw[qK _ pK] at pp;exact hval j oj d' hj mG pp
   |some k=>
    rw[uh] at hok p6;simp only at hok p6;have hck:=zU uh
    have hk1:us.length≤k:=by
     rcases Nat.lt_or_ge k us.length with h|h
     ·have:=(hst k i hck).2 h;rw[Mt] at this;cases this
     exact h
    have hk2:k≤us.length:=by
     rcases Nat.eq_zero_or_pos k with h|h
     ·omega
     have hne:(k==0)=false:=(by simp;omega);rw[hne,Bool.false_or] at p6
     cases hc:chain[k - 1]? with
     |none=>rw[hc] at p6;cases p6
     |some c=>
      rw[hc] at p6;simp only at p6;obtain⟨e,he,hb⟩:=Array.any_eq_true'.1 p6;simp only[Bool.and_eq_true,beq_iff_eq] at hb;have h1:=hdep e he hb.1;rw[hb.2] at h1;have:=(hst _ _ hc).1 h1;omega
    have hk:us.length=k:=(by omega);have hklt:k<chain.length:=(List.getElem?_eq_some_iff.1 hck).1;refine hok a us w hout hin hk hW K (fun x w' hW'=>hK _ _ ?_)
    have GU:∀(k' c:Nat),chain[k']?=some c→(upd D i c=true↔k'<(us++[x]).length):=fun k' c hkc=>by
     rw[List.length_append,List.length_singleton];by_cases hci:c=i
     ·subst hci;have:=(CI k' c hkc).symm.trans uh;injection this with this
      rw[xj];simp;omega
     rw[qK _ hci,hst k' c hkc];have:k'≠k:=fun h=>by subst h;rw[hck] at hkc;injection hkc with hkc;exact hci hkc.symm
     omega
    have vt:∀(j:Nat) (oj:Oper) (d':Nat),l[j]?=some oj→oj.dst=some d'→D j=true→zG pos fx (us++[x]) d'=zG pos fx us d':=by
     intro j oj d' hj mG pp;obtain⟨_,_,e3,_⟩:=DD j oj d' hj mG;unfold zG;rw[e3]
     cases hkj:chain.idxOf? j with
     |none=>rfl
     |some k'=>
      have:=(hst k' j (zU hkj)).1 pp;simp only;rw[List.getD_eq_getElem?_getD,List.getD_eq_getElem?_getD,List.getElem?_append_left this]
    cases hd:o.dst with
    |none=>
     refine⟨us++[x],v,ha,hW',by simp;omega,GU,fun j oj d' hj mG pp=>?_,x5⟩;have pK:j≠i:=fun h=>by subst h;rw[ho] at hj;injection hj with hj;subst hj;rw[hd] at mG;cases mG
     rw[qK _ pK] at pp;rw[vt j oj d' hj mG pp];exact hval j oj d' hj mG pp
    |some d=>
     obtain⟨d1,d2,d3,d4⟩:=DD i o d ho hd;refine⟨us++[x],fun t=>if t=d then x else v t,by rw[ha];exact kD _ _ _ _ _ d1,hW',by simp;omega,GU,fun j oj d' hj mG pp=>?_,x5⟩;by_cases hdd:d'=d
     ·subst hdd;simp only[if_true];unfold zG;rw[d3,uh];simp only;rw[List.getD_eq_getElem?_getD,List.getElem?_append_right (by omega),hk,Nat.sub_self];rfl
     have pK:j≠i:=fun h=>by subst h;rw[ho] at hj;injection hj with hj;subst hj;rw[hd] at mG;injection mG with mG;exact hdd mG.symm
     simp only[if_neg hdd];rw[qK _ pK] at pp;rw[vt j oj d' hj mG pp];exact hval j oj d' hj mG pp
  have all:∀(I:(Nat→Bool)→Act→World→Prop) (key:∀(i:Nat) (o:Oper),l[i]?=some o→Cs P l.toArray Q a0 ds chain pos fx lim tl Wd i o→jC P l.toArray Q I i o) (m:List Oper) (j:Nat),(∀(i:Nat) (o:Oper),m[i]?=some o→l[j+i]?=some o)→CX P l.toArray Q a0 ds chain pos fx lim tl Wd j m→Cm P l.toArray Q I j m:=by
   intro I key m
   induction m with
   |nil=>intro j _ _;trivial
   |cons o m ih=>
    intro j hm' hok;refine⟨key j o (by simpa using hm' 0 o rfl) hok.1,ih (j+1) (fun i o' h=>?_) hok.2⟩;have:=hm' (i+1) o' (by simpa using h);rw[show j+1+i=j+(i+1) by omega];exact this
  exact all _ key l 0 (fun i o h=>by simpa using h) hops
 intro D a w ⟨us,v,ha,hW,hlen,hst,hval,_⟩ hall
 have hfull:us.length=chain.length:=by
  rcases Nat.lt_or_ge us.length chain.length with h|h
  ·have hc:chain[us.length]?=some chain[us.length]:=List.getElem?_eq_getElem h;have hlt:chain[us.length]<l.length:=(by simpa using(List.all_eq_true.1 hc2) _ (List.getElem_mem h));have:=(hst _ _ hc).1 (hall _ hlt);omega
  omega
 have:a=xT a0 ds (zG pos fx us):=by
  rw[ha];refine QN _ _ _ _ (fun t ht=>?_);have h1:=(List.all_eq_true.1 x4) t (by simpa using ht);obtain⟨o,hom,hod⟩:=List.any_eq_true.1 h1;obtain⟨j,hj⟩:=List.mem_iff_getElem?.1 hom;exact hval j o t hj (by simpa using hod) (hall j (List.getElem?_eq_some_iff.1 hj).1)
 rw[this];exact hend us w hfull hW
def qb (a:Act) (ps:List (Nat×Value)):Act:=ps.foldl (fun a p=>a.put (some p.1) p.2) a
theorem jd (a:Act) (ds:List Nat) (v:Nat→Value):xT a ds v=qb a (ds.map fun d=>(d,v d)):=by
 have:∀(ds:List Nat) (a:Act),(qb a (ds.map fun d=>(d,v d))).defers=a.defers∧∀t:Nat,(qb a (ds.map fun d=>(d,v d))).tmps[t]?=(a.tmps[t]?).map (fun u=>if ds.contains t then v t else u):=by
  intro ds
  induction ds with
  |nil=>intro a;exact⟨rfl,fun t=>by simp[qb]⟩
  |cons d ds ih=>
   intro a;obtain⟨h1,h2⟩:=ih (a.put (some d) (v d));refine⟨h1,fun t=>?_⟩;refine(h2 t).trans ?_;show(((a.tmps.setIfInBounds d (v d))[t]?).map _)=_;by_cases ht:t=d
   ·subst ht;rw[Array.getElem?_setIfInBounds_self];by_cases hs:t<a.tmps.size
    ·rw[if_pos hs,Array.getElem?_eq_getElem hs];simp
    rw[if_neg hs,Array.getElem?_eq_none (by omega)];rfl
   rw[Array.getElem?_setIfInBounds_ne (Ne.symm ht)]
   cases a.tmps[t]? with
   |none=>rfl
   |some u=>simp[ht]
 exact QE (fun t=>by rw[xN,(this ds a).2 t]) (this ds a).1.symm
theorem Cs.rd {P:Program}{ops:Array Oper}{Q:Exit→Act→World→Prop}{a0:Act}{ds chain:List Nat}{pos:Nat→Option Nat}{fx:Nat→Value}{lim:Nat→Nat}{tl:Nat→List Nat}{Wd:List Value→World→Prop}{i:Nat}{o:Oper}
  (hi:chain.idxOf? i=none) (v:Value) (hv:fx (o.dst.getD 0)=v)
  (h:∀(ρ:Operand→Value) us w,(∀t,ds.contains t=false→ρ (.tmp t)=a0.eval (.tmp t))→(∀t∈tl i,ρ (.tmp t)=zG pos fx us t)→(∀v,ρ (.const v)=v)→us.length≤lim i→Wd us w→(execOp ρ o).run P w=.ok (.value v) w):
  Cs P ops Q a0 ds chain pos fx lim tl Wd i o:=by
 unfold Cs;rw[hi];simp only[hv];exact h
theorem Cs.wr {P:Program}{ops:Array Oper}{Q:Exit→Act→World→Prop}{a0:Act}{ds chain:List Nat}{pos:Nat→Option Nat}{fx:Nat→Value}{lim:Nat→Nat}{tl:Nat→List Nat}{Wd:List Value→World→Prop}{i:Nat}{o:Oper}{k:Nat}
  (hi:chain.idxOf? i=some k)
  (h:∀(a:Act) us w,(∀t,ds.contains t=false→a.eval (.tmp t)=a0.eval (.tmp t))→(∀t∈tl i,a.eval (.tmp t)=zG pos fx us t)→us.length=k→Wd us w→
   ∀K:Act→World→Prop,(∀x w',Wd (us++[x]) w'→K (a.put o.dst x) w')→if Region.wanted o (yielded ops a.tmps)=true then Oper.wp P o a w K Q else K (a.put o.dst undef) w):
  Cs P ops Q a0 ds chain pos fx lim tl Wd i o:=by
 unfold Cs;rw[hi];exact h
theorem Jf {P:Program}{id:Nat}{Q:Exit→Act→World→Prop}{a0:Act}{w:World}{l:List Oper}(hm:P.follows .mixedOrders=true) (um:kC l=true) (n:Nat) (hn:a0.tmps.size=n)
  (ds chain:List Nat) (pos:List (Nat×Nat)) (fx:List (Nat×Value)) (lim:Nat→Nat) (tl:List (List Nat)) (Wd:List Value→World→Prop) (hchk:Je l n ds chain (fun t=>pos.lookup t) lim (fun i=>tl.getD i [])=true)
  (h0:Wd [] w.drew) (hops:CX P l.toArray Q a0 ds chain (fun t=>pos.lookup t) (fun t=>(fx.lookup t).getD undef) lim (fun i=>tl.getD i []) Wd 0 l)
  (hend:∀us w',us.length=chain.length→Wd us w'→Q .normal (qb a0 (ds.map fun d=>(d,zG (fun t=>pos.lookup t) (fun t=>(fx.lookup t).getD undef) us d))) w'):
  (Code.region id l.toArray true).wp P Q a0 w:=by
 subst hn;exact ZR hm um ds chain _ _ lim _ Wd hchk h0 hops (fun us w' h hW=>by rw[jd];exact hend us w' h hW)
end Go.Silo
