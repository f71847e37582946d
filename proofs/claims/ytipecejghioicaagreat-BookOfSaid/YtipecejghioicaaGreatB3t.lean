/- A region that draws its order: an invariant over what has come up serves for all orders. -/
import Derived.Test.YtipecejghioicaaGreatBaset
namespace Go.Silo
open Go.RowKit
theorem zo {w:World}{g:Nat}{cs:Array Value}{t:TypeId}{fr:Nat×Nat}(j:Nat) (h:w.heap[g]?=some (.cells cs t fr)):w.cell? ⟨g,j,none⟩=cs[j]?:=cell_of_row w g j cs t fr h
theorem zc {w:World}{g:Nat}{cs:Array Value}{t:TypeId}{fr:Nat×Nat}(j:Nat) (h:w.heap[g]?=some (.cells cs t fr)) (x:Value) (e:cs[j]?=some x):w.cell? ⟨g,j,none⟩=some x:=(cell_of_row w g j cs t fr h).trans e
theorem zf {w:World}{g:Nat}{cs:Array Value}{t:TypeId}(j:Nat) (h:w.heap[g]?=some (.cells cs t (0,0))):w.frozen? ⟨g,j,none⟩=false:=frozen_of_row w g j cs t h
theorem zh {p:Prop}(h:p):Hid p:=Lib.hid h
theorem zl {α:Type}{a:Array α}{i:Nat}{x:α}(h:a[i]?=some x):i<a.size:=(Array.getElem?_eq_some_iff.1 h).1
theorem zb {w w':World}{g:Nat}{x:Obj}(b:Below w.heap.size w w') (h:w.heap[g]?=some x):w'.heap[g]?=some x:=(b.block _ (zl h)).trans h
theorem zv {a b:Value}(h:a=b) (c:Value) (e:b=c):a=c:=h.trans e
theorem zu {w w' w'':World}(h:Hid (Below w.heap.size w w')) (k:Below w'.heap.size w' w''):Below w.heap.size w w'':=h.out.trans (k.mono h.out.size)
theorem zt {w w' w'':World}(h:Hid (Below w.heap.size w w')) (k:Below w'.heap.size w' w''):Hid (Below w.heap.size w w''):=h.out.trans (k.mono h.out.size)
theorem bz {B:Nat}{w w':World}(h:Below B w w':=by repeat' (first|(with_reducible exact Below.refl _ _)|(with_reducible refine Below.alloc ?_ ?_ _)|(with_reducible refine Below.drew ?_)|(with_reducible refine below_drewN ?_ _)|(with_reducible refine Below.setCell ?_ ?_ _)|(refine via ?_ (by with_reducible assumption) ?_)|(refine via ?_ (zs _ _) ?_)|go_size)):Below B w w':=h
theorem BD {α:Type}(l:List α) (i:Nat) (a:α):l.toArray.setIfInBounds i a=(l.set i a).toArray:=List.setIfInBounds_toArray l i a
theorem BF {α:Type}{x:α}{xs:List α}{i:Nat}{a:α}:(x::xs).set (i+1) a=x::xs.set i a:=rfl
theorem BG {α:Type}{x:α}{xs:List α}{a:α}:(x::xs).set 0 a=a::xs:=rfl
theorem BH {α β:Type}{f:α→β}{a:α}{l:List α}:(a::l).map f=f a::l.map f:=rfl
theorem BI {α β:Type}{f:α→β}:([]:List α).map f=[]:=rfl
theorem BJ {α β:Type}{f:β→α→β}{b:β}{a:α}{l:List α}:(a::l).foldl f b=l.foldl f (f b a):=rfl
theorem BL {α β:Type}{f:β→α→β}{b:β}:([]:List α).foldl f b=b:=rfl
end Go.Silo
namespace Go.Silo
open Go
def upd (D:Nat→Bool) (i:Nat):Nat→Bool:=fun k=>if k=i then true else D k
theorem xN (D:Nat→Bool) (i:Nat):upd D i i=true:=by simp[upd]
theorem zD (D:Nat→Bool) {i k:Nat}(h:k≠i):upd D i k=D k:=by simp[upd,h]
def jZ (P:Program) (ops:Array Oper) (Q:Exit→Act→World→Prop) (I:(Nat→Bool)→Act→World→Prop) (i:Nat) (o:Oper):Prop:=
 ∀D a w,I D a w→D i=false→(∀e∈o.after,Region.binds .any e=true→D e.on=true)→
  ∀K:Act→World→Prop,(∀a w,I (upd D i) a w→K a w)→if Region.wanted o (yielded ops a.tmps)=true then Oper.wp P o a w K Q else K (a.put o.dst undef) w
def Cq (P:Program) (ops:Array Oper) (Q:Exit→Act→World→Prop) (I:(Nat→Bool)→Act→World→Prop):Nat→List Oper→Prop
 |_,[]=>True
 |i,o::l=>jZ P ops Q I i o∧Cq P ops Q I (i+1) l
theorem Cq.get {P:Program}{ops:Array Oper}{Q:Exit→Act→World→Prop}{I:(Nat→Bool)→Act→World→Prop}:∀{l:List Oper}{j i:Nat}{o:Oper},Cq P ops Q I j l→l[i]?=some o→jZ P ops Q I (j+i) o
 |[],_,_,_,_,h=>by simp at h
 |o::l,j,0,_,hs,h=>by simp at h;subst h;exact hs.1
 |o::l,j,i+1,_,hs,h=>by
  have:=Cq.get (i:=i) hs.2 (by simpa using h);rw[show j+(i+1)=j+1+i by omega];exact this
theorem Xs {l:List Bool}{i:Nat}(h:l[i]?=some false):(l.set i true).countP (fun b=>!b)+1=l.countP (fun b=>!b):=by
 induction l generalizing i with
 |nil=>simp at h
 |cons b l ih=>
  cases i with
  |zero=>simp at h;subst h;simp
  |succ i=>
   have:=ih (i:=i) (by simpa using h);rw[List.set_cons_succ,List.countP_cons,List.countP_cons];omega
theorem Jo {P:Program}{ops:Array Oper}{Q:Exit→Act→World→Prop}{I:(Nat→Bool)→Act→World→Prop}
  (uX:∀(i:Nat) (o:Oper),ops[i]?=some o→∀e∈o.after,Region.binds .any e=true→e.on<i) (hs:∀(i:Nat) (o:Oper),ops[i]?=some o→jZ P ops Q I i o)
  (hend:∀D a w,I D a w→(∀i,i<ops.size→D i=true)→Q .normal a w):
  ∀(fuel:Nat) (L:Array Bool) (a:Act) (w:World),L.size=ops.size→L.toList.countP (fun b=>!b)≤fuel→I (fun k=>L.getD k false) a w→wpAny P .any ops Q fuel L a w:=by
 have stuck:∀L:Array Bool,L.size=ops.size→Region.ready .any ops L=[]→∀i,i<ops.size→L.getD i false=true:=by
  intro L hL hr i
  induction i using Nat.strongRecOn with
  |_ i ih=>
   intro hi
   cases hb:L.getD i false with
   |true=>rfl
   |false=>
    exfalso
    have hlt:i<L.size:=by omega
    have hbt:L.getD i true=false:=by
     simp[Array.getElem?_eq_getElem hlt] at hb⊢;exact hb
    have ho:ops[i]?=some ops[i]:=Array.getElem?_eq_getElem hi;have:i∈Region.ready .any ops L:=mem_ready.2 ⟨hbt,_,ho,fun e he hb=>ih e.on (uX i _ ho e he hb) (Nat.lt_trans (uX i _ ho e he hb) hi)⟩;rw[hr] at this
    cases this
 intro fuel
 induction fuel with
 |zero=>
  intro L a w hL hc hI
  have hall:∀i,i<ops.size→L.getD i false=true:=by
   intro i hi;have hlt:i<L.size:=(by omega);have h0:L.toList.countP (fun b=>!b)=0:=(by omega);rw[List.countP_eq_zero] at h0;have:=h0 L[i] (by simp);simp at this;simp[Array.getElem?_eq_getElem hlt,this]
  refine⟨?_,hend _ a w hI hall⟩
  cases hr:Region.ready .any ops L with
  |nil=>rfl
  |cons i r=>
   exfalso
   have hm:i∈Region.ready .any ops L:=(by rw[hr];simp);obtain⟨h1,o,ho,_⟩:=mem_ready.1 hm;have hi:i<ops.size:=(zl ho);have h2:=hall i hi;have hlt:i<L.size:=(by omega);simp[Array.getElem?_eq_getElem hlt] at h1 h2;rw[h1] at h2;cases h2
 |succ fuel ih=>
  intro L a w hL hc hI;refine⟨fun hr=>hend _ a w hI (stuck L hL hr),fun i hm=>?_⟩;obtain⟨h1,o,ho,hdep⟩:=mem_ready.1 hm;have hi:i<ops.size:=(zl ho);have hlt:i<L.size:=by omega
  have hLi:L[i]=false:=by simpa[Array.getElem?_eq_getElem hlt] using h1
  refine wpOp_step ho (fun K' hK=>hs i o ho _ a w hI (by simp[Array.getElem?_eq_getElem hlt,hLi]) hdep K' (fun a' w' hI'=>hK a' w' (ih _ a' w' (by simpa using hL) ?_ ?_)))
  ·have:=Xs (l:=L.toList) (i:=i) (by simp[Array.getElem?_eq_getElem hlt,hLi]);rw[Array.toList_setIfInBounds];omega
  have:(fun k=>(L.setIfInBounds i true).getD k false)=upd (fun k=>L.getD k false) i:=by
   funext k
   by_cases hk:k=i
   ·subst hk;rw[xN];simp[hlt]
   rw[zD _ hk];simp[Array.getElem?_setIfInBounds_ne (Ne.symm hk)]
  rw[this];exact hI'
def Qk (l:List Oper):Bool:=l.zipIdx.all fun p=>p.1.after.all fun e=>!Region.binds .any e||decide (e.on<p.2)
theorem Xt {P:Program}{id:Nat}{Q:Exit→Act→World→Prop}{a:Act}{w:World}{l:List Oper}(hm:P.follows .mixedOrders=true) (uX:Qk l=true)
  (I:(Nat→Bool)→Act→World→Prop) (h0:I (fun _=>false) a w.drew) (hs:Cq P l.toArray Q I 0 l) (hend:∀D a w,I D a w→(∀i,i<l.length→D i=true)→Q .normal a w):
  (Code.region id l.toArray true).wp P Q a w:=by
 refine wp_region_any hm (Jo ?_ ?_ (fun D a w hI h=>hend D a w hI (by simpa using h)) _ _ a w.drew (by simp) ?_ ?_)
 ·intro i o ho e he hb;unfold Qk at uX;rw[List.all_eq_true] at uX;have h1:=uX (o,i) (List.mem_zipIdx_iff_getElem?.2 (by simpa using ho));have h2:=Array.all_eq_true_iff_forall_mem.1 h1 e he;simpa[hb] using h2
 ·intro i o ho;have:=hs.get (i:=i) (by simpa using ho);simpa using this
 ·have:(Array.replicate l.toArray.size false).toList.countP (fun b=>!b)≤(Array.replicate l.toArray.size false).toList.length:=List.countP_le_length;simpa using this
 have:(fun k=>(Array.replicate l.toArray.size false).getD k false)=fun _=>false:=by
  funext k
  rcases Nat.lt_or_ge k l.toArray.size with h|h
  ·simp[Array.getElem?_replicate];split<;>rfl
  simp[Array.getElem?_replicate];split<;>rfl
 rw[this];exact h0
def jn (a:Act) (ds:List Nat) (v:Nat→Value):Act:=⟨(a.tmps.toList.zipIdx.map (fun p=>if ds.contains p.2 then v p.2 else p.1)).toArray,a.defers⟩
theorem xI (a:Act) (ds:List Nat) (v:Nat→Value) (t:Nat):(jn a ds v).tmps[t]?=(a.tmps[t]?).map (fun u=>if ds.contains t then v t else u):=by
 simp only[jn,List.getElem?_toArray,List.getElem?_map,List.getElem?_zipIdx,Array.getElem?_toList,Option.map_map]
 cases a.tmps[t]? with
 |none=>rfl
 |some u=>simp
theorem Jp (a:Act) (ds:List Nat) (v:Nat→Value):(jn a ds v).tmps.size=a.tmps.size:=by simp[jn]
theorem Qe {a b:Act}(h:∀t:Nat,a.tmps[t]?=b.tmps[t]?) (hd:a.defers=b.defers):a=b:=by
 obtain⟨x,d⟩:=a;obtain⟨y,e⟩:=b;simp only at h hd;rw[hd,Array.ext_getElem? h]
theorem ZE (a:Act) (ds:List Nat) (v:Nat→Value) (d:Nat) (x:Value) (h:ds.contains d=true):(jn a ds v).put (some d) x=jn a ds (fun t=>if t=d then x else v t):=by
 refine Qe (fun t=>?_) rfl;rw[xI];show((jn a ds v).tmps.setIfInBounds d x)[t]?=_;by_cases ht:t=d
 ·subst ht;simp only[h,if_true];rw[Array.getElem?_setIfInBounds_self,Jp];by_cases hs:t<a.tmps.size
  ·rw[if_pos hs,Array.getElem?_eq_getElem hs];simp
  rw[if_neg hs,Array.getElem?_eq_none (by omega)];rfl
 rw[Array.getElem?_setIfInBounds_ne (Ne.symm ht),xI];simp only[if_neg ht]
theorem Jq (a:Act) (ds:List Nat):jn a ds (fun t=>a.eval (.tmp t))=a:=by
 refine Qe (fun t=>?_) rfl;rw[xI]
 cases h:a.tmps[t]? with
 |none=>rfl
 |some u=>simp[Act.eval,h]
theorem Za (a:Act) (ds:List Nat) (v:Nat→Value) (t:Nat) (h:ds.contains t=true) (hs:t<a.tmps.size):(jn a ds v).eval (.tmp t)=v t:=by
 show((jn a ds v).tmps.getD t undef)=_;rw[Array.getD_eq_getD_getElem?,xI,Array.getElem?_eq_getElem hs];simp;intro hh;simp at h;exact absurd h hh
theorem Xu (a:Act) (ds:List Nat) (v:Nat→Value) (t:Nat) (h:ds.contains t=false):(jn a ds v).eval (.tmp t)=a.eval (.tmp t):=by
 show((jn a ds v).tmps.getD t undef)=a.tmps.getD t undef;rw[Array.getD_eq_getD_getElem?,xI,Array.getD_eq_getD_getElem?];simp only[h]
 cases a.tmps[t]?<;>rfl
theorem Xv (a:Act) (ds:List Nat) (v v':Nat→Value) (h:∀t,ds.contains t=true→v t=v' t):jn a ds v=jn a ds v':=by
 refine Qe (fun t=>?_) rfl;rw[xI,xI]
 cases hc:ds.contains t with
 |false=>simp
 |true=>simp[h t hc]
def Qf (pos:Nat→Option Nat) (fx:Nat→Value) (us:List Value) (t:Nat):Value:=match pos t with|some k=>us.getD k undef|none=>fx t
def Da (P:Program) (ops:Array Oper) (Q:Exit→Act→World→Prop) (a0:Act) (ds chain:List Nat) (pos:Nat→Option Nat) (fx:Nat→Value) (lim:Nat→Nat) (tl:Nat→List Nat) (Wd:List Value→World→Prop) (i:Nat) (o:Oper):Prop:=
 match chain.idxOf? i with
 |none=>∀(ρ:Operand→Value) us w,(∀t,ds.contains t=false→ρ (.tmp t)=a0.eval (.tmp t))→(∀t∈tl i,ρ (.tmp t)=Qf pos fx us t)→(∀v,ρ (.const v)=v)→us.length≤lim i→Wd us w→
   (execOp ρ o).run P w=.ok (.value (fx (o.dst.getD 0))) w
 |some k=>∀(a:Act) us w,(∀t,ds.contains t=false→a.eval (.tmp t)=a0.eval (.tmp t))→(∀t∈tl i,a.eval (.tmp t)=Qf pos fx us t)→us.length=k→Wd us w→
   ∀K:Act→World→Prop,(∀x w',Wd (us++[x]) w'→K (a.put o.dst x) w')→if Region.wanted o (yielded ops a.tmps)=true then Oper.wp P o a w K Q else K (a.put o.dst undef) w
def Dw (P:Program) (ops:Array Oper) (Q:Exit→Act→World→Prop) (a0:Act) (ds chain:List Nat) (pos:Nat→Option Nat) (fx:Nat→Value) (lim:Nat→Nat) (tl:Nat→List Nat) (Wd:List Value→World→Prop):Nat→List Oper→Prop
 |_,[]=>True
 |i,o::l=>Da P ops Q a0 ds chain pos fx lim tl Wd i o∧Dw P ops Q a0 ds chain pos fx lim tl Wd (i+1) l
theorem Dw.get {P:Program}{ops:Array Oper}{Q:Exit→Act→World→Prop}{a0:Act}{ds chain:List Nat}{pos:Nat→Option Nat}{fx:Nat→Value}{lim:Nat→Nat}{tl:Nat→List Nat}{Wd:List Value→World→Prop}:
  ∀{l:List Oper}{j i:Nat}{o:Oper},Dw P ops Q a0 ds chain pos fx lim tl Wd j l→l[i]?=some o→Da P ops Q a0 ds chain pos fx lim tl Wd (j+i) o
 |[],_,_,_,_,h=>by simp at h
 |o::l,j,0,_,hs,h=>by simp at h;subst h;exact hs.1
 |o::l,j,i+1,_,hs,h=>by
  have:=Dw.get (i:=i) hs.2 (by simpa using h);rw[show j+(i+1)=j+1+i by omega];exact this
theorem xB {l:List Nat}{i k:Nat}(h:l.idxOf? i=some k):l[k]?=some i:=by
 induction l generalizing k with
 |nil=>simp at h
 |cons x l ih=>
  rw[List.idxOf?_cons] at h
  split at h
  ·rename_i hx;simp at hx;injection h with h;subst h;simp[hx]
  cases hl:l.idxOf? i with
  |none=>rw[hl] at h;cases h
  |some m=>rw[hl] at h;injection h with h;subst h;simpa using ih hl
def qb (a:Act) (ps:List (Nat×Value)):Act:=ps.foldl (fun a p=>a.put (some p.1) p.2) a
theorem jy (a:Act) (ds:List Nat) (v:Nat→Value):jn a ds v=qb a (ds.map fun d=>(d,v d)):=by
 have:∀(ds:List Nat) (a:Act),(qb a (ds.map fun d=>(d,v d))).defers=a.defers∧∀t:Nat,(qb a (ds.map fun d=>(d,v d))).tmps[t]?=(a.tmps[t]?).map (fun u=>if ds.contains t then v t else u):=by
  intro ds
  induction ds with
  |nil=>intro a;exact⟨rfl,fun t=>by simp[qb]⟩
  |cons d ds ih=>
   intro a;obtain⟨h1,h2⟩:=ih (a.put (some d) (v d));refine⟨h1,fun t=>?_⟩;refine(h2 t).trans ?_;show(((a.tmps.setIfInBounds d (v d))[t]?).map _)=_;by_cases ht:t=d
   ·subst ht;rw[Array.getElem?_setIfInBounds_self];by_cases hs:t<a.tmps.size
    ·rw[if_pos hs,Array.getElem?_eq_getElem hs];simp
    rw[if_neg hs,Array.getElem?_eq_none (by omega)];rfl
   rw[Array.getElem?_setIfInBounds_ne (Ne.symm ht)]
   cases a.tmps[t]? with
   |none=>rfl
   |some u=>simp[ht]
 exact Qe (fun t=>by rw[xI,(this ds a).2 t]) (this ds a).1.symm
theorem Da.rd {P:Program}{ops:Array Oper}{Q:Exit→Act→World→Prop}{a0:Act}{ds chain:List Nat}{pos:Nat→Option Nat}{fx:Nat→Value}{lim:Nat→Nat}{tl:Nat→List Nat}{Wd:List Value→World→Prop}{i:Nat}{o:Oper}
  (hi:chain.idxOf? i=none) (v:Value) (hv:fx (o.dst.getD 0)=v)
  (h:∀(ρ:Operand→Value) us w,(∀t,ds.contains t=false→ρ (.tmp t)=a0.eval (.tmp t))→(∀t∈tl i,ρ (.tmp t)=Qf pos fx us t)→(∀v,ρ (.const v)=v)→us.length≤lim i→Wd us w→(execOp ρ o).run P w=.ok (.value v) w):
  Da P ops Q a0 ds chain pos fx lim tl Wd i o:=by
 unfold Da;rw[hi];simp only[hv];exact h
theorem Da.wr {P:Program}{ops:Array Oper}{Q:Exit→Act→World→Prop}{a0:Act}{ds chain:List Nat}{pos:Nat→Option Nat}{fx:Nat→Value}{lim:Nat→Nat}{tl:Nat→List Nat}{Wd:List Value→World→Prop}{i:Nat}{o:Oper}{k:Nat}
  (hi:chain.idxOf? i=some k)
  (h:∀(a:Act) us w,(∀t,ds.contains t=false→a.eval (.tmp t)=a0.eval (.tmp t))→(∀t∈tl i,a.eval (.tmp t)=Qf pos fx us t)→us.length=k→Wd us w→
   ∀K:Act→World→Prop,(∀x w',Wd (us++[x]) w'→K (a.put o.dst x) w')→if Region.wanted o (yielded ops a.tmps)=true then Oper.wp P o a w K Q else K (a.put o.dst undef) w):
  Da P ops Q a0 ds chain pos fx lim tl Wd i o:=by
 unfold Da;rw[hi];exact h
end Go.Silo
