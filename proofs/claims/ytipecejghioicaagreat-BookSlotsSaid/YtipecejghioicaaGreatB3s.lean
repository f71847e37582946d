/- A region that draws its order: an invariant over what has come up serves for all orders. -/
import Derived.Test.YtipecejghioicaaGreatBases
import Derived.Test.YtipecejghioicaaGreatP0s
namespace Go.Silo
open Go
def upd (D:Nat→Bool) (i:Nat):Nat→Bool:=fun k=>if k=i then true else D k
theorem zM (D:Nat→Bool) (i:Nat):upd D i i=true:=by simp[upd]
theorem qD (D:Nat→Bool) {i k:Nat}(h:k≠i):upd D i k=D k:=by simp[upd,h]
def xJ (P:Program) (ops:Array Oper) (Q:Exit→Act→World→Prop) (I:(Nat→Bool)→Act→World→Prop) (i:Nat) (o:Oper):Prop:=
 ∀D a w,I D a w→D i=false→(∀e∈o.after,Region.binds .any e=true→D e.on=true)→
  ∀K:Act→World→Prop,(∀a w,I (upd D i) a w→K a w)→if Region.wanted o (yielded ops a.tmps)=true then Oper.wp P o a w K Q else K (a.put o.dst undef) w
def C9 (P:Program) (ops:Array Oper) (Q:Exit→Act→World→Prop) (I:(Nat→Bool)→Act→World→Prop):Nat→List Oper→Prop
 |_,[]=>True
 |i,o::l=>xJ P ops Q I i o∧C9 P ops Q I (i+1) l
theorem C9.get {P:Program}{ops:Array Oper}{Q:Exit→Act→World→Prop}{I:(Nat→Bool)→Act→World→Prop}:∀{l:List Oper}{j i:Nat}{o:Oper},C9 P ops Q I j l→l[i]?=some o→xJ P ops Q I (j+i) o
 |[],_,_,_,_,h=>by simp at h
 |o::l,j,0,_,hs,h=>by simp at h;subst h;exact hs.1
 |o::l,j,i+1,_,hs,h=>by
  have:=C9.get (i:=i) hs.2 (by simpa using h);rw[show j+(i+1)=j+1+i by omega];exact this
theorem ZS {l:List Bool}{i:Nat}(h:l[i]?=some false):(l.set i true).countP (fun b=>!b)+1=l.countP (fun b=>!b):=by
 induction l generalizing i with
 |nil=>simp at h
 |cons b l ih=>
  cases i with
  |zero=>simp at h;subst h;simp
  |succ i=>
   have:=ih (i:=i) (by simpa using h);rw[List.set_cons_succ,List.countP_cons,List.countP_cons];omega
theorem XB {P:Program}{ops:Array Oper}{Q:Exit→Act→World→Prop}{I:(Nat→Bool)→Act→World→Prop}
  (pC:∀(i:Nat) (o:Oper),ops[i]?=some o→∀e∈o.after,Region.binds .any e=true→e.on<i) (hs:∀(i:Nat) (o:Oper),ops[i]?=some o→xJ P ops Q I i o)
  (hend:∀D a w,I D a w→(∀i,i<ops.size→D i=true)→Q .normal a w):
  ∀(fuel:Nat) (L:Array Bool) (a:Act) (w:World),L.size=ops.size→L.toList.countP (fun b=>!b)≤fuel→I (fun k=>L.getD k false) a w→wpAny P .any ops Q fuel L a w:=by
 have stuck:∀L:Array Bool,L.size=ops.size→Region.ready .any ops L=[]→∀i,i<ops.size→L.getD i false=true:=by
  intro L hL hr i
  induction i using Nat.strongRecOn with
  |_ i ih=>
   intro hi
   cases hb:L.getD i false with
   |true=>rfl
   |false=>
    exfalso
    have hlt:i<L.size:=by omega
    have yr:L.getD i true=false:=by
     simp[Array.getElem?_eq_getElem hlt] at hb⊢;exact hb
    have ho:ops[i]?=some ops[i]:=Array.getElem?_eq_getElem hi;have:i∈Region.ready .any ops L:=mem_ready.2 ⟨yr,_,ho,fun e he hb=>ih e.on (pC i _ ho e he hb) (Nat.lt_trans (pC i _ ho e he hb) hi)⟩;rw[hr] at this
    cases this
 intro fuel
 induction fuel with
 |zero=>
  intro L a w hL hc hI
  have hall:∀i,i<ops.size→L.getD i false=true:=by
   intro i hi;have hlt:i<L.size:=(by omega);have h0:L.toList.countP (fun b=>!b)=0:=(by omega);rw[List.countP_eq_zero] at h0;have:=h0 L[i] (by simp);simp at this;simp[Array.getElem?_eq_getElem hlt,this]
  refine⟨?_,hend _ a w hI hall⟩
  cases hr:Region.ready .any ops L with
  |nil=>rfl
  |cons i r=>
   exfalso
   have hm:i∈Region.ready .any ops L:=(by rw[hr];simp);obtain⟨h1,o,ho,_⟩:=mem_ready.1 hm;have hi:i<ops.size:=(zl ho);have h2:=hall i hi;have hlt:i<L.size:=(by omega);simp[Array.getElem?_eq_getElem hlt] at h1 h2;rw[h1] at h2;cases h2
 |succ fuel ih=>
  intro L a w hL hc hI;refine⟨fun hr=>hend _ a w hI (stuck L hL hr),fun i hm=>?_⟩;obtain⟨h1,o,ho,hdep⟩:=mem_ready.1 hm;have hi:i<ops.size:=(zl ho);have hlt:i<L.size:=by omega
  have hLi:L[i]=false:=by simpa[Array.getElem?_eq_getElem hlt] using h1
  refine wpOp_step ho (fun K' hK=>hs i o ho _ a w hI (by simp[Array.getElem?_eq_getElem hlt,hLi]) hdep K' (fun a' w' hI'=>hK a' w' (ih _ a' w' (by simpa using hL) ?_ ?_)))
  ·have:=ZS (l:=L.toList) (i:=i) (by simp[Array.getElem?_eq_getElem hlt,hLi]);rw[Array.toList_setIfInBounds];omega
  have:(fun k=>(L.setIfInBounds i true).getD k false)=upd (fun k=>L.getD k false) i:=by
   funext k
   by_cases hk:k=i
   ·subst hk;rw[zM];simp[hlt]
   rw[qD _ hk];simp[Array.getElem?_setIfInBounds_ne (Ne.symm hk)]
  rw[this];exact hI'
def kb (l:List Oper):Bool:=l.zipIdx.all fun p=>p.1.after.all fun e=>!Region.binds .any e||decide (e.on<p.2)
theorem kK {P:Program}{id:Nat}{Q:Exit→Act→World→Prop}{a:Act}{w:World}{l:List Oper}(hm:P.follows .mixedOrders=true) (pC:kb l=true)
  (I:(Nat→Bool)→Act→World→Prop) (h0:I (fun _=>false) a w.drew) (hs:C9 P l.toArray Q I 0 l) (hend:∀D a w,I D a w→(∀i,i<l.length→D i=true)→Q .normal a w):
  (Code.region id l.toArray true).wp P Q a w:=by
 refine wp_region_any hm (XB ?_ ?_ (fun D a w hI h=>hend D a w hI (by simpa using h)) _ _ a w.drew (by simp) ?_ ?_)
 ·intro i o ho e he hb;unfold kb at pC;rw[List.all_eq_true] at pC;have h1:=pC (o,i) (List.mem_zipIdx_iff_getElem?.2 (by simpa using ho));have h2:=Array.all_eq_true_iff_forall_mem.1 h1 e he;simpa[hb] using h2
 ·intro i o ho;have:=hs.get (i:=i) (by simpa using ho);simpa using this
 ·have:(Array.replicate l.toArray.size false).toList.countP (fun b=>!b)≤(Array.replicate l.toArray.size false).toList.length:=List.countP_le_length;simpa using this
 have:(fun k=>(Array.replicate l.toArray.size false).getD k false)=fun _=>false:=by
  funext k
  rcases Nat.lt_or_ge k l.toArray.size with h|h
  ·simp[Array.getElem?_replicate];split<;>rfl
  simp[Array.getElem?_replicate];split<;>rfl
 rw[this];exact h0
def xg (a:Act) (ds:List Nat) (v:Nat→Value):Act:=⟨(a.tmps.toList.zipIdx.map (fun p=>if ds.contains p.2 then v p.2 else p.1)).toArray,a.defers⟩
theorem zZ (a:Act) (ds:List Nat) (v:Nat→Value) (t:Nat):(xg a ds v).tmps[t]?=(a.tmps[t]?).map (fun u=>if ds.contains t then v t else u):=by
 simp only[xg,List.getElem?_toArray,List.getElem?_map,List.getElem?_zipIdx,Array.getElem?_toList,Option.map_map]
 cases a.tmps[t]? with
 |none=>rfl
 |some u=>simp
theorem XC (a:Act) (ds:List Nat) (v:Nat→Value):(xg a ds v).tmps.size=a.tmps.size:=by simp[xg]
theorem kD {a b:Act}(h:∀t:Nat,a.tmps[t]?=b.tmps[t]?) (hd:a.defers=b.defers):a=b:=by
 obtain⟨x,d⟩:=a;obtain⟨y,e⟩:=b;simp only at h hd;rw[hd,Array.ext_getElem? h]
theorem jB (a:Act) (ds:List Nat) (v:Nat→Value) (d:Nat) (x:Value) (h:ds.contains d=true):(xg a ds v).put (some d) x=xg a ds (fun t=>if t=d then x else v t):=by
 refine kD (fun t=>?_) rfl;rw[zZ];show((xg a ds v).tmps.setIfInBounds d x)[t]?=_;by_cases ht:t=d
 ·subst ht;simp only[h,if_true];rw[Array.getElem?_setIfInBounds_self,XC];by_cases hs:t<a.tmps.size
  ·rw[if_pos hs,Array.getElem?_eq_getElem hs];simp
  rw[if_neg hs,Array.getElem?_eq_none (by omega)];rfl
 rw[Array.getElem?_setIfInBounds_ne (Ne.symm ht),zZ];simp only[if_neg ht]
theorem QB (a:Act) (ds:List Nat):xg a ds (fun t=>a.eval (.tmp t))=a:=by
 refine kD (fun t=>?_) rfl;rw[zZ]
 cases h:a.tmps[t]? with
 |none=>rfl
 |some u=>simp[Act.eval,h]
theorem jN (a:Act) (ds:List Nat) (v:Nat→Value) (t:Nat) (h:ds.contains t=true) (hs:t<a.tmps.size):(xg a ds v).eval (.tmp t)=v t:=by
 show((xg a ds v).tmps.getD t undef)=_;rw[Array.getD_eq_getD_getElem?,zZ,Array.getElem?_eq_getElem hs];simp;intro hh;simp at h;exact absurd h hh
theorem kL (a:Act) (ds:List Nat) (v:Nat→Value) (t:Nat) (h:ds.contains t=false):(xg a ds v).eval (.tmp t)=a.eval (.tmp t):=by
 show((xg a ds v).tmps.getD t undef)=a.tmps.getD t undef;rw[Array.getD_eq_getD_getElem?,zZ,Array.getD_eq_getD_getElem?];simp only[h]
 cases a.tmps[t]?<;>rfl
theorem kM (a:Act) (ds:List Nat) (v v':Nat→Value) (h:∀t,ds.contains t=true→v t=v' t):xg a ds v=xg a ds v':=by
 refine kD (fun t=>?_) rfl;rw[zZ,zZ]
 cases hc:ds.contains t with
 |false=>simp
 |true=>simp[h t hc]
def qZ (pos:Nat→Option Nat) (fx:Nat→Value) (us:List Value) (t:Nat):Value:=match pos t with|some k=>us.getD k undef|none=>fx t
def EA (l:List Oper) (n:Nat) (ds chain:List Nat) (pos:Nat→Option Nat) (lim:Nat→Nat) (tl:Nat→List Nat) (i:Nat) (o:Oper):Bool:=
 o.guard.isNone&&(match o.dst with|none=>chain.contains i|some d=>ds.contains d&&decide (d<n)&&(match chain.idxOf? i with|some k=>pos d==some k|none=>pos d==none)&&l.zipIdx.all fun q=>q.2==i||q.1.dst !=some d)&&
 (match chain.idxOf? i with
  |some k=>k==0||(match chain[k - 1]? with|some c=>o.after.any fun e=>Region.binds .any e&&e.on==c|none=>false)
  |none=>match chain[lim i]? with
   |none=>true
   |some c=>match l[c]? with|none=>false|some oc=>oc.after.any fun e=>Region.binds .any e&&e.on==i)&&
 (tl i).all fun t=>o.after.any fun e=>Region.binds .any e&&(match l[e.on]? with|some oj=>oj.dst==some t|none=>false)
def ZT (l:List Oper) (n:Nat) (ds chain:List Nat) (pos:Nat→Option Nat) (lim:Nat→Nat) (tl:Nat→List Nat):Bool:=
 (l.zipIdx.all fun p=>EA l n ds chain pos lim tl p.2 p.1)&&chain.all (fun c=>decide (c<l.length))&&(chain.zipIdx.all fun p=>chain.idxOf? p.1==some p.2)&&ds.all (fun d=>l.any fun o=>o.dst==some d)
def Br (P:Program) (ops:Array Oper) (Q:Exit→Act→World→Prop) (a0:Act) (ds chain:List Nat) (pos:Nat→Option Nat) (fx:Nat→Value) (lim:Nat→Nat) (tl:Nat→List Nat) (Wd:List Value→World→Prop) (i:Nat) (o:Oper):Prop:=
 match chain.idxOf? i with
 |none=>∀(ρ:Operand→Value) us w,(∀t,ds.contains t=false→ρ (.tmp t)=a0.eval (.tmp t))→(∀t∈tl i,ρ (.tmp t)=qZ pos fx us t)→(∀v,ρ (.const v)=v)→us.length≤lim i→Wd us w→
   (execOp ρ o).run P w=.ok (.value (fx (o.dst.getD 0))) w
 |some k=>∀(a:Act) us w,(∀t,ds.contains t=false→a.eval (.tmp t)=a0.eval (.tmp t))→(∀t∈tl i,a.eval (.tmp t)=qZ pos fx us t)→us.length=k→Wd us w→
   ∀K:Act→World→Prop,(∀x w',Wd (us++[x]) w'→K (a.put o.dst x) w')→if Region.wanted o (yielded ops a.tmps)=true then Oper.wp P o a w K Q else K (a.put o.dst undef) w
def Cy (P:Program) (ops:Array Oper) (Q:Exit→Act→World→Prop) (a0:Act) (ds chain:List Nat) (pos:Nat→Option Nat) (fx:Nat→Value) (lim:Nat→Nat) (tl:Nat→List Nat) (Wd:List Value→World→Prop):Nat→List Oper→Prop
 |_,[]=>True
 |i,o::l=>Br P ops Q a0 ds chain pos fx lim tl Wd i o∧Cy P ops Q a0 ds chain pos fx lim tl Wd (i+1) l
theorem Cy.get {P:Program}{ops:Array Oper}{Q:Exit→Act→World→Prop}{a0:Act}{ds chain:List Nat}{pos:Nat→Option Nat}{fx:Nat→Value}{lim:Nat→Nat}{tl:Nat→List Nat}{Wd:List Value→World→Prop}:
  ∀{l:List Oper}{j i:Nat}{o:Oper},Cy P ops Q a0 ds chain pos fx lim tl Wd j l→l[i]?=some o→Br P ops Q a0 ds chain pos fx lim tl Wd (j+i) o
 |[],_,_,_,_,h=>by simp at h
 |o::l,j,0,_,hs,h=>by simp at h;subst h;exact hs.1
 |o::l,j,i+1,_,hs,h=>by
  have:=Cy.get (i:=i) hs.2 (by simpa using h);rw[show j+(i+1)=j+1+i by omega];exact this
theorem zO {l:List Nat}{i k:Nat}(h:l.idxOf? i=some k):l[k]?=some i:=by
 induction l generalizing k with
 |nil=>simp at h
 |cons x l ih=>
  rw[List.idxOf?_cons] at h
  split at h
  ·rename_i hx;simp at hx;injection h with h;subst h;simp[hx]
  cases hl:l.idxOf? i with
  |none=>rw[hl] at h;cases h
  |some m=>rw[hl] at h;injection h with h;subst h;simpa using ih hl
theorem QK {P:Program}{id:Nat}{Q:Exit→Act→World→Prop}{a0:Act}{w:World}{l:List Oper}(hm:P.follows .mixedOrders=true) (pC:kb l=true)
  (ds chain:List Nat) (pos:Nat→Option Nat) (fx:Nat→Value) (lim:Nat→Nat) (tl:Nat→List Nat) (Wd:List Value→World→Prop) (hchk:ZT l a0.tmps.size ds chain pos lim tl=true)
  (h0:Wd [] w.drew) (hops:Cy P l.toArray Q a0 ds chain pos fx lim tl Wd 0 l)
  (hend:∀us w',us.length=chain.length→Wd us w'→Q .normal (xg a0 ds (qZ pos fx us)) w'):
  (Code.region id l.toArray true).wp P Q a0 w:=by
 unfold ZT at hchk;simp only[Bool.and_eq_true] at hchk;obtain⟨⟨⟨hc1,hc2⟩,hc3⟩,hc4⟩:=hchk;have C:∀(i:Nat) (o:Oper),l[i]?=some o→EA l a0.tmps.size ds chain pos lim tl i o=true:=fun i o ho=>(List.all_eq_true.1 hc1) (o,i) (List.mem_zipIdx_iff_getElem?.2 (by simpa using ho))
 have CI:∀(k c:Nat),chain[k]?=some c→chain.idxOf? c=some k:=fun k c hk=>by
  have:=(List.all_eq_true.1 hc3) (c,k) (List.mem_zipIdx_iff_getElem?.2 (by simpa using hk));simpa using this
 have G:∀(i:Nat) (o:Oper),l[i]?=some o→o.guard=none:=fun i o ho=>by
  have:=C i o ho;unfold EA at this;simp only[Bool.and_eq_true] at this;simpa using this.1.1.1
 have DD:∀(i:Nat) (o:Oper) (d:Nat),l[i]?=some o→o.dst=some d→ds.contains d=true∧d<a0.tmps.size∧pos d=chain.idxOf? i∧∀(j:Nat) (oj:Oper),l[j]?=some oj→oj.dst=some d→j=i:=fun i o d ho hd=>by
  have:=C i o ho;unfold EA at this;simp only[Bool.and_eq_true,hd] at this;obtain⟨⟨⟨_,⟨⟨⟨h1,h2⟩,h3⟩,h4⟩⟩,_⟩,_⟩:=this;refine⟨h1,by simpa using h2,?_,fun j oj hj gP=>?_⟩
  ·cases hk:chain.idxOf? i with
   |none=>rw[hk] at h3;simpa using h3
   |some k=>rw[hk] at h3;simpa using h3
  have h5:=(List.all_eq_true.1 h4) (oj,j) (List.mem_zipIdx_iff_getElem?.2 (by simpa using hj));simp[gP] at h5;exact h5
 have DN:∀(i:Nat) (o:Oper),l[i]?=some o→o.dst=none→chain.idxOf? i≠none:=fun i o ho hd=>by
  have:=C i o ho;unfold EA at this;simp only[Bool.and_eq_true,hd] at this;obtain⟨⟨⟨_,h1⟩,_⟩,_⟩:=this;obtain⟨k,hk⟩:=List.mem_iff_getElem?.1 (by simpa using h1:i∈chain);rw[CI k i hk];simp
 have ORD:∀(i:Nat) (o:Oper),l[i]?=some o→(match chain.idxOf? i with
  |some k=>k==0||(match chain[k - 1]? with|some c=>o.after.any fun e=>Region.binds .any e&&e.on==c|none=>false)
  |none=>match chain[lim i]? with
   |none=>true
   |some c=>match l[c]? with|none=>false|some oc=>oc.after.any fun e=>Region.binds .any e&&e.on==i)=true:=fun i o ho=>by
  have:=C i o ho;unfold EA at this;simp only[Bool.and_eq_true] at this;exact this.1.2
 have TL:∀(i:Nat) (o:Oper),l[i]?=some o→∀t∈tl i,∃e∈o.after,Region.binds .any e=true∧∃oj,l[e.on]?=some oj∧oj.dst=some t:=fun i o ho t ht=>by
  have:=C i o ho;unfold EA at this;simp only[Bool.and_eq_true] at this;have h2:=(List.all_eq_true.1 this.2) t ht;obtain⟨e,he,hb⟩:=Array.any_eq_true'.1 h2;simp only[Bool.and_eq_true] at hb;refine⟨e,he,hb.1,?_⟩
  cases hj:l[e.on]? with
  |none=>rw[hj] at hb;simp at hb
  |some oj=>rw[hj] at hb;exact⟨oj,rfl,by simpa using hb.2⟩
 refine kK hm pC (fun D a w=>∃us v,a=xg a0 ds v∧Wd us w∧us.length≤chain.length∧(∀(k c:Nat),chain[k]?=some c→(D c=true↔k<us.length))∧
   (∀(i:Nat) (o:Oper) (d:Nat),l[i]?=some o→o.dst=some d→D i=true→v d=qZ pos fx us d)∧(∀(i:Nat) (o:Oper),l[i]?=some o→D i=true→∀e∈o.after,Region.binds .any e=true→D e.on=true)) ?_ ?_ ?_
 ·exact⟨[],_,(QB a0 ds).symm,h0,Nat.zero_le _,fun k c _=>by simp,fun _ _ _ _ _ h=>(by cases h),fun _ _ _ h=>(by cases h)⟩
 ·have key:∀(i:Nat) (o:Oper),l[i]?=some o→Br P l.toArray Q a0 ds chain pos fx lim tl Wd i o→xJ P l.toArray Q (fun D a w=>∃us v,a=xg a0 ds v∧Wd us w∧us.length≤chain.length∧(∀(k c:Nat),chain[k]?=some c→(D c=true↔k<us.length))∧
    (∀(i:Nat) (o:Oper) (d:Nat),l[i]?=some o→o.dst=some d→D i=true→v d=qZ pos fx us d)∧(∀(i:Nat) (o:Oper),l[i]?=some o→D i=true→∀e∈o.after,Region.binds .any e=true→D e.on=true)) i o:=by
   intro i o ho hok D a w ⟨us,v,ha,hW,hlen,hst,hval,hcl⟩ yP hdep K hK
   have rU:∀(j:Nat) (oj:Oper),l[j]?=some oj→upd D i j=true→∀e∈oj.after,Region.binds .any e=true→upd D i e.on=true:=by
    intro j oj hj mA e he hb;by_cases mW:j=i
    ·subst mW;rw[ho] at hj;injection hj with hj;subst hj
     by_cases h:e.on=j
     ·rw[h];exact zM _ _
     rw[qD _ h];exact hdep e he hb
    rw[qD _ mW] at mA;have:=hcl j oj hj mA e he hb;by_cases h:e.on=i
    ·rw[h];exact zM _ _
    rw[qD _ h];exact this
   have hin:∀t∈tl i,a.eval (.tmp t)=qZ pos fx us t:=by
    intro t ht;obtain⟨e,he,hb,oj,hj,gP⟩:=TL i o ho t ht;have hd:=DD _ _ _ hj gP;rw[ha,jN _ _ _ _ hd.1 hd.2.1];exact hval _ _ _ hj gP (hdep e he hb)
   have hout:∀t,ds.contains t=false→a.eval (.tmp t)=a0.eval (.tmp t):=fun t ht=>by rw[ha];exact kL _ _ _ _ ht
   have mj:=ORD i o ho;unfold Br at hok
   cases p7:chain.idxOf? i with
   |none=>
    rw[p7] at hok mj;simp only at hok mj
    have hlim:us.length≤lim i:=by
     cases hc:chain[lim i]? with
     |none=>have:=List.getElem?_eq_none_iff.1 hc;omega
     |some c=>
      rw[hc] at mj;simp only at mj
      cases hlc:l[c]? with
      |none=>rw[hlc] at mj;cases mj
      |some oc=>
       rw[hlc] at mj;simp only at mj;obtain⟨e,he,hb⟩:=Array.any_eq_true'.1 mj;simp only[Bool.and_eq_true,beq_iff_eq] at hb;rcases Nat.lt_or_ge (lim i) us.length with h|h
       ·have h1:=(hst _ _ hc).2 h;have h2:=hcl c oc hlc h1 e he hb.1;rw[hb.2,yP] at h2;cases h2
       exact h
    have hrun:=hok a.eval us w hout hin (fun _=>rfl) hlim hW;have hw:Region.wanted o (yielded l.toArray a.tmps)=true:=(by simp[Region.wanted,G i o ho]);rw[if_pos hw];simp only[Oper.wp,hrun,Oper.upon]
    cases hd:o.dst with
    |none=>exact absurd p7 (DN i o ho hd)
    |some d=>
     obtain⟨d1,d2,d3,d4⟩:=DD i o d ho hd;refine hK _ _ ⟨us,fun t=>if t=d then fx d else v t,by rw[ha];exact jB _ _ _ _ _ d1,hW,hlen,fun k c hkc=>?_,fun j oj d' hj gP mA=>?_,rU⟩
     ·have:c≠i:=fun h=>by subst h;rw[CI k c hkc] at p7;cases p7
      rw[qD _ this];exact hst k c hkc
     by_cases hdd:d'=d
     ·subst hdd;simp only[if_true];unfold qZ;rw[d3,p7]
     have mW:j≠i:=fun h=>by subst h;rw[ho] at hj;injection hj with hj;subst hj;rw[hd] at gP;injection gP with gP;exact hdd gP.symm
     simp only[if_neg hdd];rw[qD _ mW] at mA;exact hval j oj d' hj gP mA
   |some k=>
    rw[p7] at hok mj;simp only at hok mj;have hck:=zO p7
    have hk1:us.length≤k:=by
     rcases Nat.lt_or_ge k us.length with h|h
     ·have:=(hst k i hck).2 h;rw[yP] at this;cases this
     exact h
    have hk2:k≤us.length:=by
     rcases Nat.eq_zero_or_pos k with h|h
     ·omega
     have hne:(k==0)=false:=(by simp;omega);rw[hne,Bool.false_or] at mj
     cases hc:chain[k - 1]? with
     |none=>rw[hc] at mj;cases mj
     |some c=>
      rw[hc] at mj;simp only at mj;obtain⟨e,he,hb⟩:=Array.any_eq_true'.1 mj;simp only[Bool.and_eq_true,beq_iff_eq] at hb;have h1:=hdep e he hb.1;rw[hb.2] at h1;have:=(hst _ _ hc).1 h1;omega
    have hk:us.length=k:=(by omega);have hklt:k<chain.length:=(List.getElem?_eq_some_iff.1 hck).1;refine hok a us w hout hin hk hW K (fun x w' hW'=>hK _ _ ?_)
    have uY:∀(k' c:Nat),chain[k']?=some c→(upd D i c=true↔k'<(us++[x]).length):=fun k' c hkc=>by
     rw[List.length_append,List.length_singleton];by_cases hci:c=i
     ·subst hci;have:=(CI k' c hkc).symm.trans p7;injection this with this
      rw[zM];simp;omega
     rw[qD _ hci,hst k' c hkc];have:k'≠k:=fun h=>by subst h;rw[hck] at hkc;injection hkc with hkc;exact hci hkc.symm
     omega
    have pZ:∀(j:Nat) (oj:Oper) (d':Nat),l[j]?=some oj→oj.dst=some d'→D j=true→qZ pos fx (us++[x]) d'=qZ pos fx us d':=by
     intro j oj d' hj gP mA;obtain⟨_,_,e3,_⟩:=DD j oj d' hj gP;unfold qZ;rw[e3]
     cases hkj:chain.idxOf? j with
     |none=>rfl
     |some k'=>
      have:=(hst k' j (zO hkj)).1 mA;simp only;rw[List.getD_eq_getElem?_getD,List.getD_eq_getElem?_getD,List.getElem?_append_left this]
    cases hd:o.dst with
    |none=>
     refine⟨us++[x],v,ha,hW',by simp;omega,uY,fun j oj d' hj gP mA=>?_,rU⟩;have mW:j≠i:=fun h=>by subst h;rw[ho] at hj;injection hj with hj;subst hj;rw[hd] at gP;cases gP
     rw[qD _ mW] at mA;rw[pZ j oj d' hj gP mA];exact hval j oj d' hj gP mA
    |some d=>
     obtain⟨d1,d2,d3,d4⟩:=DD i o d ho hd;refine⟨us++[x],fun t=>if t=d then x else v t,by rw[ha];exact jB _ _ _ _ _ d1,hW',by simp;omega,uY,fun j oj d' hj gP mA=>?_,rU⟩;by_cases hdd:d'=d
     ·subst hdd;simp only[if_true];unfold qZ;rw[d3,p7];simp only;rw[List.getD_eq_getElem?_getD,List.getElem?_append_right (by omega),hk,Nat.sub_self];rfl
     have mW:j≠i:=fun h=>by subst h;rw[ho] at hj;injection hj with hj;subst hj;rw[hd] at gP;injection gP with gP;exact hdd gP.symm
     simp only[if_neg hdd];rw[qD _ mW] at mA;rw[pZ j oj d' hj gP mA];exact hval j oj d' hj gP mA
  have all:∀(I:(Nat→Bool)→Act→World→Prop) (key:∀(i:Nat) (o:Oper),l[i]?=some o→Br P l.toArray Q a0 ds chain pos fx lim tl Wd i o→xJ P l.toArray Q I i o) (m:List Oper) (j:Nat),(∀(i:Nat) (o:Oper),m[i]?=some o→l[j+i]?=some o)→Cy P l.toArray Q a0 ds chain pos fx lim tl Wd j m→C9 P l.toArray Q I j m:=by
   intro I key m
   induction m with
   |nil=>intro j _ _;trivial
   |cons o m ih=>
    intro j hm' hok;refine⟨key j o (by simpa using hm' 0 o rfl) hok.1,ih (j+1) (fun i o' h=>?_) hok.2⟩;have:=hm' (i+1) o' (by simpa using h);rw[show j+1+i=j+(i+1) by omega];exact this
  exact all _ key l 0 (fun i o h=>by simpa using h) hops
 intro D a w ⟨us,v,ha,hW,hlen,hst,hval,_⟩ hall
 have hfull:us.length=chain.length:=by
  rcases Nat.lt_or_ge us.length chain.length with h|h
  ·have hc:chain[us.length]?=some chain[us.length]:=List.getElem?_eq_getElem h;have hlt:chain[us.length]<l.length:=(by simpa using(List.all_eq_true.1 hc2) _ (List.getElem_mem h));have:=(hst _ _ hc).1 (hall _ hlt);omega
  omega
 have:a=xg a0 ds (qZ pos fx us):=by
  rw[ha];refine kM _ _ _ _ (fun t ht=>?_);have h1:=(List.all_eq_true.1 hc4) t (by simpa using ht);obtain⟨o,hom,uC⟩:=List.any_eq_true.1 h1;obtain⟨j,hj⟩:=List.mem_iff_getElem?.1 hom;exact hval j o t hj (by simpa using uC) (hall j (List.getElem?_eq_some_iff.1 hj).1)
 rw[this];exact hend us w hfull hW
def qc (a:Act) (ps:List (Nat×Value)):Act:=ps.foldl (fun a p=>a.put (some p.1) p.2) a
theorem xW (a:Act) (ds:List Nat) (v:Nat→Value):xg a ds v=qc a (ds.map fun d=>(d,v d)):=by
 have:∀(ds:List Nat) (a:Act),(qc a (ds.map fun d=>(d,v d))).defers=a.defers∧∀t:Nat,(qc a (ds.map fun d=>(d,v d))).tmps[t]?=(a.tmps[t]?).map (fun u=>if ds.contains t then v t else u):=by
  intro ds
  induction ds with
  |nil=>intro a;exact⟨rfl,fun t=>by simp[qc]⟩
  |cons d ds ih=>
   intro a;obtain⟨h1,h2⟩:=ih (a.put (some d) (v d));refine⟨h1,fun t=>?_⟩;refine(h2 t).trans ?_;show(((a.tmps.setIfInBounds d (v d))[t]?).map _)=_;by_cases ht:t=d
   ·subst ht;rw[Array.getElem?_setIfInBounds_self];by_cases hs:t<a.tmps.size
    ·rw[if_pos hs,Array.getElem?_eq_getElem hs];simp
    rw[if_neg hs,Array.getElem?_eq_none (by omega)];rfl
   rw[Array.getElem?_setIfInBounds_ne (Ne.symm ht)]
   cases a.tmps[t]? with
   |none=>rfl
   |some u=>simp[ht]
 exact kD (fun t=>by rw[zZ,(this ds a).2 t]) (this ds a).1.symm
theorem Br.rd {P:Program}{ops:Array Oper}{Q:Exit→Act→World→Prop}{a0:Act}{ds chain:List Nat}{pos:Nat→Option Nat}{fx:Nat→Value}{lim:Nat→Nat}{tl:Nat→List Nat}{Wd:List Value→World→Prop}{i:Nat}{o:Oper}
  (hi:chain.idxOf? i=none) (v:Value) (hv:fx (o.dst.getD 0)=v)
  (h:∀(ρ:Operand→Value) us w,(∀t,ds.contains t=false→ρ (.tmp t)=a0.eval (.tmp t))→(∀t∈tl i,ρ (.tmp t)=qZ pos fx us t)→(∀v,ρ (.const v)=v)→us.length≤lim i→Wd us w→(execOp ρ o).run P w=.ok (.value v) w):
  Br P ops Q a0 ds chain pos fx lim tl Wd i o:=by
 unfold Br;rw[hi];simp only[hv];exact h
theorem Br.wr {P:Program}{ops:Array Oper}{Q:Exit→Act→World→Prop}{a0:Act}{ds chain:List Nat}{pos:Nat→Option Nat}{fx:Nat→Value}{lim:Nat→Nat}{tl:Nat→List Nat}{Wd:List Value→World→Prop}{i:Nat}{o:Oper}{k:Nat}
  (hi:chain.idxOf? i=some k)
  (h:∀(a:Act) us w,(∀t,ds.contains t=false→a.eval (.tmp t)=a0.eval (.tmp t))→(∀t∈tl i,a.eval (.tmp t)=qZ pos fx us t)→us.length=k→Wd us w→
   ∀K:Act→World→Prop,(∀x w',Wd (us++[x]) w'→K (a.put o.dst x) w')→if Region.wanted o (yielded ops a.tmps)=true then Oper.wp P o a w K Q else K (a.put o.dst undef) w):
  Br P ops Q a0 ds chain pos fx lim tl Wd i o:=by
 unfold Br;rw[hi];exact h
theorem jo {P:Program}{id:Nat}{Q:Exit→Act→World→Prop}{a0:Act}{w:World}{l:List Oper}(hm:P.follows .mixedOrders=true) (pC:kb l=true) (n:Nat) (hn:a0.tmps.size=n)
  (ds chain:List Nat) (pos:List (Nat×Nat)) (fx:List (Nat×Value)) (lim:Nat→Nat) (tl:List (List Nat)) (Wd:List Value→World→Prop) (hchk:ZT l n ds chain (fun t=>pos.lookup t) lim (fun i=>tl.getD i [])=true)
  (h0:Wd [] w.drew) (hops:Cy P l.toArray Q a0 ds chain (fun t=>pos.lookup t) (fun t=>(fx.lookup t).getD undef) lim (fun i=>tl.getD i []) Wd 0 l)
  (hend:∀us w',us.length=chain.length→Wd us w'→Q .normal (qc a0 (ds.map fun d=>(d,qZ (fun t=>pos.lookup t) (fun t=>(fx.lookup t).getD undef) us d))) w'):
  (Code.region id l.toArray true).wp P Q a0 w:=by
 subst hn;exact QK hm pC ds chain _ _ lim _ Wd hchk h0 hops (fun us w' h hW=>by rw[xW];exact hend us w' h hW)
end Go.Silo
