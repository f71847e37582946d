/- A region that draws its order: an invariant over what has come up serves for all orders. -/
import Derived.Test.YtipecejghioicaaGreatE2p
import Derived.Test.YtipecejghioicaaGreatE8p
import Derived.Test.YtipecejghioicaaGreatDatap
import Derived.Test.YtipecejghioicaaGreatBasep
namespace Go.Proofs.YtipecejghioicaaGreat
open Go.RowKit Go.Silo
def qU (s:Shape) (nx:Int) (l:List Bc) (k:Nat):Bool:=ze s (l.getD k default)&&(decide ((l.getD k default).id<nx)&&(decide (k=0)||decide ((l.getD (k - 1) default).id<(l.getD k default).id)))
def qh (l:List Bc) (k:Nat):List Slot:=(l.take k).flatMap (fun x=>x.place)
def zM (l:List Slot):Bool:=decide ((l.filter (fun p=>decide (0≤p.disk))).Nodup)
def qH (s:Shape) (nx:Int) (l:List Bc):Bool:=(List.range l.length).all (qU s nx l)&&zM (qh l l.length)
theorem jE {s:Shape}{nx:Int}{l:List Bc}{k:Nat}(h:k<l.length) (hk:qU s nx l k=false):qH s nx l=false:=by
 unfold qH
 have:(List.range l.length).all (qU s nx l)=false:=by
  rw[List.all_eq_false];exact⟨k,List.mem_range.2 h,by simp[hk]⟩
 rw[this];rfl
theorem zS {l:List Bc}{k:Nat}(h:k<l.length):qh l (k+1)=qh l k++(l.getD k default).place:=by
 unfold qh;rw[List.take_add_one,List.flatMap_append,List.getElem?_eq_getElem h,List.getD_eq_getElem?_getD,List.getElem?_eq_getElem h];simp
theorem jP {l:List Bc}(k:Nat):∃r,qh l l.length=qh l k++r:=by
 refine⟨(l.drop k).flatMap (fun x=>x.place),?_⟩;unfold qh;rw[List.take_length,←List.flatMap_append,List.take_append_drop]
theorem xP {P:List Slot}{q:Slot}(h:zM P=true) (hq:0≤q.disk→q∉P):zM (P++[q])=true:=by
 unfold zM at *;have h1:=of_decide_eq_true h;refine decide_eq_true ?_;rw[List.filter_append];by_cases hd:0≤q.disk
 ·rw[show[q].filter (fun p=>decide (0≤p.disk))=[q] by simp[hd]];refine List.nodup_append.2 ⟨h1,by simp,fun a ha b hb e=>?_⟩;rw[List.mem_singleton.1 hb] at e;subst e;exact hq hd (List.mem_filter.1 ha).1
 rw[show[q].filter (fun p=>decide (0≤p.disk))=[] by simp[hd],List.append_nil];exact h1
theorem jm {s:Shape}{nx:Int}{l:List Bc}{k j:Nat}(h:k<l.length) (hj:j<(l.getD k default).place.length) (hd:0≤((l.getD k default).place.getD j default).disk) (hm:(l.getD k default).place.getD j default∈qh l k++(l.getD k default).place.take j):qH s nx l=false:=by
 have hnd:zM (qh l l.length)=false:=by
  obtain⟨r,hr⟩:=jP (l:=l) (k+1);unfold zM;refine decide_eq_false (fun hn=>?_);rw[hr,zS h,List.filter_append] at hn;have h1:=(List.nodup_append.1 hn).1;generalize (l.getD k default).place=L at *
  have hL:L=L.take j++L.getD j default::L.drop (j+1):=by
   rw[List.getD_eq_getElem?_getD,List.getElem?_eq_getElem hj,Option.getD_some,←List.drop_eq_getElem_cons hj,List.take_append_drop]
  rw[hL,←List.append_assoc,List.filter_append,List.filter_cons] at h1;rw[if_pos (by simpa using hd)] at h1;exact(List.nodup_append.1 h1).2.2 _ (List.mem_filter.2 ⟨hm,by simpa using hd⟩) _ (List.mem_cons_self ..) rfl
 unfold qH;rw[hnd];simp
theorem jF {s:Shape}{nx:Int}{l:List Bc}(h:∀k,k<l.length→qU s nx l k=true) (hn:zM (qh l l.length)=true):qH s nx l=true:=by
 unfold qH;rw[List.all_eq_true.2 (fun k hk=>h k (List.mem_range.1 hk)),hn];rfl
def kB (l:List Slot):List Value:=l.map (fun p=>.agg #[.int .i64 p.disk,.int .i64 p.pos])
theorem QL {l:List Slot}{p:Slot}:Value.agg #[.int .i64 p.disk,.int .i64 p.pos]∈kB l↔p∈l:=by
 unfold kB;constructor
 ·intro h;obtain⟨q,hq,e⟩:=List.mem_map.1 h;injection e with e
  have e1:[Value.int .i64 q.disk,Value.int .i64 q.pos]=[Value.int .i64 p.disk,Value.int .i64 p.pos]:=by simpa using congrArg Array.toList e
  injection e1 with e2 e3
  injection e3 with e3 _
  injection e2 with _ e2
  injection e3 with _ e3
  obtain rfl:q=p:=by cases q;cases p;simp_all
  exact hq
 intro h;exact List.mem_map.2 ⟨p,h,rfl⟩
end Go.Proofs.YtipecejghioicaaGreat
namespace Go.Silo
open Go
def upd (D:Nat→Bool) (i:Nat):Nat→Bool:=fun k=>if k=i then true else D k
theorem xI (D:Nat→Bool) (i:Nat):upd D i i=true:=by simp[upd]
theorem zC (D:Nat→Bool) {i k:Nat}(h:k≠i):upd D i k=D k:=by simp[upd,h]
def jW (P:Program) (ops:Array Oper) (Q:Exit→Act→World→Prop) (I:(Nat→Bool)→Act→World→Prop) (i:Nat) (o:Oper):Prop:=
 ∀D a w,I D a w→D i=false→(∀e∈o.after,Region.binds .any e=true→D e.on=true)→
  ∀K:Act→World→Prop,(∀a w,I (upd D i) a w→K a w)→if Region.wanted o (yielded ops a.tmps)=true then Oper.wp P o a w K Q else K (a.put o.dst undef) w
def Cm (P:Program) (ops:Array Oper) (Q:Exit→Act→World→Prop) (I:(Nat→Bool)→Act→World→Prop):Nat→List Oper→Prop
 |_,[]=>True
 |i,o::l=>jW P ops Q I i o∧Cm P ops Q I (i+1) l
theorem Cm.get {P:Program}{ops:Array Oper}{Q:Exit→Act→World→Prop}{I:(Nat→Bool)→Act→World→Prop}:∀{l:List Oper}{j i:Nat}{o:Oper},Cm P ops Q I j l→l[i]?=some o→jW P ops Q I (j+i) o
 |[],_,_,_,_,h=>by simp at h
 |o::l,j,0,_,hs,h=>by simp at h;subst h;exact hs.1
 |o::l,j,i+1,_,hs,h=>by
  have:=Cm.get (i:=i) hs.2 (by simpa using h);rw[show j+(i+1)=j+1+i by omega];exact this
theorem Xa {l:List Bool}{i:Nat}(h:l[i]?=some false):(l.set i true).countP (fun b=>!b)+1=l.countP (fun b=>!b):=by
 induction l generalizing i with
 |nil=>simp at h
 |cons b l ih=>
  cases i with
  |zero=>simp at h;subst h;simp
  |succ i=>
   have:=ih (i:=i) (by simpa using h);rw[List.set_cons_succ,List.countP_cons,List.countP_cons];omega
theorem XU {P:Program}{ops:Array Oper}{Q:Exit→Act→World→Prop}{I:(Nat→Bool)→Act→World→Prop}
  (vB:∀(i:Nat) (o:Oper),ops[i]?=some o→∀e∈o.after,Region.binds .any e=true→e.on<i) (hs:∀(i:Nat) (o:Oper),ops[i]?=some o→jW P ops Q I i o)
  (hend:∀D a w,I D a w→(∀i,i<ops.size→D i=true)→Q .normal a w):
  ∀(fuel:Nat) (L:Array Bool) (a:Act) (w:World),L.size=ops.size→L.toList.countP (fun b=>!b)≤fuel→I (fun k=>L.getD k false) a w→wpAny P .any ops Q fuel L a w:=by
 have stuck:∀L:Array Bool,L.size=ops.size→Region.ready .any ops L=[]→∀i,i<ops.size→L.getD i false=true:=by
  intro L hL hr i
  induction i using Nat.strongRecOn with
  |_ i ih=>
   intro hi
   cases hb:L.getD i false with
   |true=>rfl
   |false=>
    exfalso
    have hlt:i<L.size:=by omega
    have hbt:L.getD i true=false:=by
     simp[Array.getElem?_eq_getElem hlt] at hb⊢;exact hb
    have ho:ops[i]?=some ops[i]:=Array.getElem?_eq_getElem hi;have:i∈Region.ready .any ops L:=mem_ready.2 ⟨hbt,_,ho,fun e he hb=>ih e.on (vB i _ ho e he hb) (Nat.lt_trans (vB i _ ho e he hb) hi)⟩;rw[hr] at this
    cases this
 intro fuel
 induction fuel with
 |zero=>
  intro L a w hL hc hI
  have hall:∀i,i<ops.size→L.getD i false=true:=by
   intro i hi;have hlt:i<L.size:=(by omega);have h0:L.toList.countP (fun b=>!b)=0:=(by omega);rw[List.countP_eq_zero] at h0;have:=h0 L[i] (by simp);simp at this;simp[Array.getElem?_eq_getElem hlt,this]
  refine⟨?_,hend _ a w hI hall⟩
  cases hr:Region.ready .any ops L with
  |nil=>rfl
  |cons i r=>
   exfalso
   have hm:i∈Region.ready .any ops L:=(by rw[hr];simp);obtain⟨h1,o,ho,_⟩:=mem_ready.1 hm;have hi:i<ops.size:=(zl ho);have h2:=hall i hi;have hlt:i<L.size:=(by omega);simp[Array.getElem?_eq_getElem hlt] at h1 h2;rw[h1] at h2;cases h2
 |succ fuel ih=>
  intro L a w hL hc hI;refine⟨fun hr=>hend _ a w hI (stuck L hL hr),fun i hm=>?_⟩;obtain⟨h1,o,ho,hdep⟩:=mem_ready.1 hm;have hi:i<ops.size:=(zl ho);have hlt:i<L.size:=by omega
  have hLi:L[i]=false:=by simpa[Array.getElem?_eq_getElem hlt] using h1
  refine wpOp_step ho (fun K' hK=>hs i o ho _ a w hI (by simp[Array.getElem?_eq_getElem hlt,hLi]) hdep K' (fun a' w' hI'=>hK a' w' (ih _ a' w' (by simpa using hL) ?_ ?_)))
  ·have:=Xa (l:=L.toList) (i:=i) (by simp[Array.getElem?_eq_getElem hlt,hLi]);rw[Array.toList_setIfInBounds];omega
  have:(fun k=>(L.setIfInBounds i true).getD k false)=upd (fun k=>L.getD k false) i:=by
   funext k
   by_cases hk:k=i
   ·subst hk;rw[xI];simp[hlt]
   rw[zC _ hk];simp[Array.getElem?_setIfInBounds_ne (Ne.symm hk)]
  rw[this];exact hI'
def kZ (l:List Oper):Bool:=l.zipIdx.all fun p=>p.1.after.all fun e=>!Region.binds .any e||decide (e.on<p.2)
theorem Xb {P:Program}{id:Nat}{Q:Exit→Act→World→Prop}{a:Act}{w:World}{l:List Oper}(hm:P.follows .mixedOrders=true) (vB:kZ l=true)
  (I:(Nat→Bool)→Act→World→Prop) (h0:I (fun _=>false) a w.drew) (hs:Cm P l.toArray Q I 0 l) (hend:∀D a w,I D a w→(∀i,i<l.length→D i=true)→Q .normal a w):
  (Code.region id l.toArray true).wp P Q a w:=by
 refine wp_region_any hm (XU ?_ ?_ (fun D a w hI h=>hend D a w hI (by simpa using h)) _ _ a w.drew (by simp) ?_ ?_)
 ·intro i o ho e he hb;unfold kZ at vB;rw[List.all_eq_true] at vB;have h1:=vB (o,i) (List.mem_zipIdx_iff_getElem?.2 (by simpa using ho));have h2:=Array.all_eq_true_iff_forall_mem.1 h1 e he;simpa[hb] using h2
 ·intro i o ho;have:=hs.get (i:=i) (by simpa using ho);simpa using this
 ·have:(Array.replicate l.toArray.size false).toList.countP (fun b=>!b)≤(Array.replicate l.toArray.size false).toList.length:=List.countP_le_length;simpa using this
 have:(fun k=>(Array.replicate l.toArray.size false).getD k false)=fun _=>false:=by
  funext k
  rcases Nat.lt_or_ge k l.toArray.size with h|h
  ·simp[Array.getElem?_replicate];split<;>rfl
  simp[Array.getElem?_replicate];split<;>rfl
 rw[this];exact h0
def jh (a:Act) (ds:List Nat) (v:Nat→Value):Act:=⟨(a.tmps.toList.zipIdx.map (fun p=>if ds.contains p.2 then v p.2 else p.1)).toArray,a.defers⟩
theorem xy (a:Act) (ds:List Nat) (v:Nat→Value) (t:Nat):(jh a ds v).tmps[t]?=(a.tmps[t]?).map (fun u=>if ds.contains t then v t else u):=by
 simp only[jh,List.getElem?_toArray,List.getElem?_map,List.getElem?_zipIdx,Array.getElem?_toList,Option.map_map]
 cases a.tmps[t]? with
 |none=>rfl
 |some u=>simp
theorem XV (a:Act) (ds:List Nat) (v:Nat→Value):(jh a ds v).tmps.size=a.tmps.size:=by simp[jh]
theorem kS {a b:Act}(h:∀t:Nat,a.tmps[t]?=b.tmps[t]?) (hd:a.defers=b.defers):a=b:=by
 obtain⟨x,d⟩:=a;obtain⟨y,e⟩:=b;simp only at h hd;rw[hd,Array.ext_getElem? h]
theorem Zy (a:Act) (ds:List Nat) (v:Nat→Value) (d:Nat) (x:Value) (h:ds.contains d=true):(jh a ds v).put (some d) x=jh a ds (fun t=>if t=d then x else v t):=by
 refine kS (fun t=>?_) rfl;rw[xy];show((jh a ds v).tmps.setIfInBounds d x)[t]?=_;by_cases ht:t=d
 ·subst ht;simp only[h,if_true];rw[Array.getElem?_setIfInBounds_self,XV];by_cases hs:t<a.tmps.size
  ·rw[if_pos hs,Array.getElem?_eq_getElem hs];simp
  rw[if_neg hs,Array.getElem?_eq_none (by omega)];rfl
 rw[Array.getElem?_setIfInBounds_ne (Ne.symm ht),xy];simp only[if_neg ht]
theorem XW (a:Act) (ds:List Nat):jh a ds (fun t=>a.eval (.tmp t))=a:=by
 refine kS (fun t=>?_) rfl;rw[xy]
 cases h:a.tmps[t]? with
 |none=>rfl
 |some u=>simp[Act.eval,h]
theorem QM (a:Act) (ds:List Nat) (v:Nat→Value) (t:Nat) (h:ds.contains t=true) (hs:t<a.tmps.size):(jh a ds v).eval (.tmp t)=v t:=by
 show((jh a ds v).tmps.getD t undef)=_;rw[Array.getD_eq_getD_getElem?,xy,Array.getElem?_eq_getElem hs];simp;intro hh;simp at h;exact absurd h hh
theorem Xc (a:Act) (ds:List Nat) (v:Nat→Value) (t:Nat) (h:ds.contains t=false):(jh a ds v).eval (.tmp t)=a.eval (.tmp t):=by
 show((jh a ds v).tmps.getD t undef)=a.tmps.getD t undef;rw[Array.getD_eq_getD_getElem?,xy,Array.getD_eq_getD_getElem?];simp only[h]
 cases a.tmps[t]?<;>rfl
theorem Xd (a:Act) (ds:List Nat) (v v':Nat→Value) (h:∀t,ds.contains t=true→v t=v' t):jh a ds v=jh a ds v':=by
 refine kS (fun t=>?_) rfl;rw[xy,xy]
 cases hc:ds.contains t with
 |false=>simp
 |true=>simp[h t hc]
def kT (pos:Nat→Option Nat) (fx:Nat→Value) (us:List Value) (t:Nat):Value:=match pos t with|some k=>us.getD k undef|none=>fx t
def Da (P:Program) (ops:Array Oper) (Q:Exit→Act→World→Prop) (a0:Act) (ds chain:List Nat) (pos:Nat→Option Nat) (fx:Nat→Value) (lim:Nat→Nat) (tl:Nat→List Nat) (Wd:List Value→World→Prop) (i:Nat) (o:Oper):Prop:=
 match chain.idxOf? i with
 |none=>∀(ρ:Operand→Value) us w,(∀t,ds.contains t=false→ρ (.tmp t)=a0.eval (.tmp t))→(∀t∈tl i,ρ (.tmp t)=kT pos fx us t)→(∀v,ρ (.const v)=v)→us.length≤lim i→Wd us w→
   (execOp ρ o).run P w=.ok (.value (fx (o.dst.getD 0))) w
 |some k=>∀(a:Act) us w,(∀t,ds.contains t=false→a.eval (.tmp t)=a0.eval (.tmp t))→(∀t∈tl i,a.eval (.tmp t)=kT pos fx us t)→us.length=k→Wd us w→
   ∀K:Act→World→Prop,(∀x w',Wd (us++[x]) w'→K (a.put o.dst x) w')→if Region.wanted o (yielded ops a.tmps)=true then Oper.wp P o a w K Q else K (a.put o.dst undef) w
def Dp (P:Program) (ops:Array Oper) (Q:Exit→Act→World→Prop) (a0:Act) (ds chain:List Nat) (pos:Nat→Option Nat) (fx:Nat→Value) (lim:Nat→Nat) (tl:Nat→List Nat) (Wd:List Value→World→Prop):Nat→List Oper→Prop
 |_,[]=>True
 |i,o::l=>Da P ops Q a0 ds chain pos fx lim tl Wd i o∧Dp P ops Q a0 ds chain pos fx lim tl Wd (i+1) l
theorem Dp.get {P:Program}{ops:Array Oper}{Q:Exit→Act→World→Prop}{a0:Act}{ds chain:List Nat}{pos:Nat→Option Nat}{fx:Nat→Value}{lim:Nat→Nat}{tl:Nat→List Nat}{Wd:List Value→World→Prop}:
  ∀{l:List Oper}{j i:Nat}{o:Oper},Dp P ops Q a0 ds chain pos fx lim tl Wd j l→l[i]?=some o→Da P ops Q a0 ds chain pos fx lim tl Wd (j+i) o
 |[],_,_,_,_,h=>by simp at h
 |o::l,j,0,_,hs,h=>by simp at h;subst h;exact hs.1
 |o::l,j,i+1,_,hs,h=>by
  have:=Dp.get (i:=i) hs.2 (by simpa using h);rw[show j+(i+1)=j+1+i by omega];exact this
theorem xG {l:List Nat}{i k:Nat}(h:l.idxOf? i=some k):l[k]?=some i:=by
 induction l generalizing k with
 |nil=>simp at h
 |cons x l ih=>
  rw[List.idxOf?_cons] at h
  split at h
  ·rename_i hx;simp at hx;injection h with h;subst h;simp[hx]
  cases hl:l.idxOf? i with
  |none=>rw[hl] at h;cases h
  |some m=>rw[hl] at h;injection h with h;subst h;simpa using ih hl
def qa (a:Act) (ps:List (Nat×Value)):Act:=ps.foldl (fun a p=>a.put (some p.1) p.2) a
theorem jo (a:Act) (ds:List Nat) (v:Nat→Value):jh a ds v=qa a (ds.map fun d=>(d,v d)):=by
 have:∀(ds:List Nat) (a:Act),(qa a (ds.map fun d=>(d,v d))).defers=a.defers∧∀t:Nat,(qa a (ds.map fun d=>(d,v d))).tmps[t]?=(a.tmps[t]?).map (fun u=>if ds.contains t then v t else u):=by
  intro ds
  induction ds with
  |nil=>intro a;exact⟨rfl,fun t=>by simp[qa]⟩
  |cons d ds ih=>
   intro a;obtain⟨h1,h2⟩:=ih (a.put (some d) (v d));refine⟨h1,fun t=>?_⟩;refine(h2 t).trans ?_;show(((a.tmps.setIfInBounds d (v d))[t]?).map _)=_;by_cases ht:t=d
   ·subst ht;rw[Array.getElem?_setIfInBounds_self];by_cases hs:t<a.tmps.size
    ·rw[if_pos hs,Array.getElem?_eq_getElem hs];simp
    rw[if_neg hs,Array.getElem?_eq_none (by omega)];rfl
   rw[Array.getElem?_setIfInBounds_ne (Ne.symm ht)]
   cases a.tmps[t]? with
   |none=>rfl
   |some u=>simp[ht]
 exact kS (fun t=>by rw[xy,(this ds a).2 t]) (this ds a).1.symm
theorem Da.rd {P:Program}{ops:Array Oper}{Q:Exit→Act→World→Prop}{a0:Act}{ds chain:List Nat}{pos:Nat→Option Nat}{fx:Nat→Value}{lim:Nat→Nat}{tl:Nat→List Nat}{Wd:List Value→World→Prop}{i:Nat}{o:Oper}
  (hi:chain.idxOf? i=none) (v:Value) (hv:fx (o.dst.getD 0)=v)
  (h:∀(ρ:Operand→Value) us w,(∀t,ds.contains t=false→ρ (.tmp t)=a0.eval (.tmp t))→(∀t∈tl i,ρ (.tmp t)=kT pos fx us t)→(∀v,ρ (.const v)=v)→us.length≤lim i→Wd us w→(execOp ρ o).run P w=.ok (.value v) w):
  Da P ops Q a0 ds chain pos fx lim tl Wd i o:=by
 unfold Da;rw[hi];simp only[hv];exact h
theorem Da.wr {P:Program}{ops:Array Oper}{Q:Exit→Act→World→Prop}{a0:Act}{ds chain:List Nat}{pos:Nat→Option Nat}{fx:Nat→Value}{lim:Nat→Nat}{tl:Nat→List Nat}{Wd:List Value→World→Prop}{i:Nat}{o:Oper}{k:Nat}
  (hi:chain.idxOf? i=some k)
  (h:∀(a:Act) us w,(∀t,ds.contains t=false→a.eval (.tmp t)=a0.eval (.tmp t))→(∀t∈tl i,a.eval (.tmp t)=kT pos fx us t)→us.length=k→Wd us w→
   ∀K:Act→World→Prop,(∀x w',Wd (us++[x]) w'→K (a.put o.dst x) w')→if Region.wanted o (yielded ops a.tmps)=true then Oper.wp P o a w K Q else K (a.put o.dst undef) w):
  Da P ops Q a0 ds chain pos fx lim tl Wd i o:=by
 unfold Da;rw[hi];exact h
end Go.Silo
