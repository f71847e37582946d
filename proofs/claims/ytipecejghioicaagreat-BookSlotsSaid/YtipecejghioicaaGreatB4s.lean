/- A region that draws its order and whose memory steps are in no one row. -/
import Derived.Test.YtipecejghioicaaGreatB3s
import Derived.Test.YtipecejghioicaaGreatP0s
namespace Go.Silo
open Go
theorem xS {us:List (Nat×Value)}{i c:Nat}{x:Value}(h:c∈us.map Prod.fst):(us++[(i,x)]).lookup c=us.lookup c:=by
 induction us with
 |nil=>simp at h
 |cons p us ih=>
  obtain⟨a,b⟩:=p;rw[List.cons_append,List.lookup_cons,List.lookup_cons];by_cases hc:c==a
  ·rw[hc]
  have hne:(c==a)=false:=by simpa using hc
  rw[hne];refine ih ?_;simp at h hc;rcases h with h|h
  ·exact absurd h hc
  simpa using h
theorem zN {us:List (Nat×Value)}{i:Nat}{x:Value}(h:i∉us.map Prod.fst):(us++[(i,x)]).lookup i=some x:=by
 induction us with
 |nil=>simp
 |cons p us ih=>
  obtain⟨a,b⟩:=p;simp at h;have hne:(i==a)=false:=by simpa using h.1
  rw[List.cons_append,List.lookup_cons,hne];refine ih ?_;simpa using h.2
abbrev Fx:=List (Nat×List Nat×(List Value→Value))
def Fx.src (fx:Fx) (t:Nat):List Nat:=match fx.lookup t with|some p=>p.1|none=>[]
def Fx.at_ (fx:Fx) (us:List (Nat×Value)) (t:Nat):Value:=match fx.lookup t with|some p=>p.2 (p.1.map fun c=>(us.lookup c).getD undef)|none=>undef
theorem Fx.Dy (fx:Fx) {us us':List (Nat×Value)}{t:Nat}(h:∀c∈fx.src t,us.lookup c=us'.lookup c):fx.at_ us t=fx.at_ us' t:=by
 unfold Fx.at_;unfold Fx.src at h
 cases hl:fx.lookup t with
 |none=>rfl
 |some p=>
  rw[hl] at h;simp only at h⊢;have e:(p.1.map fun c=>(us.lookup c).getD undef)=p.1.map fun c=>(us'.lookup c).getD undef:=List.map_congr_left (fun c hc=>by rw[h c hc]);rw[e]
def qp (pos:Nat→Option Nat) (fx:Fx) (us:List (Nat×Value)) (t:Nat):Value:=match pos t with|some i=>(us.lookup i).getD undef|none=>fx.at_ us t
def QL (l:List Oper) (n:Nat) (ds mem:List Nat) (pos:Nat→Option Nat) (fx:Fx) (lim gS tl old:Nat→List Nat) (i:Nat) (o:Oper):Bool:=
 ((old i).all fun t=>l.all fun oj=>oj.dst !=some t||oj.after.any fun e=>Region.binds .any e&&e.on==i)&&
 ((match o.dst with|none=>mem.contains i|some d=>ds.contains d&&decide (d<n)&&(pos d==if mem.contains i then some i else none)&&l.zipIdx.all fun q=>q.2==i||q.1.dst !=some d)&&
 ((lim i).all fun c=>mem.contains c&&(match l[c]? with|none=>false|some oc=>oc.after.any fun e=>Region.binds .any e&&e.on==i))&&
 ((gS i).all fun c=>mem.contains c&&o.after.any fun e=>Region.binds .any e&&e.on==c)&&
 ((tl i).all fun t=>o.after.any fun e=>Region.binds .any e&&(match l[e.on]? with|some oj=>oj.dst==some t|none=>false))&&
 (mem.contains i||(fx.src (o.dst.getD 0)).all fun c=>mem.contains c&&o.after.any fun e=>Region.binds .any e&&(e.on==c||(!mem.contains e.on&&match l[e.on]? with|some oj=>(match oj.dst with|some t=>(fx.src t).contains c|none=>false)|none=>false))))
def kE (l:List Oper) (n:Nat) (ds mem:List Nat) (pos:Nat→Option Nat) (fx:Fx) (lim gS tl old:Nat→List Nat):Bool:=
 (l.zipIdx.all fun p=>QL l n ds mem pos fx lim gS tl old p.2 p.1)&&mem.all (fun c=>decide (c<l.length))&&ds.all (fun d=>l.any fun o=>o.dst==some d)
def Bh (ops:Array Oper) (ρ:Operand→Value) (o:Oper):Prop:=match o.guard with|none=>True|some g=>∃t,(ops[g.1]?).bind (·.dst)=some t∧ρ (.tmp t)=.bool g.2
theorem Bh.wanted {ops:Array Oper}{a:Act}{o:Oper}(h:Bh ops a.eval o):Region.wanted o (yielded ops a.tmps)=true:=by
 unfold Bh at h;unfold Region.wanted
 cases hg:o.guard with
 |none=>rfl
 |some g=>
  rw[hg] at h;obtain⟨t,h1,h2⟩:=h
  have h3:a.tmps[t]?=some (.bool g.2):=by
   have h4:a.tmps.getD t undef=.bool g.2:=h2;rw[Array.getD_eq_getD_getElem?] at h4
   cases ht:a.tmps[t]? with
   |none=>rw[ht] at h4;cases h4
   |some v=>rw[ht] at h4;exact congrArg some h4
  show(yielded ops a.tmps g.1==some g.2)=true;unfold yielded;rw[h1];simp only[Option.bind_some,h3];simp
def CU (ops:Array Oper) (ρ:Operand→Value) (o:Oper):Prop:=∃j t b,o.guard=some (j,b)∧(ops[j]?).bind (·.dst)=some t∧ρ (.tmp t)≠.bool b
theorem CU.unwanted {ops:Array Oper}{a:Act}{o:Oper}(h:CU ops a.eval o):Region.wanted o (yielded ops a.tmps)=false:=by
 obtain⟨j,t,b,hg,h1,h2⟩:=h;unfold Region.wanted;rw[hg];have h4:a.tmps.getD t undef≠.bool b:=h2;rw[Array.getD_eq_getD_getElem?] at h4;show(yielded ops a.tmps j==some b)=false;unfold yielded;rw[h1];simp only[Option.bind_some]
 cases ht:a.tmps[t]? with
 |none=>rfl
 |some v=>
  rw[ht] at h4;have h5:v≠.bool b:=h4
  cases v with
  |bool b'=>
   have hne:b'≠b:=fun e=>h5 (by rw[e]);simpa using hne
  |_=>rfl
theorem Bh.no {ops:Array Oper}{ρ:Operand→Value}{o:Oper}(h:o.guard=none):Bh ops ρ o:=by unfold Bh;rw[h];trivial
theorem Bh.at_ {ops:Array Oper}{ρ:Operand→Value}{o:Oper}{j t:Nat}{b:Bool}(h:o.guard=some (j,b)) (h1:(ops[j]?).bind (·.dst)=some t) (h2:ρ (.tmp t)=.bool b):Bh ops ρ o:=by unfold Bh;rw[h];exact⟨t,h1,h2⟩
def Bc (P:Program) (ops:Array Oper) (Q:Exit→Act→World→Prop) (a0:Act) (ds mem:List Nat) (pos:Nat→Option Nat) (fx:Fx) (lim gS tl old:Nat→List Nat) (Wd:List (Nat×Value)→World→Prop) (i:Nat) (o:Oper):Prop:=
 match mem.contains i with
 |false=>∀(ρ:Operand→Value) us w,(∀t,(ds.contains t&&!(old i).contains t)=false→ρ (.tmp t)=a0.eval (.tmp t))→(∀t∈tl i,ρ (.tmp t)=qp pos fx us t)→(∀v,ρ (.const v)=v)→(∀c∈lim i,c∉us.map Prod.fst)→(∀c∈fx.src (o.dst.getD 0),c∈us.map Prod.fst)→Wd us w→
   (Bh ops ρ o∧(execOp ρ o).run P w=.ok (.value (fx.at_ us (o.dst.getD 0))) w)∨(CU ops ρ o∧fx.at_ us (o.dst.getD 0)=undef)
 |true=>∀(a:Act) us w,(∀t,(ds.contains t&&!(old i).contains t)=false→a.eval (.tmp t)=a0.eval (.tmp t))→(∀t∈tl i,a.eval (.tmp t)=qp pos fx us t)→i∉us.map Prod.fst→(∀c∈lim i,c∉us.map Prod.fst)→(∀c∈gS i,c∈us.map Prod.fst)→Wd us w→
   ∀K:Act→World→Prop,(∀x w',Wd (us++[(i,x)]) w'→K (a.put o.dst x) w')→if Region.wanted o (yielded ops a.tmps)=true then Oper.wp P o a w K Q else K (a.put o.dst undef) w
def D7 (P:Program) (ops:Array Oper) (Q:Exit→Act→World→Prop) (a0:Act) (ds mem:List Nat) (pos:Nat→Option Nat) (fx:Fx) (lim gS tl old:Nat→List Nat) (Wd:List (Nat×Value)→World→Prop):Nat→List Oper→Prop
 |_,[]=>True
 |i,o::l=>Bc P ops Q a0 ds mem pos fx lim gS tl old Wd i o∧D7 P ops Q a0 ds mem pos fx lim gS tl old Wd (i+1) l
theorem D7.get {P:Program}{ops:Array Oper}{Q:Exit→Act→World→Prop}{a0:Act}{ds mem:List Nat}{pos:Nat→Option Nat}{fx:Fx}{lim gS tl old:Nat→List Nat}{Wd:List (Nat×Value)→World→Prop}:
  ∀{l:List Oper}{j i:Nat}{o:Oper},D7 P ops Q a0 ds mem pos fx lim gS tl old Wd j l→l[i]?=some o→Bc P ops Q a0 ds mem pos fx lim gS tl old Wd (j+i) o
 |[],_,_,_,_,h=>by simp at h
 |o::l,j,0,_,hs,h=>by simp at h;subst h;exact hs.1
 |o::l,j,i+1,_,hs,h=>by
  have:=D7.get (i:=i) hs.2 (by simpa using h);rw[show j+(i+1)=j+1+i by omega];exact this
theorem kc {P:Program}{id:Nat}{Q:Exit→Act→World→Prop}{a0:Act}{w:World}{l:List Oper}(hm:P.follows .mixedOrders=true) (pC:kb l=true)
  (ds mem:List Nat) (pos:Nat→Option Nat) (fx:Fx) (lim gS tl old:Nat→List Nat) (Wd:List (Nat×Value)→World→Prop) (hchk:kE l a0.tmps.size ds mem pos fx lim gS tl old=true)
  (h0:Wd [] w.drew) (hops:D7 P l.toArray Q a0 ds mem pos fx lim gS tl old Wd 0 l)
  (hend:∀us w',(∀c∈mem,c∈us.map Prod.fst)→Wd us w'→Q .normal (xg a0 ds (qp pos fx us)) w'):
  (Code.region id l.toArray true).wp P Q a0 w:=by
 unfold kE at hchk;simp only[Bool.and_eq_true] at hchk;obtain⟨⟨hc1,hc2⟩,hc4⟩:=hchk;have C:∀(i:Nat) (o:Oper),l[i]?=some o→QL l a0.tmps.size ds mem pos fx lim gS tl old i o=true:=fun i o ho=>(List.all_eq_true.1 hc1) (o,i) (List.mem_zipIdx_iff_getElem?.2 (by simpa using ho))
 have DD:∀(i:Nat) (o:Oper) (d:Nat),l[i]?=some o→o.dst=some d→ds.contains d=true∧d<a0.tmps.size∧(pos d=if mem.contains i then some i else none)∧∀(j:Nat) (oj:Oper),l[j]?=some oj→oj.dst=some d→j=i:=fun i o d ho hd=>by
  have:=C i o ho;unfold QL at this;simp only[Bool.and_eq_true,hd] at this;replace this:=this.2;obtain⟨⟨⟨⟨⟨⟨⟨h1,h2⟩,h3⟩,h4⟩,_⟩,_⟩,_⟩,_⟩:=this;refine⟨h1,by simpa using h2,by simpa using h3,fun j oj hj gP=>?_⟩;have h5:=(List.all_eq_true.1 h4) (oj,j) (List.mem_zipIdx_iff_getElem?.2 (by simpa using hj));simp[gP] at h5;exact h5
 have DN:∀(i:Nat) (o:Oper),l[i]?=some o→o.dst=none→mem.contains i=true:=fun i o ho hd=>by
  have:=C i o ho;unfold QL at this;simp only[Bool.and_eq_true,hd] at this;replace this:=this.2;exact this.1.1.1.1
 have OLD:∀(i:Nat) (o:Oper),l[i]?=some o→∀t∈old i,∀(j:Nat) (oj:Oper),l[j]?=some oj→oj.dst=some t→∃e∈oj.after,Region.binds .any e=true∧e.on=i:=fun i o ho t ht j oj hj gP=>by
  have:=C i o ho;unfold QL at this;rw[Bool.and_eq_true] at this;have h2:=(List.all_eq_true.1 ((List.all_eq_true.1 this.1) t ht)) oj (List.mem_iff_getElem?.2 ⟨j,hj⟩);simp only[gP,bne_self_eq_false,Bool.false_or] at h2;obtain⟨e,he,hb⟩:=Array.any_eq_true'.1 h2;simp only[Bool.and_eq_true,beq_iff_eq] at hb;exact⟨e,he,hb.1,hb.2⟩
 have LIM:∀(i:Nat) (o:Oper),l[i]?=some o→∀c∈lim i,mem.contains c=true∧∃oc,l[c]?=some oc∧∃e∈oc.after,Region.binds .any e=true∧e.on=i:=fun i o ho c hc=>by
  have:=C i o ho;unfold QL at this;simp only[Bool.and_eq_true] at this;replace this:=this.2;have h2:=(List.all_eq_true.1 this.1.1.1.2) c hc;simp only[Bool.and_eq_true] at h2;refine⟨h2.1,?_⟩
  cases hl:l[c]? with
  |none=>rw[hl] at h2;simp at h2
  |some oc=>
   rw[hl] at h2;obtain⟨e,he,hb⟩:=Array.any_eq_true'.1 h2.2;simp only[Bool.and_eq_true,beq_iff_eq] at hb;exact⟨oc,rfl,e,he,hb.1,hb.2⟩
 have REQ:∀(i:Nat) (o:Oper),l[i]?=some o→∀c∈gS i,mem.contains c=true∧∃e∈o.after,Region.binds .any e=true∧e.on=c:=fun i o ho c hc=>by
  have:=C i o ho;unfold QL at this;simp only[Bool.and_eq_true] at this;replace this:=this.2;have h2:=(List.all_eq_true.1 this.1.1.2) c hc;simp only[Bool.and_eq_true] at h2;obtain⟨e,he,hb⟩:=Array.any_eq_true'.1 h2.2;simp only[Bool.and_eq_true,beq_iff_eq] at hb;exact⟨h2.1,e,he,hb.1,hb.2⟩
 have TL:∀(i:Nat) (o:Oper),l[i]?=some o→∀t∈tl i,∃e∈o.after,Region.binds .any e=true∧∃oj,l[e.on]?=some oj∧oj.dst=some t:=fun i o ho t ht=>by
  have:=C i o ho;unfold QL at this;simp only[Bool.and_eq_true] at this;replace this:=this.2;have h2:=(List.all_eq_true.1 this.1.2) t ht;obtain⟨e,he,hb⟩:=Array.any_eq_true'.1 h2;simp only[Bool.and_eq_true] at hb;refine⟨e,he,hb.1,?_⟩
  cases hj:l[e.on]? with
  |none=>rw[hj] at hb;simp at hb
  |some oj=>rw[hj] at hb;exact⟨oj,rfl,by simpa using hb.2⟩
 have AC:∀(i:Nat) (o:Oper),l[i]?=some o→∀e∈o.after,Region.binds .any e=true→e.on<i:=fun i o ho e he hb=>by
  unfold kb at pC;rw[List.all_eq_true] at pC;have h1:=pC (o,i) (List.mem_zipIdx_iff_getElem?.2 (by simpa using ho));have h2:=Array.all_eq_true_iff_forall_mem.1 h1 e he;simpa[hb] using h2
 have SRC1:∀(i:Nat) (o:Oper) (d:Nat),l[i]?=some o→o.dst=some d→mem.contains i=false→∀c∈fx.src d,mem.contains c=true∧∃e∈o.after,Region.binds .any e=true∧(e.on=c∨(mem.contains e.on=false∧∃oj t,l[e.on]?=some oj∧oj.dst=some t∧c∈fx.src t)):=fun i o d ho hd hni c hc=>by
  have:=C i o ho;unfold QL at this;simp only[Bool.and_eq_true] at this;replace this:=this.2;have h2:=this.2;rw[hni,Bool.false_or,hd] at h2;have h3:=(List.all_eq_true.1 h2) c hc;simp only[Bool.and_eq_true] at h3;refine⟨h3.1,?_⟩;obtain⟨e,he,hb⟩:=Array.any_eq_true'.1 h3.2;simp only[Bool.and_eq_true,Bool.or_eq_true,beq_iff_eq,Bool.not_eq_true'] at hb;refine⟨e,he,hb.1,?_⟩;rcases hb.2 with h|⟨h,h'⟩
  ·exact .inl h
  refine .inr ⟨h,?_⟩
  cases hj:l[e.on]? with
  |none=>rw[hj] at h';cases h'
  |some oj=>
   rw[hj] at h';simp only at h'
   cases ht:oj.dst with
   |none=>rw[ht] at h';cases h'
   |some t=>rw[ht] at h';exact⟨oj,t,rfl,ht,by simpa using h'⟩
 have SRC:∀D:Nat→Bool,(∀(i:Nat) (o:Oper),l[i]?=some o→D i=true→∀e∈o.after,Region.binds .any e=true→D e.on=true)→∀(i:Nat) (o:Oper) (d:Nat),l[i]?=some o→o.dst=some d→mem.contains i=false→D i=true→∀c∈fx.src d,mem.contains c=true∧D c=true:=by
  intro D hcl i
  induction i using Nat.strongRecOn with
  |_ i ih=>
   intro o d ho hd hni yP c hc;obtain⟨h1,e,he,hb,h2⟩:=SRC1 i o d ho hd hni c hc;have hDe:=hcl i o ho yP e he hb;refine⟨h1,?_⟩;rcases h2 with h2|⟨h2,oj,t,hj,hjt,hct⟩
   ·rw[←h2];exact hDe
   exact(ih e.on (AC i o ho e he hb) oj t hj hjt h2 hDe c hct).2
 refine kK hm pC (fun D a w=>∃us v,a=xg a0 ds v∧Wd us w∧(∀c:Nat,mem.contains c=true→(D c=true↔c∈us.map Prod.fst))∧
   (∀(i:Nat) (o:Oper) (d:Nat),l[i]?=some o→o.dst=some d→D i=true→v d=qp pos fx us d)∧(∀(i:Nat) (o:Oper),l[i]?=some o→D i=true→∀e∈o.after,Region.binds .any e=true→D e.on=true)∧∀t:Nat,(∀(j:Nat) (oj:Oper),l[j]?=some oj→oj.dst=some t→D j=false)→v t=a0.eval (.tmp t)) ?_ ?_ ?_
 ·exact⟨[],_,(QB a0 ds).symm,h0,fun c _=>by simp,fun _ _ _ _ _ h=>(by cases h),fun _ _ _ h=>(by cases h),fun _ _=>rfl⟩
 ·have key:∀(i:Nat) (o:Oper),l[i]?=some o→Bc P l.toArray Q a0 ds mem pos fx lim gS tl old Wd i o→xJ P l.toArray Q (fun D a w=>∃us v,a=xg a0 ds v∧Wd us w∧(∀c:Nat,mem.contains c=true→(D c=true↔c∈us.map Prod.fst))∧
    (∀(i:Nat) (o:Oper) (d:Nat),l[i]?=some o→o.dst=some d→D i=true→v d=qp pos fx us d)∧(∀(i:Nat) (o:Oper),l[i]?=some o→D i=true→∀e∈o.after,Region.binds .any e=true→D e.on=true)∧∀t:Nat,(∀(j:Nat) (oj:Oper),l[j]?=some oj→oj.dst=some t→D j=false)→v t=a0.eval (.tmp t)) i o:=by
   intro i o ho hok D a w ⟨us,v,ha,hW,hst,hval,hcl,hold⟩ yP hdep K hK
   have rU:∀(j:Nat) (oj:Oper),l[j]?=some oj→upd D i j=true→∀e∈oj.after,Region.binds .any e=true→upd D i e.on=true:=by
    intro j oj hj mA e he hb;by_cases mW:j=i
    ·subst mW;rw[ho] at hj;injection hj with hj;subst hj
     by_cases h:e.on=j
     ·rw[h];exact zM _ _
     rw[qD _ h];exact hdep e he hb
    rw[qD _ mW] at mA;have:=hcl j oj hj mA e he hb;by_cases h:e.on=i
    ·rw[h];exact zM _ _
    rw[qD _ h];exact this
   have hin:∀t∈tl i,a.eval (.tmp t)=qp pos fx us t:=by
    intro t ht;obtain⟨e,he,hb,oj,hj,gP⟩:=TL i o ho t ht;have hd:=DD _ _ _ hj gP;rw[ha,jN _ _ _ _ hd.1 hd.2.1];exact hval _ _ _ hj gP (hdep e he hb)
   have hout:∀t,(ds.contains t&&!(old i).contains t)=false→a.eval (.tmp t)=a0.eval (.tmp t):=fun t ht=>by
    rw[ha]
    cases hdt:ds.contains t with
    |false=>exact kL _ _ _ _ hdt
    |true=>
     rw[hdt,Bool.true_and] at ht;have hto:t∈old i:=(by simpa using ht);obtain⟨ow,hom,uC⟩:=List.any_eq_true.1 ((List.all_eq_true.1 hc4) t (by simpa using hdt));obtain⟨jw,hjw⟩:=List.mem_iff_getElem?.1 hom;rw[jN _ _ _ _ hdt (DD _ _ _ hjw (by simpa using uC)).2.1];refine hold t (fun j oj hj gP=>?_);obtain⟨e,he,hb,hon⟩:=OLD i o ho t hto j oj hj gP
     cases mA:D j with
     |false=>rfl
     |true=>have:=hcl j oj hj mA e he hb;rw[hon,yP] at this;cases this
   have yQ:∀(d:Nat) (x:Value),o.dst=some d→∀t:Nat,(∀(j:Nat) (oj:Oper),l[j]?=some oj→oj.dst=some t→upd D i j=false)→(if t=d then x else v t)=a0.eval (.tmp t):=fun d x hd t ht=>by
    by_cases htd:t=d
    ·subst htd;have:=ht i o ho hd;rw[zM] at this;cases this
    rw[if_neg htd];refine hold t (fun j oj hj gP=>?_);have h2:=ht j oj hj gP;by_cases mW:j=i
    ·subst mW;rw[zM] at h2;cases h2
    rwa [qD _ mW] at h2
   have hold0:∀t:Nat,(∀(j:Nat) (oj:Oper),l[j]?=some oj→oj.dst=some t→upd D i j=false)→v t=a0.eval (.tmp t):=fun t ht=>by
    refine hold t (fun j oj hj gP=>?_);have h2:=ht j oj hj gP;by_cases mW:j=i
    ·subst mW;rw[zM] at h2;cases h2
    rwa [qD _ mW] at h2
   have hlim:∀c∈lim i,c∉us.map Prod.fst:=by
    intro c hc hmem;obtain⟨pX,oc,hl,e,he,hb,hon⟩:=LIM i o ho c hc;have h1:=(hst c pX).2 hmem;have h2:=hcl c oc hl h1 e he hb;rw[hon,yP] at h2;cases h2
   unfold Bc at hok
   cases p7:mem.contains i with
   |false=>
    rw[p7] at hok;simp only at hok
    have hsrc:∀c∈fx.src (o.dst.getD 0),c∈us.map Prod.fst:=by
     intro c hc
     cases hd:o.dst with
     |none=>have:=DN i o ho hd;rw[p7] at this;cases this
     |some d=>
      rw[hd] at hc;obtain⟨h1,e,he,hb,h2⟩:=SRC1 i o d ho hd p7 c hc;have hDe:=hdep e he hb;refine(hst c h1).1 ?_;rcases h2 with h2|⟨h2,oj,t,hj,hjt,hct⟩
      ·rw[←h2];exact hDe
      exact(SRC D hcl e.on oj t hj hjt h2 hDe c hct).2
    have hstep:K (a.put o.dst (fx.at_ us (o.dst.getD 0))) w:=by
     cases hd:o.dst with
     |none=>have:=DN i o ho hd;rw[p7] at this;cases this
     |some d=>
      obtain⟨d1,d2,d3,d4⟩:=DD i o d ho hd;rw[p7] at d3;refine hK _ _ ⟨us,fun t=>if t=d then fx.at_ us d else v t,by rw[ha];exact jB _ _ _ _ _ d1,hW,fun c hc=>?_,fun j oj d' hj gP mA=>?_,rU,yQ d _ hd⟩
      ·have:c≠i:=fun h=>by subst h;rw[p7] at hc;cases hc
       rw[qD _ this];exact hst c hc
      by_cases hdd:d'=d
      ·subst hdd;simp only[if_true];unfold qp;rw[d3];rfl
      have mW:j≠i:=fun h=>by subst h;rw[ho] at hj;injection hj with hj;subst hj;rw[hd] at gP;injection gP with gP;exact hdd gP.symm
      simp only[if_neg hdd];rw[qD _ mW] at mA;exact hval j oj d' hj gP mA
    rcases hok a.eval us w hout hin (fun _=>rfl) hlim hsrc hW with ⟨hgd,hrun⟩|⟨hgn,hun⟩
    ·rw[if_pos hgd.wanted];simp only[Oper.wp,hrun,Oper.upon];exact hstep
    rw[if_neg (by rw[hgn.unwanted];decide),←hun];exact hstep
   |true=>
    rw[p7] at hok;simp only at hok;have hni:i∉us.map Prod.fst:=fun h=>by have:=(hst i p7).2 h;rw[yP] at this;cases this
    have gb:∀c∈gS i,c∈us.map Prod.fst:=by
     intro c hc;obtain⟨pX,e,he,hb,hon⟩:=REQ i o ho c hc;have:=hdep e he hb;rw[hon] at this;exact(hst c pX).1 this
    refine hok a us w hout hin hni hlim gb hW K (fun x w' hW'=>hK _ _ ?_)
    have uY:∀c:Nat,mem.contains c=true→(upd D i c=true↔c∈(us++[(i,x)]).map Prod.fst):=fun c hc=>by
     rw[List.map_append,List.mem_append];by_cases hci:c=i
     ·subst hci;rw[zM];simp
     rw[qD _ hci,hst c hc];simp[hci]
    have pZ:∀(j:Nat) (oj:Oper) (d':Nat),l[j]?=some oj→oj.dst=some d'→D j=true→qp pos fx (us++[(i,x)]) d'=qp pos fx us d':=by
     intro j oj d' hj gP mA;obtain⟨_,_,e3,_⟩:=DD j oj d' hj gP;unfold qp;rw[e3]
     cases hkj:mem.contains j with
     |false=>
      refine Fx.Dy fx (fun c hc=>?_);obtain⟨h1,h2⟩:=SRC D hcl j oj d' hj gP hkj mA c hc;exact xS ((hst c h1).1 h2)
     |true=>
      have:=(hst j hkj).1 mA;simp only[if_true];rw[xS this]
    cases hd:o.dst with
    |none=>
     refine⟨us++[(i,x)],v,ha,hW',uY,fun j oj d' hj gP mA=>?_,rU,hold0⟩;have mW:j≠i:=fun h=>by subst h;rw[ho] at hj;injection hj with hj;subst hj;rw[hd] at gP;cases gP
     rw[qD _ mW] at mA;rw[pZ j oj d' hj gP mA];exact hval j oj d' hj gP mA
    |some d=>
     obtain⟨d1,d2,d3,d4⟩:=DD i o d ho hd;rw[p7] at d3;refine⟨us++[(i,x)],fun t=>if t=d then x else v t,by rw[ha];exact jB _ _ _ _ _ d1,hW',uY,fun j oj d' hj gP mA=>?_,rU,yQ d _ hd⟩;by_cases hdd:d'=d
     ·subst hdd;simp only[if_true];unfold qp;rw[d3];simp only[if_true];rw[zN hni];rfl
     have mW:j≠i:=fun h=>by subst h;rw[ho] at hj;injection hj with hj;subst hj;rw[hd] at gP;injection gP with gP;exact hdd gP.symm
     simp only[if_neg hdd];rw[qD _ mW] at mA;rw[pZ j oj d' hj gP mA];exact hval j oj d' hj gP mA
  have all:∀(I:(Nat→Bool)→Act→World→Prop) (key:∀(i:Nat) (o:Oper),l[i]?=some o→Bc P l.toArray Q a0 ds mem pos fx lim gS tl old Wd i o→xJ P l.toArray Q I i o) (m:List Oper) (j:Nat),(∀(i:Nat) (o:Oper),m[i]?=some o→l[j+i]?=some o)→D7 P l.toArray Q a0 ds mem pos fx lim gS tl old Wd j m→C9 P l.toArray Q I j m:=by
   intro I key m
   induction m with
   |nil=>intro j _ _;trivial
   |cons o m ih=>
    intro j hm' hok;refine⟨key j o (by simpa using hm' 0 o rfl) hok.1,ih (j+1) (fun i o' h=>?_) hok.2⟩;have:=hm' (i+1) o' (by simpa using h);rw[show j+1+i=j+(i+1) by omega];exact this
  exact all _ key l 0 (fun i o h=>by simpa using h) hops
 intro D a w ⟨us,v,ha,hW,hst,hval,_,_⟩ hall
 have hfull:∀c∈mem,c∈us.map Prod.fst:=fun c hc=>by
  have hlt:c<l.length:=by simpa using(List.all_eq_true.1 hc2) _ hc
  exact(hst c (by simpa using hc)).1 (hall _ hlt)
 have:a=xg a0 ds (qp pos fx us):=by
  rw[ha];refine kM _ _ _ _ (fun t ht=>?_);have h1:=(List.all_eq_true.1 hc4) t (by simpa using ht);obtain⟨o,hom,uC⟩:=List.any_eq_true.1 h1;obtain⟨j,hj⟩:=List.mem_iff_getElem?.1 hom;exact hval j o t hj (by simpa using uC) (hall j (List.getElem?_eq_some_iff.1 hj).1)
 rw[this];exact hend us w hfull hW
theorem Bc.rd {P:Program}{ops:Array Oper}{Q:Exit→Act→World→Prop}{a0:Act}{ds mem:List Nat}{pos:Nat→Option Nat}{fx:Fx}{lim gS tl old:Nat→List Nat}{Wd:List (Nat×Value)→World→Prop}{i:Nat}{o:Oper}
  (hi:mem.contains i=false) (hg:o.guard=none)
  (h:∀(ρ:Operand→Value) us w,(∀t,(ds.contains t&&!(old i).contains t)=false→ρ (.tmp t)=a0.eval (.tmp t))→(∀t∈tl i,ρ (.tmp t)=qp pos fx us t)→(∀v,ρ (.const v)=v)→(∀c∈lim i,c∉us.map Prod.fst)→(∀c∈fx.src (o.dst.getD 0),c∈us.map Prod.fst)→Wd us w→(execOp ρ o).run P w=.ok (.value (fx.at_ us (o.dst.getD 0))) w):
  Bc P ops Q a0 ds mem pos fx lim gS tl old Wd i o:=by
 unfold Bc;rw[hi];exact fun ρ us w h1 h2 h3 h4 h5 h6=>.inl ⟨.no hg,h ρ us w h1 h2 h3 h4 h5 h6⟩
theorem Bc.BN {P:Program}{ops:Array Oper}{Q:Exit→Act→World→Prop}{a0:Act}{ds mem:List Nat}{pos:Nat→Option Nat}{fx:Fx}{lim gS tl old:Nat→List Nat}{Wd:List (Nat×Value)→World→Prop}{i:Nat}{o:Oper}
  (hi:mem.contains i=false) (j t:Nat) (b:Bool) (hg:o.guard=some (j,b)) (hd:(ops[j]?).bind (·.dst)=some t) (ht:t∈tl i) (hv:∀us w,Wd us w→qp pos fx us t=.bool b)
  (h:∀(ρ:Operand→Value) us w,(∀t,(ds.contains t&&!(old i).contains t)=false→ρ (.tmp t)=a0.eval (.tmp t))→(∀t∈tl i,ρ (.tmp t)=qp pos fx us t)→(∀v,ρ (.const v)=v)→(∀c∈lim i,c∉us.map Prod.fst)→(∀c∈fx.src (o.dst.getD 0),c∈us.map Prod.fst)→Wd us w→(execOp ρ o).run P w=.ok (.value (fx.at_ us (o.dst.getD 0))) w):
  Bc P ops Q a0 ds mem pos fx lim gS tl old Wd i o:=by
 unfold Bc;rw[hi];exact fun ρ us w h1 h2 h3 h4 h5 h6=>.inl ⟨.at_ hg hd ((h2 t ht).trans (hv us w h6)),h ρ us w h1 h2 h3 h4 h5 h6⟩
theorem Bc.D8 {P:Program}{ops:Array Oper}{Q:Exit→Act→World→Prop}{a0:Act}{ds mem:List Nat}{pos:Nat→Option Nat}{fx:Fx}{lim gS tl old:Nat→List Nat}{Wd:List (Nat×Value)→World→Prop}{i:Nat}{o:Oper}
  (hi:mem.contains i=false) (j t:Nat) (b:Bool) (hg:o.guard=some (j,b)) (hd:(ops[j]?).bind (·.dst)=some t) (ht:t∈tl i) (hv:∀us w,Wd us w→qp pos fx us t=.bool (!b)) (hu:∀us,fx.at_ us (o.dst.getD 0)=undef):
  Bc P ops Q a0 ds mem pos fx lim gS tl old Wd i o:=by
 unfold Bc;rw[hi];exact fun ρ us w _ h2 _ _ _ h6=>.inr ⟨⟨j,t,b,hg,hd,by rw[(h2 t ht).trans (hv us w h6)];cases b<;>(intro e;cases e)⟩,hu us⟩
theorem Bc.Dl {P:Program}{ops:Array Oper}{Q:Exit→Act→World→Prop}{a0:Act}{ds mem:List Nat}{pos:Nat→Option Nat}{fx:Fx}{lim gS tl old:Nat→List Nat}{Wd:List (Nat×Value)→World→Prop}{i:Nat}{o:Oper}
  (hi:mem.contains i=false) (j t:Nat) (b:Bool) (hg:o.guard=some (j,b)) (hd:(ops[j]?).bind (·.dst)=some t) (ht:t∈tl i) (hv:∀us w,Wd us w→qp pos fx us t=undef) (hu:∀us,fx.at_ us (o.dst.getD 0)=undef):
  Bc P ops Q a0 ds mem pos fx lim gS tl old Wd i o:=by
 unfold Bc;rw[hi];exact fun ρ us w _ h2 _ _ _ h6=>.inr ⟨⟨j,t,b,hg,hd,by rw[(h2 t ht).trans (hv us w h6)];intro e;cases e⟩,hu us⟩
theorem Bc.wr {P:Program}{ops:Array Oper}{Q:Exit→Act→World→Prop}{a0:Act}{ds mem:List Nat}{pos:Nat→Option Nat}{fx:Fx}{lim gS tl old:Nat→List Nat}{Wd:List (Nat×Value)→World→Prop}{i:Nat}{o:Oper}
  (hi:mem.contains i=true)
  (h:∀(a:Act) us w,(∀t,(ds.contains t&&!(old i).contains t)=false→a.eval (.tmp t)=a0.eval (.tmp t))→(∀t∈tl i,a.eval (.tmp t)=qp pos fx us t)→i∉us.map Prod.fst→(∀c∈lim i,c∉us.map Prod.fst)→(∀c∈gS i,c∈us.map Prod.fst)→Wd us w→
   ∀K:Act→World→Prop,(∀x w',Wd (us++[(i,x)]) w'→K (a.put o.dst x) w')→if Region.wanted o (yielded ops a.tmps)=true then Oper.wp P o a w K Q else K (a.put o.dst undef) w):
  Bc P ops Q a0 ds mem pos fx lim gS tl old Wd i o:=by
 unfold Bc;rw[hi];exact h
theorem zB {P:Program}{id:Nat}{Q:Exit→Act→World→Prop}{a0:Act}{w:World}{l:List Oper}(hm:P.follows .mixedOrders=true) (pC:kb l=true) (n:Nat) (hn:a0.tmps.size=n)
  (ds mem:List Nat) (pos:List (Nat×Nat)) (fx:Fx) (lim gS tl:List (List Nat)) (Wd:List (Nat×Value)→World→Prop)
  (hchk:kE l n ds mem (fun t=>pos.lookup t) fx (fun i=>lim.getD i []) (fun i=>gS.getD i []) (fun i=>tl.getD i []) (fun _=>[])=true)
  (h0:Wd [] w.drew) (hops:D7 P l.toArray Q a0 ds mem (fun t=>pos.lookup t) fx (fun i=>lim.getD i []) (fun i=>gS.getD i []) (fun i=>tl.getD i []) (fun _=>[]) Wd 0 l)
  (hend:∀us w',(∀c∈mem,c∈us.map Prod.fst)→Wd us w'→Q .normal (qc a0 (ds.map fun d=>(d,qp (fun t=>pos.lookup t) fx us d))) w'):
  (Code.region id l.toArray true).wp P Q a0 w:=by
 subst hn;exact kc hm pC ds mem _ _ _ _ _ _ Wd hchk h0 hops (fun us w' h hW=>by rw[xW];exact hend us w' h hW)
end Go.Silo
