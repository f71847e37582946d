/- A region that draws its order, makes memory and calls in any order, and then stores twice. -/
import Derived.Test.YtipecejghioicaaGreatB4p
import Derived.Orders
import Derived.Test.YtipecejghioicaaGreatDatap
import Derived.Handy
import Derived.Tactics
import Derived.Below
namespace Go.Silo
open Go
def kp (t:Nat) (v:Value):Nat×List Nat×(List Value→Value):=(t,[],fun _=>v)
def jq (ds old:List Nat) (a0:Act) (pos:Nat→Option Nat) (fx:Fx) (us:List (Nat×Value)):Operand→Value
 |.const v=>v
 |.tmp t=>if ds.contains t&&!old.contains t then qx pos fx us t else a0.eval (.tmp t)
 |_=>undef
def JN (ds old tl:List Nat):Operand→Bool
 |.const _=>true
 |.tmp t=>!(ds.contains t&&!old.contains t)||tl.contains t
 |_=>false
def noSel:Op→Bool
 |.select _ _=>false
 |_=>true
def Zz (ops:Array Oper) (o:Oper):Option (Nat×Bool):=match o.guard with|none=>none|some g=>((ops[g.1]?).bind (·.dst)).map (fun t=>(t,g.2))
def Qz (ops:Array Oper) (ds mem old tl:List Nat) (i:Nat) (o:Oper):Bool:=
 !mem.contains i&&noSel o.op&&(o.op.operands.toList.all (JN ds old tl))&&(match o.guard with|none=>true|some _=>match Zz ops o with|none=>false|some p=>tl.contains p.1)
def ZA (ops:Array Oper) (pos:Nat→Option Nat) (fx:Fx) (us:List (Nat×Value)) (o:Oper):Value:=match Zz ops o with|none=>.bool true|some p=>qx pos fx us p.1
def kC (ops:Array Oper) (o:Oper):Bool:=match Zz ops o with|none=>true|some p=>p.2
theorem Bh.read {P:Program}{ops:Array Oper}{Q:Exit→Act→World→Prop}{a0:Act}{ds mem:List Nat}{pos:Nat→Option Nat}{fx:Fx}{lim mP tl old:Nat→List Nat}{Wd:List (Nat×Value)→World→Prop}{i:Nat}{o:Oper}
  (hc:Qz ops ds mem (old i) (tl i) i o=true)
  (h:∀(us:List (Nat×Value)) w,(∀c∈lim i,c∉us.map Prod.fst)→(∀c∈fx.src (o.dst.getD 0),c∈us.map Prod.fst)→Wd us w→ZA ops pos fx us o=.bool (kC ops o)∧(execOp (jq ds (old i) a0 pos fx us) o).run P w=.ok (.value (fx.at_ us (o.dst.getD 0))) w):
  Bh P ops Q a0 ds mem pos fx lim mP tl old Wd i o:=by
 unfold Qz at hc;simp only[Bool.and_eq_true] at hc;obtain⟨⟨⟨c1,c2⟩,c3⟩,c4⟩:=hc;unfold Bh;have c1':mem.contains i=false:=by simpa using c1
 rw[c1'];intro ρ us w h1 h2 h3 h4 h5 h6;obtain⟨g,e⟩:=h us w h4 h5 h6
 have hr:execOp ρ o=execOp (jq ds (old i) a0 pos fx us) o:=by
  refine Go.execOp_congr o (fun cs b hs=>by rw[hs] at c2;cases c2) (fun x hx=>?_);have hk:=List.all_eq_true.1 c3 x (by simpa using hx)
  cases x with
  |const v=>exact h3 v
  |tmp t=>
   show _=(if ds.contains t&&!(old i).contains t then qx pos fx us t else a0.eval (.tmp t))
   cases hd:(ds.contains t&&!(old i).contains t) with
   |false=>exact h1 t hd
   |true=>
    have hk':(!(ds.contains t&&!(old i).contains t)||(tl i).contains t)=true:=hk;rw[hd] at hk';exact h2 t (by simpa using hk')
  |global g=>cases hk
  |func f=>cases hk
 refine .inl ⟨?_,by rw[hr];exact e⟩
 cases hg:o.guard with
 |none=>exact .no hg
 |some gg=>
  rw[hg] at c4;dsimp only at c4
  cases hs:Zz ops o with
  |none=>rw[hs] at c4;cases c4
  |some p=>
   rw[hs] at c4;unfold ZA kC at g;rw[hs] at g;dsimp only at g c4;unfold Zz at hs;rw[hg] at hs;dsimp only at hs
   cases hd:(ops[gg.1]?).bind (·.dst) with
   |none=>rw[hd] at hs;cases hs
   |some t=>
    rw[hd] at hs;obtain rfl:(t,gg.2)=p:=by simpa using hs
    exact .at_ hg hd ((h2 t (by simpa using c4)).trans g)
theorem Bh.a {P:Program}{ops:Array Oper}{Q:Exit→Act→World→Prop}{a0:Act}{ds mem:List Nat}{pos:Nat→Option Nat}{fx:Fx}{lim mP tl old:Nat→List Nat}{Wd:List (Nat×Value)→World→Prop}{i:Nat}{o:Oper}
  (hc:Qz ops ds mem (old i) (tl i) i o=true:=by rfl)
  (h:∀(us:List (Nat×Value)) w,ZA ops pos fx us o=.bool (kC ops o)∧(execOp (jq ds (old i) a0 pos fx us) o).run P w=.ok (.value (fx.at_ us (o.dst.getD 0))) w:=by exact fun _ _=>⟨rfl,rfl⟩):
  Bh P ops Q a0 ds mem pos fx lim mP tl old Wd i o:=Bh.read hc (fun us w _ _ _=>h us w)
theorem Bh.b {P:Program}{ops:Array Oper}{Q:Exit→Act→World→Prop}{a0:Act}{ds mem:List Nat}{pos:Nat→Option Nat}{fx:Fx}{lim mP tl old:Nat→List Nat}{Wd:List (Nat×Value)→World→Prop}{i:Nat}{o:Oper}
  {j t:Nat}{g:Bool}(hg:o.guard=some (j,g):=by rfl) (hd:(ops[j]?).bind (·.dst)=some t:=by rfl) (hi:(!mem.contains i&&(tl i).contains t)=true:=by rfl)
  (h:∀us,qx pos fx us t=.bool (!g)∧fx.at_ us (o.dst.getD 0)=undef:=by exact fun _=>⟨rfl,rfl⟩):
  Bh P ops Q a0 ds mem pos fx lim mP tl old Wd i o:=by
 simp only[Bool.and_eq_true] at hi;exact Bh.rdn (by simpa using hi.1) j t g hg hd (by simpa using hi.2) (fun us _ _=>(h us).1) (fun us=>(h us).2)
theorem Bh.c {P:Program}{ops:Array Oper}{Q:Exit→Act→World→Prop}{a0:Act}{ds mem:List Nat}{pos:Nat→Option Nat}{fx:Fx}{lim mP tl old:Nat→List Nat}{Wd:List (Nat×Value)→World→Prop}{i:Nat}{o:Oper}
  {j t:Nat}{g:Bool}(hg:o.guard=some (j,g):=by rfl) (hd:(ops[j]?).bind (·.dst)=some t:=by rfl) (hi:(!mem.contains i&&(tl i).contains t)=true:=by rfl)
  (h:∀us,qx pos fx us t=undef∧fx.at_ us (o.dst.getD 0)=undef:=by exact fun _=>⟨rfl,rfl⟩):
  Bh P ops Q a0 ds mem pos fx lim mP tl old Wd i o:=by
 simp only[Bool.and_eq_true] at hi;exact Bh.rdu (by simpa using hi.1) j t g hg hd (by simpa using hi.2) (fun us _ _=>(h us).1) (fun us=>(h us).2)
def Qa (o:Oper):List Nat:=o.op.operands.toList.filterMap fun|.tmp t=>some t|_=>none
def one (v:Value):Operand→Value|.const c=>c|_=>v
theorem Xf {o:Oper}{t:Nat}(h:Operand.tmp t∈o.op.operands):t∈Qa o:=List.mem_filterMap.2 ⟨.tmp t,by simpa using h,rfl⟩
theorem Qb {ops:Array Oper}{ds mem old tl:List Nat}{i:Nat}{o:Oper}(hc:Qz ops ds mem old tl i o=true):(∀cs b,o.op≠.select cs b)∧∀x∈o.op.operands,JN ds old tl x=true:=by
 unfold Qz at hc;simp only[Bool.and_eq_true] at hc;exact⟨fun cs b hs=>by {have h:=hc.1.1.2;rw[hs] at h;cases h},fun x hx=>List.all_eq_true.1 hc.1.2 x (by simpa using hx)⟩
theorem Bh.q {P:Program}{ops:Array Oper}{Q:Exit→Act→World→Prop}{a0:Act}{ds mem:List Nat}{pos:Nat→Option Nat}{fx:Fx}{lim mP tl old:Nat→List Nat}{Wd:List (Nat×Value)→World→Prop}{i:Nat}{o:Oper}{t:Nat}{v:Value}
  (hs:a0.eval (.tmp t)=v) (ht:(Qa o).all (·==t)=true:=by rfl) (hds:(ds.contains t&&!(old i).contains t)=false:=by rfl)
  (hc:Qz ops ds mem (old i) (tl i) i o=true:=by rfl)
  (h:∀(us:List (Nat×Value)) w,ZA ops pos fx us o=.bool (kC ops o)∧(execOp (one v) o).run P w=.ok (.value (fx.at_ us (o.dst.getD 0))) w:=by exact fun _ _=>⟨rfl,rfl⟩):
  Bh P ops Q a0 ds mem pos fx lim mP tl old Wd i o:=Bh.read hc (fun us w _ _ _=>⟨(h us w).1,by
   rw[show execOp (jq ds (old i) a0 pos fx us) o=execOp (one v) o from Go.execOp_congr o (Qb hc).1 (fun x hx=>by
    have hk:=(Qb hc).2 x hx
    cases x with
    |const c=>rfl
    |tmp t'=>
     have e:=List.all_eq_true.1 ht t' (Xf hx);obtain rfl:t'=t:=by simpa using e
     show(if ds.contains t'&&!(old i).contains t' then qx pos fx us t' else a0.eval (.tmp t'))=v;rw[hds];exact hs
    |global g=>cases hk
    |func f=>cases hk)]
   exact(h us w).2⟩)
theorem Bh.r1 {P:Program}{ops:Array Oper}{Q:Exit→Act→World→Prop}{a0:Act}{ds mem:List Nat}{pos:Nat→Option Nat}{fx:Fx}{lim mP tl old:Nat→List Nat}{Wd:List (Nat×Value)→World→Prop}{i:Nat}{o:Oper}{t:Nat}(v:Value)
  (h:∀(ρ:Operand→Value) (us:List (Nat×Value)) w,ρ (.tmp t)=v→(∀v,ρ (.const v)=v)→(∀c∈lim i,c∉us.map Prod.fst)→(∀c∈fx.src (o.dst.getD 0),c∈us.map Prod.fst)→Wd us w→(execOp ρ o).run P w=.ok (.value (fx.at_ us (o.dst.getD 0))) w)
  (_ht:Qa o=[t]:=by rfl) (hc:Qz ops ds mem (old i) (tl i) i o=true:=by rfl)
  (hv:∀us,ZA ops pos fx us o=.bool (kC ops o)∧jq ds (old i) a0 pos fx us (.tmp t)=v:=by exact fun _=>⟨rfl,rfl⟩):
  Bh P ops Q a0 ds mem pos fx lim mP tl old Wd i o:=Bh.read hc (fun us w h1 h2 h3=>⟨(hv us).1,h _ us w (hv us).2 (fun _=>rfl) h1 h2 h3⟩)
theorem Bh.r2 {P:Program}{ops:Array Oper}{Q:Exit→Act→World→Prop}{a0:Act}{ds mem:List Nat}{pos:Nat→Option Nat}{fx:Fx}{lim mP tl old:Nat→List Nat}{Wd:List (Nat×Value)→World→Prop}{i:Nat}{o:Oper}{t t':Nat}(v v':Value)
  (h:∀(ρ:Operand→Value) (us:List (Nat×Value)) w,ρ (.tmp t)=v→ρ (.tmp t')=v'→(∀v,ρ (.const v)=v)→(∀c∈lim i,c∉us.map Prod.fst)→(∀c∈fx.src (o.dst.getD 0),c∈us.map Prod.fst)→Wd us w→(execOp ρ o).run P w=.ok (.value (fx.at_ us (o.dst.getD 0))) w)
  (_ht:Qa o=[t,t']:=by rfl) (hc:Qz ops ds mem (old i) (tl i) i o=true:=by rfl)
  (hv:∀us,ZA ops pos fx us o=.bool (kC ops o)∧jq ds (old i) a0 pos fx us (.tmp t)=v∧jq ds (old i) a0 pos fx us (.tmp t')=v':=by exact fun _=>⟨rfl,rfl,rfl⟩):
  Bh P ops Q a0 ds mem pos fx lim mP tl old Wd i o:=Bh.read hc (fun us w h1 h2 h3=>⟨(hv us).1,h _ us w (hv us).2.1 (hv us).2.2 (fun _=>rfl) h1 h2 h3⟩)
theorem Bh.l {P:Program}{ops:Array Oper}{Q:Exit→Act→World→Prop}{a0:Act}{ds mem:List Nat}{pos:Nat→Option Nat}{fx:Fx}{lim mP tl old:Nat→List Nat}{Wd:List (Nat×Value)→World→Prop}{i:Nat}{o:Oper}{ty:TypeId}{x:Operand}{a:Addr}{y:Option Value}
  (h:∀(us:List (Nat×Value)) w,Wd us w→(∀c∈lim i,c∉us.map Prod.fst)→w.cell? a=y) (hop:o.op=.load ty x:=by rfl)
  (hp:∀us,ZA ops pos fx us o=.bool (kC ops o)∧jq ds (old i) a0 pos fx us x=.pointer (some a):=by exact fun _=>⟨rfl,rfl⟩)
  (hy:∀us,y=some (fx.at_ us (o.dst.getD 0)):=by exact fun _=>rfl) (hag:∀w,(isAgg ty).run P w=.ok false w:=by exact fun _=>rfl)
  (hc:Qz ops ds mem (old i) (tl i) i o=true:=by rfl):
  Bh P ops Q a0 ds mem pos fx lim mP tl old Wd i o:=Bh.read hc (fun us w h1 _ h3=>⟨(hp us).1,by
   have e:execOp (jq ds (old i) a0 pos fx us) o=(do pure (.value (←Instr.loadAt ty (.pointer (some a))))):=by
    rw[←(hp us).2];unfold execOp;rw[hop]
   rw[e];have hc:=(h us w h3 h1).trans (hy us)
   simp[Instr.loadAt,Instr.sureAddr,loadVar,hag,hc]⟩)
end Go.Silo
namespace Go.Silo
open Go
def pt (g k:Nat):Value:=.pointer (some ⟨g,k,none⟩)
abbrev kt (t:Nat):=kp t (.bool true)
abbrev kf (t:Nat):=kp t (.bool false)
abbrev ki (t:Nat) (i:Int):=kp t (.int .i64 i)
abbrev kq (t g k:Nat):=kp t (.pointer (some ⟨g,k,none⟩))
theorem Bh.n {P:Program}{ops:Array Oper}{Q:Exit→Act→World→Prop}{a0:Act}{ds mem:List Nat}{pos:Nat→Option Nat}{fx:Fx}{lim mP tl old:Nat→List Nat}{Wd:List (Nat×Value)→World→Prop}{i:Nat}{o:Oper}{x:Operand}{ts:Array TypeId}{ty:TypeId}(v:Value)
  (hop:o.op=.call {callee:=.builtin .len,args:=#[x],argTypes:=ts}:=by rfl) (hty:o.type=ty:=by rfl)
  (hp:∀us,ZA ops pos fx us o=.bool (kC ops o)∧jq ds (old i) a0 pos fx us x=v:=by exact fun _=>⟨rfl,rfl⟩)
  (hl:∀us w,(Builtin.len_ ts ty #[v]).run P w=.ok (fx.at_ us (o.dst.getD 0)) w:=by intro _ _;go_simp;try rfl)
  (hc:Qz ops ds mem (old i) (tl i) i o=true:=by rfl):
  Bh P ops Q a0 ds mem pos fx lim mP tl old Wd i o:=Bh.read hc (fun us w _ _ _=>⟨(hp us).1,by
   obtain⟨d,op,ty',ps,af,g⟩:=o;simp only at hop hty;subst hop;subst hty;have e:=(hp us).2;have e2:=hl us w;generalize jq ds (old i) a0 pos fx us=ρ at *;simp only[execOp]
   go_simp⟩)
def EO (l:List Oper) (mem:List Nat) (t:Nat):Option Nat:=mem.find? fun i=>(l[i]?).bind (·.dst)==some t
def tlF (l:List Oper) (ds:List Nat) (i:Nat):List Nat:=match l[i]? with
 |none=>[]
 |some o=>(Qa o++(match o.guard with|none=>[]|some g=>match (l[g.1]?).bind (·.dst) with|none=>[]|some t=>[t])).filter ds.contains
theorem rF {P:Program}{id:Nat}{Q:Exit→Act→World→Prop}{a0:Act}{w:World}{l:List Oper}(n:Nat) (hn:a0.tmps.size=n)
  (ds mem:List Nat) (fx:Fx) (lim mP:List (List Nat)) (Wd:List (Nat×Value)→World→Prop) (h0:Wd [] w.drew)
  (hops:CX P l.toArray Q a0 ds mem (EO l mem) fx (fun i=>lim.getD i []) (fun i=>mP.getD i []) (tlF l ds) (fun _=>[]) Wd 0 l)
  (hend:∀us w',(∀c∈mem,c∈us.map Prod.fst)→Wd us w'→Q .normal (qa a0 (ds.map fun d=>(d,qx (EO l mem) fx us d))) w')
  (hm:P.follows .mixedOrders=true:=by kernel_rfl) (vB:kZ l=true:=by kernel_rfl)
  (hchk:jX l n ds mem (EO l mem) fx (fun i=>lim.getD i []) (fun i=>mP.getD i []) (tlF l ds) (fun _=>[])=true:=by kernel_rfl):
  (Code.region id l.toArray true).wp P Q a0 w:=by
 subst hn;exact jp hm vB ds mem _ _ _ _ _ _ Wd hchk h0 hops (fun us w' h hW=>by rw[jo];exact hend us w' h hW)
end Go.Silo
namespace Go.Silo
open Go Go.RowKit
theorem qb {us:List (Nat×Value)}{c:Nat}(hm:c∈us.map Prod.fst):∃v,us.lookup c=some v∧(c,v)∈us:=by
 induction us with
 |nil=>simp at hm
 |cons p us ih=>
  obtain⟨a,b⟩:=p;rw[List.lookup_cons];by_cases hc:c=a
  ·subst hc;simp only[beq_self_eq_true];exact⟨b,rfl,List.mem_cons_self ..⟩
  have hne:(c==a)=false:=by simpa using hc
  rw[hne];obtain⟨v,h1,h2⟩:=ih (by simpa[hc] using hm);exact⟨v,h1,List.mem_cons_of_mem _ h2⟩
def BZ (V:World) (R:Nat→Value→World→Prop) (us:List (Nat×Value)) (W:World):Prop:=Below V.heap.size V W∧∀i v,(i,v)∈us→R i v W
section
variable {V W W':World}{R:Nat→Value→World→Prop}{us:List (Nat×Value)}
theorem BZ.init:BZ V R [] V.drew:=⟨(Below.refl _ _).drew,fun _ _ h=>by cases h⟩
theorem BZ.snoc (h:BZ V R us W) {i:Nat}{x:Value}(hb:Below W.heap.size W W') (hs:∀j v,R j v W→R j v W') (hx:R i x W'):BZ V R (us++[(i,x)]) W':=by
 refine⟨h.1.trans (hb.mono h.1.size),fun j v hj=>?_⟩;rcases List.mem_append.1 hj with hj|hj
 ·exact hs j v (h.2 j v hj)
 simp at hj;obtain⟨rfl,rfl⟩:=hj;exact hx
theorem BZ.at_ (h:BZ V R us W) {i:Nat}(hm:i∈us.map Prod.fst):R i ((us.lookup i).getD undef) W:=by
 obtain⟨v,h1,h2⟩:=qb hm;rw[h1];exact h.2 i v h2
end
end Go.Silo
namespace Go.Silo
open Go Go.RowKit
theorem xe {us:List (Nat×Value)}{i c:Nat}{x:Value}(h:c≠i):(us++[(i,x)]).lookup c=us.lookup c:=by
 induction us with
 |nil=>
  have hne:(c==i)=false:=by simpa using h
  simp[List.lookup_cons,hne]
 |cons p us ih=>
  obtain⟨a,b⟩:=p;rw[List.cons_append,List.lookup_cons,List.lookup_cons,ih]
def Ey:Value→Nat
 |.pointer (some a)=>a.block
 |_=>0
inductive CF (V:World) (m:Nat) (R:Nat→Value→World→Prop) (Pre:List (Nat×Value)→Prop) (s1 s2:Nat) (st1 st2:List (Nat×Value)→World→World):List (Nat×Value)→World→Prop
 |pre {us:List (Nat×Value)}{W:World}:Below V.heap.size V W→(∀i v,(i,v)∈us→R i v W)→s1∉us.map Prod.fst→s2∉us.map Prod.fst→CF V m R Pre s1 s2 st1 st2 us W
 |one {us:List (Nat×Value)}{W:World}{x:Value}:Below V.heap.size V W→(∀i v,(i,v)∈us→R i v W)→s1∉us.map Prod.fst→s2∉us.map Prod.fst→Pre us→Below m V (st1 us W)→CF V m R Pre s1 s2 st1 st2 (us++[(s1,x)]) (st1 us W)
 |two {us:List (Nat×Value)}{W:World}{x x':Value}:Below V.heap.size V W→(∀i v,(i,v)∈us→R i v W)→s1∉us.map Prod.fst→s2∉us.map Prod.fst→Pre us→Below m V (st2 us (st1 us W))→CF V m R Pre s1 s2 st1 st2 (us++[(s1,x)]++[(s2,x')]) (st2 us (st1 us W))
section
variable {V W W':World}{m:Nat}{R:Nat→Value→World→Prop}{Pre:List (Nat×Value)→Prop}{s1 s2:Nat}{st1 st2:List (Nat×Value)→World→World}{us:List (Nat×Value)}
theorem CF.init:CF V m R Pre s1 s2 st1 st2 [] V.drew:=.pre (Below.refl _ _).drew (fun _ _ h=>by cases h) (by simp) (by simp)
theorem CF.below (h:CF V m R Pre s1 s2 st1 st2 us W) (hm:m≤V.heap.size):Below m V W:=by
 cases h with
 |pre h _ _ _=>exact h.mono hm
 |one _ _ _ _ _ h=>exact h
 |two _ _ _ _ _ h=>exact h
theorem CF.early (h:CF V m R Pre s1 s2 st1 st2 us W) (hn:s1∉us.map Prod.fst):Below V.heap.size V W∧(∀i v,(i,v)∈us→R i v W)∧s2∉us.map Prod.fst:=by
 cases h with
 |pre hb h _ h2=>exact⟨hb,h,h2⟩
 |one _ _ _ _ _ _=>exact absurd (by simp) hn
 |two _ _ _ _ _ _=>exact absurd (by simp) hn
theorem CF.at_ (h:CF V m R Pre s1 s2 st1 st2 us W) (hn:s1∉us.map Prod.fst) {i:Nat}(hm:i∈us.map Prod.fst):R i ((us.lookup i).getD undef) W:=by
 obtain⟨v,h1,h2⟩:=qb hm;rw[h1];exact(h.early hn).2.1 i v h2
theorem CF.snoc (h:CF V m R Pre s1 s2 st1 st2 us W) {i:Nat}{x:Value}(h1:i≠s1) (h2:i≠s2) (hn:s1∉us.map Prod.fst) (hb:Below W.heap.size W W') (hs:∀j v,R j v W→R j v W') (hx:R i x W'):CF V m R Pre s1 s2 st1 st2 (us++[(i,x)]) W':=by
 obtain⟨hB,hR,rZ⟩:=h.early hn;refine .pre (hB.trans (hb.mono hB.size)) (fun j v hj=>?_) ?_ ?_
 ·rcases List.mem_append.1 hj with hj|hj
  ·exact hs j v (hR j v hj)
  simp at hj;obtain⟨rfl,rfl⟩:=hj;exact hx
 ·rw[List.map_append,List.mem_append];rintro(h|h)
  ·exact hn h
  simp at h;exact h1 h.symm
 rw[List.map_append,List.mem_append];rintro(h|h)
 ·exact rZ h
 simp at h;exact h2 h.symm
theorem CF.EP (h:CF V m R Pre s1 s2 st1 st2 us W) (hn:s1∉us.map Prod.fst) {x:Value}(hp:Pre us) (hb:Below m V (st1 us W)):CF V m R Pre s1 s2 st1 st2 (us++[(s1,x)]) (st1 us W):=
 .one (h.early hn).1 (h.early hn).2.1 hn (h.early hn).2.2 hp hb
theorem CF.mid (h:CF V m R Pre s1 s2 st1 st2 us W) (h1:s1∈us.map Prod.fst) (h2:s2∉us.map Prod.fst):
  ∃gX W0 x,us=gX++[(s1,x)]∧W=st1 gX W0∧Below V.heap.size V W0∧(∀i v,(i,v)∈gX→R i v W0)∧s1∉gX.map Prod.fst∧s2∉gX.map Prod.fst∧Pre gX∧Below m V (st1 gX W0):=by
 cases h with
 |pre _ _ h _=>exact absurd h1 h
 |@one gX W0 x a b c d e f=>exact⟨gX,W0,x,rfl,rfl,a,b,c,d,e,f⟩
 |two _ _ _ _ _ _=>exact absurd (by simp) h2
theorem CF.last (h:CF V m R Pre s1 s2 st1 st2 us W) (h2:s2∈us.map Prod.fst) (hne:s1≠s2):
  ∃gX W0 x x',us=gX++[(s1,x)]++[(s2,x')]∧W=st2 gX (st1 gX W0)∧Below V.heap.size V W0∧(∀i v,(i,v)∈gX→R i v W0)∧s1∉gX.map Prod.fst∧s2∉gX.map Prod.fst∧Pre gX∧Below m V (st2 gX (st1 gX W0)):=by
 cases h with
 |pre _ _ _ h=>exact absurd h2 h
 |one _ _ _ h _ _=>
  rw[List.map_append,List.mem_append] at h2;rcases h2 with h2|h2
  ·exact absurd h2 h
  simp at h2;exact absurd h2.symm hne
 |@two gX W0 x x' a b c d e f=>exact⟨gX,W0,x,x',rfl,rfl,a,b,c,d,e,f⟩
theorem qR {gX:List (Nat×Value)}{x:Value}{i:Nat}(h:i∈(gX++[(s1,x)]).map Prod.fst) (hi:i≠s1):i∈gX.map Prod.fst:=by
 rw[List.map_append,List.mem_append] at h;rcases h with h|h
 ·exact h
 simp at h;exact absurd h hi
theorem xz {gX:List (Nat×Value)}{x x':Value}{i:Nat}(h:i∈(gX++[(s1,x)]++[(s2,x')]).map Prod.fst) (hi:i≠s1) (hi2:i≠s2):i∈gX.map Prod.fst:=
 qR (qR h hi2) hi
theorem CF.ever (h:CF V m R Pre s1 s2 st1 st2 us W) {i:Nat}(hi:i∈us.map Prod.fst) (h1:i≠s1) (h2:i≠s2):∃v W0,us.lookup i=some v∧R i v W0:=by
 cases h with
 |pre _ hR _ _=>obtain⟨v,a,b⟩:=qb hi;exact⟨v,_,a,hR i v b⟩
 |@one gX W0 x _ hR _ _ _ _=>
  obtain⟨v,a,b⟩:=qb (qR hi h1);exact⟨v,_,by rw[xe h1];exact a,hR i v b⟩
 |@two gX W0 x x' _ hR _ _ _ _=>
  obtain⟨v,a,b⟩:=qb (xz hi h1 h2);exact⟨v,_,by rw[xe h2,xe h1];exact a,hR i v b⟩
theorem zB {gX:List (Nat×Value)}{x:Value}{i:Nat}(hi:i≠s1):(gX++[(s1,x)]).lookup i=gX.lookup i:=xe hi
end
def Bi (g:Nat):Nat→List Value→World→World
 |_,[],W=>W
 |k,v::vs,W=>Bi g (k+1) vs (W.setCell ⟨g,k,none⟩ v)
def XH:Value→List Value
 |.agg cs=>cs.toList
 |_=>[]
def qG (k:Nat):Value→Value
 |.tuple vs=>vs.getD k undef
 |_=>undef
theorem qL {g b:Nat}(h:b≠g):∀(vs:List Value) (k:Nat) (W:World),(Bi g k vs W).heap[b]?=W.heap[b]?
 |[],_,_=>rfl
 |_::vs,k,_=>(qL h vs (k+1) _).trans (Below.heap_setCell _ ⟨g,k,none⟩ _ _ h)
theorem za {g m:Nat}{V:World}(h:m≤g):∀(vs:List Value) (k:Nat) (W:World),Below m V W→Below m V (Bi g k vs W)
 |[],_,_,hb=>hb
 |_::vs,k,_,hb=>za h vs (k+1) _ (hb.setCell h _)
theorem jY {g:Nat}{a b c d u v z y:Value}{T:TypeId}{W:World}(h:W.heap[g]?=some (.cells #[u,v,z,y] T (0,0))):(Bi g 0 [a,b,c,d] W).heap[g]?=some (.cells #[a,b,c,d] T (0,0)):=by
 simp[Bi,World.setCell,Array.getElem?_modify,h]
end Go.Silo
