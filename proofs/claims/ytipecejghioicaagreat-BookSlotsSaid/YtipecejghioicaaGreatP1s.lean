/- A drawn region's operations that only reckon, in few words. -/
import Derived.Test.YtipecejghioicaaGreatB4s
import Derived.Orders
namespace Go.Silo
open Go
def kp (t:Nat) (v:Value):Nat×List Nat×(List Value→Value):=(t,[],fun _=>v)
def xX (ds old:List Nat) (a0:Act) (pos:Nat→Option Nat) (fx:Fx) (us:List (Nat×Value)):Operand→Value
 |.const v=>v
 |.tmp t=>if ds.contains t&&!old.contains t then qp pos fx us t else a0.eval (.tmp t)
 |_=>undef
def Jp (ds old tl:List Nat):Operand→Bool
 |.const _=>true
 |.tmp t=>!(ds.contains t&&!old.contains t)||tl.contains t
 |_=>false
def noSel:Op→Bool
 |.select _ _=>false
 |_=>true
def Zp (ops:Array Oper) (o:Oper):Option (Nat×Bool):=match o.guard with|none=>none|some g=>((ops[g.1]?).bind (·.dst)).map (fun t=>(t,g.2))
def Qm (ops:Array Oper) (ds mem old tl:List Nat) (i:Nat) (o:Oper):Bool:=
 !mem.contains i&&noSel o.op&&(o.op.operands.toList.all (Jp ds old tl))&&(match o.guard with|none=>true|some _=>match Zp ops o with|none=>false|some p=>tl.contains p.1)
def Zq (ops:Array Oper) (pos:Nat→Option Nat) (fx:Fx) (us:List (Nat×Value)) (o:Oper):Value:=match Zp ops o with|none=>.bool true|some p=>qp pos fx us p.1
def ke (ops:Array Oper) (o:Oper):Bool:=match Zp ops o with|none=>true|some p=>p.2
theorem Bc.read {P:Program}{ops:Array Oper}{Q:Exit→Act→World→Prop}{a0:Act}{ds mem:List Nat}{pos:Nat→Option Nat}{fx:Fx}{lim gS tl old:Nat→List Nat}{Wd:List (Nat×Value)→World→Prop}{i:Nat}{o:Oper}
  (hc:Qm ops ds mem (old i) (tl i) i o=true)
  (h:∀(us:List (Nat×Value)) w,(∀c∈lim i,c∉us.map Prod.fst)→(∀c∈fx.src (o.dst.getD 0),c∈us.map Prod.fst)→Wd us w→Zq ops pos fx us o=.bool (ke ops o)∧(execOp (xX ds (old i) a0 pos fx us) o).run P w=.ok (.value (fx.at_ us (o.dst.getD 0))) w):
  Bc P ops Q a0 ds mem pos fx lim gS tl old Wd i o:=by
 unfold Qm at hc;simp only[Bool.and_eq_true] at hc;obtain⟨⟨⟨c1,c2⟩,c3⟩,c4⟩:=hc;unfold Bc;have c1':mem.contains i=false:=by simpa using c1
 rw[c1'];intro ρ us w h1 h2 h3 h4 h5 h6;obtain⟨g,e⟩:=h us w h4 h5 h6
 have hr:execOp ρ o=execOp (xX ds (old i) a0 pos fx us) o:=by
  refine Go.execOp_congr o (fun cs b hs=>by rw[hs] at c2;cases c2) (fun x hx=>?_);have hk:=List.all_eq_true.1 c3 x (by simpa using hx)
  cases x with
  |const v=>exact h3 v
  |tmp t=>
   show _=(if ds.contains t&&!(old i).contains t then qp pos fx us t else a0.eval (.tmp t))
   cases hd:(ds.contains t&&!(old i).contains t) with
   |false=>exact h1 t hd
   |true=>
    have hk':(!(ds.contains t&&!(old i).contains t)||(tl i).contains t)=true:=hk;rw[hd] at hk';exact h2 t (by simpa using hk')
  |global g=>cases hk
  |func f=>cases hk
 refine .inl ⟨?_,by rw[hr];exact e⟩
 cases hg:o.guard with
 |none=>exact .no hg
 |some gg=>
  rw[hg] at c4;dsimp only at c4
  cases hs:Zp ops o with
  |none=>rw[hs] at c4;cases c4
  |some p=>
   rw[hs] at c4;unfold Zq ke at g;rw[hs] at g;dsimp only at g c4;unfold Zp at hs;rw[hg] at hs;dsimp only at hs
   cases hd:(ops[gg.1]?).bind (·.dst) with
   |none=>rw[hd] at hs;cases hs
   |some t=>
    rw[hd] at hs;obtain rfl:(t,gg.2)=p:=by simpa using hs
    exact .at_ hg hd ((h2 t (by simpa using c4)).trans g)
theorem Bc.a {P:Program}{ops:Array Oper}{Q:Exit→Act→World→Prop}{a0:Act}{ds mem:List Nat}{pos:Nat→Option Nat}{fx:Fx}{lim gS tl old:Nat→List Nat}{Wd:List (Nat×Value)→World→Prop}{i:Nat}{o:Oper}
  (hc:Qm ops ds mem (old i) (tl i) i o=true:=by rfl)
  (h:∀(us:List (Nat×Value)) w,Zq ops pos fx us o=.bool (ke ops o)∧(execOp (xX ds (old i) a0 pos fx us) o).run P w=.ok (.value (fx.at_ us (o.dst.getD 0))) w:=by exact fun _ _=>⟨rfl,rfl⟩):
  Bc P ops Q a0 ds mem pos fx lim gS tl old Wd i o:=Bc.read hc (fun us w _ _ _=>h us w)
theorem Bc.b {P:Program}{ops:Array Oper}{Q:Exit→Act→World→Prop}{a0:Act}{ds mem:List Nat}{pos:Nat→Option Nat}{fx:Fx}{lim gS tl old:Nat→List Nat}{Wd:List (Nat×Value)→World→Prop}{i:Nat}{o:Oper}
  {j t:Nat}{g:Bool}(hg:o.guard=some (j,g):=by rfl) (hd:(ops[j]?).bind (·.dst)=some t:=by rfl) (hi:(!mem.contains i&&(tl i).contains t)=true:=by rfl)
  (h:∀us,qp pos fx us t=.bool (!g)∧fx.at_ us (o.dst.getD 0)=undef:=by exact fun _=>⟨rfl,rfl⟩):
  Bc P ops Q a0 ds mem pos fx lim gS tl old Wd i o:=by
 simp only[Bool.and_eq_true] at hi;exact Bc.D8 (by simpa using hi.1) j t g hg hd (by simpa using hi.2) (fun us _ _=>(h us).1) (fun us=>(h us).2)
theorem Bc.c {P:Program}{ops:Array Oper}{Q:Exit→Act→World→Prop}{a0:Act}{ds mem:List Nat}{pos:Nat→Option Nat}{fx:Fx}{lim gS tl old:Nat→List Nat}{Wd:List (Nat×Value)→World→Prop}{i:Nat}{o:Oper}
  {j t:Nat}{g:Bool}(hg:o.guard=some (j,g):=by rfl) (hd:(ops[j]?).bind (·.dst)=some t:=by rfl) (hi:(!mem.contains i&&(tl i).contains t)=true:=by rfl)
  (h:∀us,qp pos fx us t=undef∧fx.at_ us (o.dst.getD 0)=undef:=by exact fun _=>⟨rfl,rfl⟩):
  Bc P ops Q a0 ds mem pos fx lim gS tl old Wd i o:=by
 simp only[Bool.and_eq_true] at hi;exact Bc.Dl (by simpa using hi.1) j t g hg hd (by simpa using hi.2) (fun us _ _=>(h us).1) (fun us=>(h us).2)
def kN (o:Oper):List Nat:=o.op.operands.toList.filterMap fun|.tmp t=>some t|_=>none
def one (v:Value):Operand→Value|.const c=>c|_=>v
theorem ZU {o:Oper}{t:Nat}(h:Operand.tmp t∈o.op.operands):t∈kN o:=List.mem_filterMap.2 ⟨.tmp t,by simpa using h,rfl⟩
theorem kO {ops:Array Oper}{ds mem old tl:List Nat}{i:Nat}{o:Oper}(hc:Qm ops ds mem old tl i o=true):(∀cs b,o.op≠.select cs b)∧∀x∈o.op.operands,Jp ds old tl x=true:=by
 unfold Qm at hc;simp only[Bool.and_eq_true] at hc;exact⟨fun cs b hs=>by {have h:=hc.1.1.2;rw[hs] at h;cases h},fun x hx=>List.all_eq_true.1 hc.1.2 x (by simpa using hx)⟩
theorem Bc.q {P:Program}{ops:Array Oper}{Q:Exit→Act→World→Prop}{a0:Act}{ds mem:List Nat}{pos:Nat→Option Nat}{fx:Fx}{lim gS tl old:Nat→List Nat}{Wd:List (Nat×Value)→World→Prop}{i:Nat}{o:Oper}{t:Nat}{v:Value}
  (hs:a0.eval (.tmp t)=v) (ht:(kN o).all (·==t)=true:=by rfl) (hds:(ds.contains t&&!(old i).contains t)=false:=by rfl)
  (hc:Qm ops ds mem (old i) (tl i) i o=true:=by rfl)
  (h:∀(us:List (Nat×Value)) w,Zq ops pos fx us o=.bool (ke ops o)∧(execOp (one v) o).run P w=.ok (.value (fx.at_ us (o.dst.getD 0))) w:=by exact fun _ _=>⟨rfl,rfl⟩):
  Bc P ops Q a0 ds mem pos fx lim gS tl old Wd i o:=Bc.read hc (fun us w _ _ _=>⟨(h us w).1,by
   rw[show execOp (xX ds (old i) a0 pos fx us) o=execOp (one v) o from Go.execOp_congr o (kO hc).1 (fun x hx=>by
    have hk:=(kO hc).2 x hx
    cases x with
    |const c=>rfl
    |tmp t'=>
     have e:=List.all_eq_true.1 ht t' (ZU hx);obtain rfl:t'=t:=by simpa using e
     show(if ds.contains t'&&!(old i).contains t' then qp pos fx us t' else a0.eval (.tmp t'))=v;rw[hds];exact hs
    |global g=>cases hk
    |func f=>cases hk)]
   exact(h us w).2⟩)
theorem Bc.r1 {P:Program}{ops:Array Oper}{Q:Exit→Act→World→Prop}{a0:Act}{ds mem:List Nat}{pos:Nat→Option Nat}{fx:Fx}{lim gS tl old:Nat→List Nat}{Wd:List (Nat×Value)→World→Prop}{i:Nat}{o:Oper}{t:Nat}(v:Value)
  (h:∀(ρ:Operand→Value) (us:List (Nat×Value)) w,ρ (.tmp t)=v→(∀v,ρ (.const v)=v)→(∀c∈lim i,c∉us.map Prod.fst)→(∀c∈fx.src (o.dst.getD 0),c∈us.map Prod.fst)→Wd us w→(execOp ρ o).run P w=.ok (.value (fx.at_ us (o.dst.getD 0))) w)
  (_ht:kN o=[t]:=by rfl) (hc:Qm ops ds mem (old i) (tl i) i o=true:=by rfl)
  (hv:∀us,Zq ops pos fx us o=.bool (ke ops o)∧xX ds (old i) a0 pos fx us (.tmp t)=v:=by exact fun _=>⟨rfl,rfl⟩):
  Bc P ops Q a0 ds mem pos fx lim gS tl old Wd i o:=Bc.read hc (fun us w h1 h2 h3=>⟨(hv us).1,h _ us w (hv us).2 (fun _=>rfl) h1 h2 h3⟩)
theorem Bc.r2 {P:Program}{ops:Array Oper}{Q:Exit→Act→World→Prop}{a0:Act}{ds mem:List Nat}{pos:Nat→Option Nat}{fx:Fx}{lim gS tl old:Nat→List Nat}{Wd:List (Nat×Value)→World→Prop}{i:Nat}{o:Oper}{t t':Nat}(v v':Value)
  (h:∀(ρ:Operand→Value) (us:List (Nat×Value)) w,ρ (.tmp t)=v→ρ (.tmp t')=v'→(∀v,ρ (.const v)=v)→(∀c∈lim i,c∉us.map Prod.fst)→(∀c∈fx.src (o.dst.getD 0),c∈us.map Prod.fst)→Wd us w→(execOp ρ o).run P w=.ok (.value (fx.at_ us (o.dst.getD 0))) w)
  (_ht:kN o=[t,t']:=by rfl) (hc:Qm ops ds mem (old i) (tl i) i o=true:=by rfl)
  (hv:∀us,Zq ops pos fx us o=.bool (ke ops o)∧xX ds (old i) a0 pos fx us (.tmp t)=v∧xX ds (old i) a0 pos fx us (.tmp t')=v':=by exact fun _=>⟨rfl,rfl,rfl⟩):
  Bc P ops Q a0 ds mem pos fx lim gS tl old Wd i o:=Bc.read hc (fun us w h1 h2 h3=>⟨(hv us).1,h _ us w (hv us).2.1 (hv us).2.2 (fun _=>rfl) h1 h2 h3⟩)
theorem Bc.l {P:Program}{ops:Array Oper}{Q:Exit→Act→World→Prop}{a0:Act}{ds mem:List Nat}{pos:Nat→Option Nat}{fx:Fx}{lim gS tl old:Nat→List Nat}{Wd:List (Nat×Value)→World→Prop}{i:Nat}{o:Oper}{ty:TypeId}{x:Operand}{a:Addr}{y:Option Value}
  (h:∀(us:List (Nat×Value)) w,Wd us w→(∀c∈lim i,c∉us.map Prod.fst)→w.cell? a=y) (hop:o.op=.load ty x:=by rfl)
  (hp:∀us,Zq ops pos fx us o=.bool (ke ops o)∧xX ds (old i) a0 pos fx us x=.pointer (some a):=by exact fun _=>⟨rfl,rfl⟩)
  (hy:∀us,y=some (fx.at_ us (o.dst.getD 0)):=by exact fun _=>rfl) (hag:∀w,(isAgg ty).run P w=.ok false w:=by exact fun _=>rfl)
  (hc:Qm ops ds mem (old i) (tl i) i o=true:=by rfl):
  Bc P ops Q a0 ds mem pos fx lim gS tl old Wd i o:=Bc.read hc (fun us w h1 _ h3=>⟨(hp us).1,by
   have e:execOp (xX ds (old i) a0 pos fx us) o=(do pure (.value (←Instr.loadAt ty (.pointer (some a))))):=by
    rw[←(hp us).2];unfold execOp;rw[hop]
   rw[e];have hc:=(h us w h3 h1).trans (hy us)
   simp[Instr.loadAt,Instr.sureAddr,loadVar,hag,hc]⟩)
end Go.Silo
