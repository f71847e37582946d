/- Maps that hold truths, as sets: block b is a map in which just the keys of a list are true. -/
import Derived.Test.YtipecejghioicaaGreatP1s
import Derived.Test.YtipecejghioicaaGreatP0s
import Derived.Handy
import Derived.Tactics
import Derived.Test.YtipecejghioicaaGreatB4s
import Derived.Below
import Derived.Test.YtipecejghioicaaGreatBases
import Derived.Maps.OwnSet
namespace Go.Silo
open Go
def pt (g k:Nat):Value:=.pointer (some ⟨g,k,none⟩)
abbrev kt (t:Nat):=kp t (.bool true)
abbrev kf (t:Nat):=kp t (.bool false)
abbrev ki (t:Nat) (i:Int):=kp t (.int .i64 i)
abbrev kq (t g k:Nat):=kp t (.pointer (some ⟨g,k,none⟩))
theorem Bc.n {P:Program}{ops:Array Oper}{Q:Exit→Act→World→Prop}{a0:Act}{ds mem:List Nat}{pos:Nat→Option Nat}{fx:Fx}{lim gS tl old:Nat→List Nat}{Wd:List (Nat×Value)→World→Prop}{i:Nat}{o:Oper}{x:Operand}{ts:Array TypeId}{ty:TypeId}(v:Value)
  (hop:o.op=.call {callee:=.builtin .len,args:=#[x],argTypes:=ts}:=by rfl) (hty:o.type=ty:=by rfl)
  (hp:∀us,Zq ops pos fx us o=.bool (ke ops o)∧xX ds (old i) a0 pos fx us x=v:=by exact fun _=>⟨rfl,rfl⟩)
  (hl:∀us w,(Builtin.len_ ts ty #[v]).run P w=.ok (fx.at_ us (o.dst.getD 0)) w:=by intro _ _;go_simp;try rfl)
  (hc:Qm ops ds mem (old i) (tl i) i o=true:=by rfl):
  Bc P ops Q a0 ds mem pos fx lim gS tl old Wd i o:=Bc.read hc (fun us w _ _ _=>⟨(hp us).1,by
   obtain⟨d,op,ty',ps,af,g⟩:=o;simp only at hop hty;subst hop;subst hty;have e:=(hp us).2;have e2:=hl us w;generalize xX ds (old i) a0 pos fx us=ρ at *;simp only[execOp]
   go_simp⟩)
def EB (l:List Oper) (mem:List Nat) (t:Nat):Option Nat:=mem.find? fun i=>(l[i]?).bind (·.dst)==some t
def tlF (l:List Oper) (ds:List Nat) (i:Nat):List Nat:=match l[i]? with
 |none=>[]
 |some o=>(kN o++(match o.guard with|none=>[]|some g=>match (l[g.1]?).bind (·.dst) with|none=>[]|some t=>[t])).filter ds.contains
theorem rF {P:Program}{id:Nat}{Q:Exit→Act→World→Prop}{a0:Act}{w:World}{l:List Oper}(n:Nat) (hn:a0.tmps.size=n)
  (ds mem:List Nat) (fx:Fx) (lim gS:List (List Nat)) (Wd:List (Nat×Value)→World→Prop) (h0:Wd [] w.drew)
  (hops:D7 P l.toArray Q a0 ds mem (EB l mem) fx (fun i=>lim.getD i []) (fun i=>gS.getD i []) (tlF l ds) (fun _=>[]) Wd 0 l)
  (hend:∀us w',(∀c∈mem,c∈us.map Prod.fst)→Wd us w'→Q .normal (qc a0 (ds.map fun d=>(d,qp (EB l mem) fx us d))) w')
  (hm:P.follows .mixedOrders=true:=by kernel_rfl) (pC:kb l=true:=by kernel_rfl)
  (hchk:kE l n ds mem (EB l mem) fx (fun i=>lim.getD i []) (fun i=>gS.getD i []) (tlF l ds) (fun _=>[])=true:=by kernel_rfl):
  (Code.region id l.toArray true).wp P Q a0 w:=by
 subst hn;exact kc hm pC ds mem _ _ _ _ _ _ Wd hchk h0 hops (fun us w' h hW=>by rw[xW];exact hend us w' h hW)
end Go.Silo
namespace Go.Silo
open Go Go.RowKit
theorem qj {us:List (Nat×Value)}{c:Nat}(hm:c∈us.map Prod.fst):∃v,us.lookup c=some v∧(c,v)∈us:=by
 induction us with
 |nil=>simp at hm
 |cons p us ih=>
  obtain⟨a,b⟩:=p;rw[List.lookup_cons];by_cases hc:c=a
  ·subst hc;simp only[beq_self_eq_true];exact⟨b,rfl,List.mem_cons_self ..⟩
  have hne:(c==a)=false:=by simpa using hc
  rw[hne];obtain⟨v,h1,h2⟩:=ih (by simpa[hc] using hm);exact⟨v,h1,List.mem_cons_of_mem _ h2⟩
def BL (V:World) (R:Nat→Value→World→Prop) (us:List (Nat×Value)) (W:World):Prop:=Below V.heap.size V W∧∀i v,(i,v)∈us→R i v W
section
variable {V W W':World}{R:Nat→Value→World→Prop}{us:List (Nat×Value)}
theorem BL.init:BL V R [] V.drew:=⟨(Below.refl _ _).drew,fun _ _ h=>by cases h⟩
theorem BL.snoc (h:BL V R us W) {i:Nat}{x:Value}(hb:Below W.heap.size W W') (hs:∀j v,R j v W→R j v W') (hx:R i x W'):BL V R (us++[(i,x)]) W':=by
 refine⟨h.1.trans (hb.mono h.1.size),fun j v hj=>?_⟩;rcases List.mem_append.1 hj with hj|hj
 ·exact hs j v (h.2 j v hj)
 simp at hj;obtain⟨rfl,rfl⟩:=hj;exact hx
theorem BL.at_ (h:BL V R us W) {i:Nat}(hm:i∈us.map Prod.fst):R i ((us.lookup i).getD undef) W:=by
 obtain⟨v,h1,h2⟩:=qj hm;rw[h1];exact h.2 i v h2
end
end Go.Silo
namespace Go.Silo
open Go Go.RowKit
theorem kP {us:List (Nat×Value)}{i c:Nat}{x:Value}(h:c≠i):(us++[(i,x)]).lookup c=us.lookup c:=by
 induction us with
 |nil=>
  have hne:(c==i)=false:=by simpa using h
  simp[List.lookup_cons,hne]
 |cons p us ih=>
  obtain⟨a,b⟩:=p;rw[List.cons_append,List.lookup_cons,List.lookup_cons,ih]
def blkOf:Value→Nat
 |.pointer (some a)=>a.block
 |_=>0
inductive CZ (V:World) (m:Nat) (R:Nat→Value→World→Prop) (Pre:List (Nat×Value)→Prop) (s1 s2:Nat) (st1 st2:List (Nat×Value)→World→World):List (Nat×Value)→World→Prop
 |pre {us:List (Nat×Value)}{W:World}:Below V.heap.size V W→(∀i v,(i,v)∈us→R i v W)→s1∉us.map Prod.fst→s2∉us.map Prod.fst→CZ V m R Pre s1 s2 st1 st2 us W
 |one {us:List (Nat×Value)}{W:World}{x:Value}:Below V.heap.size V W→(∀i v,(i,v)∈us→R i v W)→s1∉us.map Prod.fst→s2∉us.map Prod.fst→Pre us→Below m V (st1 us W)→CZ V m R Pre s1 s2 st1 st2 (us++[(s1,x)]) (st1 us W)
 |two {us:List (Nat×Value)}{W:World}{x x':Value}:Below V.heap.size V W→(∀i v,(i,v)∈us→R i v W)→s1∉us.map Prod.fst→s2∉us.map Prod.fst→Pre us→Below m V (st2 us (st1 us W))→CZ V m R Pre s1 s2 st1 st2 (us++[(s1,x)]++[(s2,x')]) (st2 us (st1 us W))
section
variable {V W W':World}{m:Nat}{R:Nat→Value→World→Prop}{Pre:List (Nat×Value)→Prop}{s1 s2:Nat}{st1 st2:List (Nat×Value)→World→World}{us:List (Nat×Value)}
theorem CZ.init:CZ V m R Pre s1 s2 st1 st2 [] V.drew:=.pre (Below.refl _ _).drew (fun _ _ h=>by cases h) (by simp) (by simp)
theorem CZ.below (h:CZ V m R Pre s1 s2 st1 st2 us W) (hm:m≤V.heap.size):Below m V W:=by
 cases h with
 |pre h _ _ _=>exact h.mono hm
 |one _ _ _ _ _ h=>exact h
 |two _ _ _ _ _ h=>exact h
theorem CZ.early (h:CZ V m R Pre s1 s2 st1 st2 us W) (hn:s1∉us.map Prod.fst):Below V.heap.size V W∧(∀i v,(i,v)∈us→R i v W)∧s2∉us.map Prod.fst:=by
 cases h with
 |pre hb h _ h2=>exact⟨hb,h,h2⟩
 |one _ _ _ _ _ _=>exact absurd (by simp) hn
 |two _ _ _ _ _ _=>exact absurd (by simp) hn
theorem CZ.at_ (h:CZ V m R Pre s1 s2 st1 st2 us W) (hn:s1∉us.map Prod.fst) {i:Nat}(hm:i∈us.map Prod.fst):R i ((us.lookup i).getD undef) W:=by
 obtain⟨v,h1,h2⟩:=qj hm;rw[h1];exact(h.early hn).2.1 i v h2
theorem CZ.snoc (h:CZ V m R Pre s1 s2 st1 st2 us W) {i:Nat}{x:Value}(h1:i≠s1) (h2:i≠s2) (hn:s1∉us.map Prod.fst) (hb:Below W.heap.size W W') (hs:∀j v,R j v W→R j v W') (hx:R i x W'):CZ V m R Pre s1 s2 st1 st2 (us++[(i,x)]) W':=by
 obtain⟨hB,hR,rV⟩:=h.early hn;refine .pre (hB.trans (hb.mono hB.size)) (fun j v hj=>?_) ?_ ?_
 ·rcases List.mem_append.1 hj with hj|hj
  ·exact hs j v (hR j v hj)
  simp at hj;obtain⟨rfl,rfl⟩:=hj;exact hx
 ·rw[List.map_append,List.mem_append];rintro(h|h)
  ·exact hn h
  simp at h;exact h1 h.symm
 rw[List.map_append,List.mem_append];rintro(h|h)
 ·exact rV h
 simp at h;exact h2 h.symm
theorem CZ.mid (h:CZ V m R Pre s1 s2 st1 st2 us W) (h1:s1∈us.map Prod.fst) (h2:s2∉us.map Prod.fst):
  ∃gL W0 x,us=gL++[(s1,x)]∧W=st1 gL W0∧Below V.heap.size V W0∧(∀i v,(i,v)∈gL→R i v W0)∧s1∉gL.map Prod.fst∧s2∉gL.map Prod.fst∧Pre gL∧Below m V (st1 gL W0):=by
 cases h with
 |pre _ _ h _=>exact absurd h1 h
 |@one gL W0 x a b c d e f=>exact⟨gL,W0,x,rfl,rfl,a,b,c,d,e,f⟩
 |two _ _ _ _ _ _=>exact absurd (by simp) h2
theorem CZ.last (h:CZ V m R Pre s1 s2 st1 st2 us W) (h2:s2∈us.map Prod.fst) (hne:s1≠s2):
  ∃gL W0 x x',us=gL++[(s1,x)]++[(s2,x')]∧W=st2 gL (st1 gL W0)∧Below V.heap.size V W0∧(∀i v,(i,v)∈gL→R i v W0)∧s1∉gL.map Prod.fst∧s2∉gL.map Prod.fst∧Pre gL∧Below m V (st2 gL (st1 gL W0)):=by
 cases h with
 |pre _ _ _ h=>exact absurd h2 h
 |one _ _ _ h _ _=>
  rw[List.map_append,List.mem_append] at h2;rcases h2 with h2|h2
  ·exact absurd h2 h
  simp at h2;exact absurd h2.symm hne
 |@two gL W0 x x' a b c d e f=>exact⟨gL,W0,x,x',rfl,rfl,a,b,c,d,e,f⟩
theorem xK {gL:List (Nat×Value)}{x:Value}{i:Nat}(h:i∈(gL++[(s1,x)]).map Prod.fst) (hi:i≠s1):i∈gL.map Prod.fst:=by
 rw[List.map_append,List.mem_append] at h;rcases h with h|h
 ·exact h
 simp at h;exact absurd h hi
theorem jp {gL:List (Nat×Value)}{x:Value}{i:Nat}(hi:i≠s1):(gL++[(s1,x)]).lookup i=gL.lookup i:=kP hi
end
def zC (g:Nat):Nat→List Value→World→World
 |_,[],W=>W
 |k,v::vs,W=>zC g (k+1) vs (W.setCell ⟨g,k,none⟩ v)
def Xs:Value→List Value
 |.agg cs=>cs.toList
 |_=>[]
def qu (k:Nat):Value→Value
 |.tuple vs=>vs.getD k undef
 |_=>undef
theorem zF {g b:Nat}(h:b≠g):∀(vs:List Value) (k:Nat) (W:World),(zC g k vs W).heap[b]?=W.heap[b]?
 |[],_,_=>rfl
 |_::vs,k,_=>(zF h vs (k+1) _).trans (Below.heap_setCell _ ⟨g,k,none⟩ _ _ h)
theorem zG {g m:Nat}{V:World}(h:m≤g):∀(vs:List Value) (k:Nat) (W:World),Below m V W→Below m V (zC g k vs W)
 |[],_,_,hb=>hb
 |_::vs,k,_,hb=>zG h vs (k+1) _ (hb.setCell h _)
theorem Zr {g:Nat}{a b u v:Value}{T:TypeId}{W:World}(h:W.heap[g]?=some (.cells #[u,v] T (0,0))):(zC g 0 [a,b] W).heap[g]?=some (.cells #[a,b] T (0,0)):=by
 simp[zC,World.setCell,Array.getElem?_modify,h]
theorem Jq {g:Nat}{a b c d u v z y:Value}{T:TypeId}{W:World}(h:W.heap[g]?=some (.cells #[u,v,z,y] T (0,0))):(zC g 0 [a,b,c,d] W).heap[g]?=some (.cells #[a,b,c,d] T (0,0)):=by
 simp[zC,World.setCell,Array.getElem?_modify,h]
end Go.Silo
namespace Go.Silo
open Go Go.RowKit
inductive D5 (V:World) (R:Nat→Value→World→Prop) (s1:Nat) (st1:List (Nat×Value)→World→World):List (Nat×Value)→World→Prop
 |pre {us:List (Nat×Value)}{W:World}:Below V.heap.size V W→(∀i v,(i,v)∈us→R i v W)→s1∉us.map Prod.fst→D5 V R s1 st1 us W
 |one {us:List (Nat×Value)}{W:World}{x:Value}:Below V.heap.size V W→(∀i v,(i,v)∈us→R i v W)→s1∉us.map Prod.fst→D5 V R s1 st1 (us++[(s1,x)]) (st1 us W)
section
variable {V W W':World}{R:Nat→Value→World→Prop}{s1:Nat}{st1:List (Nat×Value)→World→World}{us:List (Nat×Value)}
theorem D5.init:D5 V R s1 st1 [] V.drew:=.pre (Below.refl _ _).drew (fun _ _ h=>by cases h) (by simp)
theorem D5.early (h:D5 V R s1 st1 us W) (hn:s1∉us.map Prod.fst):Below V.heap.size V W∧∀i v,(i,v)∈us→R i v W:=by
 cases h with
 |pre hb h _=>exact⟨hb,h⟩
 |one _ _ _=>exact absurd (by simp) hn
theorem D5.snoc (h:D5 V R s1 st1 us W) {i:Nat}{x:Value}(h1:i≠s1) (hn:s1∉us.map Prod.fst) (hb:Below W.heap.size W W') (hs:∀j v,R j v W→R j v W') (hx:R i x W'):D5 V R s1 st1 (us++[(i,x)]) W':=by
 obtain⟨hB,hR⟩:=h.early hn;refine .pre (hB.trans (hb.mono hB.size)) (fun j v hj=>?_) ?_
 ·rcases List.mem_append.1 hj with hj|hj
  ·exact hs j v (hR j v hj)
  simp at hj;obtain⟨rfl,rfl⟩:=hj;exact hx
 rw[List.map_append,List.mem_append];rintro(h|h)
 ·exact hn h
 simp at h;exact h1 h.symm
theorem D5.store (h:D5 V R s1 st1 us W) (hn:s1∉us.map Prod.fst) {x:Value}:D5 V R s1 st1 (us++[(s1,x)]) (st1 us W):=.one (h.early hn).1 (h.early hn).2 hn
theorem D5.last (h:D5 V R s1 st1 us W) (h1:s1∈us.map Prod.fst):∃gL W0 x,us=gL++[(s1,x)]∧W=st1 gL W0∧Below V.heap.size V W0∧(∀i v,(i,v)∈gL→R i v W0)∧s1∉gL.map Prod.fst:=by
 cases h with
 |pre _ _ h=>exact absurd h1 h
 |@one gL W0 x a b c=>exact⟨gL,W0,x,rfl,rfl,a,b,c⟩
end
end Go.Silo
namespace Go.Silo
open Go Go.RowKit
open Go.Maps (Keyed)
theorem jq {H:Type}{P:Program}{e:TypeId}(he:P.underlying e=some .bool) {v:Value}{z:DataW H×List MemPlace}(h:plainElem P e v=some z):∃x,v=.bool x∧z=(.lit (.bool x),[]):=by
 unfold plainElem at h;rw[he] at h
 cases v<;>simp at h
 subst h;exact⟨_,rfl,rfl⟩
def Bu (P:Program) (k e:TypeId) (w:World) (b n:Nat) (L:List Value):Prop:=
 ∃D:DataW Unit,w.ownsMap P k (plainElem P e) b n D∧∀v kl,keyOf P k v=some kl→∃x:Bool,D.atKey kl (.lit (.bool false))=.lit (.bool x)∧(x=true↔v∈L)
section
variable {P:Program}{k e t:TypeId}{w w':World}{b n:Nat}{L:List Value}
theorem Bu.made:Bu P k e (w.alloc (.map #[] 0)) w.heap.size 0 []:=⟨.map [],World.ownsMap_made _ _ _ _,fun _ _ _=>⟨false,rfl,by simp⟩⟩
theorem Bu.lt (h:Bu P k e w b n L):b<w.heap.size:=by obtain⟨D,h,_⟩:=h;exact h.lt
theorem Bu.block (h:Bu P k e w b n L) (hb:w'.heap[b]?=w.heap[b]?):Bu P k e w' b n L:=by
 obtain⟨D,⟨es,clock,h1,h2⟩,hx⟩:=h;exact⟨D,⟨es,clock,hb.trans h1,h2⟩,hx⟩
theorem Bu.all (h:Bu P k e w b n L) (hb:Below w.heap.size w w'):Bu P k e w' b n L:=h.block (hb.block _ h.lt)
theorem Bu.mono (h:Bu P k e w b n L) {n':Nat}(hn:n≤n'):Bu P k e w b n' L:=by
 obtain⟨D,h,hx⟩:=h;exact⟨D,h.mono hn,hx⟩
theorem Bu.look (h:Bu P k e w b n L) (K:Keyed P k) (ht:P.underlying t=some (.map k e)) (he:P.underlying e=some .bool) (hz:(zeroValue e).run P w=.ok (.bool false) w) {key:Value}{kl:Lit}(hkey:keyOf P k key=some kl):
  ∃x:Bool,(Instr.lookup t (.map (some b)) key false).run P w=.ok (.bool x) w∧(x=true↔key∈L):=by
 obtain⟨D,h,hx⟩:=h;obtain⟨v,ps,hrun,hv⟩:=h.lookup K ht hz (plainElem_bool he false) hkey;obtain⟨x,rfl,hz'⟩:=jq he hv;obtain⟨x',hx1,hx2⟩:=hx key kl hkey;simp only[Prod.mk.injEq] at hz';rw[hx1] at hz';have hxx:x'=x:=by have:=hz'.1;simpa using this
 subst hxx;exact⟨x',hrun,hx2⟩
theorem Bu.put (h:Bu P k e w b n L) (K:Keyed P k) (ht:P.underlying t=some (.map k e)) (he:P.underlying e=some .bool) (hn:n<maxLen) {key:Value}{kl:Lit}(hkey:keyOf P k key=some kl):
  ∃w',(Instr.mapUpdate t (.map (some b)) key (.bool true)).run P w=.ok () w'∧Bu P k e w' b (n+1) (L++[key])∧w.grownBy w' (some b):=by
 obtain⟨D,h,hx⟩:=h;obtain⟨w',hrun,hown,hg⟩:=h.update K ht hn hkey (plainElem_bool he true);refine⟨w',hrun,⟨_,hown,fun v kl' hv=>?_⟩,hg⟩;by_cases hkk:kl'=kl
 ·subst hkk;obtain rfl:=K.inj hv hkey;exact⟨true,Maps.atKey_put_same h.isMap (K.key hkey) _ _,by simp⟩
 obtain⟨x,h1,h2⟩:=hx v kl' hv;refine⟨x,(Maps.atKey_put_other hkk _ _).trans h1,?_⟩;rw[h2];have hne:v≠key:=fun e=>by subst e;rw[hkey] at hv;injection hv with hv;exact hkk hv.symm
 simp[hne]
end
theorem xT {P:Program}{k e:TypeId}(w:World) {ops:Array Oper}{rest:List Oper}{o:Oper}{a:Act}{Q:Exit→Act→World→Prop}
  (hg:o.guard=none) (m x:Operand) (t:TypeId) (hop:o.op=Op.lookup t m x false) (K:Keyed P k) (ht:P.underlying t=some (.map k e)) (he:P.underlying e=some .bool) (hz:(zeroValue e).run P w=.ok (.bool false) w) (b n:Nat) (L:List Value)
  (hm:a.eval m=.map (some b)) (gz:Bu P k e w b n L) (key:Value) (kl:Lit) (hx:a.eval x=key) (hkey:keyOf P k key=some kl)
  (hK:∀x:Bool,(x=true↔key∈L)→wpList P ops Q rest (a.put o.dst (.bool x)) w):
  wpList P ops Q (o::rest) a w:=by
 refine wpList_plain hg fun K' hK'=>?_;obtain⟨c,hrun,hc⟩:=gz.look K ht he hz hkey;unfold Oper.wp;simp[execOp,hop,hm,hx,hrun,Result.andThen];exact hK' _ _ (hK c hc)
theorem zQ {P:Program}{k e:TypeId}(w:World) {ops:Array Oper}{rest:List Oper}{o:Oper}{a:Act}{Q:Exit→Act→World→Prop}
  (hg:o.guard=none) (m x v:Operand) (t:TypeId) (hop:o.op=Op.mapUpdate t m x v) (K:Keyed P k) (ht:P.underlying t=some (.map k e)) (he:P.underlying e=some .bool) (b n:Nat) (L:List Value)
  (hm:a.eval m=.map (some b)) (gz:Bu P k e w b n L) (hn:n<maxLen) (key:Value) (kl:Lit) (hx:a.eval x=key) (hv:a.eval v=.bool true) (hkey:keyOf P k key=some kl)
  (hK:∀w',Bu P k e w' b (n+1) (L++[key])→w.grownBy w' (some b)→wpList P ops Q rest (a.put o.dst undef) w'):
  wpList P ops Q (o::rest) a w:=by
 refine wpList_plain hg fun K' hK'=>?_;obtain⟨w',hrun,r1,r2⟩:=gz.put K ht he hn hkey;unfold Oper.wp;simp[execOp,hop,hm,hx,hv,hrun,Result.andThen];exact hK' _ _ (hK w' r1 r2)
end Go.Silo
