/- Siloref11.Give. -/
import Derived.Test.YtipecejghioicaaGreatT8s
import Derived.Test.YtipecejghioicaaGreatQ1s
import Derived.Test.YtipecejghioicaaGreatR2s
import Derived.Test.YtipecejghioicaaGreatS1s
import Derived.Test.YtipecejghioicaaGreatB4s
import Derived.Deep.Cut
import Derived.Deep.Upon
namespace Go.Proofs.YtipecejghioicaaGreat
open Go.RowKit Go.Silo
theorem ji {P:Program}{ops:Array Oper}{o:Oper}{a:Act}{w:World}{K:Act→World→Prop}{Q:Exit→Act→World→Prop}{X:Prop}(hgd:o.guard=none) (s x:Operand) (t e:TypeId)
  (ho:o.op=.call {callee:=.builtin .append,args:=#[s,x],argTypes:=#[t,t]}) (i:TypeInfo) (ht:P.underlying t=some (.slice e)) (hi:P.info? e=some i)
  {A B:Option Addr}{n c cx:Nat}(hs:a.eval s=.slice A n c) (hle:n≤c) (hx:a.eval x=.slice B 0 cx) (hK:K (a.put o.dst (.slice A n c)) w):
  if Region.wanted o (yielded ops a.tmps)=true then Oper.wp P o a w K Q else X:=by
 have hw:Region.wanted o (yielded ops a.tmps)=true:=by simp[Region.wanted,hgd]
 rw[if_pos hw]
 have hsrc:Src P i.size t (.slice B 0 cx) 0 [] w:=by
  cases B with
  |none=>exact Src.ofNil w ht cx
  |some ad=>exact Src.ofSlice w ht ad 0 cx [] (by simp) (fun j u hj=>by simp at hj) (fun u hu=>by simp at hu)
 have hrun:=run_append_nothing w t t o.type e i ht hi A n c hle (.slice B 0 cx) hsrc;unfold Oper.wp;simp[execOp,ho,resolve,invoke,builtin,hs,hx,hrun,Result.andThen];exact hK
theorem Qc {α:Type}{P:Program}{T:TypeId}{E:Enc α}{w:World}{base:Nat}{S:Nat→Prop}{A:Option Addr}{n c:Nat}{xs:List α}{ops:Array Oper}{o:Oper}{a:Act}{K:Act→World→Prop}{Q:Exit→Act→World→Prop}{X:Prop}(hgd:o.guard=none) (s x:Operand) (t:TypeId)
  (ho:o.op=.call {callee:=.builtin .append,args:=#[s,x],argTypes:=#[t,t]})
  (i:TypeInfo) (z:Value) (bytes:Nat) (ht:P.underlying t=some (.slice T)) (hi:P.info? T=some i) (hz:i.zero=some z)
  (hsize:i.size=E.sz) (hby:i.bytes=bytes) (hzs:z.cells.size=E.sz) (hsz:0<E.sz)
  (hs:a.eval s=.slice A n c) (hown:Be T E w base S A n c xs)
  {tg:Bool}{T':TypeId}{S2:Nat→Prop}{b off m cx:Nat}{ys:List α}(hx:a.eval x=.slice (some ⟨b,off,none⟩) m cx) (hsl:Sl tg T' E w S2 (some ⟨b,off,none⟩) m cx ys)
  (hR:∀vs y,y∈ys→E.R w S2 vs y→E.R w (fun b=>S b∧some b≠qa A) vs y)
  (h63:n+m≤9223372036854775807) (hbytes:(n+m)* bytes≤140737488355328) (hbase:base≤w.heap.size)
  (h:∀A' c' w',Be T E w' base S A' (n+m) c' (xs++ys)→w.grownBy w' (qa A)→(qa A'=qa A∨qa A'=some w.heap.size)→K (a.put o.dst (.slice A' (n+m) c')) w'):
  if Region.wanted o (yielded ops a.tmps)=true then Oper.wp P o a w K Q else X:=by
 have hw:Region.wanted o (yielded ops a.tmps)=true:=by simp[Region.wanted,hgd]
 rw[if_pos hw];exact jA s x t ho i z bytes ht hi hz hsize hby hzs hsz hs hown hx hsl hR h63 hbytes hbase h
theorem Qb {w:World}{g:Nat}{a b u:Value}{T:TypeId}(h:w.heap[g]?=some (.cells #[a,b] T (0,0))):(w.setCell ⟨g,0,none⟩ u).heap[g]?=some (.cells #[u,b] T (0,0)):=by
 simp only[World.setCell,Array.getElem?_modify,h];simp
theorem _root_.Go.Silo.Sl.drop {α:Type}{tg:Bool}{T:TypeId}{E:Enc α}{w:World}{S:Nat→Prop}{b off n c:Nat}{xs:List α}(h:Sl tg T E w S (some ⟨b,off,none⟩) n c xs) (hsz:E.sz=1) {k:Nat}(hk:k<n):Sl tg T E w S (some ⟨b,off+k,none⟩) (n - k) (c - k) (xs.drop k):=by
 obtain⟨h1,h2,h3,h4⟩:=h;refine⟨by rw[List.length_drop];omega,by omega,by omega,fun _=>?_⟩;obtain⟨b',off',e,hb,hl,ht,hc⟩:=h4 (by omega);injection e with e;injection e with e1 e2 _;subst e1;subst e2
 refine⟨b,off+k,rfl,hb,hl,ht,fun j y hj=>?_⟩;rw[List.getElem?_drop] at hj;obtain⟨vs,hR,hcc⟩:=hc (k+j) y hj;refine⟨vs,hR,fun i v hv=>?_⟩;have:=hcc i v hv;rw[hsz,Nat.mul_one] at this;rw[hsz,Nat.mul_one,show off+k+j+i=off+(k+j)+i by omega];exact this
inductive CW (V:World) (k:Nat) (l:List Int) (a:Int) (b1 o1:Nat):List (Nat×Value)→World→Prop
 |n0 {w:World}:Below V.heap.size V w→CW V k l a b1 o1 [] w
 |nb {w:World}{g:Nat}:Below V.heap.size V w→w.heap[g]?=some (.cells #[.int .i64 a] 3 (0,0))→CW V k l a b1 o1 [(10,.slice (some ⟨g,0,none⟩) 1 1)] w
 |nc {w:World}{A:Option Addr}{c:Nat}:Below V.heap.size V w→Be 3 Bd w V.heap.size (fun _=>False) A k c (l.take k)→CW V k l a b1 o1 [(7,.slice A k c)] w
 |both {w:World}{A:Option Addr}{c g:Nat}{us:List (Nat×Value)}:Below V.heap.size V w→w.heap[g]?=some (.cells #[.int .i64 a] 3 (0,0))→Be 3 Bd w V.heap.size (fun _=>False) A k c (l.take k)→
   (us=[(7,.slice A k c),(10,.slice (some ⟨g,0,none⟩) 1 1)]∨us=[(10,.slice (some ⟨g,0,none⟩) 1 1),(7,.slice A k c)])→CW V k l a b1 o1 us w
 |a1 {w:World}{A:Option Addr}{c:Nat}{us:List (Nat×Value)}{u u':Value}:Below V.heap.size V w→Be 3 Bd w V.heap.size (fun _=>False) A (k+1) c (l.take k++[a])→
   (us=[(7,u),(10,u'),(11,.slice A (k+1) c)]∨us=[(10,u'),(7,u),(11,.slice A (k+1) c)])→CW V k l a b1 o1 us w
 |a2 {w:World}{A:Option Addr}{c:Nat}{us:List (Nat×Value)}{u u' u2:Value}:Below V.heap.size V w→Be 3 Bd w V.heap.size (fun _=>False) A (l.length+1) c (Er k a l)→
   (us=[(7,u),(10,u'),(11,u2),(15,.slice A (l.length+1) c)]∨us=[(10,u'),(7,u),(11,u2),(15,.slice A (l.length+1) c)])→CW V k l a b1 o1 us w
 |done {w w6:World}{A:Option Addr}{c:Nat}{us:List (Nat×Value)}{u u' u2 u3 u4:Value}:Below V.heap.size V w6→Be 3 Bd w6 V.heap.size (fun _=>False) A (l.length+1) c (Er k a l)→w=w6.setCell ⟨b1,o1,none⟩ (.slice A (l.length+1) c)→
   (us=[(7,u),(10,u'),(11,u2),(15,u3),(17,u4)]∨us=[(10,u'),(7,u),(11,u2),(15,u3),(17,u4)])→CW V k l a b1 o1 us w
theorem CW.below {V:World}{k:Nat}{l:List Int}{a:Int}{b1 o1:Nat}{us:List (Nat×Value)}{w:World}(h:CW V k l a b1 o1 us w) (h17:17∉us.map Prod.fst):Below V.heap.size V w:=by
 cases h with
 |done _ _ _ h=>exact absurd (by rcases h with rfl|rfl<;>simp) h17
 |n0 h=>exact h
 |nb h _=>exact h
 |nc h _=>exact h
 |both h _ _ _=>exact h
 |a1 h _ _=>exact h
 |a2 h _ _=>exact h
theorem ZF {w:World}{base base':Nat}{S:Nat→Prop}{A:Option Addr}{n c:Nat}{xs:List Int}(h:Be 3 Bd w base' S A n c xs) (hb:base≤base'):Be 3 Bd w base S A n c xs:=by
 obtain⟨cells,ho,hl,hx⟩:=h;refine⟨cells,⟨ho.1,?_⟩,hl,hx⟩;rcases ho.2 with h|⟨g,cap,cur,hv,hg,r⟩
 ·exact .inl h
 exact .inr ⟨g,cap,cur,hv,Nat.le_trans hb hg,r⟩
end Go.Proofs.YtipecejghioicaaGreat
