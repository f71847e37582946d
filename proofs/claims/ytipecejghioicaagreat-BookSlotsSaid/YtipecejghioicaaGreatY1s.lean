/- Rows of one's own, of elements of any size: put in, taken out, written over. -/
import Derived.Test.YtipecejghioicaaGreatBases
import Derived.Laws.CopyRow
import Derived.Laws.IdiomCopy
import Derived.Test.YtipecejghioicaaGreatP0s
namespace Go.Silo
open Go Go.RowKit
section
variable {P:Program}{α:Type}{T:TypeId}{E:Enc α}{w w':World}{base n c g:Nat}{S S':Nat→Prop}{A:Option Addr}{xs ys:List α}{cs ds vs:List Value}
def Reads (E:Enc α) (w:World) (S:Nat→Prop) (cs:List Value) (xs:List α):Prop:=cs.length=xs.length* E.sz∧∀k x,xs[k]?=some x→E.R w S ((cs.drop (k* E.sz)).take E.sz) x
theorem Reads.BA:Reads E w S [] ([]:List α):=⟨by simp,fun k x h=>by simp at h⟩
theorem Reads.one {x:α}(h:E.R w S vs x):Reads E w S vs [x]:=⟨by rw[E.len h];simp,fun k y hy=>by
 match k,hy with
 |0,hy=>simp at hy;subst hy;rw[Nat.zero_mul,List.drop_zero,List.take_of_length_le (by rw[E.len h];omega)];exact h⟩
theorem Reads.append (h:Reads E w S cs xs) (k:Reads E w S ds ys):Reads E w S (cs++ds) (xs++ys):=by
 refine⟨by rw[List.length_append,List.length_append,h.1,k.1,Nat.add_mul],fun j x hx=>?_⟩;by_cases hj:j<xs.length
 ·rw[List.getElem?_append_left hj] at hx;rw[xf _ _ j E.sz xs.length h.1 hj];exact h.2 j x hx
 rw[List.getElem?_append_right (by omega)] at hx;rw[xR _ _ j E.sz xs.length h.1 (by omega)];exact k.2 _ x hx
theorem Reads.take (h:Reads E w S cs xs) {i:Nat}(hi:i≤xs.length):Reads E w S (cs.take (i* E.sz)) (xs.take i):=by
 have hm:i* E.sz≤xs.length* E.sz:=Nat.mul_le_mul_right _ hi;refine⟨by rw[List.length_take,List.length_take,h.1,Nat.min_eq_left hm,Nat.min_eq_left hi],fun j x hx=>?_⟩;have hj:j<i:=by have:=(List.getElem?_eq_some_iff.1 hx).1;rw[List.length_take] at this;omega
 rw[List.getElem?_take_of_lt hj] at hx;have h2:=h.2 j x hx;have h3:j* E.sz+E.sz≤i* E.sz:=by have:=Nat.mul_le_mul_right E.sz (show j+1≤i by omega);rw[Nat.add_mul] at this;omega
 have:((cs.take (i* E.sz)).drop (j* E.sz)).take E.sz=(cs.drop (j* E.sz)).take E.sz:=by
  rw[List.drop_take,List.take_take,Nat.min_eq_left (by omega)]
 rw[this];exact h2
theorem Reads.drop (h:Reads E w S cs xs) {i:Nat}:Reads E w S (cs.drop (i* E.sz)) (xs.drop i):=by
 refine⟨by rw[List.length_drop,List.length_drop,h.1,Nat.sub_mul],fun j x hx=>?_⟩;rw[List.getElem?_drop] at hx;have h2:=h.2 _ x hx;rw[List.drop_drop,←Nat.add_mul];exact h2
theorem Reads.mono (h:Reads E w S cs xs) (hS:∀b,S b→b<w.heap.size→S' b):Reads E w S' cs xs:=⟨h.1,fun k x hx=>E.mono hS (h.2 k x hx)⟩
theorem Reads.frame (h:Reads E w S cs xs) (hA:Agree S w w') (hs:w.heap.size≤w'.heap.size):Reads E w' S cs xs:=⟨h.1,fun k x hx=>E.frame hA hs (h.2 k x hx)⟩
theorem Reads.cells (h:Reads E w S cs xs):∀v∈cs,v.oneCell'=true:=by
 intro v hv;obtain⟨j,hj,rfl⟩:=List.getElem_of_mem hv
 have hz:0<E.sz:=by
  rcases Nat.eq_zero_or_pos E.sz with h0|h0
  ·have:=h.1;rw[h0,Nat.mul_zero] at this;omega
  exact h0
 have hk:j / E.sz<xs.length:=by
  rw[Nat.div_lt_iff_lt_mul hz];have:=h.1;omega
 have hR:=h.2 (j / E.sz) _ (List.getElem?_eq_getElem hk);refine E.one hR _ ?_;have hmod:=Nat.mod_lt j hz;have hdm:j / E.sz* E.sz+j % E.sz=j:=by rw[Nat.mul_comm];exact Nat.div_add_mod j E.sz
 refine List.mem_iff_getElem?.2 ⟨j % E.sz,?_⟩;rw[List.getElem?_take_of_lt hmod,List.getElem?_drop,hdm,List.getElem?_eq_getElem hj]
theorem Be.cells (h:Be T E w base S A n c xs):∃cs,w.ownsRow base T E.sz (.slice A n c) n cs∧Reads E w (fun b=>S b∧some b≠qa A) cs xs∧xs.length=n:=by
 obtain⟨cs,h1,h2,h3⟩:=h;exact⟨cs,h1,⟨by rw[h1.1,h2],h3⟩,h2⟩
theorem Be.row (h:Be T E w base S A n c xs) (hc:0<n∨A≠none):∃g cur,A=some ⟨g,0,none⟩∧base≤g∧g<w.heap.size∧w.heap[g]?=some (.cells cur T (0,0))∧n≤c∧c≤maxLen∧cur.size=c* E.sz∧Reads E w (fun b=>S b∧some b≠some g) (cur.toList.take (n* E.sz)) xs∧xs.length=n:=by
 obtain⟨cs,ho,hk,hl⟩:=h.cells;rcases ho.2 with ⟨hv,h0⟩|⟨g,cap,cur,hv,hb,hh,hn,hm,hs,ht⟩
 ·injection hv with h1 h2 h3
  rcases hc with hc|hc
  ·omega
  exact absurd h1 hc
 injection hv with h1 h2 h3
 subst h1;subst h3;exact⟨g,cur,rfl,hb,(zl hh),hh,hn,hm,hs,by rw[ht];exact hk,hl⟩
theorem Be.Cc {cur:Array Value}(hb:base≤g) (hh:w.heap[g]?=some (.cells cur T (0,0))) (hn:n≤c) (hm:c≤maxLen) (hs:cur.size=c* E.sz)
  (hR:Reads E w (fun b=>S b∧some b≠some g) (cur.toList.take (n* E.sz)) xs) (hl:xs.length=n):Be T E w base S (some ⟨g,0,none⟩) n c xs:=
 ⟨_,⟨by rw[hR.1,hl],.inr ⟨g,c,cur,rfl,hb,hh,hn,hm,hs,rfl⟩⟩,hl,hR.2⟩
theorem zJ:∀(vs:List Value) (o:Nat) (cur:Array Value) (w:World),w.heap[g]?=some (.cells cur T (0,0))→o+vs.length≤cur.size→
  (w.setCells g o vs).heap[g]?=some (.cells (cur.toList.take o++vs++cur.toList.drop (o+vs.length)).toArray T (0,0))
 |[],o,cur,w,hg,_=>by simpa[World.setCells] using hg
 |v::r,o,cur,w,hg,hl=>by
  have ho:o<cur.size:=by simp at hl;omega
  rw[World.setCells,setCell_eq_setRow w g o cur T (0,0) v hg];have h:=zJ r (o+1) (cur.setIfInBounds o v) _ (setRow_heap w g cur _ T _ hg) (by simp at hl⊢;omega);rw[h]
  congr 3
  have e:=list_seg_step cur.toList o v r (by simp at hl⊢;omega);simpa[Array.toList_setIfInBounds,Nat.add_assoc] using e
theorem xC (b:Nat):∀(vs:List Value) (o:Nat) (w:World),(w.setCells b o vs).heap.size=w.heap.size
 |[],_,_=>rfl
 |v::r,o,w=>by rw[World.setCells,xC b r];simp
theorem qV {b k:Nat}(h:k≠b):∀(vs:List Value) (o:Nat) (w:World),(w.setCells b o vs).heap[k]?=w.heap[k]?
 |[],_,_=>rfl
 |v::r,o,w=>by rw[World.setCells,qV h r];exact heap_setCell_other w ⟨b,o,none⟩ k v (fun e=>h e)
theorem zW (b:Nat):∀(vs:List Value) (o:Nat) (w:World),(w.setCells b o vs).os=w.os∧(w.setCells b o vs).tape=w.tape∧(w.setCells b o vs).output=w.output
 |[],_,_=>⟨rfl,rfl,rfl⟩
 |v::r,o,w=>by rw[World.setCells];exact zW b r (o+1) _
theorem zD (vs:List Value) (o:Nat) (w:World):w.grownBy (w.setCells g o vs) (some g):=
 ⟨(zW g vs o w).1,(zW g vs o w).2.1,(zW g vs o w).2.2,by rw[xC];exact Nat.le_refl _,fun k _ hk=>qV (fun e=>hk (by rw[e])) vs o w⟩
theorem Be.CF {i:Nat}{y:α}(h:Be T E w base S A n c xs) (hi:i<n) (hy:E.R w (fun b=>S b∧some b≠qa A) vs y):
  ∃g,A=some ⟨g,0,none⟩∧base≤g∧g<w.heap.size∧Be T E (w.setCells g (i* E.sz) vs) base S A n c (xs.set i y)∧w.grownBy (w.setCells g (i* E.sz) vs) (some g):=by
 obtain⟨g,cur,rfl,hb,hg,hh,hn,hm,hs,hR,hl⟩:=h.row (.inl (by omega));have hz:i* E.sz+E.sz≤n* E.sz:=by have:=Nat.mul_le_mul_right E.sz (show i+1≤n by omega);rw[Nat.add_mul] at this;omega
 have hnc:n* E.sz≤c* E.sz:=Nat.mul_le_mul_right _ hn;have hvl:=E.len hy;refine⟨g,rfl,hb,hg,?_,zD _ _ _⟩;have hrow:=zJ vs (i* E.sz) cur w hh (by omega);refine Be.Cc hb hrow hn hm (by simp;omega) ?_ (by rw[List.length_set];exact hl);have hA:Agree (fun b=>S b∧some b≠some g) w (w.setCells g (i* E.sz) vs):=fun b hb2 _=>qV (fun e=>hb2.2 (by rw[e])) _ _ _;have h1:=(hR.take (i:=i) (by omega)).append ((Reads.one hy).append (hR.drop (i:=i+1)))
 have e1:(cur.toList.take (i* E.sz)++vs++cur.toList.drop (i* E.sz+vs.length)).toArray.toList.take (n* E.sz)=(cur.toList.take (n* E.sz)).take (i* E.sz)++(vs++(cur.toList.take (n* E.sz)).drop ((i+1)* E.sz)):=by
  have hlen:(cur.toList.take (i* E.sz)++vs).length=i* E.sz+E.sz:=by rw[List.length_append,List.length_take,hvl,Array.length_toList,Nat.min_eq_left (by omega)]
  rw[List.take_take,Nat.min_eq_left (by omega),List.drop_take,Nat.add_mul,Nat.one_mul,hvl];show(cur.toList.take (i* E.sz)++vs++cur.toList.drop (i* E.sz+E.sz)).take (n* E.sz)=_;rw[List.take_append,List.take_of_length_le (by omega),hlen,List.append_assoc]
 have e2:xs.set i y=xs.take i++([y]++xs.drop (i+1)):=by
  rw[List.set_eq_take_append_cons_drop,if_pos (by omega)];rfl
 rw[e1,e2];exact h1.frame hA (by rw[xC];exact Nat.le_refl _)
theorem qC (w:World) (dT sT ty elem:TypeId) (sz g o dLen dCap:Nat) (a:Addr) (sLen sCap:Nat) (cur:Array Value) (t:TypeId) (cs:List Value)
  (hu:P.underlying dT=some (.slice elem)) (hs:(P.info? elem).map (·.size)=some sz)
  (hg:w.heap[g]?=some (.cells cur t (0,0))) (hn:cs.length=Nat.min sLen dLen* sz)
  (hsrc:∀j v,cs[j]?=some v→w.cell? (a.add j)=some v) (hfit:o+cs.length≤cur.size) (h1:∀v∈cs,v.oneCell'=true):
  (Builtin.copy_ #[dT,sT] ty #[.slice (some ⟨g,o,none⟩) dLen dCap,.slice (some a) sLen sCap]).run P w=
   .ok (goInt (Nat.min sLen dLen:Nat)) (w.setRow g (cur.toList.take o++cs++cur.toList.drop (o+cs.length)).toArray):=by
 have hl:=run_loadCells_list (P:=P) w a cs hsrc;have hst:=run_storeCells_at P g o t cs 0 cur w hg (by simpa using hfit) h1
 cases hq:P.info? elem with
 |none=>simp[hq] at hs
 |some i=>
  have hi:i.size=sz:=by simpa[hq] using hs
  rw[hn] at hl;simp[Builtin.copy_,run_underlying hu,Builtin.lenOf,Builtin.firstCells,sizeOf,typeInfo,hq,hi,hl,hst]
end
end Go.Silo
