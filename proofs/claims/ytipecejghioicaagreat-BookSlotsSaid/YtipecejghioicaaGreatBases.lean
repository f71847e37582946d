/- The base of all texts of this claim: what a slice of Go reads as (a list of data). -/
import Derived.Below
import Derived.Laws.OwnMore
import Derived.Deep.AppendLies
import Derived.Deep.Draws
import Derived.Maps.AppendAt
import Derived.WalkKit
import Derived.WalkSmall
import Derived.OwnWalk
import Derived.Lib.Hide
import Derived.Handy
import Derived.Deep.QuietTactic
import Derived.BigQuiet
import Derived.BigCall
namespace Go.Silo
open Go.RowKit
def Agree (S:Nat→Prop) (w w':World):Prop:=∀b,S b→b<w.heap.size→w'.heap[b]?=w.heap[b]?
theorem Agree.refl (S:Nat→Prop) (w:World):Agree S w w:=fun _ _ _=>rfl
theorem Agree.mono {S S':Nat→Prop}{w w':World}(h:Agree S w w') (hS:∀b,S' b→b<w.heap.size→S b):Agree S' w w':=fun b hb hlt=>h b (hS b hb hlt) hlt
theorem Agree.trans {S:Nat→Prop}{a b c:World}(h:Agree S a b) (hs:a.heap.size≤b.heap.size) (k:Agree S b c):Agree S a c:=
 fun i hi hlt=>(k i hi (Nat.lt_of_lt_of_le hlt hs)).trans (h i hi hlt)
theorem Agree.of_below {S:Nat→Prop}{B:Nat}{w w':World}(h:Below B w w') (hS:∀b,S b→b<w.heap.size→b<B):Agree S w w':=fun b hb hlt=>h.block b (hS b hb hlt)
theorem Agree.all {S:Nat→Prop}{w w':World}(h:Below w.heap.size w w'):Agree S w w':=fun b _ hlt=>h.block b hlt
theorem Agree.drew (S:Nat→Prop) (w:World):Agree S w w.drew:=fun _ _ _=>rfl
theorem Agree.drewN (S:Nat→Prop) (w:World) (n:Nat):Agree S w (w.drewN n):=fun _ _ _=>rfl
theorem Agree.alloc (S:Nat→Prop) (w:World) (o:Obj):Agree S w (w.alloc o):=fun b _ hlt=>Below.heap_alloc w o b hlt
theorem Agree.setCell {S:Nat→Prop}{w:World}{p:Addr}(h:¬S p.block) (u:Value):Agree S w (w.setCell p u):=
 fun b hb _=>Below.heap_setCell w p u b (fun e=>h (e▸hb))
theorem Agree.grown {S:Nat→Prop}{w w':World}{row:Option Nat}(h:w.grownBy w' row) (hS:∀b,S b→some b≠row):Agree S w w':=
 fun b hb hlt=>h.block b hlt (hS b hb)
theorem Agree.cell {S:Nat→Prop}{w w':World}(h:Agree S w w') {p:Addr}(hb:S p.block) (hlt:p.block<w.heap.size):w'.cell? p=w.cell? p:=World.cell?_of_block (h _ hb hlt)
theorem Agree.frozen {S:Nat→Prop}{w w':World}(h:Agree S w w') {p:Addr}(hb:S p.block) (hlt:p.block<w.heap.size):w'.frozen? p=w.frozen? p:=World.frozen?_of_block (h _ hb hlt)
theorem qU {w w':World}{b:Nat}(h:w'.heap[b]?=w.heap[b]?):w'.shape? b=w.shape? b:=by simp[World.shape?,h]
structure Enc (α:Type) where
 sz:Nat
 R:World→(Nat→Prop)→List Value→α→Prop
 len:∀{w S vs x},R w S vs x→vs.length=sz
 one:∀{w S vs x},R w S vs x→∀v∈vs,v.oneCell'=true
 mono:∀{w:World}{S S':Nat→Prop}{vs x},(∀b,S b→b<w.heap.size→S' b)→R w S vs x→R w S' vs x
 frame:∀{w w':World}{S vs x},Agree S w w'→w.heap.size≤w'.heap.size→R w S vs x→R w' S vs x
def flat {α:Type}(sz:Nat) (f:α→List Value) (ok:α→Prop) (hl:∀x,(f x).length=sz) (h1:∀x,∀v∈f x,v.oneCell'=true):Enc α where
 sz:=sz
 R _ _ vs x:=vs=f x∧ok x
 len h:=by rw[h.1];exact hl _
 one h:=by rw[h.1];exact h1 _
 mono _ h:=h
 frame _ _ h:=h
def Sl {α:Type}(tg:Bool) (T:TypeId) (E:Enc α) (w:World) (S:Nat→Prop) (A:Option Addr) (n c:Nat) (xs:List α):Prop:=
 xs.length=n∧n≤c∧c≤9223372036854775807∧
 (0<n→∃b off,A=some ⟨b,off,none⟩∧S b∧b<w.heap.size∧(tg=true→∃k,w.shape? b=some (T,k))∧
  ∀k x,xs[k]?=some x→∃vs,E.R w S vs x∧∀j v,vs[j]?=some v→w.cell? ⟨b,off+k* E.sz+j,none⟩=some v∧w.frozen? ⟨b,off+k* E.sz+j,none⟩=false)
section
variable {α:Type}{tg:Bool}{T:TypeId}{E:Enc α}{w w':World}{S S':Nat→Prop}{A:Option Addr}{n c:Nat}{xs:List α}
theorem Sl.len (h:Sl tg T E w S A n c xs):xs.length=n:=h.1
theorem Sl.le (h:Sl tg T E w S A n c xs):n≤c:=h.2.1
theorem Sl.cap (h:Sl tg T E w S A n c xs):c≤9223372036854775807:=h.2.2.1
theorem Sl.frame (hA:Agree S w w') (hs:w.heap.size≤w'.heap.size) (h:Sl tg T E w S A n c xs):Sl tg T E w' S A n c xs:=by
 obtain⟨h1,h2,h3,h4⟩:=h;refine⟨h1,h2,h3,fun hn=>?_⟩;obtain⟨b,off,e,hb,hlt,ht,hk⟩:=h4 hn;refine⟨b,off,e,hb,Nat.lt_of_lt_of_le hlt hs,fun uX=>?_,fun k x hx=>?_⟩
 ·rw[qU (hA b hb hlt)];exact ht uX
 obtain⟨vs,hv,hc⟩:=hk k x hx;refine⟨vs,E.frame hA hs hv,fun j v hj=>?_⟩;rw[World.cell?_of_block (w:=w) (a:=⟨b,_,none⟩) (hA b hb hlt),World.frozen?_of_block (w:=w) (a:=⟨b,_,none⟩) (hA b hb hlt)];exact hc j v hj
theorem Sl.mono (hS:∀b,S b→b<w.heap.size→S' b) (h:Sl tg T E w S A n c xs):Sl tg T E w S' A n c xs:=by
 obtain⟨h1,h2,h3,h4⟩:=h;refine⟨h1,h2,h3,fun hn=>?_⟩;obtain⟨b,off,e,hb,hlt,ht,hk⟩:=h4 hn;exact⟨b,off,e,hS b hb hlt,hlt,ht,fun k x hx=>let ⟨vs,hv,hc⟩:=hk k x hx;⟨vs,E.mono hS hv,hc⟩⟩
theorem Sl.below {B:Nat}(h:Sl tg T E w S A n c xs) (hb:Below B w w') (hS:∀b,S b→b<w.heap.size→b<B):Sl tg T E w' S A n c xs:=h.frame (.of_below hb hS) hb.size
theorem Sl.all (h:Sl tg T E w S A n c xs) (hb:Below w.heap.size w w'):Sl tg T E w' S A n c xs:=h.frame (.all hb) hb.size
theorem Sl.BA (hc:c≤9223372036854775807):Sl tg T E w S A 0 c ([]:List α):=⟨rfl,Nat.zero_le _,hc,fun h=>absurd h (by omega)⟩
theorem Sl.Bi (h:Sl tg T E w S A n c xs):Sl tg T E w (fun b=>S b∧b<w.heap.size) A n c xs:=h.mono fun _ hb hlt=>⟨hb,hlt⟩
theorem Sl.imp {β:Type}{F:Enc β}{ys:List β}(h:Sl tg T E w S A n c xs) (hsz:F.sz=E.sz) (hl:ys.length=xs.length)
  (hR:∀(k:Nat) x y vs,xs[k]?=some x→ys[k]?=some y→E.R w S vs x→F.R w S vs y):Sl tg T F w S A n c ys:=by
 obtain⟨h1,h2,h3,h4⟩:=h;refine⟨hl.trans h1,h2,h3,fun hn=>?_⟩;obtain⟨b,off,e,hb,hlt,ht,hk⟩:=h4 hn;refine⟨b,off,e,hb,hlt,ht,fun k y hy=>?_⟩;have hky:=(List.getElem?_eq_some_iff.1 hy).1;have hx:xs[k]?=some xs[k]:=List.getElem?_eq_getElem (by omega);obtain⟨vs,hv,hc⟩:=hk k _ hx;exact⟨vs,hR k _ _ vs hx hy hv,by rw[hsz];exact hc⟩
end
def Cg {α:Type}(tg:Bool) (T:TypeId) (E:Enc α):Enc (List α) where
 sz:=1
 R w S vs xs:=∃A n c,vs=[.slice A n c]∧Sl tg T E w S A n c xs
 len h:=by obtain⟨A,n,c,rfl,_⟩:=h;rfl
 one h:=by obtain⟨A,n,c,rfl,_⟩:=h;simp[Value.oneCell']
 mono hS h:=by obtain⟨A,n,c,rfl,h⟩:=h;exact⟨A,n,c,rfl,h.mono hS⟩
 frame hA hs h:=by obtain⟨A,n,c,rfl,h⟩:=h;exact⟨A,n,c,rfl,h.frame hA hs⟩
def qa (A:Option Addr):Option Nat:=A.map (·.block)
theorem qF (A:Option Addr) (n c:Nat):Value.ownBlock (.slice A n c)=qa A:=by cases A<;>rfl
def Be {α:Type}(T:TypeId) (E:Enc α) (w:World) (base:Nat) (S:Nat→Prop) (A:Option Addr) (n c:Nat) (xs:List α):Prop:=
 ∃cells,w.ownsRow base T E.sz (.slice A n c) n cells∧xs.length=n∧∀k x,xs[k]?=some x→E.R w (fun b=>S b∧some b≠qa A) ((cells.drop (k* E.sz)).take E.sz) x
section
variable {α:Type}{tg:Bool}{T:TypeId}{E:Enc α}{w w':World}{S S':Nat→Prop}{A:Option Addr}{n c base:Nat}{xs:List α}
theorem Be.BA:Be T E w base S none 0 0 ([]:List α):=⟨[],World.ownsRow_nil w base T E.sz,rfl,fun k x h=>by simp at h⟩
theorem Be.len (h:Be T E w base S A n c xs):xs.length=n:=by obtain⟨_,_,h,_⟩:=h;exact h
theorem Be.lt (h:Be T E w base S A n c xs):∀k,qa A=some k→base≤k∧k<w.heap.size:=by
 obtain⟨_,h,_⟩:=h;intro k hk;exact h.lt k (by rw[qF];exact hk)
theorem Be.le (h:Be T E w base S A n c xs):n≤c∧c≤9223372036854775807:=by
 obtain⟨_,⟨_,h⟩,_⟩:=h;rcases h with ⟨hv,hn⟩|⟨g,cap,cur,hv,_,_,hn,hm,_⟩
 ·injection hv with h1 h2 h3;subst h3;subst h2;exact⟨Nat.le_refl _,by omega⟩
 injection hv with h1 h2 h3;subst h3;unfold maxLen at hm;exact⟨hn,by omega⟩
theorem Be.frame (h:Be T E w base S A n c xs) (hA:Agree (fun b=>S b∨some b=qa A) w w') (hs:w.heap.size≤w'.heap.size):Be T E w' base S A n c xs:=by
 obtain⟨cells,ho,hl,hk⟩:=h;refine⟨cells,⟨ho.1,?_⟩,hl,fun k x hx=>E.frame (hA.mono fun b hb _=>.inl hb.1) hs (hk k x hx)⟩;rcases ho.2 with h|⟨g,cap,cur,hv,hb,hh,r⟩
 ·exact .inl h
 refine .inr ⟨g,cap,cur,hv,hb,?_,r⟩;have:qa A=some g:=by injection hv with h1;subst h1;rfl
 rw[hA g (.inr this.symm) (Array.getElem?_eq_some_iff.1 hh).1];exact hh
theorem Be.mono (h:Be T E w base S A n c xs) (hS:∀b,S b→b<w.heap.size→S' b):Be T E w base S' A n c xs:=by
 obtain⟨cells,ho,hl,hk⟩:=h;exact⟨cells,ho,hl,fun k x hx=>E.mono (fun b hb hlt=>⟨hS b hb.1 hlt,hb.2⟩) (hk k x hx)⟩
theorem Be.all (h:Be T E w base S A n c xs) (hb:Below w.heap.size w w'):Be T E w' base S A n c xs:=h.frame (.all hb) hb.size
theorem qf {w:World}{g:Nat}{cur:Array Value}{T:TypeId}{fr:Nat×Nat}(h:w.heap[g]?=some (.cells cur T fr)):w.shape? g=some (T,cur.size):=by simp[World.shape?,h]
theorem Be.sl (h:Be T E w base S A n c xs):Sl tg T E w (fun b=>S b∨base≤b) A n c xs:=by
 have hle:=h.le;obtain⟨cells,ho,hl,hk⟩:=h;refine⟨hl,hle.1,hle.2,fun hn=>?_⟩;rcases ho.2 with ⟨_,h0⟩|⟨g,cap,cur,hv,hb,hh,hnc,hcm,hcs,htake⟩
 ·omega
 injection hv with h1 h2 h3
 subst h1;subst h3;refine⟨g,0,rfl,.inr hb,(Array.getElem?_eq_some_iff.1 hh).1,fun _=>⟨_,qf hh⟩,fun k x hx=>⟨_,E.mono (fun b hb _=>.inl hb.1) (hk k x hx),fun j v hj=>?_⟩⟩
 have hj':j<E.sz∧cells[k* E.sz+j]?=some v:=by
  rw[List.getElem?_take,List.getElem?_drop] at hj
  split at hj
  ·exact⟨by assumption,hj⟩
  cases hj
 have hk':k<n:=by have:=(List.getElem?_eq_some_iff.1 hx).1;omega
 have hlt:k* E.sz+j<n* E.sz:=by
  have:(k+1)* E.sz≤n* E.sz:=Nat.mul_le_mul_right _ hk';rw[Nat.add_mul] at this;omega
 rw[show 0+k* E.sz+j=k* E.sz+j from by omega];refine⟨?_,frozen_of_row w g _ cur T hh⟩;rw[cell_of_row w g _ cur T (0,0) hh];have h2:=hj'.2;rw[←htake,List.getElem?_take,if_pos hlt] at h2;simpa using h2
end
section
variable {P:Program}{α:Type}{T:TypeId}{E:Enc α}{w:World}{S:Nat→Prop}{A:Option Addr}{n c base:Nat}{xs:List α}
theorem kI {β:Type}(l r:List β) (k s:Nat) (h:l.length=k* s) (hr:r.length=s):((l++r).drop (k* s)).take s=r:=by
 rw[←h,List.drop_left,←hr,List.take_length]
theorem xf {β:Type}(l r:List β) (k s n:Nat) (h:l.length=n* s) (hk:k<n):((l++r).drop (k* s)).take s=(l.drop (k* s)).take s:=by
 have h1:k* s+s≤l.length:=by
  have:(k+1)* s≤n* s:=Nat.mul_le_mul_right _ hk;rw[Nat.add_mul] at this;omega
 rw[List.drop_append_of_le_length (by omega),List.take_append_of_le_length (by rw[List.length_drop];omega)]
theorem xR {β:Type}(l r:List β) (k s n:Nat) (h:l.length=n* s) (hk:n≤k):((l++r).drop (k* s)).take s=(r.drop ((k - n)* s)).take s:=by
 have h1:n* s≤k* s:=Nat.mul_le_mul_right _ hk;rw[List.drop_append,List.drop_eq_nil_of_le (by omega),List.nil_append,h,Nat.sub_mul]
theorem Be.appended {w':World}{A':Option Addr}{c' m:Nat}{ys:List α}{cells news:List Value}
  (ho:w.ownsRow base T E.sz (.slice A n c) n cells) (hl:xs.length=n) (hk:∀k x,xs[k]?=some x→E.R w (fun b=>S b∧some b≠qa A) ((cells.drop (k* E.sz)).take E.sz) x)
  (hl2:ys.length=m) (hk2:∀k y,ys[k]?=some y→E.R w (fun b=>S b∧some b≠qa A) ((news.drop (k* E.sz)).take E.sz) y)
  (ho':w'.ownsRow base T E.sz (.slice A' (n+m) c') (n+m) (cells++news)) (hg:w.grownBy w' (qa A)) (hat:qa A'=qa A∨qa A'=some w.heap.size):
  Be T E w' base S A' (n+m) c' (xs++ys):=by
 have hS:∀b,(S b∧some b≠qa A)→b<w.heap.size→(S b∧some b≠qa A'):=by
  rintro b ⟨h1,h2⟩ hlt;refine⟨h1,?_⟩;rcases hat with h|h
  ·rw[h];exact h2
  rw[h];intro e;injection e with e;omega
 have hF:∀vs x,E.R w (fun b=>S b∧some b≠qa A) vs x→E.R w' (fun b=>S b∧some b≠qa A') vs x:=by
  intro vs x hR;have hR1:=E.mono (S':=fun b=>(S b∧some b≠qa A')∧some b≠qa A) (fun b hb hlt=>⟨hS b hb hlt,hb.2⟩) hR;have hR2:=E.frame (w':=w') (Agree.grown hg fun b hb=>hb.2) hg.size hR1;exact E.mono (fun b hb _=>hb.1) hR2
 refine⟨cells++news,ho',by rw[List.length_append,hl,hl2],fun k x hx=>?_⟩;by_cases hkn:k<n
 ·rw[List.getElem?_append_left (by omega)] at hx;rw[xf _ _ k E.sz n ho.1 hkn];exact hF _ _ (hk k x hx)
 rw[List.getElem?_append_right (by omega),hl] at hx;rw[xR _ _ k E.sz n ho.1 (by omega)];exact hF _ _ (hk2 _ x hx)
theorem xz {o:Oper}{a:Act}{K:Act→World→Prop}{Q:Exit→Act→World→Prop}(s x:Operand) (t:TypeId)
  (ho:o.op=.call {callee:=.builtin .append,args:=#[s,x],argTypes:=#[t,t]})
  (i:TypeInfo) (z:Value) (bytes:Nat) (ht:P.underlying t=some (.slice T)) (hi:P.info? T=some i) (hz:i.zero=some z)
  (hsize:i.size=E.sz) (hby:i.bytes=bytes) (hzs:z.cells.size=E.sz) (hsz:0<E.sz)
  (hs:a.eval s=.slice A n c) (hown:Be T E w base S A n c xs)
  (ad:Addr) (m cx:Nat) (news:List Value) (ys:List α) (hx:a.eval x=.slice (some ad) m cx) (hl:news.length=m* E.sz) (hnews:∀j u,news[j]?=some u→w.cell? (ad.add j)=some u)
  (hl2:ys.length=m) (hk2:∀k y,ys[k]?=some y→E.R w (fun b=>S b∧some b≠qa A) ((news.drop (k* E.sz)).take E.sz) y) (h1:∀u∈news,u.oneCell'=true)
  (h63:n+m≤9223372036854775807) (hbytes:(n+m)* bytes≤140737488355328) (hbase:base≤w.heap.size)
  (h:∀A' c' w',Be T E w' base S A' (n+m) c' (xs++ys)→w.grownBy w' (qa A)→(qa A'=qa A∨qa A'=some w.heap.size)→K (a.put o.dst (.slice A' (n+m) c')) w'):
  o.wp P a w K Q:=by
 obtain⟨cells,hrow,hlen,hk⟩:=hown;obtain⟨v',w',hr,hown',hgrow,_,hat⟩:=run_append_own_at (P:=P) w base t o.type T i z E.sz bytes ht hi hz hsize hby hzs hsz (.slice A n c) n cells hrow ad m cx news hl hnews h1 (by unfold maxLen;omega) hbytes hbase;rw[qF] at hgrow hat
 have hv:∃A' c',v'=.slice A' (n+m) c':=by
  rcases hown'.2 with ⟨hv,h0⟩|⟨g,cap,cur,hv,_⟩
  ·rw[h0];exact⟨none,0,hv⟩
  exact⟨_,cap,hv⟩
 obtain⟨A',c',rfl⟩:=hv;rw[qF] at hat;unfold Oper.wp execOp;simp only[ho,resolve,invoke,builtin,Sem.run_bind,Sem.run_pure,Result.andThen_ok,List.map_toArray,List.map_cons,List.map_nil,hs,hx,hr];exact h A' c' w' (Be.appended hrow hlen hk hl2 hk2 hown' hgrow hat) hgrow hat
theorem qQ {ops:Array Oper}{rest:List Oper}{o:Oper}{a:Act}{Q:Exit→Act→World→Prop}(hgd:o.guard=none) (s x:Operand) (t:TypeId)
  (ho:o.op=.call {callee:=.builtin .append,args:=#[s,x],argTypes:=#[t,t]})
  (i:TypeInfo) (z:Value) (bytes:Nat) (ht:P.underlying t=some (.slice T)) (hi:P.info? T=some i) (hz:i.zero=some z)
  (hsize:i.size=E.sz) (hby:i.bytes=bytes) (hzs:z.cells.size=E.sz) (hsz:0<E.sz)
  (hs:a.eval s=.slice A n c) (hown:Be T E w base S A n c xs)
  (ad:Addr) (m cx:Nat) (news:List Value) (ys:List α) (hx:a.eval x=.slice (some ad) m cx) (hl:news.length=m* E.sz) (hnews:∀j u,news[j]?=some u→w.cell? (ad.add j)=some u)
  (hl2:ys.length=m) (hk2:∀k y,ys[k]?=some y→E.R w (fun b=>S b∧some b≠qa A) ((news.drop (k* E.sz)).take E.sz) y) (h1:∀u∈news,u.oneCell'=true)
  (h63:n+m≤9223372036854775807) (hbytes:(n+m)* bytes≤140737488355328) (hbase:base≤w.heap.size)
  (h:∀A' c' w',Be T E w' base S A' (n+m) c' (xs++ys)→w.grownBy w' (qa A)→(qa A'=qa A∨qa A'=some w.heap.size)→wpList P ops Q rest (a.put o.dst (.slice A' (n+m) c')) w'):
  wpList P ops Q (o::rest) a w:=
 wpList_plain hgd fun _ hK=>xz s x t ho i z bytes ht hi hz hsize hby hzs hsz hs hown ad m cx news ys hx hl hnews hl2 hk2 h1 h63 hbytes hbase fun A' c' w' q1 q2 q3=>hK _ _ (h A' c' w' q1 q2 q3)
theorem kJ {o:Oper}{a:Act}{K:Act→World→Prop}{Q:Exit→Act→World→Prop}(s x:Operand) (t:TypeId)
  (ho:o.op=.call {callee:=.builtin .append,args:=#[s,x],argTypes:=#[t,t]})
  (i:TypeInfo) (z:Value) (bytes:Nat) (ht:P.underlying t=some (.slice T)) (hi:P.info? T=some i) (hz:i.zero=some z)
  (hsize:i.size=E.sz) (hby:i.bytes=bytes) (hzs:z.cells.size=E.sz) (hsz:0<E.sz)
  (hs:a.eval s=.slice A n c) (hown:Be T E w base S A n c xs)
  (g:Nat) (T':TypeId) (cx:Nat) (news:List Value) (y:α) (hx:a.eval x=.slice (some ⟨g,0,none⟩) 1 cx) (hnews:w.heap[g]?=some (.cells news.toArray T' (0,0)))
  (hk2:E.R w (fun b=>S b∧some b≠qa A) news y)
  (h63:n+1≤9223372036854775807) (hbytes:(n+1)* bytes≤140737488355328) (hbase:base≤w.heap.size)
  (h:∀A' c' w',Be T E w' base S A' (n+1) c' (xs++[y])→w.grownBy w' (qa A)→(qa A'=qa A∨qa A'=some w.heap.size)→K (a.put o.dst (.slice A' (n+1) c')) w'):
  o.wp P a w K Q:=by
 refine xz s x t ho i z bytes ht hi hz hsize hby hzs hsz hs hown ⟨g,0,none⟩ 1 cx news [y] hx (by rw[E.len hk2];omega) (fun j u hj=>?_) rfl (fun k z hz'=>?_) (E.one hk2) h63 hbytes hbase h
 ·have:=World.news_of_block hnews j u (by simpa using hj);exact this
 match k,hz' with
 |0,hz'=>simp at hz';subst hz';simp only[Nat.zero_mul,List.drop_zero];rw[List.take_of_length_le (by rw[E.len hk2];omega)];exact hk2
theorem qq {ops:Array Oper}{rest:List Oper}{o:Oper}{a:Act}{Q:Exit→Act→World→Prop}(hgd:o.guard=none) (s x:Operand) (t:TypeId)
  (ho:o.op=.call {callee:=.builtin .append,args:=#[s,x],argTypes:=#[t,t]})
  (i:TypeInfo) (z:Value) (bytes:Nat) (ht:P.underlying t=some (.slice T)) (hi:P.info? T=some i) (hz:i.zero=some z)
  (hsize:i.size=E.sz) (hby:i.bytes=bytes) (hzs:z.cells.size=E.sz) (hsz:0<E.sz)
  (hs:a.eval s=.slice A n c) (hown:Be T E w base S A n c xs)
  (g:Nat) (T':TypeId) (cx:Nat) (news:List Value) (y:α) (hx:a.eval x=.slice (some ⟨g,0,none⟩) 1 cx) (hnews:w.heap[g]?=some (.cells news.toArray T' (0,0)))
  (hk2:E.R w (fun b=>S b∧some b≠qa A) news y)
  (h63:n+1≤9223372036854775807) (hbytes:(n+1)* bytes≤140737488355328) (hbase:base≤w.heap.size)
  (h:∀A' c' w',Be T E w' base S A' (n+1) c' (xs++[y])→w.grownBy w' (qa A)→(qa A'=qa A∨qa A'=some w.heap.size)→wpList P ops Q rest (a.put o.dst (.slice A' (n+1) c')) w'):
  wpList P ops Q (o::rest) a w:=
 wpList_plain hgd fun _ hK=>kJ s x t ho i z bytes ht hi hz hsize hby hzs hsz hs hown g T' cx news y hx hnews hk2 h63 hbytes hbase fun A' c' w' q1 q2 q3=>hK _ _ (h A' c' w' q1 q2 q3)
theorem jz {ops:Array Oper}{o:Oper}{a:Act}{K:Act→World→Prop}{Q:Exit→Act→World→Prop}{X:Prop}(hgd:o.guard=none) (s x:Operand) (t:TypeId)
  (ho:o.op=.call {callee:=.builtin .append,args:=#[s,x],argTypes:=#[t,t]})
  (i:TypeInfo) (z:Value) (bytes:Nat) (ht:P.underlying t=some (.slice T)) (hi:P.info? T=some i) (hz:i.zero=some z)
  (hsize:i.size=E.sz) (hby:i.bytes=bytes) (hzs:z.cells.size=E.sz) (hsz:0<E.sz)
  (hs:a.eval s=.slice A n c) (hown:Be T E w base S A n c xs)
  (g:Nat) (T':TypeId) (cx:Nat) (news:List Value) (y:α) (hx:a.eval x=.slice (some ⟨g,0,none⟩) 1 cx) (hnews:w.heap[g]?=some (.cells news.toArray T' (0,0)))
  (hk2:E.R w (fun b=>S b∧some b≠qa A) news y)
  (h63:n+1≤9223372036854775807) (hbytes:(n+1)* bytes≤140737488355328) (hbase:base≤w.heap.size)
  (h:∀A' c' w',Be T E w' base S A' (n+1) c' (xs++[y])→w.grownBy w' (qa A)→(qa A'=qa A∨qa A'=some w.heap.size)→K (a.put o.dst (.slice A' (n+1) c')) w'):
  if Region.wanted o (yielded ops a.tmps)=true then Oper.wp P o a w K Q else X:=by
 have hw:Region.wanted o (yielded ops a.tmps)=true:=by simp[Region.wanted,hgd]
 rw[if_pos hw];exact kJ s x t ho i z bytes ht hi hz hsize hby hzs hsz hs hown g T' cx news y hx hnews hk2 h63 hbytes hbase h
theorem qt {ops:Array Oper}{o:Oper}{a:Act}{K:Act→World→Prop}{Q:Exit→Act→World→Prop}{X:Prop}(hw:Region.wanted o (yielded ops a.tmps)=true) (f:FuncId) (xs:Array Operand) (ats:Array TypeId)
  (ho:o.op=.call {callee:=.value (.func f),args:=xs,argTypes:=ats}) {fn:Func}(hf:P.funcs[f]?=some fn) (hn:(fn.name== "runtime.NumGoroutine")=false) (hb:fn.body.isNone=false)
  (vs:Array Value) (hvs:xs.map a.eval=vs) {R:Ending→World→Prop}(hc:Calls P f vs w R) (h:∀e w',R e w'→∃v,e=.returned v∧K (a.put o.dst v) w'):
  if Region.wanted o (yielded ops a.tmps)=true then Oper.wp P o a w K Q else X:=by
 rw[if_pos hw];obtain⟨dst,op,type,pos,after,guard⟩:=o;simp only at ho;subst ho;unfold Oper.wp;rw[execOp_call_go]
 have hr:∀ws:Array Value,(callFunc f ws).run P w=.ok (.enter f ws) w:=fun ws=>by
  unfold callFunc;simp only[Sem.run_bind,run_program,Result.andThen_ok,hf];rw[if_neg (by rw[hn];simp),if_neg (by rw[hb];simp)];rfl
 rw[hr,Oper.upon_enter,Array.empty_append,Array.append_empty,hvs];refine hc.mono fun e w' hR=>?_;obtain⟨v,rfl,hk⟩:=h e w' hR;exact hk
theorem qi {ops:Array Oper}{o:Oper}{a:Act}{K:Act→World→Prop}{Q:Exit→Act→World→Prop}{X:Prop}(hgd:o.guard=none) (f:FuncId) (xs:Array Operand) (ats:Array TypeId)
  (ho:o.op=.call {callee:=.value (.func f),args:=xs,argTypes:=ats}) {fn:Func}(hf:P.funcs[f]?=some fn) (hn:(fn.name== "runtime.NumGoroutine")=false) (hb:fn.body.isNone=false)
  (vs:Array Value) (hvs:xs.map a.eval=vs) {R:Ending→World→Prop}(hc:Calls P f vs w R) (h:∀e w',R e w'→∃v,e=.returned v∧K (a.put o.dst v) w'):
  if Region.wanted o (yielded ops a.tmps)=true then Oper.wp P o a w K Q else X:=
 qt (by simp[Region.wanted,hgd]) f xs ats ho hf hn hb vs hvs hc h
theorem jn {β:Type}(l:List β) (j:Nat):(l.drop j).take 1=l[j]?.toList:=by
 induction l generalizing j with
 |nil=>simp
 |cons x l ih=>cases j with
  |zero=>simp
  |succ j=>simpa using ih j
theorem Be.form (h:Be T E w base S A n c xs) (hn:0<n):∃g,A=some ⟨g,0,none⟩∧base≤g∧g<w.heap.size:=by
 obtain⟨cells,ho,_,_⟩:=h;rcases ho.2 with ⟨_,h0⟩|⟨g,cap,cur,hv,hb,hh,_⟩
 ·omega
 injection hv with h1 h2 h3
 exact⟨g,h1,hb,(Array.getElem?_eq_some_iff.1 hh).1⟩
theorem Be.set1 {g:Nat}(h:Be T E w base S (some ⟨g,0,none⟩) n c xs) (hsz:E.sz=1) {k:Nat}(hk:k<n) {v:Value}{y:α}(hR:E.R w (fun b=>S b∧some b≠some g) [v] y):
  Be T E (w.setCell ⟨g,k,none⟩ v) base S (some ⟨g,0,none⟩) n c (xs.set k y):=by
 obtain⟨cells,ho,hl,hx⟩:=h;have hA:Agree (fun b=>S b∧some b≠some g) w (w.setCell ⟨g,k,none⟩ v):=Agree.setCell (p:=⟨g,k,none⟩) (fun hh=>hh.2 rfl) v;refine⟨cells.set k v,(ho.stored k v).1,by rw[List.length_set];exact hl,fun j z hj=>?_⟩;have hcl:cells.length=n:=by have:=ho.1;rw[hsz] at this;omega
 rw[hsz,Nat.mul_one];by_cases hjk:j=k
 ·subst hjk;rw[List.getElem?_set_self (by omega)] at hj;injection hj with hj
  subst hj;have:((cells.set j v).drop j).take 1=[v]:=by rw[jn,List.getElem?_set_self (by omega)];rfl
  rw[this];exact E.frame hA (by simp) hR
 rw[List.getElem?_set_ne (Ne.symm hjk)] at hj;have h1:=hx j z hj;rw[hsz,Nat.mul_one] at h1;have hjn:j<n:=by have:=(List.getElem?_eq_some_iff.1 hj).1;omega
 have:((cells.set k v).drop j).take 1=(cells.drop j).take 1:=by rw[jn,jn,List.getElem?_set_ne (Ne.symm hjk)]
 rw[this];exact E.frame hA (by simp) h1
theorem Sl.Dx {tg:Bool}{T':TypeId}(h:Sl tg T' E w S A n c xs):∃news:List Value,news.length=n* E.sz∧(∀ad,A=some ad→ad.spot=none→∀j u,news[j]?=some u→w.cell? (ad.add j)=some u)∧
  ∀k y,xs[k]?=some y→E.R w S ((news.drop (k* E.sz)).take E.sz) y:=by
 obtain⟨h1,_,_,h4⟩:=h;rcases Nat.eq_zero_or_pos n with rfl|hn
 ·exact⟨[],by simp,fun _ _ _ j u hj=>by simp at hj,fun k y hy=>by have:=(List.getElem?_eq_some_iff.1 hy).1;omega⟩
 obtain⟨b,off,rfl,_,_,_,hk⟩:=h4 hn
 have key:∀m,m≤n→∃news:List Value,news.length=m* E.sz∧(∀j u,news[j]?=some u→w.cell? ⟨b,off+j,none⟩=some u)∧∀k y,k<m→xs[k]?=some y→E.R w S ((news.drop (k* E.sz)).take E.sz) y:=by
  intro m
  induction m with
  |zero=>exact fun _=>⟨[],by simp,fun j u hj=>by simp at hj,fun k y hk _=>by omega⟩
  |succ m ih=>
   intro hm;obtain⟨news,q1,q2,q3⟩:=ih (by omega);have hx:xs[m]?=some xs[m]:=List.getElem?_eq_getElem (by omega);obtain⟨vs,hv,hc⟩:=hk m _ hx;have hvl:=E.len hv;refine⟨news++vs,by rw[List.length_append,q1,hvl,Nat.add_mul,Nat.one_mul],fun j u hj=>?_,fun k y hkm hy=>?_⟩
   ·by_cases hjl:j<m* E.sz
    ·rw[List.getElem?_append_left (by omega)] at hj;exact q2 j u hj
    rw[List.getElem?_append_right (by omega),q1] at hj;have:=(hc _ u hj).1
    rwa [show off+m* E.sz+(j - m* E.sz)=off+j from by omega] at this
   by_cases hkm2:k<m
   ·rw[xf _ _ k E.sz m q1 hkm2];exact q3 k y hkm2 hy
   have:k=m:=by omega
   subst this;rw[kI _ _ k E.sz q1 hvl];rw[hx] at hy;injection hy with hy;subst hy;exact hv
 obtain⟨news,q1,q2,q3⟩:=key n (Nat.le_refl _);refine⟨news,q1,fun ad e _ j u hj=>?_,fun k y hy=>q3 k y (by have:=(List.getElem?_eq_some_iff.1 hy).1;omega) hy⟩;injection e with e;subst e
 have:=q2 j u hj;unfold Addr.add
 split
 ·rename_i h0;subst h0;simpa using this
 exact this
theorem jA {o:Oper}{a:Act}{K:Act→World→Prop}{Q:Exit→Act→World→Prop}(s x:Operand) (t:TypeId)
  (ho:o.op=.call {callee:=.builtin .append,args:=#[s,x],argTypes:=#[t,t]})
  (i:TypeInfo) (z:Value) (bytes:Nat) (ht:P.underlying t=some (.slice T)) (hi:P.info? T=some i) (hz:i.zero=some z)
  (hsize:i.size=E.sz) (hby:i.bytes=bytes) (hzs:z.cells.size=E.sz) (hsz:0<E.sz)
  (hs:a.eval s=.slice A n c) (hown:Be T E w base S A n c xs)
  {tg:Bool}{T':TypeId}{S2:Nat→Prop}{b off m cx:Nat}{ys:List α}(hx:a.eval x=.slice (some ⟨b,off,none⟩) m cx) (hsl:Sl tg T' E w S2 (some ⟨b,off,none⟩) m cx ys)
  (hR:∀vs y,y∈ys→E.R w S2 vs y→E.R w (fun b=>S b∧some b≠qa A) vs y)
  (h63:n+m≤9223372036854775807) (hbytes:(n+m)* bytes≤140737488355328) (hbase:base≤w.heap.size)
  (h:∀A' c' w',Be T E w' base S A' (n+m) c' (xs++ys)→w.grownBy w' (qa A)→(qa A'=qa A∨qa A'=some w.heap.size)→K (a.put o.dst (.slice A' (n+m) c')) w'):
  o.wp P a w K Q:=by
 obtain⟨news,q1,q2,q3⟩:=hsl.Dx;refine xz s x t ho i z bytes ht hi hz hsize hby hzs hsz hs hown ⟨b,off,none⟩ m cx news ys hx q1 (q2 _ rfl rfl) hsl.len (fun k y hy=>hR _ y (List.mem_of_getElem? hy) (q3 k y hy)) ?_ h63 hbytes hbase h;intro u hu;obtain⟨j,hj,rfl⟩:=List.mem_iff_getElem.1 hu;have hjn:j / E.sz<m:=Nat.div_lt_of_lt_mul (by rw[Nat.mul_comm];omega);obtain⟨y,hy⟩:∃y,ys[j / E.sz]?=some y:=⟨_,List.getElem?_eq_getElem (by rw[hsl.len];exact hjn)⟩;refine E.one (q3 _ _ hy) _ ?_;have h1:j / E.sz* E.sz+j % E.sz=j:=Nat.div_add_mod' j E.sz;refine List.mem_iff_getElem?.2 ⟨j % E.sz,?_⟩;rw[List.getElem?_take,if_pos (Nat.mod_lt _ hsz),List.getElem?_drop,h1,List.getElem?_eq_getElem hj]
theorem qT {ops:Array Oper}{rest:List Oper}{o:Oper}{a:Act}{Q:Exit→Act→World→Prop}(hgd:o.guard=none) (s x:Operand) (t:TypeId)
  (ho:o.op=.call {callee:=.builtin .append,args:=#[s,x],argTypes:=#[t,t]})
  (i:TypeInfo) (z:Value) (bytes:Nat) (ht:P.underlying t=some (.slice T)) (hi:P.info? T=some i) (hz:i.zero=some z)
  (hsize:i.size=E.sz) (hby:i.bytes=bytes) (hzs:z.cells.size=E.sz) (hsz:0<E.sz)
  (hs:a.eval s=.slice A n c) (hown:Be T E w base S A n c xs)
  {tg:Bool}{T':TypeId}{S2:Nat→Prop}{b off m cx:Nat}{ys:List α}(hx:a.eval x=.slice (some ⟨b,off,none⟩) m cx) (hsl:Sl tg T' E w S2 (some ⟨b,off,none⟩) m cx ys)
  (hR:∀vs y,y∈ys→E.R w S2 vs y→E.R w (fun b=>S b∧some b≠qa A) vs y)
  (h63:n+m≤9223372036854775807) (hbytes:(n+m)* bytes≤140737488355328) (hbase:base≤w.heap.size)
  (h:∀A' c' w',Be T E w' base S A' (n+m) c' (xs++ys)→w.grownBy w' (qa A)→(qa A'=qa A∨qa A'=some w.heap.size)→wpList P ops Q rest (a.put o.dst (.slice A' (n+m) c')) w'):
  wpList P ops Q (o::rest) a w:=
 wpList_plain hgd fun _ hK=>jA s x t ho i z bytes ht hi hz hsize hby hzs hsz hs hown hx hsl hR h63 hbytes hbase fun A' c' w' q1 q2 q3=>hK _ _ (h A' c' w' q1 q2 q3)
theorem Be.lit {base:Nat}(vs:List Value) (ys:List α) (m:Nat) (hb:base≤w.heap.size) (hm:m≤9223372036854775807) (hl:vs.length=m* E.sz) (hl2:ys.length=m)
  (hR:∀k y,ys[k]?=some y→E.R w S ((vs.drop (k* E.sz)).take E.sz) y):Be T E (w.alloc (.cells vs.toArray T)) base S (some ⟨w.heap.size,0,none⟩) m m ys:=by
 refine⟨vs,⟨hl,.inr ⟨w.heap.size,m,vs.toArray,rfl,hb,heap_alloc_new w _,Nat.le_refl _,by unfold maxLen;omega,by simpa using hl,by rw[List.take_of_length_le (by simp[hl])]⟩⟩,hl2,fun k y hy=>?_⟩;have:=E.mono (S':=fun b=>S b∧some b≠qa (some ⟨w.heap.size,0,none⟩)) (fun b hb hlt=>⟨hb,fun e=>by injection e with e;simp at e;omega⟩) (hR k y hy);exact E.frame (Agree.alloc _ _ _) (by simp) this
end
theorem qA {β:Type}{l:List β}{k:Nat}{d:β}(h:k<l.length):l.take (k+1)=l.take k++[l.getD k d]:=by
 rw[List.take_succ_eq_append_getElem h,List.getD_eq_getElem?_getD,List.getElem?_eq_getElem h];rfl
theorem qg {W w1:World}(hb:Below W.heap.size W w1):(∀b o,b<W.heap.size→w1.cell? ⟨b,o,none⟩=W.cell? ⟨b,o,none⟩)∧(∀b o,b<W.heap.size→w1.frozen? ⟨b,o,none⟩=W.frozen? ⟨b,o,none⟩):=
 ⟨fun b o h=>hb.cell (p:=⟨b,o,none⟩) h,fun b o h=>hb.frozen (p:=⟨b,o,none⟩) h⟩
open Classical in
noncomputable def _root_.Go.World.ext (w x:World):World:=if Below w.heap.size w x then x else w
theorem qx (w x:World):Below w.heap.size w (w.ext x):=by
 unfold World.ext
 split
 ·assumption
 exact Below.refl _ _
theorem Jm {w x:World}(h:Below w.heap.size w x):x=w.ext x:=by unfold World.ext;rw[if_pos h]
theorem via {B:Nat}{w W w':World}(h:Below B w W) (k:Below W.heap.size W w') (hB:B≤w.heap.size):Below B w w':=h.trans (k.mono (Nat.le_trans hB h.size))
theorem qX (w:World):∀(x:World) (b o:Nat),b<w.heap.size→(w.ext x).cell? ⟨b,o,none⟩=w.cell? ⟨b,o,none⟩:=fun x b o h=>(qx w x).cell (p:=⟨b,o,none⟩) h
theorem Jn (w x:World):w.heap.size≤(w.ext x).heap.size:=(qx w x).size
theorem Jo (w:World):∃x,{w with drawn:=w.drawn+1}=w.ext x:=⟨_,Jm ((Below.refl w.heap.size w).drew)⟩
theorem qG {P:Program}{id:Nat}{Q:Exit→Act→World→Prop}{a:Act}{w:World}{l:List Oper}(hm:P.follows .mixedOrders=true) (hB:Region.lexB .any l.toArray=true)
  (h:wpQuiet P l.toArray (fun w'=>∃x,w'=w.ext x) (fun a'=>∀w',(∃x,w'=w.ext x)→Q .normal a' w') l a):(Code.region id l.toArray true).wp P Q a w:=
 wp_region_quiet (C:=fun w'=>∃x,w'=w.ext x) hm hB (Jo w) (by simpa using h)
def Bf (v:Value) (w:World) (e:Ending) (w':World):Prop:=e=.returned v∧Below w.heap.size w w'
theorem Bf.ext {P:Program}{f:FuncId}{args:Array Value}{w x:World}{v:Value}(h:Calls P f args (w.ext x) (Bf v (w.ext x))):
  Calls P f args (w.ext x) fun e w''=>e=.returned v∧∃y,w''=w.ext y:=
 h.mono fun _ w'' ⟨he,hb⟩=>⟨he,w'',Jm ((qx w x).trans (hb.mono (Jn w x)))⟩
def zP {α:Type}(T:TypeId) (E:Enc α) (w:World) (xs:List α) (e:Ending) (w':World):Prop:=
 ∃A c,e=.returned (.slice A xs.length c)∧Be T E w' w.heap.size (fun b=>w.heap.size≤b) A xs.length c xs∧Below w.heap.size w w'
def Ed {α:Type}(E:Enc α) (w:World) (x:α) (e:Ending) (w':World):Prop:=
 ∃vs,e=.returned (.agg (List.toArray vs))∧E.R w' (fun b=>w.heap.size≤b) vs x∧Below w.heap.size w w'
theorem Be.above {α:Type}{T:TypeId}{E:Enc α}{w:World}{base:Nat}{S:Nat→Prop}{A:Option Addr}{n c:Nat}{xs:List α}(h:Be T E w base S A n c xs) (hb:∀b,w.heap.size≤b→S b):∀b,w.heap.size≤b→S b∧some b≠qa A:=
 fun b hle=>⟨hb b hle,fun e=>by have:=(h.lt b e.symm).2;omega⟩
def Bj (S:Nat→Prop) (w w':World):Prop:=Agree S w w'∧w.heap.size≤w'.heap.size
section
variable {S:Nat→Prop}{a w w':World}
theorem Bj.refl (S:Nat→Prop) (w:World):Bj S w w:=⟨.refl _ _,Nat.le_refl _⟩
theorem Bj.alloc (h:Bj S a w) (o:Obj):Bj S a (w.alloc o):=⟨h.1.trans h.2 (.alloc _ _ _),by have:=h.2;simp;omega⟩
theorem Bj.drew (h:Bj S a w):Bj S a w.drew:=h
theorem Bj.drewN (h:Bj S a w) (n:Nat):Bj S a (w.drewN n):=h
theorem Bj.setCell (h:Bj S a w) {p:Addr}(hp:¬S p.block) (u:Value):Bj S a (w.setCell p u):=⟨h.1.trans h.2 (.setCell hp u),by simpa using h.2⟩
theorem Bj.call (h:Bj S a w) (hb:Below w.heap.size w w'):Bj S a w':=⟨h.1.trans h.2 (.all hb),Nat.le_trans h.2 hb.size⟩
theorem Bj.ext (h:Bj S a w) (x:World):Bj S a (w.ext x):=h.call (qx w x)
theorem Bj.grown {row:Option Nat}(h:Bj S a w) (hg:w.grownBy w' row) (hr:∀b,S b→some b≠row):Bj S a w':=⟨h.1.trans h.2 (.grown hg hr),Nat.le_trans h.2 hg.size⟩
theorem Sl.keep {α:Type}{tg:Bool}{T:TypeId}{E:Enc α}{A:Option Addr}{n c:Nat}{xs:List α}(h:Sl tg T E w S A n c xs) (k:Bj S w w'):Sl tg T E w' S A n c xs:=h.frame k.1 k.2
theorem Enc.keep {α:Type}{E:Enc α}{vs:List Value}{x:α}(h:E.R w S vs x) (k:Bj S w w'):E.R w' S vs x:=E.frame k.1 k.2 h
end
def Enc.BB {α:Type}(E:Enc α) (T:TypeId):Prop:=∀{w w':World}{S:Nat→Prop}{vs:List Value}{x:α},
 (∀b,S b→b<w.heap.size→(∀k,w.shape? b≠some (T,k))→w'.heap[b]?=w.heap[b]?)→w.heap.size≤w'.heap.size→E.R w S vs x→E.R w' S vs x
theorem BB.flat {α:Type}{sz:Nat}{f:α→List Value}{ok:α→Prop}{hl:∀x,(f x).length=sz}{h1:∀x,∀v∈f x,v.oneCell'=true}{T:TypeId}:(flat sz f ok hl h1).BB T:=fun _ _ h=>h
theorem Sl.Ch {α:Type}{E:Enc α}{T T':TypeId}(hE:E.BB T) (hT:T'≠T) {w w':World}{S:Nat→Prop}{A:Option Addr}{n c:Nat}{xs:List α}
  (ha:∀b,S b→b<w.heap.size→(∀k,w.shape? b≠some (T,k))→w'.heap[b]?=w.heap[b]?) (hs:w.heap.size≤w'.heap.size) (h:Sl true T' E w S A n c xs):Sl true T' E w' S A n c xs:=by
 obtain⟨h1,h2,h3,h4⟩:=h;refine⟨h1,h2,h3,fun hn=>?_⟩;obtain⟨b,off,e,hb,hlt,ht,hk⟩:=h4 hn;obtain⟨q,hq⟩:=ht rfl;have hbl:w'.heap[b]?=w.heap[b]?:=ha b hb hlt (fun k e=>by rw[hq] at e;injection e with e;injection e with e _;exact hT e);refine⟨b,off,e,hb,Nat.lt_of_lt_of_le hlt hs,fun _=>⟨q,by rw[qU hbl];exact hq⟩,fun k x hx=>?_⟩;obtain⟨vs,hv,hc⟩:=hk k x hx;refine⟨vs,hE ha hs hv,fun j v hj=>?_⟩;rw[World.cell?_of_block (w:=w) (a:=⟨b,_,none⟩) hbl,World.frozen?_of_block (w:=w) (a:=⟨b,_,none⟩) hbl];exact hc j v hj
theorem BB.Cg {α:Type}{E:Enc α}{T T':TypeId}(hE:E.BB T) (hT:T'≠T):(Cg true T' E).BB T:=by
 rintro w w' S vs x ha hs ⟨A,n,c,rfl,h⟩;exact⟨A,n,c,rfl,h.Ch hE hT ha hs⟩
end Go.Silo
