/- Rows that stand as they stood, by their element type; what fit.Lay answers. -/
import Derived.Test.YtipecejghioicaaGreatR2s
import Derived.Test.YtipecejghioicaaGreatE1s
import Derived.Test.YtipecejghioicaaGreatP0s
set_option maxHeartbeats 2000000
set_option maxRecDepth 100000
namespace Go.Silo
open Go Go.RowKit
end Go.Silo
namespace Go.Proofs.YtipecejghioicaaGreat
open Go.RowKit Go.Silo
def zn (s:Shape) (n:Int):Nat:=((n+s.K* s.size - 1) / (s.K* s.size)).toNat
theorem EK {w:World}{s:Shape}{n:Int}(hs:qo s=true) (h0:0≤n) (h1:n≤100000):
  Calls Tryz.prog 111 #[.agg #[.int .i64 s.K,.int .i64 s.M,.int .i64 s.size],.int .i64 n] w (Bf (.int .i64 (zn s n:Int)) w):=by
 unfold qo at hs;have hd:=of_decide_eq_true hs;clear hs;obtain⟨k1,k2,_,_,s1,s2⟩:=hd;have p1:1≤s.K* s.size:=by have:=Int.mul_le_mul k1 s1 (by omega) (by omega);omega
 have p2:s.K* s.size≤960:=by have:=Int.mul_le_mul k2 s2 (by omega) (by omega);omega
 have hq:(zn s n:Int)=(n+s.K* s.size - 1) / (s.K* s.size):=by
  unfold zn;exact Int.toNat_of_nonneg (Int.ediv_nonneg (by omega) (by omega))
 have HQ:=zh hq;clear hq
 go_enter Tryz.func111,Tryz.ntmps111
 go_wp2
 go_ret
 exact⟨by rw[HQ.out];rfl,bz⟩
theorem zV {w:World}{s:Shape}{n:Int}(hs:qo s=true) (h0:0≤n) (h1:n≤100000):
  Calls Tryz.prog 50 #[.agg #[.int .i64 s.K,.int .i64 s.M,.int .i64 s.size],.int .i64 n] w (Bf (.int .i64 (zn s n:Int)) w):=by
 unfold qo at hs;have hd:=of_decide_eq_true hs;clear hs;obtain⟨k1,k2,_,_,s1,s2⟩:=hd;have p1:1≤s.K* s.size:=by have:=Int.mul_le_mul k1 s1 (by omega) (by omega);omega
 have p2:s.K* s.size≤960:=by have:=Int.mul_le_mul k2 s2 (by omega) (by omega);omega
 have hq:(zn s n:Int)=(n+s.K* s.size - 1) / (s.K* s.size):=by
  unfold zn;exact Int.toNat_of_nonneg (Int.ediv_nonneg (by omega) (by omega))
 have HQ:=zh hq;clear hq
 go_enter Tryz.func50,Tryz.ntmps50
 go_wp2
 go_ret
 exact⟨by rw[HQ.out];rfl,bz⟩
end Go.Proofs.YtipecejghioicaaGreat
namespace Go.Silo
open Go Go.RowKit
structure CK (X:TypeId→Prop) (W W':World):Prop where
 size:W.heap.size≤W'.heap.size
 row:∀(b:Nat) (cs:Array Value) (T:TypeId) (fr:Nat×Nat),X T→W.heap[b]?=some (.cells cs T fr)→W'.heap[b]?=some (.cells cs T fr)
section
variable {X Y:TypeId→Prop}{W W' W'':World}{S:Nat→Prop}{T:TypeId}
theorem CK.refl (X:TypeId→Prop) (W:World):CK X W W:=⟨Nat.le_refl _,fun _ _ _ _ _ h=>h⟩
theorem CK.trans (h:CK X W W') (k:CK X W' W''):CK X W W'':=⟨Nat.le_trans h.size k.size,fun b cs T fr hT hb=>k.row b cs T fr hT (h.row b cs T fr hT hb)⟩
theorem CK.mono (h:CK X W W') (hX:∀T,Y T→X T):CK Y W W':=⟨h.size,fun b cs T fr hT hb=>h.row b cs T fr (hX T hT) hb⟩
theorem CK.BI {B:Nat}{row:Option Nat}(hg:W.grownBy W' row) (hr:∀r,row=some r→B≤r∧∃o:Obj,W.heap[r]?=some o∧o.isCells=false):CK X W W':=
 ⟨hg.size,fun b cs T fr _ h=>(hg.block b (zl h) (fun e=>by
  obtain⟨_,o,ho,hc⟩:=hr b e.symm;rw[h] at ho;injection ho with ho;subst ho
  cases hc)).trans h⟩
theorem CK.of_below (h:Below W.heap.size W W'):CK X W W':=⟨h.size,fun b _ _ _ _ hb=>(h.block b (zl hb)).trans hb⟩
theorem CK.grown {row:Option Nat}(hg:W.grownBy W' row) (hr:∀r,row=some r→∃k,W.shape? r=some (T,k)) (hX:¬X T):CK X W W':=
 ⟨hg.size,fun b cs T' fr hT h=>(hg.block b (zl h) (fun e=>by
  obtain⟨k,hk⟩:=hr b e.symm;rw[qf h] at hk;injection hk with hk;injection hk with hk _
  exact hX (hk▸hT))).trans h⟩
theorem CK.setCell {p:Addr}{k:Nat}(hs:W.shape? p.block=some (T,k)) (hX:¬X T) (v:Value):CK X W (W.setCell p v):=
 ⟨by simp,fun b cs T' fr hT h=>(Below.heap_setCell W p v b (fun e=>by
  subst e;rw[qf h] at hs;injection hs with hs;injection hs with hs _
  exact hX (hs▸hT))).trans h⟩
def Enc.Cb {α:Type}(E:Enc α) (X:TypeId→Prop):Prop:=∀{W W':World}{S:Nat→Prop}{vs:List Value}{x:α},CK X W W'→E.R W S vs x→E.R W' S vs x
theorem Cb.flat {α:Type}{sz:Nat}{f:α→List Value}{ok:α→Prop}{hl:∀x,(f x).length=sz}{h1:∀x,∀v∈f x,v.oneCell'=true}:(flat sz f ok hl h1).Cb X:=fun _ h=>h
theorem ja {b q:Nat}(h:W.shape? b=some (T,q)):∃cs fr,W.heap[b]?=some (.cells cs T fr):=by
 unfold World.shape? at h
 split at h
 ·rename_i c elem fr hh
  injection h with h;injection h with h _;subst h
  exact⟨_,_,hh⟩
 cases h
theorem CK.shape (h:CK X W W') {b q:Nat}(hT:X T) (hs:W.shape? b=some (T,q)):W'.heap[b]?=W.heap[b]?:=by
 obtain⟨cs,fr,hb⟩:=ja hs;rw[hb];exact h.row _ _ _ _ hT hb
theorem Sl.ck {α:Type}{E:Enc α}{A:Option Addr}{n c:Nat}{xs:List α}(hE:E.Cb X) (hT:X T) (h:Sl true T E W S A n c xs) (hk:CK X W W'):Sl true T E W' S A n c xs:=by
 obtain⟨h1,h2,h3,h4⟩:=h;refine⟨h1,h2,h3,fun hn=>?_⟩;obtain⟨b,off,e,hb,hlt,ht,hx⟩:=h4 hn;obtain⟨q,hq⟩:=ht rfl;have hbl:=hk.shape hT hq;refine⟨b,off,e,hb,Nat.lt_of_lt_of_le hlt hk.size,fun _=>⟨q,by rw[qU hbl];exact hq⟩,fun k x hx'=>?_⟩;obtain⟨vs,hv,hc⟩:=hx k x hx';refine⟨vs,hE hk hv,fun j v hj=>?_⟩;rw[World.cell?_of_block (w:=W) (a:=⟨b,_,none⟩) hbl,World.frozen?_of_block (w:=W) (a:=⟨b,_,none⟩) hbl];exact hc j v hj
theorem Cb.Cg {α:Type}{E:Enc α}(hE:E.Cb X) (hT:X T):(Cg true T E).Cb X:=by
 rintro W W' S vs x hk ⟨A,n,c,rfl,h⟩;exact⟨A,n,c,rfl,h.ck hE hT hk⟩
theorem Be.ck {α:Type}{E:Enc α}{base:Nat}{A:Option Addr}{n c:Nat}{xs:List α}(hE:E.Cb X) (hT:X T) (h:Silo.Be T E W base S A n c xs) (hk:CK X W W'):Silo.Be T E W' base S A n c xs:=by
 obtain⟨cells,ho,hl,hx⟩:=h;refine⟨cells,⟨ho.1,?_⟩,hl,fun k x h=>hE hk (hx k x h)⟩;rcases ho.2 with h|⟨g,cap,cur,hv,hb,hh,r⟩
 ·exact .inl h
 exact .inr ⟨g,cap,cur,hv,hb,hk.row _ _ _ _ hT hh,r⟩
theorem Be.shape {α:Type}{E:Enc α}{base:Nat}{A:Option Addr}{n c:Nat}{xs:List α}(h:Silo.Be T E W base S A n c xs):∀r,qa A=some r→∃k,W.shape? r=some (T,k):=by
 obtain⟨cells,ho,_⟩:=h;intro r hr;rcases ho.2 with ⟨hv,_⟩|⟨g,cap,cur,hv,hb,hh,_⟩
 ·injection hv with h1 h2 h3;subst h1;cases hr
 injection hv with h1 h2 h3;subst h1;simp only[qa,Option.map_some] at hr;injection hr with hr;subst hr
 exact⟨_,qf hh⟩
end
structure BK (B:Nat) (Z:Nat→Prop) (X:TypeId→Prop) (W W':World):Prop where
 kf:KeepsFrom B W W'
 kp:Bj Z W W'
 ck:CK X W W'
section
variable {B:Nat}{Z:Nat→Prop}{X:TypeId→Prop}{W W' W'':World}
theorem BK.refl (B:Nat) (Z:Nat→Prop) (X:TypeId→Prop) (W:World):BK B Z X W W:=⟨.refl _ _,.refl _ _,.refl _ _⟩
theorem BK.grown {row:Option Nat}(h:BK B Z X W W') (hg:W'.grownBy W'' row) (hr:∀r,row=some r→(∃T k,W'.shape? r=some (T,k)∧¬X T)∧¬Z r):BK B Z X W W'':=by
 refine⟨h.kf.trans ⟨hg.size,fun k o _ hk ho=>(hg.block k (zl hk) (fun e=>?_)).trans hk⟩,⟨h.kp.1.trans h.kp.2 (Agree.grown hg fun b hb e=>(hr b e.symm).2 hb),Nat.le_trans h.kp.2 hg.size⟩,h.ck.trans ⟨hg.size,fun b cs T fr hT hb=>(hg.block b (zl hb) (fun e=>?_)).trans hb⟩⟩
 ·obtain⟨⟨T,q,hq,_⟩,_⟩:=hr k e.symm;obtain⟨cs,fr,hh⟩:=ja hq;rw[hk] at hh;injection hh with hh;subst hh
  cases ho
 obtain⟨⟨T',q,hq,hX⟩,_⟩:=hr b e.symm;rw[qf hb] at hq;injection hq with hq;injection hq with hq _
 exact hX (hq▸hT)
theorem BK.alloc (h:BK B Z X W W') (o:Obj):BK B Z X W (W'.alloc o):=h.grown (World.grownBy_alloc W' o none) (fun r e=>by cases e)
theorem BK.drew (h:BK B Z X W W'):BK B Z X W W'.drew:=⟨⟨h.kf.size,h.kf.same⟩,h.kp.drew,⟨h.ck.size,h.ck.row⟩⟩
theorem BK.setCell (h:BK B Z X W W') {p:Addr}{T:TypeId}{k:Nat}(hs:W'.shape? p.block=some (T,k)) (hX:¬X T) (hZ:¬Z p.block) (v:Value):BK B Z X W (W'.setCell p v):=by
 refine h.grown (row:=some p.block) ⟨rfl,rfl,rfl,by simp,fun j _ hj=>Below.heap_setCell W' p v j (fun e=>hj (by rw[e]))⟩ (fun r e=>?_);injection e with e;subst e
 exact⟨⟨T,k,hs,hX⟩,hZ⟩
end
end Go.Silo
namespace Go.Proofs.YtipecejghioicaaGreat
open Go.RowKit Go.Silo Go.Shelf
section
variable {S:Nat→Prop}{g k:Nat}{A0 A1:Option Addr}{n0 c0 n1 c1:Nat}{x:Bg}{W W':World}
theorem XS.ck {X:TypeId→Prop}(h:XS S g A0 n0 c0 A1 n1 c1 x W) (hk:CK X W W') (h1:X 40) (h2:X 4) (h3:X 36) (h4:X 3):XS S g A0 n0 c0 A1 n1 c1 x W':=
 ⟨hk.row _ _ _ _ h1 h.row,h.live.ck Cb.flat h2 hk,h.free.ck (Cb.Cg Cb.flat h4) h3 hk⟩
theorem Handed.ck {X:TypeId→Prop}{B:Nat}{pre:List (Value×Value)}{v:Value×Value}(h:Handed x k B pre v W) (hk:CK X W W') (h1:X 88):Handed x k B pre v W':=by
 rcases h with h|⟨a,A,c,e,l,o⟩
 ·exact .inl h
 exact .inr ⟨a,A,c,e,l,o.ck Cb.flat h1 hk⟩
end
end Go.Proofs.YtipecejghioicaaGreat
