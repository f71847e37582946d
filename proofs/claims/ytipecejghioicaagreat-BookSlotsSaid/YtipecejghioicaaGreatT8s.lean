/- Slots.New. -/
import Derived.Test.YtipecejghioicaaGreatT1s
import Derived.Test.YtipecejghioicaaGreatP0s
import Derived.Ground.Names2Prog
import Derived.Shelf.Slices.SearchI
import Derived.Shelf.Slices.Empties
import Derived.Shelf.Spec.SlicesInsert
import Derived.Shelf.Spec.SlicesInsertGrow
import Derived.Test.YtipecejghioicaaGreatB3s
namespace Go.Proofs.YtipecejghioicaaGreat
open Go.RowKit Go.Silo
def CS (w:World) (r:Bg×Int) (e:Ending) (w':World):Prop:=
 ∃A0 n0 c0 A1 n1 c1,e=.returned (.tuple #[.agg #[.slice A0 n0 c0,.slice A1 n1 c1],.int .i64 r.2])∧
  Sl true 4 Bn w' (fun b=>w.heap.size≤b) A0 n0 c0 r.1.live∧Sl true 36 (Cg true 3 Bd) w' (fun b=>w.heap.size≤b) A1 n1 c1 r.1.free∧Below w.heap.size w w'
theorem CS.bad {w w':World}{R:Bg×Int}{e:Int}(h:R=(⟨[],[]⟩,e)) (hb:Below w.heap.size w w'):CS w R (.returned (.tuple #[.agg #[.slice none 0 0,.slice none 0 0],.int .i64 e])) w':=by
 subst h;exact⟨_,_,_,_,_,_,rfl,Sl.BA (by decide),Sl.BA (by decide),hb⟩
end Go.Proofs.YtipecejghioicaaGreat
namespace Go.Proofs.YtipecejghioicaaGreat
open Go.RowKit Go.Silo
def Dp:Enc (List Int×Nat×Nat) where
 sz:=1
 R w S vs x:=∃A c,vs=[.slice A x.1.length c]∧Be 3 Bd w x.2.1 (fun b=>x.2.1≤b∧b<x.2.2) A x.1.length c x.1∧(∀r,qa A=some r→x.2.1≤r∧r<x.2.2)∧x.2.2≤w.heap.size∧(∀b,x.2.1≤b→b<x.2.2→S b)
 len h:=by obtain⟨A,c,rfl,_⟩:=h;rfl
 one h:=by obtain⟨A,c,rfl,_⟩:=h;simp[Value.oneCell']
 mono hS h:=by
  obtain⟨A,c,rfl,ho,hr,hs,hb⟩:=h;exact⟨A,c,rfl,ho,hr,hs,fun b h1 h2=>hS b (hb b h1 h2) (by omega)⟩
 frame hA hs h:=by
  obtain⟨A,c,rfl,ho,hr,hz,hb⟩:=h;refine⟨A,c,rfl,ho.frame (fun b hb2 hlt=>hA b ?_ hlt) hs,hr,Nat.le_trans hz hs,hb⟩;rcases hb2 with h|h
  ·exact hb b h.1 h.2
  have:=hr b h.symm;exact hb b this.1 this.2
theorem QT:Dp.sz=1:=rfl
structure Cu (top:Nat) (ys:List (List Int×Nat×Nat)) (xs:List (List Int)):Prop where
 lists:ys.map (·.1)=xs
 apart:ys.Pairwise (fun a b=>a.2.2≤b.2.1)
 top:∀y∈ys,y.2.2≤top
theorem Cu.nil {t:Nat}:Cu t [] []:=⟨rfl,.nil,by simp⟩
theorem Cu.snoc {t t' lo hi:Nat}{ys xs}{l:List Int}(h:Cu t ys xs) (hlo:t≤lo) (hlh:lo≤hi) (hhi:hi≤t'):Cu t' (ys++[(l,lo,hi)]) (xs++[l]):=by
 refine⟨by rw[List.map_append,h.1];rfl,List.pairwise_append.2 ⟨h.2,List.pairwise_singleton _ _,?_⟩,?_⟩
 ·intro a ha b hb;rw[List.mem_singleton] at hb;subst hb;exact Nat.le_trans (h.3 a ha) hlo
 intro y hy;rcases List.mem_append.1 hy with hy|hy
 ·exact Nat.le_trans (h.3 y hy) (by omega)
 rw[List.mem_singleton] at hy;subst hy;exact hhi
theorem JI {W w5:World}{o:Obj}{A5:Option Addr}{c5:Nat}{l:List Int}{S:Nat→Prop}{lo:Nat}(h:Be 3 Bd w5 W.heap.size (fun b=>W.heap.size≤b) A5 l.length c5 l) (hlo:lo=W.heap.size) (hS:∀b,lo≤b→S b):
  Dp.R (w5.alloc o) S [.slice A5 l.length c5] (l,lo,w5.heap.size):=by
 subst hlo;have hf:Be 3 Bd w5 W.heap.size (fun b=>W.heap.size≤b∧b<w5.heap.size) A5 l.length c5 l:=h.mono fun b hb hlt=>⟨hb,hlt⟩
 exact⟨A5,c5,rfl,hf.frame (Agree.alloc _ _ _) (by simp),fun r hr=>h.lt r hr,by simp,fun b h1 _=>hS b h1⟩
end Go.Proofs.YtipecejghioicaaGreat
namespace Go.Proofs
open Go.Shelf Go.Lib Go.RowKit
def Tryz.Df:Go.Shelf.Ren:=⟨fun|25=>81|31=>113|32=>114|37=>135|n=>n,fun|3=>3|4=>4|22=>36|40=>83|n=>n,fun n=>n⟩
theorem Tryz.DK:Lays2.n25 Tryz.prog Tryz.Df where
 mixed:=by kernel_rfl
 f25:=Tryz.func81.trans (congrArg some (by kernel_rfl))
 f31:=Tryz.func113.trans (congrArg some (by kernel_rfl))
 f32:=Tryz.func114.trans (congrArg some (by kernel_rfl))
 f37:=Tryz.func135.trans (congrArg some (by kernel_rfl))
 t0:=Tryz.underlying0
 a0:=Tryz.isAgg0
 z0:=Tryz.sizeOf0
 v0:=Tryz.zeroValue0
 t3:=Tryz.underlying3
 a3:=Tryz.isAgg3
 z3:=Tryz.sizeOf3
 v3:=Tryz.zeroValue3
 t4:=Tryz.underlying4
 a4:=Tryz.isAgg4
 z4:=Tryz.sizeOf4
 v4:=Tryz.zeroValue4
 t22:=Tryz.underlying36
 a22:=Tryz.isAgg36
 z22:=Tryz.sizeOf36
 v22:=Tryz.zeroValue36
 t40:=Tryz.underlying83
 a40:=Tryz.isAgg83
 z40:=Tryz.sizeOf83
 v40:=Tryz.zeroValue83
end Go.Proofs
namespace Go.Proofs.YtipecejghioicaaGreat
open Go.RowKit Go.Silo Go.Lib
def Er (i:Nat) (x:Int) (l:List Int):List Int:=l.take i++x::l.drop i
theorem kZ {tg:Bool}{T:TypeId}{S:Nat→Prop}{w:World}{A:Option Addr}{n c:Nat}{l:List Int}{x:Int}(h:Sl tg T Bd w S A n c l) (hb:n<4611686018427387904) (hs:l.Pairwise (·≤·)):
  Calls Tryz.prog 81 #[.slice A n c,.int .i64 x] w fun e w'=>e=.returned (.tuple #[.int .i64 (l.countP (·<x):Nat),.bool (l.contains x)])∧∃q,w'=w.drewN q:=by
 have hl:=h.len;rcases Nat.eq_zero_or_pos n with rfl|hn
 ·obtain rfl:l=[]:=List.eq_nil_of_length_eq_zero hl;have:=Any.slices_BinarySearch_int_empty Tryz.DK A c x w;refine this.mono ?_;rintro e w' ⟨rfl,hw⟩;exact⟨rfl,0,hw.trans (by cases w;rfl)⟩
 obtain⟨b,off,rfl,_⟩:=h.BD hn
 have:=Any.slices_BinarySearch_int Tryz.DK b off n c l x w (by omega) hb (fun j hj=>by
  obtain⟨b',off',e,_,_,_,hc,_⟩:=h.BD (k:=j) (by omega);injection e with e;injection e with e1 e2 _;subst e1;subst e2
  exact hc) (by rw[List.take_of_length_le (by omega)];exact hs)
 rw[List.take_of_length_le (by omega)] at this;exact this
end Go.Proofs.YtipecejghioicaaGreat
namespace Go.Proofs.YtipecejghioicaaGreat
open Go.RowKit Go.Silo
theorem _root_.Go.Silo.Sl.at1 {α:Type}{tg:Bool}{T:TypeId}{E:Enc α}{w:World}{S:Nat→Prop}{A:Option Addr}{n c:Nat}{xs:List α}(h:Sl tg T E w S A n c xs) (hsz:E.sz=1) {k:Nat}(hk:k<n) {x:α}(hx:xs[k]?=some x):
  ∃b off v,A=some ⟨b,off,none⟩∧S b∧b<w.heap.size∧E.R w S [v] x∧w.cell? ⟨b,off+k,none⟩=some v∧w.frozen? ⟨b,off+k,none⟩=false:=by
 obtain⟨h1,_,_,h4⟩:=h;obtain⟨b,off,e,hb,hlt,_,hc⟩:=h4 (by omega);obtain⟨vs,hv,hcc⟩:=hc k x hx;have hl:=E.len hv;rw[hsz] at hl
 obtain⟨v,rfl⟩:∃v,vs=[v]:=by
  match vs,hl with
  |[v],_=>exact⟨v,rfl⟩
 have:=hcc 0 v rfl;rw[hsz,Nat.mul_one,Nat.add_zero] at this;exact⟨b,off,v,e,hb,hlt,hv,this.1,this.2⟩
theorem _root_.Go.Silo.Sl.redo {α β:Type}{T:TypeId}{E:Enc α}{F:Enc β}{w w5:World}{S S':Nat→Prop}{b off n c d:Nat}{ys:List α}{zs:List β}{nv:Value}(h:Sl true T E w S (some ⟨b,off,none⟩) n c ys) (hE:E.sz=1) (hF:F.sz=1) (hd:d<n)
  (hbb:w5.heap[b]?=w.heap[b]?) (hsz:w.heap.size≤w5.heap.size) (hS':S' b) (hl:zs.length=n) {z:β}(hz:zs[d]?=some z) (hdz:F.R (w5.setCell ⟨b,off+d,none⟩ nv) S' [nv] z)
  (hx:∀k y z v,k≠d→ys[k]?=some y→zs[k]?=some z→E.R w S [v] y→F.R (w5.setCell ⟨b,off+d,none⟩ nv) S' [v] z):
  Sl true T F (w5.setCell ⟨b,off+d,none⟩ nv) S' (some ⟨b,off,none⟩) n c zs:=by
 have rP:=h.len;obtain⟨b',off',e,hb,hlt,ht,hc⟩:=h.2.2.2 (by omega);injection e with e;injection e with e1 e2 _;subst e1;subst e2
 obtain⟨q,hq⟩:=ht rfl;refine⟨hl,h.le,h.cap,fun _=>⟨b,off,rfl,hS',by rw[World.size_setCell];omega,fun _=>⟨q,by rw[xA,qU hbb];exact hq⟩,fun k z' hk=>?_⟩⟩;have hkl:=(List.getElem?_eq_some_iff.1 hk).1;rw[hF];by_cases hkd:k=d
 ·subst hkd;rw[hk] at hz;injection hz with hz;subst hz
  refine⟨[nv],hdz,fun i u hi=>?_⟩
  match i,hi with
  |0,hi=>
   simp at hi;subst hi;obtain⟨y,hy⟩:∃y,ys[k]?=some y:=⟨_,List.getElem?_eq_getElem (by omega)⟩;obtain⟨b2,off2,v,e,_,_,_,hcell,hfr⟩:=h.at1 hE hd hy;injection e with e;injection e with e1 e2 _;subst e1;subst e2
   rw[Nat.mul_one,Nat.add_zero];exact⟨World.cell?_setCell_same _ _ _ ((World.cell?_of_block (a:=⟨b,off+k,none⟩) hbb).trans hcell),by rw[World.frozen?_setCell];exact(World.frozen?_of_block (a:=⟨b,off+k,none⟩) hbb).trans hfr⟩
 obtain⟨y,hy⟩:∃y,ys[k]?=some y:=⟨_,List.getElem?_eq_getElem (by omega)⟩;obtain⟨b2,off2,v,e,_,_,hR,hcell,hfr⟩:=h.at1 hE (by omega) hy;injection e with e;injection e with e1 e2 _;subst e1;subst e2
 refine⟨[v],hx k y z' v hkd hy hk hR,fun i u hi=>?_⟩
 match i,hi with
 |0,hi=>
  simp at hi;subst hi;rw[Nat.mul_one,Nat.add_zero];exact⟨by rw[World.cell?_setCell_other _ _ _ _ (by simp<;>omega)];exact(World.cell?_of_block (a:=⟨b,off+k,none⟩) hbb).trans hcell,by rw[World.frozen?_setCell];exact(World.frozen?_of_block (a:=⟨b,off+k,none⟩) hbb).trans hfr⟩
theorem _root_.Go.Silo.Be.CG {α:Type}{T:TypeId}{E:Enc α}{w:World}{base:Nat}{S:Nat→Prop}{A:Option Addr}{n c:Nat}{xs:List α}(h:Be T E w base S A n c xs) {p:Addr}(hA:A=some p):∃cur,w.heap[p.block]?=some (.cells cur T (0,0)):=by
 obtain⟨cells,ho,_,_⟩:=h;rcases ho.2 with ⟨hv',h0⟩|⟨g,cap,cur,hv',hb,hh,_,_,hcs,_⟩
 ·injection hv' with h1 h2 h3;rw[hA] at h1;cases h1
 injection hv' with h1 h2 h3;rw[hA] at h1;injection h1 with h1;subst h1;exact⟨cur,hh⟩
end Go.Proofs.YtipecejghioicaaGreat
namespace Go.Proofs.YtipecejghioicaaGreat
open Go.RowKit Go.Silo
def NF (base n k0 k1:Nat) (A0:Option Addr) (c0:Nat) (A1:Option Addr) (c1:Nat) (w:World):Prop:=
 Be 4 Bn w base (fun _=>False) A0 k0 c0 (List.replicate k0 true)∧
 ∃S:Nat→Prop,Be 36 (Cg true 3 Bd) w base S A1 k1 c1 (List.replicate k1 (za n))∧(∀b,S b→base≤b∧b<w.heap.size∧some b≠qa A0)∧(∀b,qa A0=some b→qa A1≠some b)
theorem NF.frame {base n k0 k1:Nat}{A0 A1:Option Addr}{c0 c1:Nat}{w w':World}(h:NF base n k0 k1 A0 c0 A1 c1 w) (ha:∀b,base≤b→b<w.heap.size→w'.heap[b]?=w.heap[b]?) (hs:w.heap.size≤w'.heap.size):NF base n k0 k1 A0 c0 A1 c1 w':=by
 obtain⟨h0,S,h1,h2,h3⟩:=h;refine⟨h0.frame (fun b hb hlt=>?_) hs,S,h1.frame (fun b hb hlt=>?_) hs,fun b hb=>?_,h3⟩
 ·rcases hb with hb|hb
  ·exact hb.elim
  exact ha b (h0.lt b hb.symm).1 hlt
 ·rcases hb with hb|hb
  ·exact ha b (h2 b hb).1 hlt
  exact ha b (h1.lt b hb.symm).1 hlt
 have:=h2 b hb;exact⟨this.1,by omega,this.2.2⟩
theorem NF.live {base n k0 k1:Nat}{A0 A1 A0':Option Addr}{c0 c1 c0':Nat}{w w':World}(h:NF base n k0 k1 A0 c0 A1 c1 w) (ho:Be 4 Bn w' base (fun _=>False) A0' (k0+1) c0' (List.replicate k0 true++[true])) (hg:w.grownBy w' (qa A0))
  (hat:qa A0'=qa A0∨qa A0'=some w.heap.size):NF base n (k0+1) k1 A0' c0' A1 c1 w':=by
 obtain⟨h0,S,h1,h2,h3⟩:=h;rw[←List.replicate_succ'] at ho;refine⟨ho,S,h1.frame (fun b hb hlt=>?_) hg.size,fun b hb=>?_,fun b hb=>?_⟩
 ·refine hg.block b hlt ?_;rcases hb with hb|hb
  ·exact(h2 b hb).2.2
  exact fun e=>h3 b e.symm hb.symm
 ·have:=h2 b hb;refine⟨this.1,by have:=hg.size;omega,?_⟩;rcases hat with e|e
  ·rw[e];exact this.2.2
  rw[e];intro e2;injection e2 with e2;omega
 rcases hat with e|e
 ·exact h3 b (e.symm.trans hb)
 intro e2;have:=(h1.lt b e2).2;rw[e] at hb;injection hb with hb
 omega
theorem NF.free {base n k0 k1:Nat}{A0 A1 pD:Option Addr}{c0 c1':Nat}{w w':World}{S:Nat→Prop}(h0:Be 4 Bn w base (fun _=>False) A0 k0 c0 (List.replicate k0 true)) (h2:∀b,S b→base≤b∧b<w.heap.size∧some b≠qa A0) (h3:∀b,qa A0=some b→qa A1≠some b)
  (ho:Be 36 (Cg true 3 Bd) w' base S pD (k1+1) c1' (List.replicate k1 (za n)++[za n])) (hg:w.grownBy w' (qa A1))
  (hat:qa pD=qa A1∨qa pD=some w.heap.size):NF base n k0 (k1+1) A0 c0 pD c1' w':=by
 rw[←List.replicate_succ'] at ho;refine⟨h0.frame (fun b hb hlt=>?_) hg.size,S,ho,fun b hb=>?_,fun b hb=>?_⟩
 ·rcases hb with hb|hb
  ·exact hb.elim
  exact hg.block b hlt (fun e=>h3 b hb.symm e.symm)
 ·have:=h2 b hb;exact⟨this.1,by have:=hg.size;omega,this.2.2⟩
 rcases hat with e|e
 ·rw[e];exact h3 b hb
 rw[e];intro e2;injection e2 with e2
 have:=(h0.lt b hb).2;omega
theorem Qa (w:World) (o0:Obj) (c1:Array Value) (T1:TypeId):((w.alloc o0).alloc (.cells c1 T1)).heap[w.heap.size+1]?=some (.cells c1 T1 (0,0)):=by
 have e1:(w.alloc o0).heap.size=w.heap.size+1:=by simp
 rw[←e1];exact heap_alloc_new _ _
theorem jF (w:World) (o1:Obj) (c0:Array Value) (T0:TypeId):((w.alloc (.cells c0 T0)).alloc o1).heap[w.heap.size]?=some (.cells c0 T0 (0,0)):=by
 rw[Below.heap_alloc _ _ _ (by simp)];exact heap_alloc_new _ _
def EO (d n:Nat):Bg:=⟨List.replicate d true,List.replicate d (za n)⟩
end Go.Proofs.YtipecejghioicaaGreat
