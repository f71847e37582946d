/- Siloref16.Apply's regions that make memory, each over a frame of letters, first part. -/
import Derived.Test.YtipecejghioicaaGreatY1p
import Derived.Test.YtipecejghioicaaGreatY8p
import Derived.Test.YtipecejghioicaaGreatE2p
import Derived.Deep.Upon
import Derived.Test.YtipecejghioicaaGreatB6p
set_option maxHeartbeats 8000000
set_option maxRecDepth 100000
namespace Go.Silo
open Go Go.RowKit
inductive D7 (V:World) (R:List Nat→Nat→Value→World→Prop) (s1:Nat) (st1:List (Nat×Value)→World→World):List (Nat×Value)→World→Prop
 |pre {us:List (Nat×Value)}{W:World}:Below V.heap.size V W→(∀i v,(i,v)∈us→R (us.map Prod.fst) i v W)→s1∉us.map Prod.fst→D7 V R s1 st1 us W
 |one {us:List (Nat×Value)}{W:World}{x:Value}:Below V.heap.size V W→(∀i v,(i,v)∈us→R (us.map Prod.fst) i v W)→s1∉us.map Prod.fst→D7 V R s1 st1 (us++[(s1,x)]) (st1 us W)
section
variable {V W W':World}{R:List Nat→Nat→Value→World→Prop}{s1:Nat}{st1:List (Nat×Value)→World→World}{us:List (Nat×Value)}
theorem D7.init:D7 V R s1 st1 [] V.drew:=.pre (Below.refl _ _).drew (fun _ _ h=>by cases h) (by simp)
theorem D7.early (h:D7 V R s1 st1 us W) (hn:s1∉us.map Prod.fst):Below V.heap.size V W∧∀i v,(i,v)∈us→R (us.map Prod.fst) i v W:=by
 cases h with
 |pre hb h _=>exact⟨hb,h⟩
 |one _ _ _=>exact absurd (by simp) hn
theorem D7.snoc (h:D7 V R s1 st1 us W) {i:Nat}{x:Value}(h1:i≠s1) (hn:s1∉us.map Prod.fst) (hb:Below V.heap.size V W') (hs:∀j v,j∈us.map Prod.fst→R (us.map Prod.fst) j v W→R (us.map Prod.fst++[i]) j v W') (hx:R (us.map Prod.fst++[i]) i x W'):D7 V R s1 st1 (us++[(i,x)]) W':=by
 obtain⟨_,hR⟩:=h.early hn;refine .pre hb (fun j v hj=>?_) ?_
 ·rw[List.map_append];rcases List.mem_append.1 hj with hj|hj
  ·exact hs j v (List.mem_map.2 ⟨_,hj,rfl⟩) (hR j v hj)
  simp at hj;obtain⟨rfl,rfl⟩:=hj;exact hx
 rw[List.map_append,List.mem_append];rintro(h|h)
 ·exact hn h
 simp at h;exact h1 h.symm
theorem D7.store (h:D7 V R s1 st1 us W) (hn:s1∉us.map Prod.fst) {x:Value}:D7 V R s1 st1 (us++[(s1,x)]) (st1 us W):=.one (h.early hn).1 (h.early hn).2 hn
theorem D7.last (h:D7 V R s1 st1 us W) (h1:s1∈us.map Prod.fst):∃gX W0 x,us=gX++[(s1,x)]∧W=st1 gX W0∧Below V.heap.size V W0∧(∀i v,(i,v)∈gX→R (gX.map Prod.fst) i v W0)∧s1∉gX.map Prod.fst:=by
 cases h with
 |pre _ _ h=>exact absurd h1 h
 |@one gX W0 x a b c=>exact⟨gX,W0,x,rfl,rfl,a,b,c⟩
end
theorem Sl.Cg {α:Type}{tg:Bool}{T:TypeId}{E:Enc α}{w:World}{S:Nat→Prop}{b off n c:Nat}{xs:List α}(h:Sl tg T E w S (some ⟨b,off,none⟩) n c xs) {k:Nat}(hk:k<n):Sl tg T E w S (some ⟨b,off+k* E.sz,none⟩) (n - k) (c - k) (xs.drop k):=by
 obtain⟨h1,h2,h3,h4⟩:=h;refine⟨by rw[List.length_drop];omega,by omega,by omega,fun _=>?_⟩;obtain⟨b',off',e,hb,hl,ht,hc⟩:=h4 (by omega);injection e with e;injection e with e1 e2 _;subst e1;subst e2
 refine⟨b,off+k* E.sz,rfl,hb,hl,ht,fun j y hj=>?_⟩;rw[List.getElem?_drop] at hj;obtain⟨vs,hR,hcc⟩:=hc (k+j) y hj;refine⟨vs,hR,fun i v hv=>?_⟩;have:=hcc i v hv;rw[Nat.add_mul] at this;rw[show off+k* E.sz+j* E.sz+i=off+(k* E.sz+j* E.sz)+i by omega];exact this
theorem Qn {P:Program}{ops:Array Oper}{o:Oper}{a:Act}{w:World}{K:Act→World→Prop}{Q:Exit→Act→World→Prop}{X:Prop}(hgd:o.guard=none) (s x:Operand) (t e:TypeId)
  (ho:o.op=.call {callee:=.builtin .append,args:=#[s,x],argTypes:=#[t,t]}) (i:TypeInfo) (ht:P.underlying t=some (.slice e)) (hi:P.info? e=some i)
  {A B:Option Addr}{n c cx:Nat}(hs:a.eval s=.slice A n c) (hle:n≤c) (hx:a.eval x=.slice B 0 cx) (hK:K (a.put o.dst (.slice A n c)) w):
  if Region.wanted o (yielded ops a.tmps)=true then Oper.wp P o a w K Q else X:=by
 have hw:Region.wanted o (yielded ops a.tmps)=true:=by simp[Region.wanted,hgd]
 rw[if_pos hw]
 have hsrc:Src P i.size t (.slice B 0 cx) 0 [] w:=by
  cases B with
  |none=>exact Src.ofNil w ht cx
  |some ad=>exact Src.ofSlice w ht ad 0 cx [] (by simp) (fun j u hj=>by simp at hj) (fun u hu=>by simp at hu)
 have hrun:=run_append_nothing w t t o.type e i ht hi A n c hle (.slice B 0 cx) hsrc;unfold Oper.wp;simp[execOp,ho,resolve,invoke,builtin,hs,hx,hrun,Result.andThen];exact hK
theorem EF {α:Type}{P:Program}{T:TypeId}{E:Enc α}{w:World}{base:Nat}{S:Nat→Prop}{A:Option Addr}{n c:Nat}{xs:List α}{ops:Array Oper}{o:Oper}{a:Act}{K:Act→World→Prop}{Q:Exit→Act→World→Prop}{X:Prop}(hgd:o.guard=none) (s x:Operand) (t:TypeId)
  (ho:o.op=.call {callee:=.builtin .append,args:=#[s,x],argTypes:=#[t,t]})
  (i:TypeInfo) (z:Value) (bytes:Nat) (ht:P.underlying t=some (.slice T)) (hi:P.info? T=some i) (hz:i.zero=some z)
  (hsize:i.size=E.sz) (hby:i.bytes=bytes) (hzs:z.cells.size=E.sz) (hsz:0<E.sz)
  (hs:a.eval s=.slice A n c) (hown:Bo T E w base S A n c xs)
  {tg:Bool}{T':TypeId}{S2:Nat→Prop}{b off m cx:Nat}{ys:List α}(hx:a.eval x=.slice (some ⟨b,off,none⟩) m cx) (hsl:Sl tg T' E w S2 (some ⟨b,off,none⟩) m cx ys)
  (hR:∀vs y,y∈ys→E.R w S2 vs y→E.R w (fun b=>S b∧some b≠qd A) vs y)
  (h63:n+m≤9223372036854775807) (hbytes:(n+m)* bytes≤140737488355328) (hbase:base≤w.heap.size)
  (h:∀A' c' w',Bo T E w' base S A' (n+m) c' (xs++ys)→w.grownBy w' (qd A)→(qd A'=qd A∨qd A'=some w.heap.size)→K (a.put o.dst (.slice A' (n+m) c')) w'):
  if Region.wanted o (yielded ops a.tmps)=true then Oper.wp P o a w K Q else X:=by
 have hw:Region.wanted o (yielded ops a.tmps)=true:=by simp[Region.wanted,hgd]
 rw[if_pos hw];exact jQ s x t ho i z bytes ht hi hz hsize hby hzs hsz hs hown hx hsl hR h63 hbytes hbase h
def CV (g k iv:Nat) (us:List (Nat×Value)) (W:World):World:=W.setCell ⟨g,k,none⟩ ((us.lookup iv).getD undef)
def stX (ib iv:Nat) (a b c:Value) (us:List (Nat×Value)) (W:World):World:=Bi (Ey ((us.lookup ib).getD undef)) 0 [a,b,c,(us.lookup iv).getD undef] W
end Go.Silo
namespace Go.Proofs.YtipecejghioicaaGreat
open Go.RowKit Go.Silo
def Fy (n5:Nat) (xs:List Slot) (V:World) (i:Nat) (v:Value) (W:World):Prop:=
 (i=12→∃A c,v=.slice A n5 c∧Sl true 88 qp W (fun q=>V.heap.size≤q) A n5 c xs)∧
 (i=14→∃g,v=.pointer (some ⟨g,0,none⟩)∧V.heap.size≤g∧W.heap[g]?=some (.cells #[.int .i64 0,.int .i64 0,.int .i64 0,.slice none 0 0] 86 (0,0)))
theorem Fy.all {n5:Nat}{xs:List Slot}{V W W':World}(hb:Below W.heap.size W W') (j:Nat) (v:Value) (h:Fy n5 xs V j v W):Fy n5 xs V j v W':=
 ⟨fun hj=>by obtain⟨A,c,e,t⟩:=h.1 hj;exact⟨A,c,e,t.all hb⟩,fun hj=>by obtain⟨g,a,b,c⟩:=h.2 hj;exact⟨g,a,b,zb hb c⟩⟩
noncomputable def DT:Code:=((Tryz.f32.body.bind (qm 20)).getD .skip)
theorem app20 {Q:Exit→Act→World→Prop}{σ:Act}{w:World}{g3 b4 o4:Nat}{A5:Option Addr}{c4 n5 c5:Nat}{kd id q0 q1:Int}{nm dg:ByteArray}{tg:Bool}{T:TypeId}{S:Nat→Prop}{xs:List Slot}(R3:Hid (w.heap[g3]?=some (.cells #[.int .i64 kd,.int .i64 id,.string nm,.string dg,.slice (some ⟨b4,o4,none⟩) 2 c4,.slice A5 n5 c5] 61 (0,0)))) (hn5:n5≤100000000) (mZ:Hid (Sl tg T qp w S A5 n5 c5 xs)) (HQ0:Hid (∀V,Below w.heap.size w V→V.cell? ⟨b4,o4,none⟩=some (.int .i64 q0))) (ng:Hid (∀V,Below w.heap.size w V→V.cell? ⟨b4,o4+1,none⟩=some (.int .i64 q1))) (hσ:σ.tmps.size=264) (s3:σ.eval (.tmp 3)=.pointer (some ⟨g3,0,none⟩))
  (hend:∀(v:Nat→Value) (wz:World) (g:Nat) (A:Option Addr) (c:Nat),v 6=.pointer (some ⟨g,0,none⟩)→w.heap.size≤g→wz.heap[g]?=some (.cells #[.int .i64 id,.int .i64 q0,.int .i64 q1,.slice A n5 c] 86 (0,0))→Sl true 88 qp wz (fun q=>w.heap.size≤q) A n5 c xs→Below w.heap.size w wz→Q .normal (qa σ (([105,106,107,108,109,110,111,112,113,114,115,116,117,118,6]:List Nat).map fun d=>(d,v d))) wz):
  DT.wp Tryz.prog Q σ w:=by
 conv=>arg 2;whnf
 refine rF 264 hσ [105,106,107,108,109,110,111,112,113,114,115,116,117,118,6] [12,14,15]
   [kq 105 g3 1,kp 106 (.int .i64 id),kq 107 g3 4,kp 108 (.slice (some ⟨b4,o4,none⟩) 2 c4),kq 109 (b4) (o4),kp 110 (.int .i64 q0),kq 111 g3 4,kp 112 (.slice (some ⟨b4,o4,none⟩) 2 c4),kq 113 (b4) (o4+1),kp 114 (.int .i64 q1),kq 115 g3 5,kp 116 (.slice A5 n5 c5),(118,[12],fun l=>.agg #[.int .i64 id,.int .i64 q0,.int .i64 q1,l.getD 0 undef])]
   [[15],[15],[15],[15],[15],[15],[15],[15],[15],[15],[15],[15],[15],[15],[15]] [[],[],[],[],[],[],[],[],[],[],[],[],[],[],[],[12,14]] (D6 w (Fy n5 xs w) 15 (stX 14 12 (.int .i64 id) (.int .i64 q0) (.int .i64 q1))) .init ⟨.q s3,.l fun us w6 hW hl=>zo 1 (((hW.early (hl 15 (by decide))).1.block _ (zl R3.out)).trans R3.out),.q s3,.l fun us w6 hW hl=>zo 4 (((hW.early (hl 15 (by decide))).1.block _ (zl R3.out)).trans R3.out),.a,.l fun us w6 hW hl=>HQ0.out w6 (hW.early (hl 15 (by decide))).1,.q s3,.l fun us w6 hW hl=>zo 4 (((hW.early (hl 15 (by decide))).1.block _ (zl R3.out)).trans R3.out),.a,.l fun us w6 hW hl=>ng.out w6 (hW.early (hl 15 (by decide))).1,.q s3,.l fun us w6 hW hl=>zo 5 (((hW.early (hl 15 (by decide))).1.block _ (zl R3.out)).trans R3.out),?_,?_,?_,?_,trivial⟩ ?_
 ·refine Bh.wr rfl (fun Z us w6 ho ht hni hlim gi hW K hK=>?_);have e116:=zv (ht 116 (by decide)) (.slice A5 n5 c5) rfl;have hn:=hlim 15 (by decide);have gp:=(hW.early hn).1;have hcl:=xF (mZ.out.all gp) hn5;unfold qF at hcl;rw[mZ.out.len] at hcl;refine qn rfl 60 #[.tmp 116] #[59] rfl Tryz.func60 (by kernel_rfl) (by kernel_rfl) #[.slice A5 n5 c5] (by simp[e116];try first|done|rfl|exact⟨rfl,rfl⟩) (hcl) ?_;rintro e w7 ⟨A3,c3,rfl,hown,gv⟩;exact⟨_,rfl,hK _ _ (hW.snoc (by decide) hn gv (fun j v h=>Fy.all gv j v h) ⟨fun _=>⟨A3,c3,rfl,(hown.sl (tg:=true)).mono (fun q hq _=>Nat.le_trans gp.size (hq.elim (fun h=>h) (fun h=>h)))⟩,fun h=>absurd h (by decide)⟩)⟩
 ·refine Bh.rd rfl rfl (fun ρ us w6 ho ht hc hl hsrc hW=>?_);have hE:=hW.early (hl 15 (by decide));obtain⟨v12,l12,m12⟩:=qb (hsrc 12 (by exact(List.mem_singleton.2 rfl:(12:Nat)∈[12])));obtain⟨A3,c3,rfl,_⟩:=(hE.2 12 v12 m12).1 rfl;have e106:=zv (ht 106 (by decide)) (.int .i64 id) rfl;have e110:=zv (ht 110 (by decide)) (.int .i64 q0) rfl;have e114:=zv (ht 114 (by decide)) (.int .i64 q1) rfl;have GG:=((ht 117 (by decide)).trans (show _=(us.lookup 12).getD undef from rfl)).trans (show _=(.slice A3 n5 c3:Value) by rw[l12];rfl);change _=Result.ok (Next.value (.agg #[.int .i64 id,.int .i64 q0,.int .i64 q1,(us.lookup 12).getD undef])) w6;rw[l12];clear ht ho hl hsrc hW hE l12 m12;simp only[execOp,List.map_toArray,List.map_cons,List.map_nil,e106,e110,e114,GG];go_simp
 ·refine Bh.wr rfl (fun Z us w6 ho ht hni hlim gi hW K hK=>?_);have hn:=hlim 15 (by decide);have hdone:=hW.snoc (i:=14) (x:=.pointer (some ⟨w6.heap.size,0,none⟩)) (by decide) hn ((Below.refl _ _).alloc (Nat.le_refl _) (.cells #[.int .i64 0,.int .i64 0,.int .i64 0,.slice none 0 0] 86)) (fun j v h=>Fy.all ((Below.refl _ _).alloc (Nat.le_refl _) _) j v h) ⟨fun h=>absurd h (by decide),fun _=>⟨_,rfl,(hW.early hn).1.size,heap_alloc_new _ _⟩⟩;have nj:=zh hdone;clear hdone hW hni hlim gi ho ht hn;rw[if_pos (by simp[Region.wanted])];unfold Oper.wp;generalize Z.eval=ρ at *;simp only[execOp];go_simp
  exact hK _ _ nj.out
 ·refine Bh.wr rfl (fun Z us w6 ho ht hni hlim gi hW K hK=>?_);have hE:=hW.early hni;obtain⟨v12,l12,m12⟩:=qb (gi 12 (by decide));obtain⟨v14,l14,m14⟩:=qb (gi 14 (by decide));obtain⟨A3,c3,rfl,hs12⟩:=(hE.2 12 v12 m12).1 rfl;obtain⟨g,rfl,hg,hr⟩:=(hE.2 14 v14 m14).2 rfl;have e6:=((ht 6 (by decide)).trans (show _=(us.lookup 14).getD undef from rfl)).trans (show _=(.pointer (some ⟨g,0,none⟩):Value) by rw[l14];rfl);have e118:=(zv (ht 118 (by decide)) (.agg #[.int .i64 id,.int .i64 q0,.int .i64 q1,(us.lookup 12).getD undef]) rfl).trans (show _=(.agg #[.int .i64 id,.int .i64 q0,.int .i64 q1,.slice A3 n5 c3]:Value) by rw[l12];rfl);have hst:stX 14 12 (.int .i64 id) (.int .i64 q0) (.int .i64 q1) us w6=Bi g 0 [.int .i64 id,.int .i64 q0,.int .i64 q1,.slice A3 n5 c3] w6:=by unfold stX;rw[l14,l12];rfl
  have hdone:=hW.store hni (x:=undef);rw[hst] at hdone;have f0:=(zo 0 hr).trans (show _=some (.int .i64 0:Value) from rfl);have q0f:=zf 0 hr;have f1:=(zo 1 hr).trans (show _=some (.int .i64 0:Value) from rfl);have q1f:=zf 1 hr;have f2:=(zo 2 hr).trans (show _=some (.int .i64 0:Value) from rfl);have q2f:=zf 2 hr;have f3:=(zo 3 hr).trans (show _=some (.slice none 0 0:Value) from rfl);have q3f:=zf 3 hr;have nj:=zh hdone;clear hdone hW hni hlim gi ho ht hst hr l12 l14 m12 m14 hE hs12;rw[if_pos (by simp[Region.wanted])];unfold Oper.wp;generalize Z.eval=ρ at *;simp only[execOp,e6,e118];go_simp
  exact hK undef _ nj.out
 intro us wz hmem hW;obtain⟨gX,W6,x0,rfl,rfl,hb,hR,uB⟩:=hW.last (hmem 15 (by decide));obtain⟨v12,l12,m12⟩:=qb (qR (hmem 12 (by decide)) (by decide));obtain⟨v14,l14,m14⟩:=qb (qR (hmem 14 (by decide)) (by decide));obtain⟨A3,c3,rfl,hs12⟩:=(hR 12 v12 m12).1 rfl;obtain⟨g,rfl,hg,hr⟩:=(hR 14 v14 m14).2 rfl;have hst:stX 14 12 (.int .i64 id) (.int .i64 q0) (.int .i64 q1) gX W6=Bi g 0 [.int .i64 id,.int .i64 q0,.int .i64 q1,.slice A3 n5 c3] W6:=by unfold stX;rw[l14,l12];rfl
 rw[hst];have hsl:=hs12.Ca (T:=86) BS.flat (by decide) (w':=Bi g 0 [.int .i64 id,.int .i64 q0,.int .i64 q1,.slice A3 n5 c3] W6) (fun q _ _ hq=>qL (fun e=>by subst e;exact hq _ (qw hr)) _ _ _) (za (Nat.le_refl _) _ 0 W6 (Below.refl g W6)).size;refine hend _ _ g A3 c3 ?_ hg (jY hr) hsl (za hg _ _ _ hb);show((gX++[(15,x0)]).lookup 14).getD undef=_;rw[zB (by decide),l14];rfl
def Fz (dg:ByteArray) (id:Int) (BO:Bool) (n4:Nat) (li:List Int) (V:World) (i:Nat) (v:Value) (W:World):Prop:=
 (i=10→∃A c,v=.slice A n4 c∧Sl true 3 qD W (fun q=>V.heap.size≤q) A n4 c li)∧
 (i=11→∃A3 c3,v=.agg #[.string dg,.int .i64 id,.bool BO,.slice A3 n4 c3]∧Sl true 3 qD W (fun q=>V.heap.size≤q) A3 n4 c3 li)∧
 (i=12→∃g A3 c3,v=.slice (some ⟨g,0,none⟩) 1 1∧V.heap.size≤g∧W.heap[g]?=some (.cells #[.string dg,.int .i64 id,.bool BO,.slice A3 n4 c3] 90 (0,0))∧Sl true 3 qD W (fun q=>V.heap.size≤q) A3 n4 c3 li)
theorem Fz.all {dg:ByteArray}{id:Int}{BO:Bool}{n4:Nat}{li:List Int}{V W W':World}(hb:Below W.heap.size W W') (j:Nat) (v:Value) (h:Fz dg id BO n4 li V j v W):Fz dg id BO n4 li V j v W':=
 ⟨fun hj=>by obtain⟨A,c,e,t⟩:=h.1 hj;exact⟨A,c,e,t.all hb⟩,fun hj=>by obtain⟨A,c,e,t⟩:=h.2.1 hj;exact⟨A,c,e,t.all hb⟩,fun hj=>by obtain⟨g,A,c,e,a,b,t⟩:=h.2.2 hj;exact⟨g,A,c,e,a,zb hb b,t.all hb⟩⟩
def RA47 (base0 base:Nat) (A6:Option Addr) (n:Nat) (l:List Entry) (v:Value) (W0 W:World):Prop:=∃A' c',v=.slice A' (n+1) c'∧Silo.Bo 90 (qj true) W base (fun q=>base0≤q) A' (n+1) c' l∧Cr (qd A6) W0 W
def Cn (us:List (Nat×Value)):Prop:=(12∈us.map Prod.fst→11∈us.map Prod.fst)∧(13∈us.map Prod.fst→12∈us.map Prod.fst)
theorem Cn.DL {us:List (Nat×Value)}(h:Cn us) {x:Value}:Cn (us++[(10,x)]):=⟨fun hm=>by rw[List.map_append,List.mem_append] at *;rcases hm with hm|hm;exact .inl (h.1 hm);simp at hm,fun hm=>by rw[List.map_append,List.mem_append] at *;rcases hm with hm|hm;exact .inl (h.2 hm);simp at hm⟩
theorem Cn.DR {us:List (Nat×Value)}(h:Cn us) {x:Value}:Cn (us++[(11,x)]):=⟨fun _=>by simp,fun hm=>by rw[List.map_append,List.mem_append] at *;rcases hm with hm|hm;exact .inl (h.2 hm);simp at hm⟩
theorem Cn.F8 {us:List (Nat×Value)}(_h:Cn us) {x:Value}(h11:11∈us.map Prod.fst):Cn (us++[(12,x)]):=⟨fun _=>by rw[List.map_append,List.mem_append];exact .inl h11,fun _=>by simp⟩
theorem Cn.F9 {us:List (Nat×Value)}(h:Cn us) {x:Value}(h12:12∈us.map Prod.fst):Cn (us++[(13,x)]):=⟨fun _=>by rw[List.map_append,List.mem_append];exact .inl (h.1 h12),fun _=>by rw[List.map_append,List.mem_append];exact .inl h12⟩
noncomputable def DU:Code:=((Tryz.f32.body.bind (qm 47)).getD .skip)
theorem jI {Q:Exit→Act→World→Prop}{σ:Act}{w:World}{base0 base g3:Nat}{A4 A5 A6:Option Addr}{n4 c4 n5 c5 n c6:Nat}{kd id:Int}{nm dg:ByteArray}{BO:Bool}{tg:Bool}{T:TypeId}{S:Nat→Prop}{li:List Int}{l:List Entry}(R3:Hid (w.heap[g3]?=some (.cells #[.int .i64 kd,.int .i64 id,.string nm,.string dg,.slice A4 n4 c4,.slice A5 n5 c5] 61 (0,0)))) (HOW:Hid (Silo.Bo 90 (qj true) w base (fun q=>base0≤q) A6 n c6 l)) (hbs:base≤w.heap.size) (hb0:base0≤w.heap.size) (hn:n≤1000000) (hg3:some g3≠qd A6) (hok:qN dg∧Bn id) (hman:(kd==5)=BO) (ru:n4≤100000000) (vq:Hid (Sl tg T qD w S A4 n4 c4 li)) (hσ:σ.tmps.size=264) (s13:σ.eval (.tmp 13)=.slice A6 n c6) (s3:σ.eval (.tmp 3)=.pointer (some ⟨g3,0,none⟩))
  (hend:∀(v:Nat→Value) (wz:World) (A':Option Addr) (c':Nat),v 13=.slice A' (n+1) c'→Silo.Bo 90 (qj true) wz base (fun q=>base0≤q) A' (n+1) c' (l++[⟨dg,id,BO,li⟩])→Cr (qd A6) w wz→Q .normal (qa σ (([245,246,247,248,249,250,251,252,253,254,255,256,257,258,13]:List Nat).map fun d=>(d,v d))) wz):
  DU.wp Tryz.prog Q σ w:=by
 conv=>arg 2;whnf
 obtain⟨i0,hi0,hz0,hz1,hz2⟩:=info_parts Tryz.Bt
 refine Xe (by kernel_rfl) (by kernel_rfl) 264 hσ [245,246,247,248,249,250,251,252,253,254,255,256,257,258,13] [10,11,12,13] [(255,10),(256,11),(257,12),(258,13)]
  [kp 245 (.slice A6 n c6),kq 246 g3 3,kp 247 (.string dg),kq 248 g3 1,kp 249 (.int .i64 id),kq 250 g3 0,kp 251 (.int .i64 kd),kp 252 (.bool BO),kq 253 g3 4,kp 254 (.slice A4 n4 c4),(13,[13],fun l=>l.getD 0 undef)]
  [[],[],[],[],[],[],[],[],[],[],[13],[],[13]] [[],[],[],[],[],[],[],[],[],[],[],[10],[11],[12]] [[],[],[246],[],[248],[],[250],[251],[],[253],[254],[247,249,252,255],[256],[245,257],[258]] [[13]]
  ((fun us W=>CZ w (Fz dg id BO n4 li w) 13 (RA47 base0 base A6 n (l++[⟨dg,id,BO,li⟩])) us W∧Cn us)) (by kernel_rfl) ⟨.init,⟨by simp,by simp⟩⟩ ⟨.q s13,.q s3,.l fun us w6 hW _=>zo 3 ((hW.1.kept (fun _ _ _ h=>by obtain⟨_,_,_,_,hc⟩:=h;exact hc) (zl R3.out) hg3).trans R3.out),.q s3,.l fun us w6 hW _=>zo 1 ((hW.1.kept (fun _ _ _ h=>by obtain⟨_,_,_,_,hc⟩:=h;exact hc) (zl R3.out) hg3).trans R3.out),.q s3,.l fun us w6 hW _=>zo 0 ((hW.1.kept (fun _ _ _ h=>by obtain⟨_,_,_,_,hc⟩:=h;exact hc) (zl R3.out) hg3).trans R3.out),?_,.q s3,.l fun us w6 hW _=>zo 4 ((hW.1.kept (fun _ _ _ h=>by obtain⟨_,_,_,_,hc⟩:=h;exact hc) (zl R3.out) hg3).trans R3.out),?_,?_,?_,?_,.a,trivial⟩ ?_
 ·(refine .r1 (.int .i64 kd) fun _ _ _ e251 _ _ _ _=>?_;simp only[execOp,e251];go_simp;first|rfl|(rw[←hman];rfl)|(rw[←hman];simp;done)|(simp[←hman];done))
 ·refine Bh.wr rfl (fun Z us w6 ho ht hni hlim gi hW K hK=>?_);obtain⟨hW,hO⟩:=hW;have e254:=zv (ht 254 (by decide)) (.slice A4 n4 c4) rfl;have hn:=hlim 13 (by decide);have gp:=(hW.early hn).1;have hcl:=xU (vq.out.all gp) ru;unfold qF at hcl;rw[vq.out.len] at hcl;refine qn rfl 53 #[.tmp 254] #[36] rfl Tryz.func53 (by kernel_rfl) (by kernel_rfl) #[.slice A4 n4 c4] (by simp[e254];try first|done|rfl|exact⟨rfl,rfl⟩) (hcl) ?_;rintro e w7 ⟨A3,c3,rfl,hown,gv⟩;exact⟨_,rfl,hK _ _ (And.intro (hW.snoc (by decide) hn gv (fun j v h=>Fz.all gv j v h) ⟨fun _=>⟨A3,c3,rfl,(hown.sl (tg:=true)).mono (fun q hq _=>Nat.le_trans gp.size (hq.elim (fun h=>h) (fun h=>h)))⟩,fun h=>absurd h (by decide),fun h=>absurd h (by decide)⟩) hO.DL)⟩
 ·refine Bh.wr rfl (fun Z us w6 ho ht hni hlim gi hW K hK=>?_);obtain⟨hW,hO⟩:=hW;obtain⟨v10,l10,m10⟩:=qb (gi 10 (by decide));have hn:=(fun h=>hni (hO.1 (hO.2 h)):13∉us.map Prod.fst);have hE:=hW.early hn;obtain⟨A3,c3,rfl,hs10⟩:=(hE.2 10 v10 m10).1 rfl;have e247:=zv (ht 247 (by decide)) (.string dg) rfl;have e249:=zv (ht 249 (by decide)) (.int .i64 id) rfl;have e252:=zv (ht 252 (by decide)) (.bool BO) rfl;have e255:=((ht 255 (by decide)).trans (show _=(us.lookup 10).getD undef from rfl)).trans (show _=(.slice A3 n4 c3:Value) by rw[l10];rfl);have hdone:=hW.snoc (i:=11) (x:=.agg #[.string dg,.int .i64 id,.bool BO,.slice A3 n4 c3]) (by decide) hn (Below.refl _ _) (fun j v h=>h) ⟨fun h=>absurd h (by decide),fun _=>⟨A3,c3,rfl,hs10⟩,fun h=>absurd h (by decide)⟩;have nj:=zh (And.intro hdone (hO.DR (x:=.agg #[.string dg,.int .i64 id,.bool BO,.slice A3 n4 c3])));clear hdone hW hO hni hlim gi ho ht hn hE hs10 l10 m10;rw[if_pos (by simp[Region.wanted])];unfold Oper.wp;generalize Z.eval=ρ at *;simp only[execOp,List.map_toArray,List.map_cons,List.map_nil,e247,e249,e252,e255];go_simp
  exact hK _ _ nj.out
 ·refine Bh.wr rfl (fun Z us w6 ho ht hni hlim gi hW K hK=>?_);obtain⟨hW,hO⟩:=hW;have hn:=hlim 13 (by decide);have hE:=hW.early hn;obtain⟨v11,l11,m11⟩:=qb (gi 11 (by decide));obtain⟨A3,c3,rfl,hs11⟩:=(hE.2 11 v11 m11).2.1 rfl;have e256:=((ht 256 (by decide)).trans (show _=(us.lookup 11).getD undef from rfl)).trans (show _=(.agg #[.string dg,.int .i64 id,.bool BO,.slice A3 n4 c3]:Value) by rw[l11];rfl);have hal:Below w6.heap.size w6 (w6.alloc (.cells #[.string dg,.int .i64 id,.bool BO,.slice A3 n4 c3] 90)):=(Below.refl _ _).alloc (Nat.le_refl _) _;have hdone:=hW.snoc (i:=12) (x:=.slice (some ⟨w6.heap.size,0,none⟩) 1 1) (by decide) hn hal (fun j v h=>Fz.all hal j v h) ⟨fun h=>absurd h (by decide),fun h=>absurd h (by decide),fun _=>⟨_,A3,c3,rfl,hE.1.size,heap_alloc_new _ _,hs11.all hal⟩⟩;have nj:=zh (And.intro hdone (hO.F8 (x:=.slice (some ⟨w6.heap.size,0,none⟩) 1 1) (gi 11 (by decide))));clear hdone hW hO hni hlim gi ho ht hn hE hs11 hal l11 m11;rw[if_pos (by simp[Region.wanted])];unfold Oper.wp;generalize Z.eval=ρ at *;simp only[execOp,List.map_toArray,List.map_cons,List.map_nil,e256];go_simp
  exact hK _ _ nj.out
 ·refine Bh.wr rfl (fun Z us w6 ho ht hni hlim gi hW K hK=>?_);obtain⟨hW,hO⟩:=hW;have hE:=hW.early hni;obtain⟨v12,l12,m12⟩:=qb (gi 12 (by decide));obtain⟨g,A3,c3,rfl,hg,hrow,hs⟩:=(hE.2 12 v12 m12).2.2 rfl;have e245:=zv (ht 245 (by decide)) (.slice A6 n c6) rfl;have e257:=((ht 257 (by decide)).trans (show _=(us.lookup 12).getD undef from rfl)).trans (show _=(.slice (some ⟨g,0,none⟩) 1 1:Value) by rw[l12];rfl);have hlt:=HOW.out.lt;rw[if_pos (by simp[Region.wanted])];refine je (.tmp 245) (.tmp 257) 25 rfl i0 (.agg #[.string ByteArray.empty,.int .i64 0,.bool false,.slice none 0 0]) 56 Tryz.underlying25 hi0 hz0 hz1 hz2 rfl (show 0<4 by decide) e245 (HOW.out.all hE.1) g 90 1 [.string dg,.int .i64 id,.bool BO,.slice A3 n4 c3] ⟨dg,id,BO,li⟩ e257 hrow ⟨A3,n4,c3,rfl,hok,hs.mono (fun q hq _=>⟨Nat.le_trans hb0 hq,fun e=>by have:=(hlt q e.symm).2;omega⟩)⟩ (by omega) (by omega) (Nat.le_trans hbs hE.1.size) ?_;intro A' c' w7 hown hgr _;exact hK _ _ (And.intro (hW.call hni ⟨A',c',rfl,hown,Cr.C8 hgr⟩) (hO.F9 (gi 12 (by decide))))
 intro us wz hmem hW;obtain⟨gX,W0,v,rfl,hb0,⟨A',c',rfl,hown,mC⟩,uB⟩:=hW.1.last (hmem 13 (by decide));refine hend _ wz A' c' ?_ hown ((Cr.of_below hb0).trans mC);show((gX++[(13,Value.slice A' (n+1) c')]).lookup 13).getD undef=_;rw[zI uB];rfl
end Go.Proofs.YtipecejghioicaaGreat
