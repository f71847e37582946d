/- Book.Commit; the drawn region of book.All. -/
import Derived.Test.YtipecejghioicaaGreatY2p
import Derived.Deep.CutBlock
import Derived.Deep.Cut
import Derived.Test.YtipecejghioicaaGreatDatap
import Derived.Test.YtipecejghioicaaGreatY1p
import Derived.Test.YtipecejghioicaaGreatQ12p
set_option maxHeartbeats 4000000
set_option maxRecDepth 100000
namespace Go.Silo
open Go Go.RowKit
structure Cr (r:Option Nat) (w w':World):Prop where
 below:∀B,B≤w.heap.size→(∀k,r=some k→B≤k)→Below B w w'
 agree:Agree (fun b=>some b≠r) w w'
 size:w.heap.size≤w'.heap.size
theorem Cr.of_below {r:Option Nat}{w w':World}(h:Below w.heap.size w w'):Cr r w w':=⟨fun _ hB _=>h.mono hB,.all h,h.size⟩
theorem Cr.C8 {r:Option Nat}{w w':World}(h:w.grownBy w' r):Cr r w w':=⟨fun B hB hr=>(Below.refl B w).grown h hB hr,Agree.grown h (fun _ hb=>hb),h.size⟩
theorem Cr.trans {r:Option Nat}{a b c:World}(h:Cr r a b) (k:Cr r b c):Cr r a c:=
 ⟨fun B hB hr=>(h.below B hB hr).trans (k.below B (Nat.le_trans hB h.size) hr),h.agree.trans h.size k.agree,Nat.le_trans h.size k.size⟩
def qT {α:Type}(i:Nat) (is:Bool) (x:α) (l:List α):List α:=if is then l.set i x else zT i x l
theorem Qm {α:Type}{i:Nat}{is:Bool}{x:α}{l:List α}(h:i≤l.length):(qT i is x l).length≤l.length+1:=by
 unfold qT;split
 ·simp
 rw[xK h];exact Nat.le_refl _
def F7 {α:Type}(T:TypeId) (E:Enc α) (w:World) (base:Nat) (S:Nat→Prop) (A:Option Addr) (l:List α) (i:Nat) (is:Bool) (x:α) (e:Ending) (w':World):Prop:=
 ∃A' n' c',e=.returned (.slice A' n' c')∧Bo T E w' base S A' n' c' (qT i is x l)∧Cr (qd A) w w'∧(qd A'=qd A∨∃g,qd A'=some g∧w.heap.size≤g)
end Go.Silo
namespace Go.Proofs.YtipecejghioicaaGreat
open Go.RowKit Go.Silo
theorem Xp {tg:Bool}{w:World}{base:Nat}{S:Nat→Prop}{A:Option Addr}{n c i:Nat}{is:Bool}{l:List Bc}{x:Bc}{a b d:Int}{A3:Option Addr}{n3 c3:Nat}(h:Bo 86 (qc tg) w base S A n c l) (hi:i≤n) (his:is=true→i<n) (hn:n≤999999) (hbase:base≤w.heap.size)
  (hx:(qc tg).R w (fun b=>S b∧some b≠qd A) [.int .i64 a,.int .i64 b,.int .i64 d,.slice A3 n3 c3] x):
  Calls Tryz.prog 97 #[.slice A n c,.int .i64 (i:Int),.bool is,.agg #[.int .i64 a,.int .i64 b,.int .i64 d,.slice A3 n3 c3]] w (F7 86 (qc tg) w base S A l i is x):=by
 have hal:Below w.heap.size w (w.alloc (.cells #[.int .i64 a,.int .i64 b,.int .i64 d,.slice A3 n3 c3] 86)):=(Below.refl _ _).alloc (Nat.le_refl _) _;have hrow:=heap_alloc_new w (.cells #[.int .i64 a,.int .i64 b,.int .i64 d,.slice A3 n3 c3] 86);have hlt:w.heap.size<(w.alloc (.cells #[.int .i64 a,.int .i64 b,.int .i64 d,.slice A3 n3 c3] 86)).heap.size:=by simp
 have H1:=zh (h.all hal);have H9:=zh ((qc tg).frame (S:=fun b=>S b∧some b≠qd A) (w':=w.alloc (.cells #[.int .i64 a,.int .i64 b,.int .i64 d,.slice A3 n3 c3] 86)) (.all hal) hal.size hx);have p6:=zh h.lt;have HL:=zh h.len;clear hx
 cases is with
 |true=>
  have hin:=his rfl;obtain⟨g,eA,_,_⟩:=h.form (by omega);subst eA;clear h his
  go_enter Tryz.func97,Tryz.ntmps97
  go_upto_region 2 with (fail)
  generalize (w.alloc (.cells #[.int .i64 a,.int .i64 b,.int .i64 d,.slice A3 n3 c3] 86))=w1 at *;have gI:=zh hal;clear hal;obtain⟨g',eg,_,hgl,hown,hgr⟩:=H1.out.CO hin H9.out;injection eg with eg;injection eg with eg;subst eg
  have HOWN:=zh hown;clear hown;have vL:=zh hgr;clear hgr;obtain⟨bs,os,A4,n4,c4,eB,_,hbl,_,_,_,_,z0,z1,z2,z3,f0,f1,f2,f3⟩:=(H1.out.sl (tg:=true)).Bu hin;injection eB with eB;injection eB with eB1 eB2;subst eB1;subst eB2
  simp only[Nat.zero_add] at *;have bx0:=zc 0 hrow (.int .i64 a) rfl;have bx1:=zc 1 hrow (.int .i64 b) rfl;have bx2:=zc 2 hrow (.int .i64 d) rfl;have bx3:=zc 3 hrow (.slice A3 n3 c3) rfl;clear hrow;go_wp2
  go_ret
  exact⟨some ⟨g,0,none⟩,n,c,rfl,HOWN.out,(Cr.of_below gI.out).trans (Cr.C8 vL.out),.inl rfl⟩
 |false=>
  clear his h
  go_enter Tryz.func97,Tryz.ntmps97
  go_upto_region 4 with (fail)
  generalize (w.alloc (.cells #[.int .i64 a,.int .i64 b,.int .i64 d,.slice A3 n3 c3] 86))=w1 at *;have gI:=zh hal;clear hal;have bx0:=zc 0 hrow (.int .i64 a) rfl;have bx1:=zc 1 hrow (.int .i64 b) rfl;have bx2:=zc 2 hrow (.int .i64 d) rfl;have bx3:=zc 3 hrow (.slice A3 n3 c3) rfl;clear hrow;have gH:Below w1.heap.size w1 (w1.alloc (.cells #[.int .i64 a,.int .i64 b,.int .i64 d,.slice A3 n3 c3] 86)):=(Below.refl _ _).alloc (Nat.le_refl _) _;have ub:=zh gH
  have GF:=zh (QC (vb:=w1.heap.size) (x:=x) (i:=i) (H1.out.all gH) hi (by omega) (Nat.le_trans hbase (Nat.le_trans gI.out.size gH.size)) (heap_alloc_new w1 (.cells #[.int .i64 a,.int .i64 b,.int .i64 d,.slice A3 n3 c3] 86)) ((qc tg).frame (S:=fun b=>S b∧some b≠qd A) (w':=w1.alloc (.cells #[.int .i64 a,.int .i64 b,.int .i64 d,.slice A3 n3 c3] 86)) (.all gH) gH.size H9.out) (fun e=>by
   have h1:=(p6.out _ e.symm).2;have h2:=gI.out.size
   omega))
  clear gH;go_wp2_with fail
  refine GF.out.mono ?_;rintro e w2 ⟨A',c',rfl,hown,hgr,hat⟩;have HO:=zh hown;have HG:=zh hgr;have HA:=zh hat;have HSZ:=zh ub.out.size;clear hown hgr hat;go_wp2
  go_ret
  exact⟨A',_,c',rfl,HO.out,(Cr.of_below gI.out).trans ((Cr.of_below ub.out).trans (Cr.C8 HG.out)),HA.out.elim .inl (fun h=>.inr ⟨_,h,Nat.le_trans gI.out.size ub.out.size⟩)⟩
theorem Jb {tg:Bool}{w:World}{base:Nat}{S:Nat→Prop}{A:Option Addr}{n c i:Nat}{is:Bool}{l:List Entry}{x:Entry}{a:ByteArray}{b:Int}{d:Bool}{A3:Option Addr}{n3 c3:Nat}(h:Bo 90 (qj tg) w base S A n c l) (hi:i≤n) (his:is=true→i<n) (hn:n≤999999) (hbase:base≤w.heap.size)
  (hx:(qj tg).R w (fun b=>S b∧some b≠qd A) [.string a,.int .i64 b,.bool d,.slice A3 n3 c3] x):
  Calls Tryz.prog 100 #[.slice A n c,.int .i64 (i:Int),.bool is,.agg #[.string a,.int .i64 b,.bool d,.slice A3 n3 c3]] w (F7 90 (qj tg) w base S A l i is x):=by
 have hal:Below w.heap.size w (w.alloc (.cells #[.string a,.int .i64 b,.bool d,.slice A3 n3 c3] 90)):=(Below.refl _ _).alloc (Nat.le_refl _) _;have hrow:=heap_alloc_new w (.cells #[.string a,.int .i64 b,.bool d,.slice A3 n3 c3] 90);have hlt:w.heap.size<(w.alloc (.cells #[.string a,.int .i64 b,.bool d,.slice A3 n3 c3] 90)).heap.size:=by simp
 have H1:=zh (h.all hal);have H9:=zh ((qj tg).frame (S:=fun b=>S b∧some b≠qd A) (w':=w.alloc (.cells #[.string a,.int .i64 b,.bool d,.slice A3 n3 c3] 90)) (.all hal) hal.size hx);have p6:=zh h.lt;have HL:=zh h.len;clear hx
 cases is with
 |true=>
  have hin:=his rfl;obtain⟨g,eA,_,_⟩:=h.form (by omega);subst eA;clear h his
  go_enter Tryz.func100,Tryz.ntmps100
  go_upto_region 2 with (fail)
  generalize (w.alloc (.cells #[.string a,.int .i64 b,.bool d,.slice A3 n3 c3] 90))=w1 at *;have gI:=zh hal;clear hal;obtain⟨g',eg,_,hgl,hown,hgr⟩:=H1.out.CO hin H9.out;injection eg with eg;injection eg with eg;subst eg
  have HOWN:=zh hown;clear hown;have vL:=zh hgr;clear hgr;obtain⟨bs,os,A4,n4,c4,eB,_,hbl,_,_,_,z0,z1,z2,z3,f0,f1,f2,f3⟩:=(H1.out.sl (tg:=true)).BP hin;injection eB with eB;injection eB with eB1 eB2;subst eB1;subst eB2
  simp only[Nat.zero_add] at *;have bx0:=zc 0 hrow (.string a) rfl;have bx1:=zc 1 hrow (.int .i64 b) rfl;have bx2:=zc 2 hrow (.bool d) rfl;have bx3:=zc 3 hrow (.slice A3 n3 c3) rfl;clear hrow;go_wp2
  go_ret
  exact⟨some ⟨g,0,none⟩,n,c,rfl,HOWN.out,(Cr.of_below gI.out).trans (Cr.C8 vL.out),.inl rfl⟩
 |false=>
  clear his h
  go_enter Tryz.func100,Tryz.ntmps100
  go_upto_region 4 with (fail)
  generalize (w.alloc (.cells #[.string a,.int .i64 b,.bool d,.slice A3 n3 c3] 90))=w1 at *;have gI:=zh hal;clear hal;have bx0:=zc 0 hrow (.string a) rfl;have bx1:=zc 1 hrow (.int .i64 b) rfl;have bx2:=zc 2 hrow (.bool d) rfl;have bx3:=zc 3 hrow (.slice A3 n3 c3) rfl;clear hrow;have gH:Below w1.heap.size w1 (w1.alloc (.cells #[.string a,.int .i64 b,.bool d,.slice A3 n3 c3] 90)):=(Below.refl _ _).alloc (Nat.le_refl _) _;have ub:=zh gH
  have GF:=zh (Zc (vb:=w1.heap.size) (x:=x) (i:=i) (H1.out.all gH) hi (by omega) (Nat.le_trans hbase (Nat.le_trans gI.out.size gH.size)) (heap_alloc_new w1 (.cells #[.string a,.int .i64 b,.bool d,.slice A3 n3 c3] 90)) ((qj tg).frame (S:=fun b=>S b∧some b≠qd A) (w':=w1.alloc (.cells #[.string a,.int .i64 b,.bool d,.slice A3 n3 c3] 90)) (.all gH) gH.size H9.out) (fun e=>by
   have h1:=(p6.out _ e.symm).2;have h2:=gI.out.size
   omega))
  clear gH;go_wp2_with fail
  refine GF.out.mono ?_;rintro e w2 ⟨A',c',rfl,hown,hgr,hat⟩;have HO:=zh hown;have HG:=zh hgr;have HA:=zh hat;have HSZ:=zh ub.out.size;clear hown hgr hat;go_wp2
  go_ret
  exact⟨A',_,c',rfl,HO.out,(Cr.of_below gI.out).trans ((Cr.of_below ub.out).trans (Cr.C8 HG.out)),HA.out.elim .inl (fun h=>.inr ⟨_,h,Nat.le_trans gI.out.size ub.out.size⟩)⟩
theorem Km {w:World}{base:Nat}{S:Nat→Prop}{A:Option Addr}{n c i:Nat}{is:Bool}{l:List Tag}{x:Tag}{a b:ByteArray}(h:Bo 94 Bv w base S A n c l) (hi:i≤n) (his:is=true→i<n) (hn:n≤999999) (hbase:base≤w.heap.size)
  (hx:Bv.R w (fun b=>S b∧some b≠qd A) [.string a,.string b] x):
  Calls Tryz.prog 104 #[.slice A n c,.int .i64 (i:Int),.bool is,.agg #[.string a,.string b]] w (F7 94 Bv w base S A l i is x):=by
 have hal:Below w.heap.size w (w.alloc (.cells #[.string a,.string b] 94)):=(Below.refl _ _).alloc (Nat.le_refl _) _;have hrow:=heap_alloc_new w (.cells #[.string a,.string b] 94);have hlt:w.heap.size<(w.alloc (.cells #[.string a,.string b] 94)).heap.size:=by simp
 have H1:=zh (h.all hal);have H9:=zh (Bv.frame (S:=fun b=>S b∧some b≠qd A) (w':=w.alloc (.cells #[.string a,.string b] 94)) (.all hal) hal.size hx);have p6:=zh h.lt;have HL:=zh h.len;clear hx
 cases is with
 |true=>
  have hin:=his rfl;obtain⟨g,eA,_,_⟩:=h.form (by omega);subst eA;clear h his
  go_enter Tryz.func104,Tryz.ntmps104
  go_upto_region 2 with (fail)
  generalize (w.alloc (.cells #[.string a,.string b] 94))=w1 at *;have gI:=zh hal;clear hal;obtain⟨g',eg,_,hgl,hown,hgr⟩:=H1.out.CO hin H9.out;injection eg with eg;injection eg with eg;subst eg
  have HOWN:=zh hown;clear hown;have vL:=zh hgr;clear hgr;obtain⟨bs,os,eB,_,hbl,_,_,z0,z1,f0,f1⟩:=(H1.out.sl (tg:=true)).Cc hin;injection eB with eB;injection eB with eB1 eB2;subst eB1;subst eB2
  simp only[Nat.zero_add] at *;have bx0:=zc 0 hrow (.string a) rfl;have bx1:=zc 1 hrow (.string b) rfl;clear hrow;go_wp2
  go_ret
  exact⟨some ⟨g,0,none⟩,n,c,rfl,HOWN.out,(Cr.of_below gI.out).trans (Cr.C8 vL.out),.inl rfl⟩
 |false=>
  clear his h
  go_enter Tryz.func104,Tryz.ntmps104
  go_upto_region 4 with (fail)
  generalize (w.alloc (.cells #[.string a,.string b] 94))=w1 at *;have gI:=zh hal;clear hal;have bx0:=zc 0 hrow (.string a) rfl;have bx1:=zc 1 hrow (.string b) rfl;clear hrow;have gH:Below w1.heap.size w1 (w1.alloc (.cells #[.string a,.string b] 94)):=(Below.refl _ _).alloc (Nat.le_refl _) _;have ub:=zh gH
  have GF:=zh (Xo (vb:=w1.heap.size) (x:=x) (i:=i) (H1.out.all gH) hi (by omega) (Nat.le_trans hbase (Nat.le_trans gI.out.size gH.size)) (heap_alloc_new w1 (.cells #[.string a,.string b] 94)) (Bv.frame (S:=fun b=>S b∧some b≠qd A) (w':=w1.alloc (.cells #[.string a,.string b] 94)) (.all gH) gH.size H9.out) (fun e=>by
   have h1:=(p6.out _ e.symm).2;have h2:=gI.out.size
   omega))
  clear gH;go_wp2_with fail
  refine GF.out.mono ?_;rintro e w2 ⟨A',c',rfl,hown,hgr,hat⟩;have HO:=zh hown;have HG:=zh hgr;have HA:=zh hat;have HSZ:=zh ub.out.size;clear hown hgr hat;go_wp2
  go_ret
  exact⟨A',_,c',rfl,HO.out,(Cr.of_below gI.out).trans ((Cr.of_below ub.out).trans (Cr.C8 HG.out)),HA.out.elim .inl (fun h=>.inr ⟨_,h,Nat.le_trans gI.out.size ub.out.size⟩)⟩
end Go.Proofs.YtipecejghioicaaGreat
namespace Go.Silo
open Go Go.RowKit
inductive CZ (V:World) (R:Nat→Value→World→Prop) (s1:Nat) (R1:Value→World→World→Prop):List (Nat×Value)→World→Prop
 |pre {us:List (Nat×Value)}{W:World}:Below V.heap.size V W→(∀i v,(i,v)∈us→R i v W)→s1∉us.map Prod.fst→CZ V R s1 R1 us W
 |mid {us:List (Nat×Value)}{W0 W:World}{v:Value}:Below V.heap.size V W0→(∀i v,(i,v)∈us→R i v W0)→R1 v W0 W→s1∉us.map Prod.fst→CZ V R s1 R1 (us++[(s1,v)]) W
section
variable {V W W':World}{R:Nat→Value→World→Prop}{s1:Nat}{R1:Value→World→World→Prop}{us:List (Nat×Value)}
theorem CZ.init:CZ V R s1 R1 [] V.drew:=.pre (Below.refl _ _).drew (fun _ _ h=>by cases h) (by simp)
theorem CZ.early (h:CZ V R s1 R1 us W) (hn:s1∉us.map Prod.fst):Below V.heap.size V W∧(∀i v,(i,v)∈us→R i v W):=by
 cases h with
 |pre a b c=>exact⟨a,b⟩
 |mid _ _ _ _=>exact absurd (by simp) hn
theorem CZ.snoc (h:CZ V R s1 R1 us W) {i:Nat}{x:Value}(h1:i≠s1) (hn:s1∉us.map Prod.fst) (hb:Below W.heap.size W W') (hs:∀j v,R j v W→R j v W') (hx:R i x W'):CZ V R s1 R1 (us++[(i,x)]) W':=by
 obtain⟨hB,hR⟩:=h.early hn;refine .pre (hB.trans (hb.mono hB.size)) (fun j v hj=>?_) ?_
 ·rcases List.mem_append.1 hj with hj|hj
  ·exact hs j v (hR j v hj)
  simp at hj;obtain⟨rfl,rfl⟩:=hj;exact hx
 rw[List.map_append,List.mem_append];rintro(h|h)
 ·exact hn h
 simp at h;exact h1 h.symm
theorem CZ.call (h:CZ V R s1 R1 us W) {x:Value}(hn:s1∉us.map Prod.fst) (hx:R1 x W W'):CZ V R s1 R1 (us++[(s1,x)]) W':=.mid (h.early hn).1 (h.early hn).2 hx hn
theorem CZ.last (h:CZ V R s1 R1 us W) (h1:s1∈us.map Prod.fst):∃gX W0 v,us=gX++[(s1,v)]∧Below V.heap.size V W0∧R1 v W0 W∧s1∉gX.map Prod.fst:=by
 cases h with
 |pre _ _ h=>exact absurd h1 h
 |mid a _ b c=>exact⟨_,_,_,rfl,a,b,c⟩
theorem CZ.ever (h:CZ V R s1 R1 us W) {i:Nat}(hi:i∈us.map Prod.fst) (h1:i≠s1):∃v W0,us.lookup i=some v∧R i v W0:=by
 cases h with
 |pre _ hR _=>obtain⟨v,a,b⟩:=qb hi;exact⟨v,_,a,hR i v b⟩
 |@mid gX W0 W1 x _ hR _ _=>obtain⟨v,a,b⟩:=qb (qR hi h1);exact⟨v,_,by rw[zB h1];exact a,hR i v b⟩
theorem CZ.kept {r:Option Nat}(h:CZ V R s1 R1 us W) (hR:∀v W0 W,R1 v W0 W→Cr r W0 W) {g:Nat}(hg:g<V.heap.size) (h0:some g≠r):W.heap[g]?=V.heap[g]?:=by
 cases h with
 |pre a _ _=>exact a.block g hg
 |mid a _ b _=>exact((hR _ _ _ b).agree g h0 (Nat.lt_of_lt_of_le hg a.size)).trans (a.block g hg)
end
theorem Bo.lower {α:Type}{T:TypeId}{E:Enc α}{w:World}{base base':Nat}{S:Nat→Prop}{A:Option Addr}{n c:Nat}{xs:List α}(h:Bo T E w base S A n c xs) (hb:base'≤base):Bo T E w base' S A n c xs:=by
 obtain⟨cs,⟨h1,h2⟩,h3,h4⟩:=h;refine⟨cs,⟨h1,?_⟩,h3,h4⟩;rcases h2 with h2|⟨g,cap,cur,e,hg,rest⟩
 ·exact .inl h2
 exact .inr ⟨g,cap,cur,e,Nat.le_trans hb hg,rest⟩
theorem JX {α:Type}{l:List α}{j:Nat}{d:α}(h:j<l.length):l.getD j d∈l:=by
 rw[List.getD_eq_getElem?_getD,List.getElem?_eq_getElem h];exact List.getElem_mem h
theorem JY {g:Nat}{a b c d e f u v z y s t:Value}{T:TypeId}{W:World}(h:W.heap[g]?=some (.cells #[u,v,z,y,s,t] T (0,0))):(Bi g 0 [a,b,c,d,e,f] W).heap[g]?=some (.cells #[a,b,c,d,e,f] T (0,0)):=by
 simp[Bi,World.setCell,Array.getElem?_modify,h]
end Go.Silo
namespace Go.Proofs.YtipecejghioicaaGreat
open Go.RowKit Go.Silo
theorem QP:qN ByteArray.empty:=by unfold qN;simp
def RCm (ln gn:Int) (xs:List Slot) (V:World) (i:Nat) (v:Value) (W:World):Prop:=
 (i=6→∃g,v=.slice (some ⟨g,0,none⟩) 2 2∧V.heap.size≤g∧W.heap[g]?=some (.cells #[.int .i64 ln,.int .i64 gn] 3 (0,0)))∧
 (i=9→∃A c,v=.slice A xs.length c∧Sl true 88 qp W (fun q=>V.heap.size≤q) A xs.length c xs)
theorem RCm.all {ln gn:Int}{xs:List Slot}{V W W':World}(hb:Below W.heap.size W W') (j:Nat) (v:Value) (h:RCm ln gn xs V j v W):RCm ln gn xs V j v W':=
 ⟨fun hj=>by obtain⟨g,a,b,c⟩:=h.1 hj;exact⟨g,a,b,zb hb c⟩,fun hj=>by obtain⟨A,c,e,t⟩:=h.2 hj;exact⟨A,c,e,t.all hb⟩⟩
def Dv (us:List (Nat×Value)):Prop:=(10∈us.map Prod.fst→9∈us.map Prod.fst)∧(11∈us.map Prod.fst→10∈us.map Prod.fst)
theorem Dv.DL {us:List (Nat×Value)}(_h:Dv us) {x:Value}(h9:9∈us.map Prod.fst):Dv (us++[(10,x)]):=⟨fun _=>by rw[List.map_append,List.mem_append];exact .inl h9,fun _=>by simp⟩
theorem Dv.DR {us:List (Nat×Value)}(h:Dv us) {x:Value}(h10:10∈us.map Prod.fst):Dv (us++[(11,x)]):=⟨fun _=>by rw[List.map_append,List.mem_append];exact .inl (h.1 h10),fun _=>by rw[List.map_append,List.mem_append];exact .inl h10⟩
def RTh (kd ln:Int) (dg:ByteArray) (xs:List Int) (V:World) (i:Nat) (v:Value) (W:World):Prop:=
 (i=8→∃A c,v=.slice A xs.length c∧Sl true 3 qD W (fun q=>V.heap.size≤q) A xs.length c xs)∧
 (i=9→∃A c,v=.agg #[.int .i64 kd,.int .i64 ln,.string ⟨#[]⟩,.string dg,.slice A xs.length c,.slice none 0 0]∧Sl true 3 qD W (fun q=>V.heap.size≤q) A xs.length c xs)∧
 (i=10→∃g A c,v=.slice (some ⟨g,0,none⟩) 1 1∧V.heap.size≤g∧W.heap[g]?=some (.cells #[.int .i64 kd,.int .i64 ln,.string ⟨#[]⟩,.string dg,.slice A xs.length c,.slice none 0 0] 61 (0,0))∧Sl true 3 qD W (fun q=>V.heap.size≤q) A xs.length c xs)
theorem RTh.all {kd ln:Int}{dg:ByteArray}{xs:List Int}{V W W':World}(hb:Below W.heap.size W W') (j:Nat) (v:Value) (h:RTh kd ln dg xs V j v W):RTh kd ln dg xs V j v W':=
 ⟨fun hj=>by obtain⟨A,c,e,t⟩:=h.1 hj;exact⟨A,c,e,t.all hb⟩,fun hj=>by obtain⟨A,c,e,t⟩:=h.2.1 hj;exact⟨A,c,e,t.all hb⟩,fun hj=>by obtain⟨g,A,c,e,hg,r,t⟩:=h.2.2 hj;exact⟨g,A,c,e,hg,zb hb r,t.all hb⟩⟩
end Go.Proofs.YtipecejghioicaaGreat
