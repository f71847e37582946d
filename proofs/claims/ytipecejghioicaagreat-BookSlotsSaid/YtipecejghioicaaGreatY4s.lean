/- Book.set: something is put in its place in a row of one's own. -/
import Derived.Test.YtipecejghioicaaGreatY2s
import Derived.Deep.CutBlock
import Derived.Deep.Cut
import Derived.Test.YtipecejghioicaaGreatP0s
set_option maxHeartbeats 4000000
set_option maxRecDepth 100000
namespace Go.Silo
open Go Go.RowKit
structure Cq (r:Option Nat) (w w':World):Prop where
 below:∀B,B≤w.heap.size→(∀k,r=some k→B≤k)→Below B w w'
 agree:Agree (fun b=>some b≠r) w w'
 size:w.heap.size≤w'.heap.size
theorem Cq.of_below {r:Option Nat}{w w':World}(h:Below w.heap.size w w'):Cq r w w':=⟨fun _ hB _=>h.mono hB,.all h,h.size⟩
theorem Cq.BI {r:Option Nat}{w w':World}(h:w.grownBy w' r):Cq r w w':=⟨fun B hB hr=>(Below.refl B w).grown h hB hr,Agree.grown h (fun _ hb=>hb),h.size⟩
theorem Cq.trans {r:Option Nat}{a b c:World}(h:Cq r a b) (k:Cq r b c):Cq r a c:=
 ⟨fun B hB hr=>(h.below B hB hr).trans (k.below B (Nat.le_trans hB h.size) hr),h.agree.trans h.size k.agree,Nat.le_trans h.size k.size⟩
def xV {α:Type}(i:Nat) (is:Bool) (x:α) (l:List α):List α:=if is then l.set i x else xj i x l
theorem kY {α:Type}{i:Nat}{is:Bool}{x:α}{l:List α}(h:i≤l.length):(xV i is x l).length≤l.length+1:=by
 unfold xV;split
 ·simp
 rw[xk h];exact Nat.le_refl _
def EN {α:Type}(T:TypeId) (E:Enc α) (w:World) (base:Nat) (S:Nat→Prop) (A:Option Addr) (l:List α) (i:Nat) (is:Bool) (x:α) (e:Ending) (w':World):Prop:=
 ∃A' n' c',e=.returned (.slice A' n' c')∧Be T E w' base S A' n' c' (xV i is x l)∧Cq (qa A) w w'∧(qa A'=qa A∨∃g,qa A'=some g∧w.heap.size≤g)
end Go.Silo
namespace Go.Proofs.YtipecejghioicaaGreat
open Go.RowKit Go.Silo
theorem Xd {tg:Bool}{w:World}{base:Nat}{S:Nat→Prop}{A:Option Addr}{n c i:Nat}{is:Bool}{l:List Bb}{x:Bb}{a b d:Int}{A3:Option Addr}{n3 c3:Nat}(h:Be 86 (qe tg) w base S A n c l) (hi:i≤n) (his:is=true→i<n) (hn:n≤999999) (hbase:base≤w.heap.size)
  (hx:(qe tg).R w (fun b=>S b∧some b≠qa A) [.int .i64 a,.int .i64 b,.int .i64 d,.slice A3 n3 c3] x):
  Calls Tryz.prog 97 #[.slice A n c,.int .i64 (i:Int),.bool is,.agg #[.int .i64 a,.int .i64 b,.int .i64 d,.slice A3 n3 c3]] w (EN 86 (qe tg) w base S A l i is x):=by
 have hal:Below w.heap.size w (w.alloc (.cells #[.int .i64 a,.int .i64 b,.int .i64 d,.slice A3 n3 c3] 86)):=(Below.refl _ _).alloc (Nat.le_refl _) _;have hrow:=heap_alloc_new w (.cells #[.int .i64 a,.int .i64 b,.int .i64 d,.slice A3 n3 c3] 86);have hlt:w.heap.size<(w.alloc (.cells #[.int .i64 a,.int .i64 b,.int .i64 d,.slice A3 n3 c3] 86)).heap.size:=by simp
 have H1:=zh (h.all hal);have vE:=zh ((qe tg).frame (S:=fun b=>S b∧some b≠qa A) (w':=w.alloc (.cells #[.int .i64 a,.int .i64 b,.int .i64 d,.slice A3 n3 c3] 86)) (.all hal) hal.size hx);have yi:=zh h.lt;have HL:=zh h.len;clear hx
 cases is with
 |true=>
  have hin:=his rfl;obtain⟨g,eA,_,_⟩:=h.form (by omega);subst eA;clear h his
  go_enter Tryz.func97,Tryz.ntmps97
  go_upto_region 2 with (fail)
  generalize (w.alloc (.cells #[.int .i64 a,.int .i64 b,.int .i64 d,.slice A3 n3 c3] 86))=w1 at *;have gm:=zh hal;clear hal;obtain⟨g',eg,_,hgl,hown,hgr⟩:=H1.out.CF hin vE.out;injection eg with eg;injection eg with eg;subst eg
  have HOWN:=zh hown;clear hown;have pN:=zh hgr;clear hgr;obtain⟨bs,os,A4,n4,c4,eB,_,hbl,_,_,_,_,z0,z1,z2,z3,f0,f1,f2,f3⟩:=(H1.out.sl (tg:=true)).Bq hin;injection eB with eB;injection eB with eB1 eB2;subst eB1;subst eB2
  simp only[Nat.zero_add] at *;have bx0:=zc 0 hrow (.int .i64 a) rfl;have bx1:=zc 1 hrow (.int .i64 b) rfl;have bx2:=zc 2 hrow (.int .i64 d) rfl;have bx3:=zc 3 hrow (.slice A3 n3 c3) rfl;clear hrow;go_wp2
  go_ret
  exact⟨some ⟨g,0,none⟩,n,c,rfl,HOWN.out,(Cq.of_below gm.out).trans (Cq.BI pN.out),.inl rfl⟩
 |false=>
  clear his h
  go_enter Tryz.func97,Tryz.ntmps97
  go_upto_region 4 with (fail)
  generalize (w.alloc (.cells #[.int .i64 a,.int .i64 b,.int .i64 d,.slice A3 n3 c3] 86))=w1 at *;have gm:=zh hal;clear hal;have bx0:=zc 0 hrow (.int .i64 a) rfl;have bx1:=zc 1 hrow (.int .i64 b) rfl;have bx2:=zc 2 hrow (.int .i64 d) rfl;have bx3:=zc 3 hrow (.slice A3 n3 c3) rfl;clear hrow;have gJ:Below w1.heap.size w1 (w1.alloc (.cells #[.int .i64 a,.int .i64 b,.int .i64 d,.slice A3 n3 c3] 86)):=(Below.refl _ _).alloc (Nat.le_refl _) _;have nM:=zh gJ
  have vF:=zh (Qq (vb:=w1.heap.size) (x:=x) (i:=i) (H1.out.all gJ) hi (by omega) (Nat.le_trans hbase (Nat.le_trans gm.out.size gJ.size)) (heap_alloc_new w1 (.cells #[.int .i64 a,.int .i64 b,.int .i64 d,.slice A3 n3 c3] 86)) ((qe tg).frame (S:=fun b=>S b∧some b≠qa A) (w':=w1.alloc (.cells #[.int .i64 a,.int .i64 b,.int .i64 d,.slice A3 n3 c3] 86)) (.all gJ) gJ.size vE.out) (fun e=>by
   have h1:=(yi.out _ e.symm).2;have h2:=gm.out.size
   omega))
  clear gJ;go_wp2_with fail
  refine vF.out.mono ?_;rintro e w2 ⟨A',c',rfl,hown,hgr,hat⟩;have HO:=zh hown;have HG:=zh hgr;have HA:=zh hat;have HSZ:=zh nM.out.size;clear hown hgr hat;go_wp2
  go_ret
  exact⟨A',_,c',rfl,HO.out,(Cq.of_below gm.out).trans ((Cq.of_below nM.out).trans (Cq.BI HG.out)),HA.out.elim .inl (fun h=>.inr ⟨_,h,Nat.le_trans gm.out.size nM.out.size⟩)⟩
theorem XK {tg:Bool}{w:World}{base:Nat}{S:Nat→Prop}{A:Option Addr}{n c i:Nat}{is:Bool}{l:List Entry}{x:Entry}{a:ByteArray}{b:Int}{d:Bool}{A3:Option Addr}{n3 c3:Nat}(h:Be 90 (ql tg) w base S A n c l) (hi:i≤n) (his:is=true→i<n) (hn:n≤999999) (hbase:base≤w.heap.size)
  (hx:(ql tg).R w (fun b=>S b∧some b≠qa A) [.string a,.int .i64 b,.bool d,.slice A3 n3 c3] x):
  Calls Tryz.prog 100 #[.slice A n c,.int .i64 (i:Int),.bool is,.agg #[.string a,.int .i64 b,.bool d,.slice A3 n3 c3]] w (EN 90 (ql tg) w base S A l i is x):=by
 have hal:Below w.heap.size w (w.alloc (.cells #[.string a,.int .i64 b,.bool d,.slice A3 n3 c3] 90)):=(Below.refl _ _).alloc (Nat.le_refl _) _;have hrow:=heap_alloc_new w (.cells #[.string a,.int .i64 b,.bool d,.slice A3 n3 c3] 90);have hlt:w.heap.size<(w.alloc (.cells #[.string a,.int .i64 b,.bool d,.slice A3 n3 c3] 90)).heap.size:=by simp
 have H1:=zh (h.all hal);have vE:=zh ((ql tg).frame (S:=fun b=>S b∧some b≠qa A) (w':=w.alloc (.cells #[.string a,.int .i64 b,.bool d,.slice A3 n3 c3] 90)) (.all hal) hal.size hx);have yi:=zh h.lt;have HL:=zh h.len;clear hx
 cases is with
 |true=>
  have hin:=his rfl;obtain⟨g,eA,_,_⟩:=h.form (by omega);subst eA;clear h his
  go_enter Tryz.func100,Tryz.ntmps100
  go_upto_region 2 with (fail)
  generalize (w.alloc (.cells #[.string a,.int .i64 b,.bool d,.slice A3 n3 c3] 90))=w1 at *;have gm:=zh hal;clear hal;obtain⟨g',eg,_,hgl,hown,hgr⟩:=H1.out.CF hin vE.out;injection eg with eg;injection eg with eg;subst eg
  have HOWN:=zh hown;clear hown;have pN:=zh hgr;clear hgr;obtain⟨bs,os,A4,n4,c4,eB,_,hbl,_,_,_,z0,z1,z2,z3,f0,f1,f2,f3⟩:=(H1.out.sl (tg:=true)).BF hin;injection eB with eB;injection eB with eB1 eB2;subst eB1;subst eB2
  simp only[Nat.zero_add] at *;have bx0:=zc 0 hrow (.string a) rfl;have bx1:=zc 1 hrow (.int .i64 b) rfl;have bx2:=zc 2 hrow (.bool d) rfl;have bx3:=zc 3 hrow (.slice A3 n3 c3) rfl;clear hrow;go_wp2
  go_ret
  exact⟨some ⟨g,0,none⟩,n,c,rfl,HOWN.out,(Cq.of_below gm.out).trans (Cq.BI pN.out),.inl rfl⟩
 |false=>
  clear his h
  go_enter Tryz.func100,Tryz.ntmps100
  go_upto_region 4 with (fail)
  generalize (w.alloc (.cells #[.string a,.int .i64 b,.bool d,.slice A3 n3 c3] 90))=w1 at *;have gm:=zh hal;clear hal;have bx0:=zc 0 hrow (.string a) rfl;have bx1:=zc 1 hrow (.int .i64 b) rfl;have bx2:=zc 2 hrow (.bool d) rfl;have bx3:=zc 3 hrow (.slice A3 n3 c3) rfl;clear hrow;have gJ:Below w1.heap.size w1 (w1.alloc (.cells #[.string a,.int .i64 b,.bool d,.slice A3 n3 c3] 90)):=(Below.refl _ _).alloc (Nat.le_refl _) _;have nM:=zh gJ
  have vF:=zh (QR (vb:=w1.heap.size) (x:=x) (i:=i) (H1.out.all gJ) hi (by omega) (Nat.le_trans hbase (Nat.le_trans gm.out.size gJ.size)) (heap_alloc_new w1 (.cells #[.string a,.int .i64 b,.bool d,.slice A3 n3 c3] 90)) ((ql tg).frame (S:=fun b=>S b∧some b≠qa A) (w':=w1.alloc (.cells #[.string a,.int .i64 b,.bool d,.slice A3 n3 c3] 90)) (.all gJ) gJ.size vE.out) (fun e=>by
   have h1:=(yi.out _ e.symm).2;have h2:=gm.out.size
   omega))
  clear gJ;go_wp2_with fail
  refine vF.out.mono ?_;rintro e w2 ⟨A',c',rfl,hown,hgr,hat⟩;have HO:=zh hown;have HG:=zh hgr;have HA:=zh hat;have HSZ:=zh nM.out.size;clear hown hgr hat;go_wp2
  go_ret
  exact⟨A',_,c',rfl,HO.out,(Cq.of_below gm.out).trans ((Cq.of_below nM.out).trans (Cq.BI HG.out)),HA.out.elim .inl (fun h=>.inr ⟨_,h,Nat.le_trans gm.out.size nM.out.size⟩)⟩
theorem JW {w:World}{base:Nat}{S:Nat→Prop}{A:Option Addr}{n c i:Nat}{is:Bool}{l:List Tag}{x:Tag}{a b:ByteArray}(h:Be 94 Bz w base S A n c l) (hi:i≤n) (his:is=true→i<n) (hn:n≤999999) (hbase:base≤w.heap.size)
  (hx:Bz.R w (fun b=>S b∧some b≠qa A) [.string a,.string b] x):
  Calls Tryz.prog 104 #[.slice A n c,.int .i64 (i:Int),.bool is,.agg #[.string a,.string b]] w (EN 94 Bz w base S A l i is x):=by
 have hal:Below w.heap.size w (w.alloc (.cells #[.string a,.string b] 94)):=(Below.refl _ _).alloc (Nat.le_refl _) _;have hrow:=heap_alloc_new w (.cells #[.string a,.string b] 94);have hlt:w.heap.size<(w.alloc (.cells #[.string a,.string b] 94)).heap.size:=by simp
 have H1:=zh (h.all hal);have vE:=zh (Bz.frame (S:=fun b=>S b∧some b≠qa A) (w':=w.alloc (.cells #[.string a,.string b] 94)) (.all hal) hal.size hx);have yi:=zh h.lt;have HL:=zh h.len;clear hx
 cases is with
 |true=>
  have hin:=his rfl;obtain⟨g,eA,_,_⟩:=h.form (by omega);subst eA;clear h his
  go_enter Tryz.func104,Tryz.ntmps104
  go_upto_region 2 with (fail)
  generalize (w.alloc (.cells #[.string a,.string b] 94))=w1 at *;have gm:=zh hal;clear hal;obtain⟨g',eg,_,hgl,hown,hgr⟩:=H1.out.CF hin vE.out;injection eg with eg;injection eg with eg;subst eg
  have HOWN:=zh hown;clear hown;have pN:=zh hgr;clear hgr;obtain⟨bs,os,eB,_,hbl,_,_,z0,z1,f0,f1⟩:=(H1.out.sl (tg:=true)).Ci hin;injection eB with eB;injection eB with eB1 eB2;subst eB1;subst eB2
  simp only[Nat.zero_add] at *;have bx0:=zc 0 hrow (.string a) rfl;have bx1:=zc 1 hrow (.string b) rfl;clear hrow;go_wp2
  go_ret
  exact⟨some ⟨g,0,none⟩,n,c,rfl,HOWN.out,(Cq.of_below gm.out).trans (Cq.BI pN.out),.inl rfl⟩
 |false=>
  clear his h
  go_enter Tryz.func104,Tryz.ntmps104
  go_upto_region 4 with (fail)
  generalize (w.alloc (.cells #[.string a,.string b] 94))=w1 at *;have gm:=zh hal;clear hal;have bx0:=zc 0 hrow (.string a) rfl;have bx1:=zc 1 hrow (.string b) rfl;clear hrow;have gJ:Below w1.heap.size w1 (w1.alloc (.cells #[.string a,.string b] 94)):=(Below.refl _ _).alloc (Nat.le_refl _) _;have nM:=zh gJ
  have vF:=zh (Xc (vb:=w1.heap.size) (x:=x) (i:=i) (H1.out.all gJ) hi (by omega) (Nat.le_trans hbase (Nat.le_trans gm.out.size gJ.size)) (heap_alloc_new w1 (.cells #[.string a,.string b] 94)) (Bz.frame (S:=fun b=>S b∧some b≠qa A) (w':=w1.alloc (.cells #[.string a,.string b] 94)) (.all gJ) gJ.size vE.out) (fun e=>by
   have h1:=(yi.out _ e.symm).2;have h2:=gm.out.size
   omega))
  clear gJ;go_wp2_with fail
  refine vF.out.mono ?_;rintro e w2 ⟨A',c',rfl,hown,hgr,hat⟩;have HO:=zh hown;have HG:=zh hgr;have HA:=zh hat;have HSZ:=zh nM.out.size;clear hown hgr hat;go_wp2
  go_ret
  exact⟨A',_,c',rfl,HO.out,(Cq.of_below gm.out).trans ((Cq.of_below nM.out).trans (Cq.BI HG.out)),HA.out.elim .inl (fun h=>.inr ⟨_,h,Nat.le_trans gm.out.size nM.out.size⟩)⟩
end Go.Proofs.YtipecejghioicaaGreat
