/- Book.Commit; the drawn region of book.All. -/
import Derived.Test.YtipecejghioicaaGreatY2t
set_option maxHeartbeats 8000000
set_option maxRecDepth 100000
namespace Go.Silo
open Go Go.RowKit
structure Cn (r:Option Nat) (w w':World):Prop where
 below:∀B,B≤w.heap.size→(∀k,r=some k→B≤k)→Below B w w'
 agree:Agree (fun b=>some b≠r) w w'
 size:w.heap.size≤w'.heap.size
theorem Cn.of_below {r:Option Nat}{w w':World}(h:Below w.heap.size w w'):Cn r w w':=⟨fun _ hB _=>h.mono hB,.all h,h.size⟩
theorem Cn.BS {r:Option Nat}{w w':World}(h:w.grownBy w' r):Cn r w w':=⟨fun B hB hr=>(Below.refl B w).grown h hB hr,Agree.grown h (fun _ hb=>hb),h.size⟩
theorem Cn.trans {r:Option Nat}{a b c:World}(h:Cn r a b) (k:Cn r b c):Cn r a c:=
 ⟨fun B hB hr=>(h.below B hB hr).trans (k.below B (Nat.le_trans hB h.size) hr),h.agree.trans h.size k.agree,Nat.le_trans h.size k.size⟩
def qV {α:Type}(i:Nat) (is:Bool) (x:α) (l:List α):List α:=if is then l.set i x else xa i x l
theorem Qx {α:Type}{i:Nat}{is:Bool}{x:α}{l:List α}(h:i≤l.length):(qV i is x l).length≤l.length+1:=by
 unfold qV;split
 ·simp
 rw[xS h];exact Nat.le_refl _
def F9 {α:Type}(T:TypeId) (E:Enc α) (w:World) (base:Nat) (S:Nat→Prop) (A:Option Addr) (l:List α) (i:Nat) (is:Bool) (x:α) (e:Ending) (w':World):Prop:=
 ∃A' n' c',e=.returned (.slice A' n' c')∧Bi T E w' base S A' n' c' (qV i is x l)∧Cn (qd A) w w'∧(qd A'=qd A∨∃g,qd A'=some g∧w.heap.size≤g)
end Go.Silo
namespace Go.Proofs.YtipecejghioicaaGreat
open Go.RowKit Go.Silo
theorem XH {tg:Bool}{w:World}{base:Nat}{S:Nat→Prop}{A:Option Addr}{n c i:Nat}{is:Bool}{l:List Bc}{x:Bc}{a b d:Int}{A3:Option Addr}{n3 c3:Nat}(h:Bi 86 (qc tg) w base S A n c l) (hi:i≤n) (his:is=true→i<n) (hn:n≤999999) (hbase:base≤w.heap.size)
  (hx:(qc tg).R w (fun b=>S b∧some b≠qd A) [.int .i64 a,.int .i64 b,.int .i64 d,.slice A3 n3 c3] x):
  Calls Tryz.prog 97 #[.slice A n c,.int .i64 (i:Int),.bool is,.agg #[.int .i64 a,.int .i64 b,.int .i64 d,.slice A3 n3 c3]] w (F9 86 (qc tg) w base S A l i is x):=by
 have hal:Below w.heap.size w (w.alloc (.cells #[.int .i64 a,.int .i64 b,.int .i64 d,.slice A3 n3 c3] 86)):=(Below.refl _ _).alloc (Nat.le_refl _) _;have hrow:=heap_alloc_new w (.cells #[.int .i64 a,.int .i64 b,.int .i64 d,.slice A3 n3 c3] 86);have hlt:w.heap.size<(w.alloc (.cells #[.int .i64 a,.int .i64 b,.int .i64 d,.slice A3 n3 c3] 86)).heap.size:=by simp
 have H1:=zh (h.all hal);have GZ:=zh ((qc tg).frame (S:=fun b=>S b∧some b≠qd A) (w':=w.alloc (.cells #[.int .i64 a,.int .i64 b,.int .i64 d,.slice A3 n3 c3] 86)) (.all hal) hal.size hx);have mY:=zh h.lt;have HL:=zh h.len;clear hx
 cases is with
 |true=>
  have hin:=his rfl;obtain⟨g,eA,_,_⟩:=h.form (by omega);subst eA;clear h his
  go_enter Tryz.func97,Tryz.ntmps97
  go_upto_region 2 with (fail)
  generalize (w.alloc (.cells #[.int .i64 a,.int .i64 b,.int .i64 d,.slice A3 n3 c3] 86))=w1 at *;have gB:=zh hal;clear hal;obtain⟨g',eg,_,hgl,hown,hgr⟩:=H1.out.CL hin GZ.out;injection eg with eg;injection eg with eg;subst eg
  have HOWN:=zh hown;clear hown;have vz:=zh hgr;clear hgr;obtain⟨bs,os,A4,n4,c4,eB,_,hbl,_,_,_,_,z0,z1,z2,z3,f0,f1,f2,f3⟩:=(H1.out.sl (tg:=true)).Bt hin;injection eB with eB;injection eB with eB1 eB2;subst eB1;subst eB2
  simp only[Nat.zero_add] at *;have bx0:=zc 0 hrow (.int .i64 a) rfl;have bx1:=zc 1 hrow (.int .i64 b) rfl;have bx2:=zc 2 hrow (.int .i64 d) rfl;have bx3:=zc 3 hrow (.slice A3 n3 c3) rfl;clear hrow;go_wp2
  go_ret
  exact⟨some ⟨g,0,none⟩,n,c,rfl,HOWN.out,(Cn.of_below gB.out).trans (Cn.BS vz.out),.inl rfl⟩
 |false=>
  clear his h
  go_enter Tryz.func97,Tryz.ntmps97
  go_upto_region 4 with (fail)
  generalize (w.alloc (.cells #[.int .i64 a,.int .i64 b,.int .i64 d,.slice A3 n3 c3] 86))=w1 at *;have gB:=zh hal;clear hal;have bx0:=zc 0 hrow (.int .i64 a) rfl;have bx1:=zc 1 hrow (.int .i64 b) rfl;have bx2:=zc 2 hrow (.int .i64 d) rfl;have bx3:=zc 3 hrow (.slice A3 n3 c3) rfl;clear hrow;have gT:Below w1.heap.size w1 (w1.alloc (.cells #[.int .i64 a,.int .i64 b,.int .i64 d,.slice A3 n3 c3] 86)):=(Below.refl _ _).alloc (Nat.le_refl _) _;have rL:=zh gT
  have Gl:=zh (QP (vb:=w1.heap.size) (x:=x) (i:=i) (H1.out.all gT) hi (by omega) (Nat.le_trans hbase (Nat.le_trans gB.out.size gT.size)) (heap_alloc_new w1 (.cells #[.int .i64 a,.int .i64 b,.int .i64 d,.slice A3 n3 c3] 86)) ((qc tg).frame (S:=fun b=>S b∧some b≠qd A) (w':=w1.alloc (.cells #[.int .i64 a,.int .i64 b,.int .i64 d,.slice A3 n3 c3] 86)) (.all gT) gT.size GZ.out) (fun e=>by
   have h1:=(mY.out _ e.symm).2;have h2:=gB.out.size
   omega))
  clear gT;go_wp2_with fail
  refine Gl.out.mono ?_;rintro e w2 ⟨A',c',rfl,hown,hgr,hat⟩;have HO:=zh hown;have HG:=zh hgr;have HA:=zh hat;have HSZ:=zh rL.out.size;clear hown hgr hat;go_wp2
  go_ret
  exact⟨A',_,c',rfl,HO.out,(Cn.of_below gB.out).trans ((Cn.of_below rL.out).trans (Cn.BS HG.out)),HA.out.elim .inl (fun h=>.inr ⟨_,h,Nat.le_trans gB.out.size rL.out.size⟩)⟩
theorem Jx {tg:Bool}{w:World}{base:Nat}{S:Nat→Prop}{A:Option Addr}{n c i:Nat}{is:Bool}{l:List Entry}{x:Entry}{a:ByteArray}{b:Int}{d:Bool}{A3:Option Addr}{n3 c3:Nat}(h:Bi 90 (qj tg) w base S A n c l) (hi:i≤n) (his:is=true→i<n) (hn:n≤999999) (hbase:base≤w.heap.size)
  (hx:(qj tg).R w (fun b=>S b∧some b≠qd A) [.string a,.int .i64 b,.bool d,.slice A3 n3 c3] x):
  Calls Tryz.prog 100 #[.slice A n c,.int .i64 (i:Int),.bool is,.agg #[.string a,.int .i64 b,.bool d,.slice A3 n3 c3]] w (F9 90 (qj tg) w base S A l i is x):=by
 have hal:Below w.heap.size w (w.alloc (.cells #[.string a,.int .i64 b,.bool d,.slice A3 n3 c3] 90)):=(Below.refl _ _).alloc (Nat.le_refl _) _;have hrow:=heap_alloc_new w (.cells #[.string a,.int .i64 b,.bool d,.slice A3 n3 c3] 90);have hlt:w.heap.size<(w.alloc (.cells #[.string a,.int .i64 b,.bool d,.slice A3 n3 c3] 90)).heap.size:=by simp
 have H1:=zh (h.all hal);have GZ:=zh ((qj tg).frame (S:=fun b=>S b∧some b≠qd A) (w':=w.alloc (.cells #[.string a,.int .i64 b,.bool d,.slice A3 n3 c3] 90)) (.all hal) hal.size hx);have mY:=zh h.lt;have HL:=zh h.len;clear hx
 cases is with
 |true=>
  have hin:=his rfl;obtain⟨g,eA,_,_⟩:=h.form (by omega);subst eA;clear h his
  go_enter Tryz.func100,Tryz.ntmps100
  go_upto_region 2 with (fail)
  generalize (w.alloc (.cells #[.string a,.int .i64 b,.bool d,.slice A3 n3 c3] 90))=w1 at *;have gB:=zh hal;clear hal;obtain⟨g',eg,_,hgl,hown,hgr⟩:=H1.out.CL hin GZ.out;injection eg with eg;injection eg with eg;subst eg
  have HOWN:=zh hown;clear hown;have vz:=zh hgr;clear hgr;obtain⟨bs,os,A4,n4,c4,eB,_,hbl,_,_,_,z0,z1,z2,z3,f0,f1,f2,f3⟩:=(H1.out.sl (tg:=true)).BC hin;injection eB with eB;injection eB with eB1 eB2;subst eB1;subst eB2
  simp only[Nat.zero_add] at *;have bx0:=zc 0 hrow (.string a) rfl;have bx1:=zc 1 hrow (.int .i64 b) rfl;have bx2:=zc 2 hrow (.bool d) rfl;have bx3:=zc 3 hrow (.slice A3 n3 c3) rfl;clear hrow;go_wp2
  go_ret
  exact⟨some ⟨g,0,none⟩,n,c,rfl,HOWN.out,(Cn.of_below gB.out).trans (Cn.BS vz.out),.inl rfl⟩
 |false=>
  clear his h
  go_enter Tryz.func100,Tryz.ntmps100
  go_upto_region 4 with (fail)
  generalize (w.alloc (.cells #[.string a,.int .i64 b,.bool d,.slice A3 n3 c3] 90))=w1 at *;have gB:=zh hal;clear hal;have bx0:=zc 0 hrow (.string a) rfl;have bx1:=zc 1 hrow (.int .i64 b) rfl;have bx2:=zc 2 hrow (.bool d) rfl;have bx3:=zc 3 hrow (.slice A3 n3 c3) rfl;clear hrow;have gT:Below w1.heap.size w1 (w1.alloc (.cells #[.string a,.int .i64 b,.bool d,.slice A3 n3 c3] 90)):=(Below.refl _ _).alloc (Nat.le_refl _) _;have rL:=zh gT
  have Gl:=zh (Zp (vb:=w1.heap.size) (x:=x) (i:=i) (H1.out.all gT) hi (by omega) (Nat.le_trans hbase (Nat.le_trans gB.out.size gT.size)) (heap_alloc_new w1 (.cells #[.string a,.int .i64 b,.bool d,.slice A3 n3 c3] 90)) ((qj tg).frame (S:=fun b=>S b∧some b≠qd A) (w':=w1.alloc (.cells #[.string a,.int .i64 b,.bool d,.slice A3 n3 c3] 90)) (.all gT) gT.size GZ.out) (fun e=>by
   have h1:=(mY.out _ e.symm).2;have h2:=gB.out.size
   omega))
  clear gT;go_wp2_with fail
  refine Gl.out.mono ?_;rintro e w2 ⟨A',c',rfl,hown,hgr,hat⟩;have HO:=zh hown;have HG:=zh hgr;have HA:=zh hat;have HSZ:=zh rL.out.size;clear hown hgr hat;go_wp2
  go_ret
  exact⟨A',_,c',rfl,HO.out,(Cn.of_below gB.out).trans ((Cn.of_below rL.out).trans (Cn.BS HG.out)),HA.out.elim .inl (fun h=>.inr ⟨_,h,Nat.le_trans gB.out.size rL.out.size⟩)⟩
theorem KK {w:World}{base:Nat}{S:Nat→Prop}{A:Option Addr}{n c i:Nat}{is:Bool}{l:List Tag}{x:Tag}{a b:ByteArray}(h:Bi 94 Bw w base S A n c l) (hi:i≤n) (his:is=true→i<n) (hn:n≤999999) (hbase:base≤w.heap.size)
  (hx:Bw.R w (fun b=>S b∧some b≠qd A) [.string a,.string b] x):
  Calls Tryz.prog 104 #[.slice A n c,.int .i64 (i:Int),.bool is,.agg #[.string a,.string b]] w (F9 94 Bw w base S A l i is x):=by
 have hal:Below w.heap.size w (w.alloc (.cells #[.string a,.string b] 94)):=(Below.refl _ _).alloc (Nat.le_refl _) _;have hrow:=heap_alloc_new w (.cells #[.string a,.string b] 94);have hlt:w.heap.size<(w.alloc (.cells #[.string a,.string b] 94)).heap.size:=by simp
 have H1:=zh (h.all hal);have GZ:=zh (Bw.frame (S:=fun b=>S b∧some b≠qd A) (w':=w.alloc (.cells #[.string a,.string b] 94)) (.all hal) hal.size hx);have mY:=zh h.lt;have HL:=zh h.len;clear hx
 cases is with
 |true=>
  have hin:=his rfl;obtain⟨g,eA,_,_⟩:=h.form (by omega);subst eA;clear h his
  go_enter Tryz.func104,Tryz.ntmps104
  go_upto_region 2 with (fail)
  generalize (w.alloc (.cells #[.string a,.string b] 94))=w1 at *;have gB:=zh hal;clear hal;obtain⟨g',eg,_,hgl,hown,hgr⟩:=H1.out.CL hin GZ.out;injection eg with eg;injection eg with eg;subst eg
  have HOWN:=zh hown;clear hown;have vz:=zh hgr;clear hgr;obtain⟨bs,os,eB,_,hbl,_,_,z0,z1,f0,f1⟩:=(H1.out.sl (tg:=true)).C9 hin;injection eB with eB;injection eB with eB1 eB2;subst eB1;subst eB2
  simp only[Nat.zero_add] at *;have bx0:=zc 0 hrow (.string a) rfl;have bx1:=zc 1 hrow (.string b) rfl;clear hrow;go_wp2
  go_ret
  exact⟨some ⟨g,0,none⟩,n,c,rfl,HOWN.out,(Cn.of_below gB.out).trans (Cn.BS vz.out),.inl rfl⟩
 |false=>
  clear his h
  go_enter Tryz.func104,Tryz.ntmps104
  go_upto_region 4 with (fail)
  generalize (w.alloc (.cells #[.string a,.string b] 94))=w1 at *;have gB:=zh hal;clear hal;have bx0:=zc 0 hrow (.string a) rfl;have bx1:=zc 1 hrow (.string b) rfl;clear hrow;have gT:Below w1.heap.size w1 (w1.alloc (.cells #[.string a,.string b] 94)):=(Below.refl _ _).alloc (Nat.le_refl _) _;have rL:=zh gT
  have Gl:=zh (XG (vb:=w1.heap.size) (x:=x) (i:=i) (H1.out.all gT) hi (by omega) (Nat.le_trans hbase (Nat.le_trans gB.out.size gT.size)) (heap_alloc_new w1 (.cells #[.string a,.string b] 94)) (Bw.frame (S:=fun b=>S b∧some b≠qd A) (w':=w1.alloc (.cells #[.string a,.string b] 94)) (.all gT) gT.size GZ.out) (fun e=>by
   have h1:=(mY.out _ e.symm).2;have h2:=gB.out.size
   omega))
  clear gT;go_wp2_with fail
  refine Gl.out.mono ?_;rintro e w2 ⟨A',c',rfl,hown,hgr,hat⟩;have HO:=zh hown;have HG:=zh hgr;have HA:=zh hat;have HSZ:=zh rL.out.size;clear hown hgr hat;go_wp2
  go_ret
  exact⟨A',_,c',rfl,HO.out,(Cn.of_below gB.out).trans ((Cn.of_below rL.out).trans (Cn.BS HG.out)),HA.out.elim .inl (fun h=>.inr ⟨_,h,Nat.le_trans gB.out.size rL.out.size⟩)⟩
end Go.Proofs.YtipecejghioicaaGreat
namespace Go.Silo
open Go Go.RowKit
inductive CR (V:World) (R:Nat→Value→World→Prop) (s1:Nat) (R1:Value→World→World→Prop):List (Nat×Value)→World→Prop
 |pre {us:List (Nat×Value)}{W:World}:Below V.heap.size V W→(∀i v,(i,v)∈us→R i v W)→s1∉us.map Prod.fst→CR V R s1 R1 us W
 |mid {us:List (Nat×Value)}{W0 W:World}{v:Value}:Below V.heap.size V W0→(∀i v,(i,v)∈us→R i v W0)→R1 v W0 W→s1∉us.map Prod.fst→CR V R s1 R1 (us++[(s1,v)]) W
section
variable {V W W':World}{R:Nat→Value→World→Prop}{s1:Nat}{R1:Value→World→World→Prop}{us:List (Nat×Value)}
theorem CR.init:CR V R s1 R1 [] V.drew:=.pre (Below.refl _ _).drew (fun _ _ h=>by cases h) (by simp)
theorem CR.early (h:CR V R s1 R1 us W) (hn:s1∉us.map Prod.fst):Below V.heap.size V W∧(∀i v,(i,v)∈us→R i v W):=by
 cases h with
 |pre a b c=>exact⟨a,b⟩
 |mid _ _ _ _=>exact absurd (by simp) hn
theorem CR.snoc (h:CR V R s1 R1 us W) {i:Nat}{x:Value}(h1:i≠s1) (hn:s1∉us.map Prod.fst) (hb:Below W.heap.size W W') (hs:∀j v,R j v W→R j v W') (hx:R i x W'):CR V R s1 R1 (us++[(i,x)]) W':=by
 obtain⟨hB,hR⟩:=h.early hn;refine .pre (hB.trans (hb.mono hB.size)) (fun j v hj=>?_) ?_
 ·rcases List.mem_append.1 hj with hj|hj
  ·exact hs j v (hR j v hj)
  simp at hj;obtain⟨rfl,rfl⟩:=hj;exact hx
 rw[List.map_append,List.mem_append];rintro(h|h)
 ·exact hn h
 simp at h;exact h1 h.symm
theorem CR.call (h:CR V R s1 R1 us W) {x:Value}(hn:s1∉us.map Prod.fst) (hx:R1 x W W'):CR V R s1 R1 (us++[(s1,x)]) W':=.mid (h.early hn).1 (h.early hn).2 hx hn
theorem CR.last (h:CR V R s1 R1 us W) (h1:s1∈us.map Prod.fst):∃gV W0 v,us=gV++[(s1,v)]∧Below V.heap.size V W0∧R1 v W0 W∧s1∉gV.map Prod.fst:=by
 cases h with
 |pre _ _ h=>exact absurd h1 h
 |mid a _ b c=>exact⟨_,_,_,rfl,a,b,c⟩
theorem CR.ever (h:CR V R s1 R1 us W) {i:Nat}(hi:i∈us.map Prod.fst) (h1:i≠s1):∃v W0,us.lookup i=some v∧R i v W0:=by
 cases h with
 |pre _ hR _=>obtain⟨v,a,b⟩:=qa hi;exact⟨v,_,a,hR i v b⟩
 |@mid gV W0 W1 x _ hR _ _=>obtain⟨v,a,b⟩:=qa (qJ hi h1);exact⟨v,_,by rw[zR h1];exact a,hR i v b⟩
theorem CR.kept {r:Option Nat}(h:CR V R s1 R1 us W) (hR:∀v W0 W,R1 v W0 W→Cn r W0 W) {g:Nat}(hg:g<V.heap.size) (h0:some g≠r):W.heap[g]?=V.heap[g]?:=by
 cases h with
 |pre a _ _=>exact a.block g hg
 |mid a _ b _=>exact((hR _ _ _ b).agree g h0 (Nat.lt_of_lt_of_le hg a.size)).trans (a.block g hg)
end
theorem ZS {W:World}{g n:Nat}{T:TypeId}{xs:List Int}(hn:xs.length=n) (hcap:n≤9223372036854775807) (hv:∀x∈xs,Bf x) (h:W.heap[g]?=some (.cells (xs.map (fun x=>Value.int .i64 x)).toArray T (0,0))):Sl true T Bo W (fun b=>b=g) (some ⟨g,0,none⟩) n n xs:=by
 refine⟨hn,Nat.le_refl _,hcap,fun _=>⟨g,0,rfl,rfl,(zl h),fun _=>⟨_,qy h⟩,fun k y hk=>⟨[.int .i64 y],⟨rfl,hv y (List.mem_of_getElem? hk)⟩,fun i u hi=>?_⟩⟩⟩
 match i,hi with
 |0,hi=>
  injection hi with hi;subst hi
  have e:0+k* Bo.sz+0=k:=by show 0+k* 1+0=k;omega
  rw[e];have hc:(xs.map (fun x=>Value.int .i64 x)).toArray[k]?=some (.int .i64 y):=by rw[List.getElem?_toArray,List.getElem?_map,hk];rfl
  exact⟨(cell_of_row W g k _ _ _ h).trans hc,frozen_of_row W g k _ _ h⟩
theorem kn {W:World}{g:Nat}{p:Slot}{T:TypeId}(hv:Bf p.disk∧Bf p.pos) (h:W.heap[g]?=some (.cells #[.int .i64 p.disk,.int .i64 p.pos] T (0,0))):Sl true T qq W (fun b=>b=g) (some ⟨g,0,none⟩) 1 1 [p]:=by
 refine⟨rfl,Nat.le_refl _,by decide,fun _=>⟨g,0,rfl,rfl,(zl h),fun _=>⟨_,qy h⟩,fun k y hk=>?_⟩⟩
 match k,hk with
 |0,hk=>
  injection hk with hk;subst hk
  refine⟨[.int .i64 p.disk,.int .i64 p.pos],⟨rfl,hv⟩,fun i u hi=>?_⟩
  match i,hi with
  |0,hi=>injection hi with hi;subst hi;exact⟨zo 0 h,zf 0 h⟩
  |1,hi=>injection hi with hi;subst hi;exact⟨zo 1 h,zf 1 h⟩
theorem Bi.lower {α:Type}{T:TypeId}{E:Enc α}{w:World}{base base':Nat}{S:Nat→Prop}{A:Option Addr}{n c:Nat}{xs:List α}(h:Bi T E w base S A n c xs) (hb:base'≤base):Bi T E w base' S A n c xs:=by
 obtain⟨cs,⟨h1,h2⟩,h3,h4⟩:=h;refine⟨cs,⟨h1,?_⟩,h3,h4⟩;rcases h2 with h2|⟨g,cap,cur,e,hg,rest⟩
 ·exact .inl h2
 exact .inr ⟨g,cap,cur,e,Nat.le_trans hb hg,rest⟩
theorem jX {α:Type}{l:List α}{j:Nat}{d:α}(h:j<l.length):l.getD j d∈l:=by
 rw[List.getD_eq_getElem?_getD,List.getElem?_eq_getElem h];exact List.getElem_mem h
theorem ZT {g:Nat}{a b c d e f u v z y s t:Value}{T:TypeId}{W:World}(h:W.heap[g]?=some (.cells #[u,v,z,y,s,t] T (0,0))):(za g 0 [a,b,c,d,e,f] W).heap[g]?=some (.cells #[a,b,c,d,e,f] T (0,0)):=by
 simp[za,World.setCell,Array.getElem?_modify,h]
end Go.Silo
namespace Go.Proofs.YtipecejghioicaaGreat
open Go.RowKit Go.Silo
theorem Tryz.C8:(Tryz.prog.info? 61).map (fun i=>(i.zero,i.size,i.bytes))=some (some (.agg #[.int .i64 0,.int .i64 0,.string ByteArray.empty,.string ByteArray.empty,.slice none 0 0,.slice none 0 0]),6,96):=by kernel_rfl
def qE (x:Bc):Bb:=⟨2,x.id,ByteArray.empty,ByteArray.empty,[x.len,x.gen],x.place⟩
def qX (x:Entry):Bb:=⟨if x.Bz then 5 else 4,x.len,ByteArray.empty,x.digest,x.list,[]⟩
def xz (x:Tag):Bb:=⟨7,0,x.name,x.digest,[],[]⟩
theorem zy:qM ByteArray.empty:=by unfold qM;simp
def Fz (ln gn:Int) (xs:List Slot) (V:World) (i:Nat) (v:Value) (W:World):Prop:=
 (i=6→∃g,v=.slice (some ⟨g,0,none⟩) 2 2∧V.heap.size≤g∧W.heap[g]?=some (.cells #[.int .i64 ln,.int .i64 gn] 3 (0,0)))∧
 (i=9→∃A c,v=.slice A xs.length c∧Sl true 88 qq W (fun q=>V.heap.size≤q) A xs.length c xs)
theorem Fz.all {ln gn:Int}{xs:List Slot}{V W W':World}(hb:Below W.heap.size W W') (j:Nat) (v:Value) (h:Fz ln gn xs V j v W):Fz ln gn xs V j v W':=
 ⟨fun hj=>by obtain⟨g,a,b,c⟩:=h.1 hj;exact⟨g,a,b,zb hb c⟩,fun hj=>by obtain⟨A,c,e,t⟩:=h.2 hj;exact⟨A,c,e,t.all hb⟩⟩
def DX (g:Nat) (id:Int) (us:List (Nat×Value)) (W:World):World:=za g 0 [.int .i64 2,.int .i64 id,.string ⟨#[]⟩,.string ⟨#[]⟩,(us.lookup 6).getD undef,(us.lookup 9).getD undef] W
theorem Kw {tg:Bool}{S:Nat→Prop}{w:World}{A:Option Addr}{n c:Nat}{x:Bc}(hok:Bf x.id∧Bf x.len∧Bf x.gen) (h:Sl tg 88 qq w S A n c x.place) (hn:n≤100000000):
  Calls Tryz.prog 109 #[.agg #[.int .i64 x.id,.int .i64 x.len,.int .i64 x.gen,.slice A n c]] w (Jn (qw true) w (qE x)):=by
 obtain⟨id,ln,gn,xs⟩:=x;simp only at hok h⊢;have hal:Below w.heap.size w ((w.alloc (.cells #[.int .i64 id,.int .i64 ln,.int .i64 gn,.slice A n c] 86)).alloc (.cells #[.int .i64 0,.int .i64 0,.string ⟨#[]⟩,.string ⟨#[]⟩,.slice none 0 0,.slice none 0 0] 61)):=bz;have hr2:=heap_alloc_new (w.alloc (.cells #[.int .i64 id,.int .i64 ln,.int .i64 gn,.slice A n c] 86)) (.cells #[.int .i64 0,.int .i64 0,.string ⟨#[]⟩,.string ⟨#[]⟩,.slice none 0 0,.slice none 0 0] 61);have hr1:((w.alloc (.cells #[.int .i64 id,.int .i64 ln,.int .i64 gn,.slice A n c] 86)).alloc (.cells #[.int .i64 0,.int .i64 0,.string ⟨#[]⟩,.string ⟨#[]⟩,.slice none 0 0,.slice none 0 0] 61)).heap[w.heap.size]?=some (.cells #[.int .i64 id,.int .i64 ln,.int .i64 gn,.slice A n c] 86 (0,0)):=(Below.heap_alloc _ _ _ (by simp)).trans (heap_alloc_new w _);rw[World.size_alloc] at hr2;have hz:w.heap.size+1<((w.alloc (.cells #[.int .i64 id,.int .i64 ln,.int .i64 gn,.slice A n c] 86)).alloc (.cells #[.int .i64 0,.int .i64 0,.string ⟨#[]⟩,.string ⟨#[]⟩,.slice none 0 0,.slice none 0 0] 61)).heap.size:=by simp
 have gU:=zh (fun W (hW:Below w.heap.size w W)=>jW (h.all hW) hn);have nt:=zh hok;clear h hok
 go_enter Tryz.func109,Tryz.ntmps109
 go_upto_region 1 with (fail)
 generalize ((w.alloc (.cells #[.int .i64 id,.int .i64 ln,.int .i64 gn,.slice A n c] 86)).alloc (.cells #[.int .i64 0,.int .i64 0,.string ⟨#[]⟩,.string ⟨#[]⟩,.slice none 0 0,.slice none 0 0] 61))=w1 at *;have gB:=zh hal;clear hal;have R1:=zh hr1;clear hr1;have R2:=zh hr2;clear hr2
 refine rF 14 rfl [3,4,5,6,7,8,9,10,11,12,13] [6,9,11]
   [kq 3 w.heap.size 0,kp 4 (.int .i64 id),kq 5 w.heap.size 1,kp 6 (.int .i64 ln),kq 7 w.heap.size 2,kp 8 (.int .i64 gn),kq 10 w.heap.size 3,kp 11 (.slice A n c),(13,[6,9],fun l=>.agg #[.int .i64 2,.int .i64 id,.string ⟨#[]⟩,.string ⟨#[]⟩,l.getD 0 undef,l.getD 1 undef])]
   [[11],[11],[11],[11],[11],[11],[11],[11],[11],[11],[11]] [[],[],[],[],[],[],[],[],[],[],[],[6,9]] (CG w1 (Fz ln gn xs w1) 11 (DX (w.heap.size+1) id)) .init ⟨.a,.l fun us w6 hW hl=>zo 0 (((hW.early (hl 11 (by decide))).1.block _ (zl R1.out)).trans R1.out),.a,.l fun us w6 hW hl=>zo 1 (((hW.early (hl 11 (by decide))).1.block _ (zl R1.out)).trans R1.out),.a,.l fun us w6 hW hl=>zo 2 (((hW.early (hl 11 (by decide))).1.block _ (zl R1.out)).trans R1.out),?_,.a,.l fun us w6 hW hl=>zo 3 (((hW.early (hl 11 (by decide))).1.block _ (zl R1.out)).trans R1.out),?_,?_,?_,trivial⟩ ?_
 ·refine Bh.wr rfl (fun Z us w6 ho ht hni hlim gh hW K hK=>?_);have e6:=zv (ht 6 (by decide)) (.int .i64 ln) rfl;have e8:=zv (ht 8 (by decide)) (.int .i64 gn) rfl;have hn:=hlim 11 (by decide);have hdone:=hW.snoc (i:=6) (x:=.slice (some ⟨w6.heap.size,0,none⟩) 2 2) (by decide) hn ((Below.refl _ _).alloc (Nat.le_refl _) (.cells #[.int .i64 ln,.int .i64 gn] 3)) (fun j v h=>Fz.all ((Below.refl _ _).alloc (Nat.le_refl _) _) j v h) ⟨fun _=>⟨_,rfl,(hW.early hn).1.size,heap_alloc_new _ _⟩,fun h=>absurd h (by decide)⟩;have mz:=zh hdone;clear hdone hW hni hlim gh ho ht hn;rw[if_pos (by simp[Region.wanted])];unfold Oper.wp;generalize Z.eval=ρ at *;simp only[execOp,List.map_toArray,List.map_cons,List.map_nil,e6,e8];go_simp
  exact hK _ _ mz.out
 ·refine Bh.wr rfl (fun Z us w6 ho ht hni hlim gh hW K hK=>?_);have e11:=zv (ht 11 (by decide)) (.slice A n c) rfl;have hn:=hlim 11 (by decide);have gp:=(hW.early hn).1;have hcl:=gU.out w6 (zu gB gp);refine qo rfl 94 #[.tmp 11] #[59] rfl Tryz.func94 (by kernel_rfl) (by kernel_rfl) #[.slice A n c] (by simp[e11];try first|done|rfl|exact⟨rfl,rfl⟩) (hcl) ?_;rintro e w7 ⟨A3,c3,rfl,hown,gq⟩;exact⟨_,rfl,hK _ _ (hW.snoc (by decide) hn gq (fun j v h=>Fz.all gq j v h) ⟨fun h=>absurd h (by decide),fun _=>⟨A3,c3,rfl,(hown.sl (tg:=true)).mono (fun q hq _=>Nat.le_trans gp.size (hq.elim (fun h=>h) (fun h=>h)))⟩⟩)⟩
 ·refine Bh.rd rfl rfl (fun ρ us w6 ho ht hc hl hsrc hW=>?_);have hE:=hW.early (hl 11 (by decide));obtain⟨v6,l6,m6⟩:=qa (hsrc 6 (by exact(by decide:(6:Nat)∈[6,9])));obtain⟨v9,l9,m9⟩:=qa (hsrc 9 (by exact(by decide:(9:Nat)∈[6,9])));obtain⟨g6,rfl,yB,r6⟩:=(hE.2 6 v6 m6).1 rfl;obtain⟨A3,c3,rfl,ma⟩:=(hE.2 9 v9 m9).2 rfl;have e4:=zv (ht 4 (by decide)) (.int .i64 id) rfl;have e9:=((ht 9 (by decide)).trans (show _=(us.lookup 6).getD undef from rfl)).trans (show _=(.slice (some ⟨g6,0,none⟩) 2 2:Value) by rw[l6];rfl);have e12:=((ht 12 (by decide)).trans (show _=(us.lookup 9).getD undef from rfl)).trans (show _=(.slice A3 xs.length c3:Value) by rw[l9];rfl);change _=Result.ok (Next.value (.agg #[.int .i64 2,.int .i64 id,.string ⟨#[]⟩,.string ⟨#[]⟩,(us.lookup 6).getD undef,(us.lookup 9).getD undef])) w6;rw[l6,l9];have Gm:∀v,ρ (.const v)=v:=hc;clear ht ho hl hsrc hW hE l6 l9 m6 m9 r6 ma;simp only[execOp,List.map_toArray,List.map_cons,List.map_nil,e4,e9,e12,Gm];go_simp
 ·refine Bh.wr rfl (fun Z us w6 ho ht hni hlim gh hW K hK=>?_);have hE:=hW.early hni;obtain⟨v6,l6,m6⟩:=qa (gh 6 (by decide));obtain⟨v9,l9,m9⟩:=qa (gh 9 (by decide));obtain⟨g6,rfl,yB,r6⟩:=(hE.2 6 v6 m6).1 rfl;obtain⟨A3,c3,rfl,ma⟩:=(hE.2 9 v9 m9).2 rfl;have e2:=zv (ho 2 rfl) (.pointer (some ⟨w.heap.size+1,0,none⟩)) rfl;have Gd:=(zv (ht 13 (by decide)) (.agg #[.int .i64 2,.int .i64 id,.string ⟨#[]⟩,.string ⟨#[]⟩,(us.lookup 6).getD undef,(us.lookup 9).getD undef]) rfl).trans (show _=(.agg #[.int .i64 2,.int .i64 id,.string ⟨#[]⟩,.string ⟨#[]⟩,.slice (some ⟨g6,0,none⟩) 2 2,.slice A3 xs.length c3]:Value) by rw[l6,l9];rfl);have hst:DX (w.heap.size+1) id us w6=za (w.heap.size+1) 0 [.int .i64 2,.int .i64 id,.string ⟨#[]⟩,.string ⟨#[]⟩,.slice (some ⟨g6,0,none⟩) 2 2,.slice A3 xs.length c3] w6:=by unfold DX;rw[l6,l9];rfl
  have hdone:=hW.store hni (x:=undef);rw[hst] at hdone;have hr:=(hE.1.block _ hz).trans R2.out;have f0:=(zo 0 hr).trans (show _=some (Value.int .i64 0) from rfl);have f1:=(zo 1 hr).trans (show _=some (Value.int .i64 0) from rfl);have f2:=(zo 2 hr).trans (show _=some (Value.string ⟨#[]⟩) from rfl);have f3:=(zo 3 hr).trans (show _=some (Value.string ⟨#[]⟩) from rfl);have f4:=(zo 4 hr).trans (show _=some (Value.slice none 0 0) from rfl);have f5:=(zo 5 hr).trans (show _=some (Value.slice none 0 0) from rfl);have g0:=zf 0 hr;have g1:=zf 1 hr;have g2:=zf 2 hr;have g3:=zf 3 hr;have g4:=zf 4 hr;have g5:=zf 5 hr;have mz:=zh hdone;clear hdone hW hni hlim gh ho ht hst hr l6 l9 m6 m9 r6 ma hE;rw[if_pos (by simp[Region.wanted])];unfold Oper.wp;generalize Z.eval=ρ at *;simp only[execOp,e2,Gd];go_simp
  exact hK undef _ mz.out
 intro us w9 hmem hW;obtain⟨gV,W6,x0,rfl,rfl,hb,hR,pH⟩:=hW.last (hmem 11 (by decide));obtain⟨v6,l6,m6⟩:=qa (qJ (hmem 6 (by decide)) (by decide));obtain⟨v9,l9,m9⟩:=qa (qJ (hmem 9 (by decide)) (by decide));obtain⟨g6,rfl,yB,r6⟩:=(hR 6 v6 m6).1 rfl;obtain⟨A3,c3,rfl,ma⟩:=(hR 9 v9 m9).2 rfl;have hst:DX (w.heap.size+1) id gV W6=za (w.heap.size+1) 0 [.int .i64 2,.int .i64 id,.string ⟨#[]⟩,.string ⟨#[]⟩,.slice (some ⟨g6,0,none⟩) 2 2,.slice A3 xs.length c3] W6:=by unfold DX;rw[l6,l9];rfl
 rw[hst];have hrow:=ZT (a:=.int .i64 2) (b:=.int .i64 id) (c:=.string ⟨#[]⟩) (d:=.string ⟨#[]⟩) (e:=.slice (some ⟨g6,0,none⟩) 2 2) (f:=.slice A3 xs.length c3) ((hb.block _ hz).trans R2.out);have hA:Agree (fun q=>q≠w.heap.size+1) W6 (za (w.heap.size+1) 0 [.int .i64 2,.int .i64 id,.string ⟨#[]⟩,.string ⟨#[]⟩,.slice (some ⟨g6,0,none⟩) 2 2,.slice A3 xs.length c3] W6):=fun q hq _=>zF hq _ _ _;have hsz:W6.heap.size≤(za (w.heap.size+1) 0 [.int .i64 2,.int .i64 id,.string ⟨#[]⟩,.string ⟨#[]⟩,.slice (some ⟨g6,0,none⟩) 2 2,.slice A3 xs.length c3] W6).heap.size:=(qU (Nat.le_refl _) _ 0 W6 (Below.refl (w.heap.size+1) W6)).size;have hrg6:=(hA g6 (by have:=hz;omega) (zl r6)).trans r6;have h6:=ZS (xs:=[ln,gn]) rfl (show 2≤9223372036854775807 by decide) (fun x hx=>by simp at hx;rcases hx with rfl|rfl;exact nt.out.2.1;exact nt.out.2.2) hrg6;have h9:=ma.frame (hA.mono (fun b hb _=>by have:=hz;omega)) hsz;have hBB:=qU (g:=w.heap.size+1) (m:=w.heap.size) (by omega) [.int .i64 2,.int .i64 id,.string ⟨#[]⟩,.string ⟨#[]⟩,.slice (some ⟨g6,0,none⟩) 2 2,.slice A3 xs.length c3] 0 W6 (zu gB hb)
 have gi:=zh (show Jn (qw true) w (qE ⟨id,ln,gn,xs⟩) (.returned (.agg #[.int .i64 2,.int .i64 id,.string ⟨#[]⟩,.string ⟨#[]⟩,.slice (some ⟨g6,0,none⟩) 2 2,.slice A3 xs.length c3])) (za (w.heap.size+1) 0 [.int .i64 2,.int .i64 id,.string ⟨#[]⟩,.string ⟨#[]⟩,.slice (some ⟨g6,0,none⟩) 2 2,.slice A3 xs.length c3] W6) from
  ⟨_,rfl,⟨_,_,_,_,_,_,rfl,⟨(show Bf 2 by unfold Bf;omega),nt.out.1,zy,zy⟩,h6.mono (fun q hq _=>by have:=hz;have:q=g6:=hq;omega),h9.mono (fun q hq _=>by have:=hz;omega)⟩,hBB⟩)
 simp only[qb,BH,BI,BJ,BL,Act.put,BD,BF,BG];generalize gZ:qz _ _ _=sv;clear gZ hst hb hR pH hW hmem l6 l9 m6 m9 r6 ma h6 h9 hBB hA hsz hrg6;generalize za (w.heap.size+1) 0 [.int .i64 2,.int .i64 id,.string ⟨#[]⟩,.string ⟨#[]⟩,.slice (some ⟨g6,0,none⟩) 2 2,.slice A3 xs.length c3] W6=w9 at *;have p0:=zo 0 hrow;have p1:=zo 1 hrow;have p2:=zo 2 hrow;have p3:=zo 3 hrow;have p4:=zo 4 hrow;have p5:=zo 5 hrow;clear hrow;go_wp2
 refine bodyPost_ret (v:=.agg #[.int .i64 2,.int .i64 id,.string ⟨#[]⟩,.string ⟨#[]⟩,.slice (some ⟨g6,0,none⟩) 2 2,.slice A3 xs.length c3]) (by simp[results,Tryz.results109,go_sem, *];done) rfl ?_;exact gi.out
def Cz (us:List (Nat×Value)):Prop:=(10∈us.map Prod.fst→9∈us.map Prod.fst)∧(11∈us.map Prod.fst→10∈us.map Prod.fst)
theorem Cz.snoc8 {us:List (Nat×Value)}(h:Cz us) {x:Value}:Cz (us++[(8,x)]):=⟨fun hm=>by rw[List.map_append,List.mem_append] at *;rcases hm with hm|hm;exact .inl (h.1 hm);simp at hm,fun hm=>by rw[List.map_append,List.mem_append] at *;rcases hm with hm|hm;exact .inl (h.2 hm);simp at hm⟩
theorem Cz.snoc9 {us:List (Nat×Value)}(h:Cz us) {x:Value}:Cz (us++[(9,x)]):=⟨fun _=>by simp,fun hm=>by rw[List.map_append,List.mem_append] at *;rcases hm with hm|hm;exact .inl (h.2 hm);simp at hm⟩
theorem Cz.CO {us:List (Nat×Value)}(_h:Cz us) {x:Value}(h9:9∈us.map Prod.fst):Cz (us++[(10,x)]):=⟨fun _=>by rw[List.map_append,List.mem_append];exact .inl h9,fun _=>by simp⟩
theorem Cz.CP {us:List (Nat×Value)}(h:Cz us) {x:Value}(h10:10∈us.map Prod.fst):Cz (us++[(11,x)]):=⟨fun _=>by rw[List.map_append,List.mem_append];exact .inl (h.1 h10),fun _=>by rw[List.map_append,List.mem_append];exact .inl h10⟩
def FB (kd ln:Int) (dg:ByteArray) (xs:List Int) (V:World) (i:Nat) (v:Value) (W:World):Prop:=
 (i=8→∃A c,v=.slice A xs.length c∧Sl true 3 Bo W (fun q=>V.heap.size≤q) A xs.length c xs)∧
 (i=9→∃A c,v=.agg #[.int .i64 kd,.int .i64 ln,.string ⟨#[]⟩,.string dg,.slice A xs.length c,.slice none 0 0]∧Sl true 3 Bo W (fun q=>V.heap.size≤q) A xs.length c xs)∧
 (i=10→∃g A c,v=.slice (some ⟨g,0,none⟩) 1 1∧V.heap.size≤g∧W.heap[g]?=some (.cells #[.int .i64 kd,.int .i64 ln,.string ⟨#[]⟩,.string dg,.slice A xs.length c,.slice none 0 0] 61 (0,0))∧Sl true 3 Bo W (fun q=>V.heap.size≤q) A xs.length c xs)
theorem FB.all {kd ln:Int}{dg:ByteArray}{xs:List Int}{V W W':World}(hb:Below W.heap.size W W') (j:Nat) (v:Value) (h:FB kd ln dg xs V j v W):FB kd ln dg xs V j v W':=
 ⟨fun hj=>by obtain⟨A,c,e,t⟩:=h.1 hj;exact⟨A,c,e,t.all hb⟩,fun hj=>by obtain⟨A,c,e,t⟩:=h.2.1 hj;exact⟨A,c,e,t.all hb⟩,fun hj=>by obtain⟨g,A,c,e,hg,r,t⟩:=h.2.2 hj;exact⟨g,A,c,e,hg,zb hb r,t.all hb⟩⟩
def RAp (base:Nat) (A:Option Addr) (n:Nat) (l':List Bb) (v:Value) (W0 W:World):Prop:=
 ∃A' c',v=.slice A' (n+1) c'∧Silo.Bi 61 (qw true) W base (fun q=>base≤q) A' (n+1) c' l'∧Cn (qd A) W0 W
noncomputable def DY:Code:=((Tryz.f75.body.bind (qk 18)).getD .skip)
theorem EI {Q:Exit→Act→World→Prop}{σ:Act}{w:World}{base g8:Nat}{A A3:Option Addr}{n c n3 c3:Nat}{kd ln:Int}{dg:ByteArray}{Bz:Bool}{xs:List Int}{l:List Bb}(HO:Hid (Silo.Bi 61 (qw true) w base (fun q=>base≤q) A n c l)) (hbs:base≤w.heap.size) (hn:n≤1000000) (R8:Hid (w.heap[g8]?=some (.cells #[.string dg,.int .i64 ln,.bool Bz,.slice A3 n3 c3] 90 (0,0)))) (hg8:some g8≠qd A) (HK:Hid (Bf kd∧Bf ln∧qM dg)) (gU:Hid (∀V,Below w.heap.size w V→Calls Tryz.prog 95 #[.slice A3 n3 c3] V (qC 3 Bo V xs))) (hσ:σ.tmps.size=90) (s2:σ.eval (.tmp 2)=.slice A n c) (s9:σ.eval (.tmp 9)=.int .i64 kd) (s8:σ.eval (.tmp 8)=.pointer (some ⟨g8,0,none⟩))
  (hend:∀(v:Nat→Value) (wz:World) (A':Option Addr) (c':Nat),v 2=.slice A' (n+1) c'→Silo.Bi 61 (qw true) wz base (fun q=>base≤q) A' (n+1) c' (l++[(⟨kd,ln,⟨#[]⟩,dg,xs,[]⟩:Bb)])→Cn (qd A) w wz→Q .normal (qb σ (([60,61,62,63,64,65,66,67,68,69,70,71,2]:List Nat).map fun d=>(d,v d))) wz):
  DY.wp Tryz.prog Q σ w:=by
 obtain⟨i0,nS,hz0,hz1,hz2⟩:=info_parts Tryz.C8;conv=>arg 2;whnf
 refine jo (by kernel_rfl) (by kernel_rfl) 90 hσ [60,61,62,63,64,65,66,67,68,69,70,71,2] [8,9,10,11] [(68,8),(69,9),(70,10),(71,11)]
  [kp 60 (.slice A n c),kp 61 (.int .i64 kd),kq 62 g8 0,kp 63 (.string dg),kq 64 g8 1,kp 65 (.int .i64 ln),kq 66 g8 3,kp 67 (.slice A3 n3 c3),(2,[11],fun l=>l.getD 0 undef)]
  [[],[],[],[],[],[],[],[],[11],[],[11]] [[],[],[],[],[],[],[],[],[],[8],[9],[10]] [[],[],[],[62],[],[64],[],[66],[67],[61,63,65,68],[69],[60,70],[71]] [[2]]
  ((fun us W=>CR w (FB kd ln dg xs w) 11 (RAp base A n (l++[(⟨kd,ln,⟨#[]⟩,dg,xs,[]⟩:Bb)])) us W∧Cz us)) (by kernel_rfl) ⟨.init,⟨by simp,by simp⟩⟩ ⟨.q s2,.q s9,.q s8,.l fun us w6 hW _=>zo 0 ((hW.1.kept (fun _ _ _ h=>by obtain⟨_,_,_,_,hc⟩:=h;exact hc) (zl R8.out) hg8).trans R8.out),.q s8,.l fun us w6 hW _=>zo 1 ((hW.1.kept (fun _ _ _ h=>by obtain⟨_,_,_,_,hc⟩:=h;exact hc) (zl R8.out) hg8).trans R8.out),.q s8,.l fun us w6 hW _=>zo 3 ((hW.1.kept (fun _ _ _ h=>by obtain⟨_,_,_,_,hc⟩:=h;exact hc) (zl R8.out) hg8).trans R8.out),?_,?_,?_,?_,.a,trivial⟩ ?_
 ·refine Bh.wr rfl (fun Z us w6 ho ht hni hlim gh hW K hK=>?_);obtain⟨hW,hO⟩:=hW;have e67:=zv (ht 67 (by decide)) (.slice A3 n3 c3) rfl;have hn:=hlim 11 (by decide);have gp:=(hW.early hn).1;have hcl:=gU.out w6 gp;refine qo rfl 95 #[.tmp 67] #[36] rfl Tryz.func95 (by kernel_rfl) (by kernel_rfl) #[.slice A3 n3 c3] (by simp[e67];try first|done|rfl|exact⟨rfl,rfl⟩) (hcl) ?_;rintro e w7 ⟨A4,c4,rfl,hown,gq⟩;exact⟨_,rfl,hK _ _ (And.intro (hW.snoc (by decide) hn gq (fun j v h=>FB.all gq j v h) ⟨fun _=>⟨A4,c4,rfl,(hown.sl (tg:=true)).mono (fun q hq _=>Nat.le_trans gp.size (hq.elim (fun h=>h) (fun h=>h)))⟩,fun h=>absurd h (by decide),fun h=>absurd h (by decide)⟩) hO.snoc8)⟩
 ·refine Bh.wr rfl (fun Z us w6 ho ht hni hlim gh hW K hK=>?_);obtain⟨hW,hO⟩:=hW;obtain⟨v8,l8,m8⟩:=qa (gh 8 (by decide));have hn:=(fun h=>hni (hO.1 (hO.2 h)):11∉us.map Prod.fst);have hE:=hW.early hn;obtain⟨A4,c4,rfl,uu⟩:=(hE.2 8 v8 m8).1 rfl;have yN:=zv (ht 61 (by decide)) (.int .i64 kd) rfl;have vo:=zv (ht 63 (by decide)) (.string dg) rfl;have e65:=zv (ht 65 (by decide)) (.int .i64 ln) rfl;have e68:=((ht 68 (by decide)).trans (show _=(us.lookup 8).getD undef from rfl)).trans (show _=(.slice A4 xs.length c4:Value) by rw[l8];rfl);have hdone:=hW.snoc (i:=9) (x:=.agg #[.int .i64 kd,.int .i64 ln,.string ⟨#[]⟩,.string dg,.slice A4 xs.length c4,.slice none 0 0]) (by decide) hn (Below.refl _ _) (fun j v h=>h) ⟨fun h=>absurd h (by decide),fun _=>⟨A4,c4,rfl,uu⟩,fun h=>absurd h (by decide)⟩;have mz:=zh (And.intro hdone (hO.snoc9 (x:=.agg #[.int .i64 kd,.int .i64 ln,.string ⟨#[]⟩,.string dg,.slice A4 xs.length c4,.slice none 0 0])));clear hdone hW hO hni hlim gh ho ht hn hE uu l8 m8;rw[if_pos (by simp[Region.wanted])];unfold Oper.wp;generalize Z.eval=ρ at *;simp only[execOp,List.map_toArray,List.map_cons,List.map_nil,yN,vo,e65,e68];go_simp
  exact hK _ _ mz.out
 ·refine Bh.wr rfl (fun Z us w6 ho ht hni hlim gh hW K hK=>?_);obtain⟨hW,hO⟩:=hW;have hn:=hlim 11 (by decide);have hE:=hW.early hn;obtain⟨v9,l9,m9⟩:=qa (gh 9 (by decide));obtain⟨A4,c4,rfl,uu⟩:=(hE.2 9 v9 m9).2.1 rfl;have e69:=((ht 69 (by decide)).trans (show _=(us.lookup 9).getD undef from rfl)).trans (show _=(.agg #[.int .i64 kd,.int .i64 ln,.string ⟨#[]⟩,.string dg,.slice A4 xs.length c4,.slice none 0 0]:Value) by rw[l9];rfl);have hal:Below w6.heap.size w6 (w6.alloc (.cells #[.int .i64 kd,.int .i64 ln,.string ⟨#[]⟩,.string dg,.slice A4 xs.length c4,.slice none 0 0] 61)):=(Below.refl _ _).alloc (Nat.le_refl _) _;have hdone:=hW.snoc (i:=10) (x:=.slice (some ⟨w6.heap.size,0,none⟩) 1 1) (by decide) hn hal (fun j v h=>FB.all hal j v h) ⟨fun h=>absurd h (by decide),fun h=>absurd h (by decide),fun _=>⟨_,A4,c4,rfl,hE.1.size,heap_alloc_new _ _,uu.all hal⟩⟩;have mz:=zh (And.intro hdone (hO.CO (x:=.slice (some ⟨w6.heap.size,0,none⟩) 1 1) (gh 9 (by decide))));clear hdone hW hO hni hlim gh ho ht hn hE uu hal l9 m9;rw[if_pos (by simp[Region.wanted])];unfold Oper.wp;generalize Z.eval=ρ at *;simp only[execOp,List.map_toArray,List.map_cons,List.map_nil,e69];go_simp
  exact hK _ _ mz.out
 ·refine Bh.wr rfl (fun Z us w6 ho ht hni hlim gh hW K hK=>?_);obtain⟨hW,hO⟩:=hW;have hE:=hW.early hni;obtain⟨v10,l10,m10⟩:=qa (gh 10 (by decide));obtain⟨g,A4,c4,rfl,hg,hrow,hs⟩:=(hE.2 10 v10 m10).2.2 rfl;have Gb:=zv (ht 60 (by decide)) (.slice A n c) rfl;have e70:=((ht 70 (by decide)).trans (show _=(us.lookup 10).getD undef from rfl)).trans (show _=(.slice (some ⟨g,0,none⟩) 1 1:Value) by rw[l10];rfl);have hlt:=HO.out.lt;rw[if_pos (by simp[Region.wanted])];refine xf (.tmp 60) (.tmp 70) 29 rfl i0 (.agg #[.int .i64 0,.int .i64 0,.string ByteArray.empty,.string ByteArray.empty,.slice none 0 0,.slice none 0 0]) 96 Tryz.underlying29 nS hz0 hz1 hz2 rfl (show 0<6 by decide) Gb (HO.out.all hE.1) g 61 1 [.int .i64 kd,.int .i64 ln,.string ⟨#[]⟩,.string dg,.slice A4 xs.length c4,.slice none 0 0] (⟨kd,ln,⟨#[]⟩,dg,xs,[]⟩:Bb) e70 hrow ⟨_,_,_,_,_,_,rfl,⟨HK.out.1,HK.out.2.1,zy,HK.out.2.2⟩,hs.mono (fun q hq _=>⟨Nat.le_trans hbs hq,fun e=>by have:=(hlt q e.symm).2;omega⟩),Sl.Bp (by omega)⟩ (by omega) (by omega) (Nat.le_trans hbs hE.1.size) ?_;intro A' c' w7 hown hgr _;exact hK _ _ (And.intro (hW.call hni ⟨A',c',rfl,hown,Cn.BS hgr⟩) (hO.CP (gh 10 (by decide))))
 intro us wz hmem hW;obtain⟨gV,W0,v,rfl,hb0,⟨A',c',rfl,hown,gJ⟩,pH⟩:=hW.1.last (hmem 11 (by decide));refine hend _ wz A' c' ?_ hown ((Cn.of_below hb0).trans gJ);show((gV++[(11,Value.slice A' (n+1) c')]).lookup 11).getD undef=_;rw[zd pH];rfl
end Go.Proofs.YtipecejghioicaaGreat
