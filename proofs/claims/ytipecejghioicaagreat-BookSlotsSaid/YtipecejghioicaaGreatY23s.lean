/- Book.Own: a book in memory of its own. -/
import Derived.Test.YtipecejghioicaaGreatY22s
import Derived.Test.YtipecejghioicaaGreatY5s
import Derived.Test.YtipecejghioicaaGreatY18s
import Derived.Deep.CutRange
import Derived.Deep.Light
import Derived.Test.YtipecejghioicaaGreatP0s
set_option maxHeartbeats 16000000
set_option maxRecDepth 100000
namespace Go.Proofs.YtipecejghioicaaGreat
open Go.RowKit Go.Silo
structure OW (tg0 tg1:Bool) (w:World) (base bb N B:Nat) (A0:Option Addr) (n0 c0:Nat) (A1:Option Addr) (n1 c1:Nat) (A2:Option Addr) (n2 c2:Nat) (b:Book) (k j:Nat) (W:World):Prop where
 row:W.heap[bb]?=some (.cells #[.slice A0 n0 c0,.slice A1 n1 c1,.slice A2 n2 c2,.int .i64 b.next] 28 (0,0))
 st:Silo.Be 86 (jH N (qe true) (qe tg0) rfl) W B (fun g=>g<base∨N≤g) A0 n0 c0 (zE k b.Ba)
 th:Silo.Be 90 (jH N (ql true) (ql tg1) rfl) W B (fun g=>g<base∨N≤g) A1 n1 c1 (zE j b.things)
 ta:Silo.Be 94 Bz W B (fun g=>g<base∨N≤g) A2 n2 c2 b.tags
 below:Below base w W
 size:N≤W.heap.size
 lo:bb+1<B
 rb:W.heap[bb+1]?=some (.cells #[.slice none 0 0,.slice none 0 0,.slice none 0 0,.int .i64 0] 28 (0,0))
 ba:base≤bb
 l0:∀g,qa A0=some g→g<N
 l1:∀g,qa A1=some g→g<N
 l2:∀g,qa A2=some g→g<N
 E5:∀g,qa A0=some g→qa A1≠some g
 Eb:∀g,qa A0=some g→qa A2≠some g
 Ec:∀g,qa A1=some g→qa A2≠some g
theorem OW.all {tg0 tg1:Bool}{w:World}{base bb N B:Nat}{A0:Option Addr}{n0 c0:Nat}{A1:Option Addr}{n1 c1:Nat}{A2:Option Addr}{n2 c2:Nat}{b:Book}{k j:Nat}{W W':World}(h:OW tg0 tg1 w base bb N B A0 n0 c0 A1 n1 c1 A2 n2 c2 b k j W) (hb:Below W.heap.size W W'):OW tg0 tg1 w base bb N B A0 n0 c0 A1 n1 c1 A2 n2 c2 b k j W':=
 ⟨zb hb h.row,h.st.all hb,h.th.all hb,h.ta.all hb,h.below.trans (hb.mono (Nat.le_trans h.ba (Nat.le_of_lt (zl h.row)))),Nat.le_trans h.size hb.size,h.lo,zb hb h.rb,h.ba,h.l0,h.l1,h.l2,h.E5,h.Eb,h.Ec⟩
theorem OW.fill0 {tg0 tg1:Bool}{w:World}{base bb N B:Nat}{A0:Option Addr}{n0 c0:Nat}{A1:Option Addr}{n1 c1:Nat}{A2:Option Addr}{n2 c2:Nat}{b:Book}{k j:Nat}{W W1:World}{g m c':Nat}{A':Option Addr}{x:Bb}{cur:Array Value}(h:OW tg0 tg1 w base bb N B A0 n0 c0 A1 n1 c1 A2 n2 c2 b k j W) (hi:k<n0) (hA:A0=some ⟨g,0,none⟩) (hh:W.heap[g]?=some (.cells cur 86 (0,0)))
  (hx:b.Ba.getD k default=x) (hok:Bo x.id∧Bo x.len∧Bo x.gen) (hc:∀i v,[.int .i64 x.id,.int .i64 x.len,.int .i64 x.gen][i]?=some v→cur[k* 4+i]?=some v)
  (hW:Below W.heap.size W W1) (ho:Silo.Be 88 qz W1 W.heap.size (fun b=>W.heap.size≤b) A' m c' x.place):
  OW tg0 tg1 w base bb N B A0 n0 c0 A1 n1 c1 A2 n2 c2 b (k+1) j (W1.setCell ⟨g,k* 4+3,none⟩ (.slice A' m c')):=by
 have hg:qa A0=some g:=by rw[hA];rfl
 have hgN:=h.l0 g hg;have hgB:=(h.st.lt g hg).1;have h1:=h.all hW;have gz:∀(S:Nat→Prop),¬S g→Agree S W1 (W1.setCell ⟨g,k* 4+3,none⟩ (.slice A' m c')):=fun S hS=>Agree.setCell (p:=⟨g,k* 4+3,none⟩) hS _;have hsz:W1.heap.size≤(W1.setCell ⟨g,k* 4+3,none⟩ (.slice A' m c')).heap.size:=by simp
 have hne:bb≠g:=by have:=h.lo;omega
 have vK:bb+1≠g:=by have:=h.lo;omega
 have hSg:¬(g<base∨N≤g):=by have:=h.lo;have:=h.ba;omega
 have hNW:=h.size;refine⟨(Below.heap_setCell W1 _ _ _ hne).trans h1.row,?_,?_,h1.ta.frame (gz _ (fun hb=>hb.elim hSg (fun e=>h.Eb g hg e.symm))) hsz,h1.below.setCell (show base≤g by have:=h.lo;have:=h.ba;omega) _,by simpa using h1.size,h.lo,(Below.heap_setCell W1 _ _ _ vK).trans h1.rb,h.ba,h.l0,h.l1,h.l2,h.E5,h.Eb,h.Ec⟩
 ·exact ZH h1.st hi hA ((hW.block g (zl hh)).trans hh) hx hok hc ho (fun b hb=>⟨.inr (by omega),by omega,by omega⟩)
 exact h1.th.frame (gz _ (fun hb=>hb.elim hSg (fun e=>h.E5 g hg e.symm))) hsz
theorem OW.fill1 {tg0 tg1:Bool}{w:World}{base bb N B:Nat}{A0:Option Addr}{n0 c0:Nat}{A1:Option Addr}{n1 c1:Nat}{A2:Option Addr}{n2 c2:Nat}{b:Book}{k j:Nat}{W W1:World}{g m c':Nat}{A':Option Addr}{x:Entry}{cur:Array Value}(h:OW tg0 tg1 w base bb N B A0 n0 c0 A1 n1 c1 A2 n2 c2 b k j W) (hi:j<n1) (hA:A1=some ⟨g,0,none⟩) (hh:W.heap[g]?=some (.cells cur 90 (0,0)))
  (hx:b.things.getD j default=x) (hok:zd x.digest∧Bo x.len) (hc:∀i v,[.string x.digest,.int .i64 x.len,.bool x.BC][i]?=some v→cur[j* 4+i]?=some v)
  (hW:Below W.heap.size W W1) (ho:Silo.Be 3 Bd W1 W.heap.size (fun b=>W.heap.size≤b) A' m c' x.list):
  OW tg0 tg1 w base bb N B A0 n0 c0 A1 n1 c1 A2 n2 c2 b k (j+1) (W1.setCell ⟨g,j* 4+3,none⟩ (.slice A' m c')):=by
 have hg:qa A1=some g:=by rw[hA];rfl
 have hgN:=h.l1 g hg;have hgB:=(h.th.lt g hg).1;have h1:=h.all hW;have gz:∀(S:Nat→Prop),¬S g→Agree S W1 (W1.setCell ⟨g,j* 4+3,none⟩ (.slice A' m c')):=fun S hS=>Agree.setCell (p:=⟨g,j* 4+3,none⟩) hS _;have hsz:W1.heap.size≤(W1.setCell ⟨g,j* 4+3,none⟩ (.slice A' m c')).heap.size:=by simp
 have hne:bb≠g:=by have:=h.lo;omega
 have vK:bb+1≠g:=by have:=h.lo;omega
 have hSg:¬(g<base∨N≤g):=by have:=h.lo;have:=h.ba;omega
 have hNW:=h.size;refine⟨(Below.heap_setCell W1 _ _ _ hne).trans h1.row,?_,?_,h1.ta.frame (gz _ (fun hb=>hb.elim hSg (fun e=>h.Ec g hg e.symm))) hsz,h1.below.setCell (show base≤g by have:=h.lo;have:=h.ba;omega) _,by simpa using h1.size,h.lo,(Below.heap_setCell W1 _ _ _ vK).trans h1.rb,h.ba,h.l0,h.l1,h.l2,h.E5,h.Eb,h.Ec⟩
 ·exact h1.st.frame (gz _ (fun hb=>hb.elim hSg (fun e=>h.E5 g e.symm hg))) hsz
 exact Xn h1.th hi hA ((hW.block g (zl hh)).trans hh) hx hok hc ho (fun b hb=>⟨.inr (by omega),by omega,by omega⟩)
theorem OW.done {tg0 tg1:Bool}{w:World}{base bb N B:Nat}{A0:Option Addr}{n0 c0:Nat}{A1:Option Addr}{n1 c1:Nat}{A2:Option Addr}{n2 c2:Nat}{b:Book}{W W':World}(h:OW tg0 tg1 w base bb N B A0 n0 c0 A1 n1 c1 A2 n2 c2 b n0 n1 W) (hA:Agree (fun q=>q≠bb+1) W W') (hs:W.heap.size≤W'.heap.size) (hN:bb+1<N) (hnx:Bo b.next):
  ∀X d V,d<base→Agree (fun g=>base≤g) W' V→W'.heap.size≤V.heap.size→(∀g o,X g=some o→g≠d∧g<N∧(g<B)∧V.heap[g]?=some o)→V.heap[d]?=some (.cells #[.slice A0 n0 c0,.slice A1 n1 c1,.slice A2 n2 c2,.int .i64 b.next] 28 (0,0))→OB X d d A0 n0 c0 A1 n1 c1 A2 n2 c2 b V:=by
 intro X d V hd hV hVs hX hrow;have hlo:=h.lo;have hba:=h.ba;have hns:∀g,N≤g→NS d A0 A1 A2 g:=fun g hg=>⟨by omega,fun e=>by have:=h.l0 g e.symm;omega,fun e=>by have:=h.l1 g e.symm;omega,fun e=>by have:=h.l2 g e.symm;omega⟩
 have q0:=(h.st.DV).mono (S':=fun g=>N≤g) (fun g hg _=>hg.2);have q1:=(h.th.DV).mono (S':=fun g=>N≤g) (fun g hg _=>hg.2)
 have q2:Silo.Be 94 Bz W B (fun g=>N≤g) A2 n2 c2 b.tags:=by
  obtain⟨cs,ho,hl,hk⟩:=h.ta;exact⟨cs,ho,hl,fun k x hx=>hk k x hx⟩
 have hag:∀(A:Option Addr),(∀k,qa A=some k→B≤k)→Agree (fun g=>N≤g∨some g=qa A) W W':=fun A hB=>hA.mono (fun g hg _ e=>by
  rcases hg with hg|hg
  ·omega
  have:=hB g hg.symm;omega)
 have hbg:∀(g:Nat) (A:Option Addr),(∀k,qa A=some k→B≤k)→(N≤g∨some g=qa A)→base≤g:=fun g A hB hg=>by
  rcases hg with hg|hg
  ·omega
  have:=hB g hg.symm;omega
 have f0:=((q0.frame (hag _ (fun k hk=>(q0.lt k hk).1)) hs).frame (hV.mono (fun g hg _=>hbg g _ (fun k hk=>(q0.lt k hk).1) hg)) hVs).mono (S':=NS d A0 A1 A2) (fun g hg _=>hns g hg);have f1:=((q1.frame (hag _ (fun k hk=>(q1.lt k hk).1)) hs).frame (hV.mono (fun g hg _=>hbg g _ (fun k hk=>(q1.lt k hk).1) hg)) hVs).mono (S':=NS d A0 A1 A2) (fun g hg _=>hns g hg);have f2:=((q2.frame (hag _ (fun k hk=>(q2.lt k hk).1)) hs).frame (hV.mono (fun g hg _=>hbg g _ (fun k hk=>(q2.lt k hk).1) hg)) hVs).mono (S':=NS d A0 A1 A2) (fun g hg _=>hns g hg);refine⟨hrow,f0.lower (by omega),f1.lower (by omega),f2.lower (by omega),⟨fun e=>?_,fun e=>?_,fun e=>?_,h.E5,h.Eb,h.Ec⟩,hnx,Nat.le_refl _,fun g o hx=>?_⟩
 ·have:=(h.st.lt _ e).1;omega
 ·have:=(h.th.lt _ e).1;omega
 ·have:=(h.ta.lt _ e).1;omega
 obtain⟨e1,e2,e3,e4⟩:=hX g o hx;exact⟨e1,fun e=>by have:=(h.st.lt _ e.symm).1;omega,fun e=>by have:=(h.th.lt _ e.symm).1;omega,fun e=>by have:=(h.ta.lt _ e.symm).1;omega,e4⟩
def Ki (b:Book) (w:World) (e:Ending) (w':World):Prop:=
 ∃A0 c0 A1 c1 A2 c2,e=.returned (.agg #[.slice A0 b.Ba.length c0,.slice A1 b.things.length c1,.slice A2 b.tags.length c2,.int .i64 b.next])∧
  (∀X bb W,bb<w.heap.size→Agree (fun g=>w.heap.size≤g) w' W→w'.heap.size≤W.heap.size→(∀g o,X g=some o→g≠bb∧g<w.heap.size∧W.heap[g]?=some o)→W.heap[bb]?=some (.cells #[.slice A0 b.Ba.length c0,.slice A1 b.things.length c1,.slice A2 b.tags.length c2,.int .i64 b.next] 28 (0,0))→OB X bb bb A0 b.Ba.length c0 A1 b.things.length c1 A2 b.tags.length c2 b W)∧Below w.heap.size w w'
theorem Jh {tg tg0 tg1 tg2:Bool}{S:Nat→Prop}{w:World}{A0 A1 A2:Option Addr}{n0 c0 n1 c1 n2 c2:Nat}{b:Book}(h:BG w S tg tg0 tg1 tg2 A0 n0 c0 A1 n1 c1 A2 n2 c2 b) (hn:n0≤100000000∧n1≤100000000∧n2≤100000000) (hp:∀y∈b.Ba,y.place.length≤100000000) (hq:∀y∈b.things,y.list.length≤100000000):
  Calls Tryz.prog 62 #[.agg #[.slice A0 n0 c0,.slice A1 n1 c1,.slice A2 n2 c2,.int .i64 b.next]] w (Ki b w):=by
 have rR:=zh h.nx;have HP:=zh hp;have HQL:=zh hq;have HL:=zh (And.intro h.st.len (And.intro h.th.len h.ta.len));have HS:=zh (fun W (hW:Below w.heap.size w W)=>And.intro (Za (((h.st.Bi).mono (S':=fun g=>g<w.heap.size) (fun _ h _=>h.2)).all hW) hn.1) (And.intro (ZG (((h.th.Bi).mono (S':=fun g=>g<w.heap.size) (fun _ h _=>h.2)).all hW) hn.2.1) (XW (((h.ta.Bi).mono (S':=fun g=>g<w.heap.size) (fun _ h _=>h.2)).all hW) hn.2.2)));clear h hp hq;obtain⟨hn0,uN,rV⟩:=hn;have hal:Below w.heap.size w ((w.alloc (.cells #[.slice A0 n0 c0,.slice A1 n1 c1,.slice A2 n2 c2,.int .i64 b.next] 28)).alloc (.cells #[.slice none 0 0,.slice none 0 0,.slice none 0 0,.int .i64 0] 28)):=bz
 have mV:((w.alloc (.cells #[.slice A0 n0 c0,.slice A1 n1 c1,.slice A2 n2 c2,.int .i64 b.next] 28)).alloc (.cells #[.slice none 0 0,.slice none 0 0,.slice none 0 0,.int .i64 0] 28)).heap[w.heap.size]?=some (.cells #[.slice A0 n0 c0,.slice A1 n1 c1,.slice A2 n2 c2,.int .i64 b.next] 28 (0,0)):=by
  rw[Below.heap_alloc _ _ _ (by simp;try omega)];have:=heap_alloc_new w (.cells #[.slice A0 n0 c0,.slice A1 n1 c1,.slice A2 n2 c2,.int .i64 b.next] 28);simpa only[World.size_alloc] using this
 have hr1:((w.alloc (.cells #[.slice A0 n0 c0,.slice A1 n1 c1,.slice A2 n2 c2,.int .i64 b.next] 28)).alloc (.cells #[.slice none 0 0,.slice none 0 0,.slice none 0 0,.int .i64 0] 28)).heap[w.heap.size+1]?=some (.cells #[.slice none 0 0,.slice none 0 0,.slice none 0 0,.int .i64 0] 28 (0,0)):=by
  have:=heap_alloc_new (w.alloc (.cells #[.slice A0 n0 c0,.slice A1 n1 c1,.slice A2 n2 c2,.int .i64 b.next] 28)) (.cells #[.slice none 0 0,.slice none 0 0,.slice none 0 0,.int .i64 0] 28);simpa only[World.size_alloc] using this
 have hz:w.heap.size+1<((w.alloc (.cells #[.slice A0 n0 c0,.slice A1 n1 c1,.slice A2 n2 c2,.int .i64 b.next] 28)).alloc (.cells #[.slice none 0 0,.slice none 0 0,.slice none 0 0,.int .i64 0] 28)).heap.size:=by simp
 go_enter Tryz.func62,Tryz.ntmps62
 go_upto_region 1 with (fail)
 generalize ((w.alloc (.cells #[.slice A0 n0 c0,.slice A1 n1 c1,.slice A2 n2 c2,.int .i64 b.next] 28)).alloc (.cells #[.slice none 0 0,.slice none 0 0,.slice none 0 0,.int .i64 0] 28))=W0 at *;have gm:=zh (fun V (hV:Below W0.heap.size W0 V)=>hal.trans (hV.mono hal.size));clear hal;have ROW:=zh (fun V (hV:Below W0.heap.size W0 V)=>(show V.heap[w.heap.size]?=some (.cells #[.slice A0 n0 c0,.slice A1 n1 c1,.slice A2 n2 c2,.int .i64 b.next] 28 (0,0))∧V.heap[w.heap.size+1]?=some (.cells #[.slice none 0 0,.slice none 0 0,.slice none 0 0,.int .i64 0] 28 (0,0)) from⟨(hV.block _ (by omega)).trans mV,(hV.block _ (by omega)).trans hr1⟩));clear mV hr1;have hz1:w.heap.size+1<W0.heap.size:=by omega
 have r0:=(ROW.out W0 (Below.refl _ _)).1;have uS:=zh r0;clear r0;have HC0:=zh (fun V (hV:Ce W0 w.heap.size w.heap.size (.slice A0 n0 c0) (.slice A1 n1 c1) (.slice A2 n2 c2) b.next V)=>(HS.out V ((gm.out W0 (Below.refl _ _)).trans hV.below)).1);have HC1:=zh (fun V (hV:Ce W0 w.heap.size w.heap.size (.slice A0 n0 c0) (.slice A1 n1 c1) (.slice A2 n2 c2) b.next V)=>(HS.out V ((gm.out W0 (Below.refl _ _)).trans hV.below)).2.1);have HC2:=zh (fun V (hV:Ce W0 w.heap.size w.heap.size (.slice A0 n0 c0) (.slice A1 n1 c1) (.slice A2 n2 c2) b.next V)=>(HS.out V ((gm.out W0 (Below.refl _ _)).trans hV.below)).2.2);refine own1 (Nat.le_refl _) (by omega) (by omega) uS HC0 HC1 HC2 rfl rfl ?_;clear HC0 HC1 HC2 uS HS;intro v w1 x y z hq h3;simp only[qc,BR,BS,BU,BV,Act.put,BO,BP,BQ];obtain⟨e0,e1,e2⟩:=HL.out;rw[←e0] at hn0;rw[←e1] at uN;rw[←e2] at rV;clear e0 e1 e2 HL;obtain⟨h30,h31,h32,E5,Eb,Ec⟩:=h3;obtain⟨B0,k0,rfl,o0⟩:=h30;obtain⟨B1,k1,rfl,o1⟩:=h31;obtain⟨B2,k2,rfl,o2⟩:=h32;have uO:=zh (hq.size);have HFR:=zh (hq.same (w.heap.size+1) (by omega) (by omega))
 have HOW:Hid (OW tg0 tg1 w w.heap.size w.heap.size w1.heap.size W0.heap.size B0 b.Ba.length k0 B1 b.things.length k1 B2 b.tags.length k2 b 0 0 w1):=zh ⟨hq.row,Be.Ev (o0.mono (fun g hg _=>.inl hg)),Be.Ev (o1.mono (fun g hg _=>.inl hg)),o2.mono (fun g hg _=>.inl hg),(gm.out W0 (Below.refl _ _)).trans hq.below,Nat.le_refl _,by omega,by rw[HFR.out];exact(ROW.out W0 (Below.refl _ _)).2,Nat.le_refl _,fun g hg=>(o0.lt g hg).2,fun g hg=>(o1.lt g hg).2,fun g hg=>(o2.lt g hg).2,
  fun g h1 h2=>E5 g (by rw[qF];exact h1) (by rw[qF];exact h2),fun g h1 h2=>Eb g (by rw[qF];exact h1) (by rw[qF];exact h2),fun g h1 h2=>Ec g (by rw[qF];exact h1) (by rw[qF];exact h2)⟩
 clear hq E5 Eb Ec o0 o1 o2;have gK:Hid (w.heap.size<W0.heap.size):=zh (by omega);clear HFR ROW gm hz hz1;generalize hs0:b.Ba.length=m0 at *;generalize hs1:b.things.length=m1 at *;generalize hs2:b.tags.length=m2 at *;have mH:=zh hs0;clear hs0;have mE:=zh hs1;clear hs1;have uk:=zh hs2;clear hs2;have hlt1:w.heap.size+1<w1.heap.size:=(zl HOW.out.rb);have r7:=HOW.out.row;have x0:=zc 0 r7 (.slice B0 m0 k0) rfl;clear r7;go_wp2_with fail
 go_loopw [20] (fun iv wr=>∃k:Nat,k≤m0∧iv=.int .i64 k∧Hid (OW tg0 tg1 w w.heap.size w.heap.size w1.heap.size W0.heap.size B0 m0 k0 B1 m1 k1 B2 m2 k2 b k 0 wr)) (fun iv _=>m0 - (intOf iv).toNat)
 case atStart=>exact⟨0,Nat.zero_le _,rfl,HOW⟩
 case round=>
  obtain⟨k,hk,rfl,HO⟩:=hrel;by_cases hlt:k<m0
  ·clear x0;obtain⟨g0,cur,vs,eA,hgB,ym,hh,hx,hcs⟩:=JP (d:=default) HO.out.st hlt;obtain⟨A3,n3,c3,rfl,hok,hsl⟩:=hx;have rq:=zh hok;clear hok;have nK:=hsl.len;have yx:n3≤100000000:=(by have:=HP.out _ (JO (l:=b.Ba) (j:=k) (d:=default) (by rw[mH.out];exact hlt));omega);have nJ:=zh (fun V (hV:Below wr.heap.size wr V)=>Qd (hsl.all hV) yx);have rO:=zh nK;clear nK yx hsl;have x4:=zh hcs;clear hcs;have HH:=zh hh;clear hh;have HEA:=zh eA;obtain⟨o0,ho0⟩:∃o:Nat,o=0:=⟨_,rfl⟩;have vW:=zh (fun V (hV:Below wr.heap.size wr V)=>(show V.cell? ⟨g0,o0+k* 4+3,none⟩=some (.slice A3 n3 c3)∧V.frozen? ⟨g0,o0+k* 4+3,none⟩=false from⟨(cell_of_row _ _ _ _ _ _ ((hV.block _ ym).trans HH.out)).trans (by rw[ho0,Nat.zero_add];exact x4.out 3 _ rfl),frozen_of_row _ _ _ _ _ ((hV.block _ ym).trans HH.out)⟩));have HQ:Hid (wr.heap[w.heap.size]?=some (.cells #[.slice (some ⟨g0,o0,none⟩) m0 k0,.slice B1 m1 k1,.slice B2 m2 k2,.int .i64 b.next] 28 (0,0))):=zh (by have:=HO.out.row;rw[eA] at this;rw[ho0];exact this);have HO0:=zh ho0;clear ho0 eA
   go_upto_region 5 with (fail)
   refine own5 hlt HQ rO vW nJ rfl rfl rfl ?_;intro v W5 A4 c4 gH ho5;simp only[qc,BR,BS,BU,BV,Act.put,BO,BP,BQ]
   have HOW5:Hid (OW tg0 tg1 w w.heap.size w.heap.size w1.heap.size W0.heap.size B0 m0 k0 B1 m1 k1 B2 m2 k2 b (k+1) 0 (W5.setCell ⟨g0,o0+k* 4+3,none⟩ (.slice A4 n3 c4))):=zh (by
    rw[HO0.out,Nat.zero_add]
    exact HO.out.fill0 hlt HEA.out HH.out rfl rq.out (fun i v hi=>match i,hi with
     |0,hi=>x4.out 0 v hi
     |1,hi=>x4.out 1 v hi
     |2,hi=>x4.out 2 v hi) gH ho5)
   generalize W5.setCell ⟨g0,o0+k* 4+3,none⟩ (.slice A4 n3 c4)=wz at *;clear HQ rO vW nJ gH ho5 HO rq x4 HH HEA HO0 hgB ym;have hk1:k+1≤m0:=hlt;go_wp2
   refine⟨⟨k+1,hk1,by go_num,HOW5⟩,?_⟩;go_light
   simp[intOf];omega
  obtain rfl:m0=k:=by omega
  clear hlt hk;have r7:=HO.out.row;have x1:=zc 1 r7 (.slice B1 m1 k1) rfl;clear r7;have HOW:=HO;clear HO
  rename World=>wo
  go_wp2_with fail
  go_loopw [39] (fun iv wr=>∃j:Nat,j≤m1∧iv=.int .i64 j∧Hid (OW tg0 tg1 w w.heap.size w.heap.size w1.heap.size W0.heap.size B0 m0 k0 B1 m1 k1 B2 m2 k2 b m0 j wr)) (fun iv _=>m1 - (intOf iv).toNat)
  case atStart=>exact⟨0,Nat.zero_le _,rfl,HOW⟩
  case round=>
   obtain⟨j,hk,rfl,HO⟩:=hrel;by_cases hlt:j<m1
   ·clear x1;obtain⟨g0,cur,vs,eA,hgB,ym,hh,hx,hcs⟩:=JP (d:=default) HO.out.th hlt;obtain⟨A3,n3,c3,rfl,hok,hsl⟩:=hx;have rq:=zh hok;clear hok;have nK:=hsl.len;have yx:n3≤100000000:=(by have:=HQL.out _ (JO (l:=b.things) (j:=j) (d:=default) (by rw[mE.out];exact hlt));omega);have nJ:=zh (fun V (hV:Below wr.heap.size wr V)=>jQ (hsl.all hV) yx);have rO:=zh nK;clear nK yx hsl;have x4:=zh hcs;clear hcs;have HH:=zh hh;clear hh;have HEA:=zh eA;obtain⟨o0,ho0⟩:∃o:Nat,o=0:=⟨_,rfl⟩;have vW:=zh (fun V (hV:Below wr.heap.size wr V)=>(show V.cell? ⟨g0,o0+j* 4+3,none⟩=some (.slice A3 n3 c3)∧V.frozen? ⟨g0,o0+j* 4+3,none⟩=false from⟨(cell_of_row _ _ _ _ _ _ ((hV.block _ ym).trans HH.out)).trans (by rw[ho0,Nat.zero_add];exact x4.out 3 _ rfl),frozen_of_row _ _ _ _ _ ((hV.block _ ym).trans HH.out)⟩));have HQ:Hid (wr.heap[w.heap.size]?=some (.cells #[.slice B0 m0 k0,.slice (some ⟨g0,o0,none⟩) m1 k1,.slice B2 m2 k2,.int .i64 b.next] 28 (0,0))):=zh (by have:=HO.out.row;rw[eA] at this;rw[ho0];exact this);have HO0:=zh ho0;clear ho0 eA
    go_upto_region 10 with (fail)
    refine own10 hlt HQ rO vW nJ rfl rfl rfl ?_;intro v W5 A4 c4 gH ho5;simp only[qc,BR,BS,BU,BV,Act.put,BO,BP,BQ]
    have HOW5:Hid (OW tg0 tg1 w w.heap.size w.heap.size w1.heap.size W0.heap.size B0 m0 k0 B1 m1 k1 B2 m2 k2 b m0 (j+1) (W5.setCell ⟨g0,o0+j* 4+3,none⟩ (.slice A4 n3 c4))):=zh (by
     rw[HO0.out,Nat.zero_add]
     exact HO.out.fill1 hlt HEA.out HH.out rfl rq.out (fun i v hi=>match i,hi with
      |0,hi=>x4.out 0 v hi
      |1,hi=>x4.out 1 v hi
      |2,hi=>x4.out 2 v hi) gH ho5)
    generalize W5.setCell ⟨g0,o0+j* 4+3,none⟩ (.slice A4 n3 c4)=wz at *;clear HQ rO vW nJ gH ho5 HO rq x4 HH HEA HO0 hgB ym;have hk1:j+1≤m1:=hlt;go_wp2
    refine⟨⟨j+1,hk1,by go_num,HOW5⟩,?_⟩;go_light
    simp[intOf];omega
   obtain rfl:m1=j:=by omega
   clear hlt hk;have r7:=HO.out.row;have r8:=HO.out.rb;have x0:=zc 0 r7 (.slice B0 m0 k0) rfl;have x1:=zc 1 r7 (.slice B1 m1 k1) rfl;have x2:=zc 2 r7 (.slice B2 m2 k2) rfl;have x3:=zc 3 r7 (.int .i64 b.next) rfl;have f0:=zc 0 r8 (.slice none 0 0) rfl;have f1:=zc 1 r8 (.slice none 0 0) rfl;have f2:=zc 2 r8 (.slice none 0 0) rfl;have f3:=zc 3 r8 (.int .i64 0) rfl;have e0:=zf 0 r8;have e1:=zf 1 r8;have e2:=zf 2 r8;have e3:=zf 3 r8;have hb4:=Jg (a:=.slice B0 m0 k0) (b:=.slice B1 m1 k1) (c:=.slice B2 m2 k2) (d:=.int .i64 b.next) r8;have HBL:=zh (HO.out.below.trans (hb4.2.1 w.heap.size (by omega)));have na:=zh (HO.out.done hb4.2.2 (hb4.2.1 w.heap.size (by omega)).size hlt1 rR.out);clear r7 r8 hb4 HO;go_wp2
   refine bodyPost_ret (v:=.agg #[.slice B0 m0 k0,.slice B1 m1 k1,.slice B2 m2 k2,.int .i64 b.next]) (by simp[results,Tryz.results62,go_sem, *];done) rfl ?_;have q0:=mH.out;have q1:=mE.out;have q2:=uk.out;subst q0 q1 q2;exact⟨B0,k0,B1,k1,B2,k2,rfl,fun X d V h1 h2 h3 h4 h5=>na.out X d V h1 h2 h3 (fun g o hx=>by have:=h4 g o hx;exact⟨this.1,by omega,by have:=gK.out;omega,this.2.2⟩) h5,HBL.out⟩
end Go.Proofs.YtipecejghioicaaGreat
