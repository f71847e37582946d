/- Book.May: may a book be? -/
import Derived.Test.YtipecejghioicaaGreatQ8s
import Derived.Test.YtipecejghioicaaGreatN2s
import Derived.Test.YtipecejghioicaaGreatP0s
set_option maxHeartbeats 4000000
set_option maxRecDepth 100000
namespace Go.Proofs.YtipecejghioicaaGreat
open Go.RowKit Go.Silo
structure BG (w:World) (S:Nat→Prop) (tg tg0 tg1 tg2:Bool) (A0:Option Addr) (n0 c0:Nat) (A1:Option Addr) (n1 c1:Nat) (A2:Option Addr) (n2 c2:Nat) (b:Book):Prop where
 st:Sl tg 86 (qe tg0) w S A0 n0 c0 b.Ba
 th:Sl tg 90 (ql tg1) w S A1 n1 c1 b.things
 ta:Sl tg2 94 Bz w S A2 n2 c2 b.tags
 nx:Bo b.next
section
variable {w w':World}{S S':Nat→Prop}{tg tg0 tg1 tg2:Bool}{A0 A1 A2:Option Addr}{n0 c0 n1 c1 n2 c2:Nat}{b:Book}
theorem BG.all (h:BG w S tg tg0 tg1 tg2 A0 n0 c0 A1 n1 c1 A2 n2 c2 b) (hb:Below w.heap.size w w'):BG w' S tg tg0 tg1 tg2 A0 n0 c0 A1 n1 c1 A2 n2 c2 b:=⟨h.st.all hb,h.th.all hb,h.ta.all hb,h.nx⟩
theorem BG.keep (h:BG w S tg tg0 tg1 tg2 A0 n0 c0 A1 n1 c1 A2 n2 c2 b) (k:Bj S w w'):BG w' S tg tg0 tg1 tg2 A0 n0 c0 A1 n1 c1 A2 n2 c2 b:=⟨h.st.keep k,h.th.keep k,h.ta.keep k,h.nx⟩
theorem BG.mono (h:BG w S tg tg0 tg1 tg2 A0 n0 c0 A1 n1 c1 A2 n2 c2 b) (hS:∀k,S k→k<w.heap.size→S' k):BG w S' tg tg0 tg1 tg2 A0 n0 c0 A1 n1 c1 A2 n2 c2 b:=⟨h.st.mono hS,h.th.mono hS,h.ta.mono hS,h.nx⟩
end
theorem JH {tg tg0 tg1 tg2:Bool}{S:Nat→Prop}{w:World}{A0 A1 A2:Option Addr}{n0 c0 n1 c1 n2 c2:Nat}{s:Shape}{b:Book}(hsi:Bo s.K∧Bo s.M∧Bo s.size) (hf:DF b) (h:BG w S tg tg0 tg1 tg2 A0 n0 c0 A1 n1 c1 A2 n2 c2 b):
  Calls Tryz.prog 47 #[.agg #[.int .i64 s.K,.int .i64 s.M,.int .i64 s.size],.agg #[.slice A0 n0 c0,.slice A1 n1 c1,.slice A2 n2 c2,.int .i64 b.next]] w (Bf (.bool (qI s b)) w):=by
 have uS:Hid (qI s b=(qo s&&(decide (0≤b.next∧b.next≤1073741824)&&(qw s b.next b.Ba&&(qP s b.Ba b.things&&zL b.tags))))):=zh rfl;have hn0:n0≤4000:=by have:=hf.st;have:=h.st.len;omega
 have HSS:=zh (fun W (hW:Below w.heap.size w W)=>Qp (w:=W) (A1:=A1) (A2:=A2) (n1:=n1) (c1:=c1) (n2:=n2) (c2:=c2) (nx:=b.next) hsi (h.st.all hW) hf.sl);have HTT:=zh (fun W (hW:Below w.heap.size w W) (hsh:qo s=true) (hs:qw s b.next b.Ba=true)=>JC (w:=W) (A2:=A2) (n2:=n2) (c2:=c2) (nx:=b.next) hsh (h.st.all hW) (by omega) (fun i j h1 h2=>xB hs i j h1 (by have:=h.st.len;omega)) (h.th.all hW) hf.nm);have HGG:=zh (fun W (hW:Below w.heap.size w W)=>ED (w:=W) (h.ta.all hW));generalize qI s b=R at *;clear h hf hsi;have hal:Below w.heap.size w ((w.alloc (.cells #[.int .i64 s.K,.int .i64 s.M,.int .i64 s.size] 23)).alloc (.cells #[.slice A0 n0 c0,.slice A1 n1 c1,.slice A2 n2 c2,.int .i64 b.next] 28)):=bz
 have mV:((w.alloc (.cells #[.int .i64 s.K,.int .i64 s.M,.int .i64 s.size] 23)).alloc (.cells #[.slice A0 n0 c0,.slice A1 n1 c1,.slice A2 n2 c2,.int .i64 b.next] 28)).heap[w.heap.size]?=some (.cells #[.int .i64 s.K,.int .i64 s.M,.int .i64 s.size] 23 (0,0)):=by
  rw[Below.heap_alloc _ _ _ (by simp;try omega)];have:=heap_alloc_new w (.cells #[.int .i64 s.K,.int .i64 s.M,.int .i64 s.size] 23);simpa only[World.size_alloc] using this
 have hr1:((w.alloc (.cells #[.int .i64 s.K,.int .i64 s.M,.int .i64 s.size] 23)).alloc (.cells #[.slice A0 n0 c0,.slice A1 n1 c1,.slice A2 n2 c2,.int .i64 b.next] 28)).heap[w.heap.size+1]?=some (.cells #[.slice A0 n0 c0,.slice A1 n1 c1,.slice A2 n2 c2,.int .i64 b.next] 28 (0,0)):=by
  have:=heap_alloc_new (w.alloc (.cells #[.int .i64 s.K,.int .i64 s.M,.int .i64 s.size] 23)) (.cells #[.slice A0 n0 c0,.slice A1 n1 c1,.slice A2 n2 c2,.int .i64 b.next] 28);simpa only[World.size_alloc] using this
 have hz:w.heap.size+1<((w.alloc (.cells #[.int .i64 s.K,.int .i64 s.M,.int .i64 s.size] 23)).alloc (.cells #[.slice A0 n0 c0,.slice A1 n1 c1,.slice A2 n2 c2,.int .i64 b.next] 28)).heap.size:=by simp
 go_enter Tryz.func47,Tryz.ntmps47
 go_upto_region 1 with (fail)
 generalize ((w.alloc (.cells #[.int .i64 s.K,.int .i64 s.M,.int .i64 s.size] 23)).alloc (.cells #[.slice A0 n0 c0,.slice A1 n1 c1,.slice A2 n2 c2,.int .i64 b.next] 28))=W0 at *;have gm:=zh (fun V (hV:Below W0.heap.size W0 V)=>hal.trans (hV.mono hal.size));clear hal;have ROW:=zh (fun V (hV:Below W0.heap.size W0 V)=>(show V.heap[w.heap.size]?=some (.cells #[.int .i64 s.K,.int .i64 s.M,.int .i64 s.size] 23 (0,0))∧V.heap[w.heap.size+1]?=some (.cells #[.slice A0 n0 c0,.slice A1 n1 c1,.slice A2 n2 c2,.int .i64 b.next] 28 (0,0)) from⟨(hV.block _ (by omega)).trans mV,(hV.block _ (by omega)).trans hr1⟩));clear mV hr1;obtain⟨r0,r1⟩:=ROW.out W0 (Below.refl _ _);have nz:=zc 0 r0 (.int .i64 s.K) rfl;have nr:=zc 1 r0 (.int .i64 s.M) rfl;have nt:=zc 2 r0 (.int .i64 s.size) rfl;clear r0 r1;go_wp2_with fail
 refine(CR (s:=s)).mono ?_;rintro e w1 ⟨rfl,hb1⟩;have gB:=zh hb1;clear hb1 nz nr nt;generalize hq:qo s=q at *;have HQ:=zh hq;clear hq
 cases q with
 |false=>
  have HE:Hid (R=false):=zh uS.out;go_wp2
  go_ret
  exact⟨by rw[HE.out];rfl,gm.out _ gB.out⟩
 |true=>
  obtain⟨r0,r1⟩:=ROW.out w1 gB.out;have pY:=zc 3 r1 (.int .i64 b.next) rfl;have nz:=zc 0 r0 (.int .i64 s.K) rfl;have nr:=zc 1 r0 (.int .i64 s.M) rfl;have nt:=zc 2 r0 (.int .i64 s.size) rfl;have ng:=zc 0 r1 (.slice A0 n0 c0) rfl;have pp:=zc 1 r1 (.slice A1 n1 c1) rfl;have p9:=zc 2 r1 (.slice A2 n2 c2) rfl;clear r0 r1;by_cases hx1:0≤b.next
  ·by_cases hx2:b.next≤1073741824
   ·have yc:=zh (uS.out.trans (by rw[decide_eq_true (⟨hx1,hx2⟩:0≤b.next∧b.next≤1073741824)];rfl:_=(qw s b.next b.Ba&&(qP s b.Ba b.things&&zL b.tags))));clear uS;go_wp2_with fail
    refine(HSS.out _ (gm.out _ gB.out)).mono ?_;rintro e w2 ⟨rfl,hb2⟩;have gu:=zt gB hb2;clear hb2 gB HSS;clear pY nz nr nt ng pp p9;generalize hq2:qw s b.next b.Ba=q2 at *;have yg:=zh hq2;clear hq2
    cases q2 with
    |false=>
     have HE:Hid (R=false):=zh yc.out;go_wp2
     go_ret
     exact⟨by rw[HE.out];rfl,gm.out _ gu.out⟩
    |true=>
     obtain⟨r0,r1⟩:=ROW.out w2 gu.out;have nz:=zc 0 r0 (.int .i64 s.K) rfl;have nr:=zc 1 r0 (.int .i64 s.M) rfl;have nt:=zc 2 r0 (.int .i64 s.size) rfl;have ng:=zc 0 r1 (.slice A0 n0 c0) rfl;have pp:=zc 1 r1 (.slice A1 n1 c1) rfl;have p9:=zc 2 r1 (.slice A2 n2 c2) rfl;have pY:=zc 3 r1 (.int .i64 b.next) rfl;clear r0 r1;go_wp2_with fail
     refine(HTT.out _ (gm.out _ gu.out) (by trivial) (by trivial)).mono ?_;rintro e w3 ⟨rfl,hb3⟩;have gG:=zt gu hb3;clear hb3 gu HTT;clear pY nz nr nt ng pp p9;generalize pz:qP s b.Ba b.things=q3 at *;have uT:=zh pz;clear pz
     cases q3 with
     |false=>
      have HE:Hid (R=false):=zh yc.out;go_wp2
      go_ret
      exact⟨by rw[HE.out];rfl,gm.out _ gG.out⟩
     |true=>
      obtain⟨r0,r1⟩:=ROW.out w3 gG.out;have p9:=zc 2 r1 (.slice A2 n2 c2) rfl;clear r0 r1;go_wp2_with fail
      refine(HGG.out _ (gm.out _ gG.out)).mono ?_;rintro e w4 ⟨rfl,hb4⟩;have gv:=zt gG hb4;clear hb4 gG HGG p9;generalize uw:zL b.tags=q4 at *;have HQ4:=zh uw;clear uw;have HE:Hid (R=q4):=zh yc.out;go_wp2
      go_ret
      exact⟨by rw[HE.out];rfl,gm.out _ gv.out⟩
   have HE:Hid (R=false):=zh (uS.out.trans (by rw[decide_eq_false (fun h=>hx2 h.2)];rfl));clear nz nr nt ng pp p9;go_wp2
   go_ret
   exact⟨by rw[HE.out];rfl,gm.out _ gB.out⟩
  have HE:Hid (R=false):=zh (uS.out.trans (by rw[decide_eq_false (fun h=>hx1 h.1)];rfl));clear nz nr nt ng pp p9;go_wp2
  go_ret
  exact⟨by rw[HE.out];rfl,gm.out _ gB.out⟩
end Go.Proofs.YtipecejghioicaaGreat
