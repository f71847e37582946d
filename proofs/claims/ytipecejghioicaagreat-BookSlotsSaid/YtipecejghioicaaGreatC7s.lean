/- Book.Slots. -/
import Derived.Test.YtipecejghioicaaGreatC3s
import Derived.Test.YtipecejghioicaaGreatC4s
import Derived.Test.YtipecejghioicaaGreatT8s
import Derived.Test.YtipecejghioicaaGreatP0s
set_option maxHeartbeats 4000000
set_option maxRecDepth 100000
namespace Go.Proofs.YtipecejghioicaaGreat
open Go.RowKit Go.Silo
noncomputable def jV (s:Shape) (b:Book) (live:List Bool) (n:Int):Bg×Int:=if qI s b=true∧1≤live.length∧live.length≤12∧0≤n∧n≤64 then (⟨live,qB (List.replicate live.length (za n.toNat)) b.Ba⟩,0) else (⟨[],[]⟩,1)
theorem JY {tg tg0 tg1 tg2 tg3:Bool}{S S3:Nat→Prop}{w:World}{A0 A1 A2 A3:Option Addr}{n0 c0 n1 c1 n2 c2 n3 c3:Nat}{s:Shape}{b:Book}{live:List Bool}{n:Int}(hsi:Bo s.K∧Bo s.M∧Bo s.size) (hf:DF b) (h:BG w S tg tg0 tg1 tg2 A0 n0 c0 A1 n1 c1 A2 n2 c2 b)
  (hl:Sl tg3 4 Bn w S3 A3 n3 c3 live) (hI:Bo n):
  Calls Tryz.prog 14 #[.agg #[.int .i64 s.K,.int .i64 s.M,.int .i64 s.size],.agg #[.slice A0 n0 c0,.slice A1 n1 c1,.slice A2 n2 c2,.int .i64 b.next],.slice A3 n3 c3,.int .i64 n] w (CS w (jV s b live n)):=by
 have HL:=zh hl.len;have HR:Hid (jV s b live n=if qI s b=true∧1≤live.length∧live.length≤12∧0≤n∧n≤64 then (⟨live,qB (List.replicate live.length (za n.toNat)) b.Ba⟩,0) else (⟨[],[]⟩,1)):=zh rfl;generalize jV s b live n=R at *;rw[HL.out] at HR;have HM:=zh (fun W (hW:Below w.heap.size w W)=>JH hsi hf (h.all hW));have yw:=zh (fun W (hW:Below w.heap.size w W) (m:Nat) (h1:n3≤1000) (h2:m≤64)=>EQ (h.all hW) (hl.all hW) h1 h2);clear h hl hsi hf;have hal:Below w.heap.size w (((w.alloc (.cells #[.int .i64 s.K,.int .i64 s.M,.int .i64 s.size] 23)).alloc (.cells #[.slice A0 n0 c0,.slice A1 n1 c1,.slice A2 n2 c2,.int .i64 b.next] 28)).alloc (.cells #[.slice none 0 0,.slice none 0 0] 40)):=bz;have mV:(((w.alloc (.cells #[.int .i64 s.K,.int .i64 s.M,.int .i64 s.size] 23)).alloc (.cells #[.slice A0 n0 c0,.slice A1 n1 c1,.slice A2 n2 c2,.int .i64 b.next] 28)).alloc (.cells #[.slice none 0 0,.slice none 0 0] 40)).heap[w.heap.size]?=some (.cells #[.int .i64 s.K,.int .i64 s.M,.int .i64 s.size] 23 (0,0)):=(Below.heap_alloc _ _ _ (by simp<;>omega)).trans (jF _ _ _ _);have hr1:(((w.alloc (.cells #[.int .i64 s.K,.int .i64 s.M,.int .i64 s.size] 23)).alloc (.cells #[.slice A0 n0 c0,.slice A1 n1 c1,.slice A2 n2 c2,.int .i64 b.next] 28)).alloc (.cells #[.slice none 0 0,.slice none 0 0] 40)).heap[w.heap.size+1]?=some (.cells #[.slice A0 n0 c0,.slice A1 n1 c1,.slice A2 n2 c2,.int .i64 b.next] 28 (0,0)):=(Below.heap_alloc _ _ _ (by simp)).trans (Qa _ _ _ _)
 have hr2:(((w.alloc (.cells #[.int .i64 s.K,.int .i64 s.M,.int .i64 s.size] 23)).alloc (.cells #[.slice A0 n0 c0,.slice A1 n1 c1,.slice A2 n2 c2,.int .i64 b.next] 28)).alloc (.cells #[.slice none 0 0,.slice none 0 0] 40)).heap[w.heap.size+2]?=some (.cells #[.slice none 0 0,.slice none 0 0] 40 (0,0)):=by
  have:=heap_alloc_new ((w.alloc (.cells #[.int .i64 s.K,.int .i64 s.M,.int .i64 s.size] 23)).alloc (.cells #[.slice A0 n0 c0,.slice A1 n1 c1,.slice A2 n2 c2,.int .i64 b.next] 28)) (.cells #[.slice none 0 0,.slice none 0 0] 40);simpa only[World.size_alloc] using this
 have hz:(((w.alloc (.cells #[.int .i64 s.K,.int .i64 s.M,.int .i64 s.size] 23)).alloc (.cells #[.slice A0 n0 c0,.slice A1 n1 c1,.slice A2 n2 c2,.int .i64 b.next] 28)).alloc (.cells #[.slice none 0 0,.slice none 0 0] 40)).heap.size=w.heap.size+3:=by simp
 go_enter Tryz.func14,Tryz.ntmps14
 go_upto_region 1 with (fail)
 generalize (((w.alloc (.cells #[.int .i64 s.K,.int .i64 s.M,.int .i64 s.size] 23)).alloc (.cells #[.slice A0 n0 c0,.slice A1 n1 c1,.slice A2 n2 c2,.int .i64 b.next] 28)).alloc (.cells #[.slice none 0 0,.slice none 0 0] 40))=W0 at *;have hz':w.heap.size+3≤W0.heap.size:=by omega
 clear hz;have nz:=zc 0 mV (.int .i64 s.K) rfl;have nr:=zc 1 mV (.int .i64 s.M) rfl;have nt:=zc 2 mV (.int .i64 s.size) rfl;have ng:=zc 0 hr1 (.slice A0 n0 c0) rfl;have pp:=zc 1 hr1 (.slice A1 n1 c1) rfl;have p9:=zc 2 hr1 (.slice A2 n2 c2) rfl;have pY:=zc 3 hr1 (.int .i64 b.next) rfl;go_wp2_with fail
 refine(HM.out W0 hal).mono ?_;rintro e w1 ⟨rfl,hb1⟩;have gB:Hid (Below w.heap.size w w1):=zh (via hal hb1 (by omega));have ub:=(hb1.block _ (by omega)).trans hr1;have rB:=(hb1.block _ (by omega)).trans hr2;have hz1:w.heap.size+3≤w1.heap.size:=by have:=hb1.size;omega
 clear nz nr nt ng pp p9 pY mV hr1 hr2 hal hb1 HM hz';have t0:=zc 0 rB (.slice none 0 0) rfl;have t1:=zc 1 rB (.slice none 0 0) rfl;have t2:=frozen_of_row w1 (w.heap.size+2) 0 _ _ rB;have t3:=frozen_of_row w1 (w.heap.size+2) 1 _ _ rB;have hbad:∀u v,Below w.heap.size w ((w1.setCell ⟨w.heap.size+2,0,none⟩ u).setCell ⟨w.heap.size+2,1,none⟩ v):=fun u v=>(gB.out.setCell (show w.heap.size≤w.heap.size+2 by omega) _).setCell (show w.heap.size≤w.heap.size+2 by omega) _;have uM:=zh hbad;clear hbad;generalize hok:qI s b=ok at *;clear hok
 cases ok with
 |false=>
  have HE:Hid (R=(⟨[],[]⟩,1)):=zh (by rw[HR.out,if_neg (by simp)]);clear ub rB;go_wp2
  refine bodyPost_ret (v:=.tuple #[.agg #[.slice none 0 0,.slice none 0 0],.int .i64 1]) (by simp[results,Tryz.results14,go_sem, *];done) rfl ?_;exact CS.bad HE.out (uM.out _ _)
 |true=>
  by_cases hn:1≤n3∧n3≤12∧0≤n∧n≤64
  ·have HE:Hid (R=(⟨live,qB (List.replicate n3 (za n.toNat)) b.Ba⟩,0)):=zh (by rw[HR.out,if_pos ⟨rfl,hn⟩]);obtain⟨h1,h2,h3,h4⟩:=hn;obtain⟨n,rfl⟩:=Int.eq_ofNat_of_zero_le h3;have ng:=zc 0 ub (.slice A0 n0 c0) rfl;have pp:=zc 1 ub (.slice A1 n1 c1) rfl;have p9:=zc 2 ub (.slice A2 n2 c2) rfl;have pY:=zc 3 ub (.int .i64 b.next) rfl;have HR2:=zh rB;clear ub rB t0 t1 t2 t3 uM;go_wp2_with fail
   refine(yw.out w1 gB.out n (by omega) (by omega)).mono ?_;rintro e w2 ⟨vs,rfl,⟨A5,n5,c5,A6,n6,c6,rfl,_,hs0,hs1⟩,hb2⟩;have rC:=(hb2.block _ (by omega)).trans HR2.out;have t0:=zc 0 rC (.slice none 0 0) rfl;have t1:=zc 1 rC (.slice none 0 0) rfl;have t2:=frozen_of_row w2 (w.heap.size+2) 0 _ _ rC;have t3:=frozen_of_row w2 (w.heap.size+2) 1 _ _ rC;have HS0:=zh hs0;have uU:=zh hs1;have gu:=zh (via gB.out hb2 (by omega));clear hs0 hs1 hb2 rC ng pp p9 pY;go_wp2
   refine bodyPost_ret (v:=.tuple #[.agg #[.slice A5 n5 c5,.slice A6 n6 c6],.int .i64 0]) (by simp[results,Tryz.results14,go_sem, *];done) rfl ?_;rw[HE.out];have hkk:Bj (fun q=>w1.heap.size≤q) w2 ((w2.setCell ⟨w.heap.size+2,0,none⟩ (.slice A5 n5 c5)).setCell ⟨w.heap.size+2,1,none⟩ (.slice A6 n6 c6)):=((Bj.refl _ _).setCell (fun h=>by have:w1.heap.size≤w.heap.size+2:=h;omega) _).setCell (fun h=>by have:w1.heap.size≤w.heap.size+2:=h;omega) _;exact⟨_,_,_,_,_,_,rfl,(HS0.out.keep hkk).mono (fun q hq _=>by have:w1.heap.size≤q:=hq;show w.heap.size≤q;omega),(uU.out.keep hkk).mono (fun q hq _=>by have:w1.heap.size≤q:=hq;show w.heap.size≤q;omega),(gu.out.setCell (show w.heap.size≤w.heap.size+2 by omega) _).setCell (show w.heap.size≤w.heap.size+2 by omega) _⟩
  have HE:Hid (R=(⟨[],[]⟩,1)):=zh (by rw[HR.out,if_neg (fun h=>hn h.2)]);clear ub rB;rcases (by omega:n3<1∨(1≤n3∧12<n3)∨(1≤n3∧n3≤12∧n<0)∨(1≤n3∧n3≤12∧0≤n∧64<n)) with h|⟨h,h'⟩|⟨h,h',h''⟩|⟨h,h',h2,h3⟩<;>
  ·go_wp2
   refine bodyPost_ret (v:=.tuple #[.agg #[.slice none 0 0,.slice none 0 0],.int .i64 1]) (by simp[results,Tryz.results14,go_sem, *];done) rfl ?_;exact CS.bad HE.out (uM.out _ _)
end Go.Proofs.YtipecejghioicaaGreat
