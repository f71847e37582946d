/- Siloref16.Apply of any record. -/
import Derived.Test.YtipecejghioicaaGreatN9p
import Derived.Test.YtipecejghioicaaGreatY8p
import Derived.Test.YtipecejghioicaaGreatN2p
import Derived.Test.YtipecejghioicaaGreatR4p
import Derived.Deep.CutRange
import Derived.Deep.Light
import Derived.Test.YtipecejghioicaaGreatDatap
import Derived.Test.YtipecejghioicaaGreatY23p
import Derived.Test.YtipecejghioicaaGreatJ13p
import Derived.Test.YtipecejghioicaaGreatJ14p
import Derived.Test.YtipecejghioicaaGreatJ15p
import Derived.Test.YtipecejghioicaaGreatJ16p
import Derived.Test.YtipecejghioicaaGreatJ17p
namespace Go.Proofs.YtipecejghioicaaGreat
open Go.RowKit Go.Silo
theorem Qs {α:Type} [Inhabited α] {R:α→α→Prop}(htr:∀a b c,R a b→R b c→R a c) {l:List α}(h:∀k,0<k→k<l.length→R (l.getD (k - 1) default) (l.getD k default)):l.Pairwise R:=by
 refine Bw.2 (fun i j hij hj=>?_)
 induction j with
 |zero=>omega
 |succ j ih=>
  rcases Nat.lt_or_ge i j with h1|h1
  ·exact htr _ _ _ (ih h1 (by omega)) (by have:=h (j+1) (by omega) hj;simpa using this)
  obtain rfl:i=j:=by omega
  have:=h (i+1) (by omega) hj;simpa using this
theorem zQ {s:Shape}{b:Book}(h:zk s b=true):qt s=true∧(0≤b.next∧b.next≤1073741824)∧qH s b.next b.Ba=true∧(∀k,k<b.things.length→qI s b.Ba b.things k=true)∧(∀k,k<b.tags.length→BL b.tags k=true):=by
 unfold zk at h;simp only[Bool.and_eq_true,decide_eq_true_eq] at h;obtain⟨h0,hn,hst,hth,Gn⟩:=h;refine⟨h0,hn,hst,fun k hk=>?_,fun k hk=>?_⟩
 ·unfold zg at hth;simp only[Bool.and_eq_true] at hth;exact List.all_eq_true.1 hth.1 k (List.mem_range.2 hk)
 unfold zV at Gn;simp only[Bool.and_eq_true] at Gn;exact List.all_eq_true.1 Gn.1 k (List.mem_range.2 hk)
end Go.Proofs.YtipecejghioicaaGreat
set_option maxHeartbeats 16000000
set_option maxRecDepth 100000
namespace Go.Proofs.YtipecejghioicaaGreat
open Go.RowKit Go.Silo
theorem xw {s:Shape}{b:Book}(h:zk s b=true):Sorted b:=by
 obtain⟨_,_,hst,hth,Gn⟩:=zQ h;refine⟨xV hst,?_,?_⟩
 ·exact Bw.1 (Qs (R:=fun(x y:Entry)=>qo x.digest y.digest=true) (fun _ _ _ h1 h2=>qV h1 h2) (fun k h0 hk=>by
   have:=hth k hk;unfold qI at this;simp only[Bool.and_eq_true,Bool.or_eq_true,decide_eq_true_eq] at this;rcases this.2.1 with h|h
   ·omega
   exact h))
 exact Bw.1 (Qs (R:=fun(x y:Tag)=>qo x.name y.name=true) (fun _ _ _ h1 h2=>qV h1 h2) (fun k h0 hk=>by
  have:=Gn k hk;unfold BL at this;simp only[Bool.and_eq_true,Bool.or_eq_true,decide_eq_true_eq] at this;rcases this.2 with h|h
  ·omega
  exact h))
theorem ju {s:Shape}{b:Book}(h:zk s b=true):b.things.length≤60∧b.tags.length≤40:=by
 unfold zk at h;simp only[Bool.and_eq_true,decide_eq_true_eq] at h;obtain⟨_,_,_,hth,Gn⟩:=h;unfold zg at hth;unfold zV at Gn;simp only[Bool.and_eq_true,decide_eq_true_eq] at hth Gn;exact⟨hth.2.2,Gn.2⟩
def zE (s:Shape) (b:Book) (r:Bb):Book×Int:=
 if (zk s b&&qy r)=true then (match Co b r with|none=>(⟨[],[],[],0⟩,3)|some b'=>(b',0)) else (⟨[],[],[],0⟩,1)
theorem jJ {T:TypeId}(h:88≠T):(qc true).BS T:=by
 rintro w w' S vs x ha hs ⟨A,n,c,rfl,hok,hsl⟩;exact⟨A,n,c,rfl,hok,hsl.Ca BS.flat h ha hs⟩
theorem kg {T:TypeId}(h:3≠T):(qj true).BS T:=by
 rintro w w' S vs x ha hs ⟨A,n,c,rfl,hok,hsl⟩;exact⟨A,n,c,rfl,hok,hsl.Ca BS.flat h ha hs⟩
theorem OB.Dw {X:Nat→Option Obj}{β bb g:Nat}{A0:Option Addr}{n0 c0:Nat}{A1:Option Addr}{n1 c1:Nat}{A2:Option Addr}{n2 c2:Nat}{b:Book}{W V:World}{cur:Array Value}{fr:Nat×Nat}(h:OB X β bb A0 n0 c0 A1 n1 c1 A2 n2 c2 b W) (hg:W.heap[g]?=some (.cells cur 28 fr)) (hA:Agree (fun q=>q≠g) W V) (hs:W.heap.size≤V.heap.size):
  Bq V (fun q=>β≤q) true true true true A0 n0 c0 A1 n1 c1 A2 n2 c2 b:=by
 have ha:∀(S:Nat→Prop) q,S q→q<W.heap.size→(∀k,W.shape? q≠some (28,k))→V.heap[q]?=W.heap[q]?:=fun S q _ hq hk=>hA q (fun e=>by
  subst e
  exact hk _ (qw hg)) hq
 have hlo:=h.lo
 have hup:∀q,(NS bb A0 A1 A2 q∨β≤q)→β≤q:=fun q hq=>by
  rcases hq with hq|hq
  ·have:=hq.1;omega
  exact hq
 exact⟨((h.st.sl (tg:=true)).mono (S':=fun q=>β≤q) (fun q hq _=>hup q hq)).Ca (jJ (by decide)) (by decide) (ha _) hs,((h.th.sl (tg:=true)).mono (S':=fun q=>β≤q) (fun q hq _=>hup q hq)).Ca (kg (by decide)) (by decide) (ha _) hs,((h.ta.sl (tg:=true)).mono (S':=fun q=>β≤q) (fun q hq _=>hup q hq)).Ca BS.flat (by decide) (ha _) hs,h.nx⟩
theorem jD {tg tg0 tg1 tg2 tg4:Bool}{S S4:Nat→Prop}{w:World}{A0 A1 A2 A4 A5:Option Addr}{n0 c0 n1 c1 n2 c2 n4 c4 n5 c5:Nat}{s:Shape}{b:Book}{r:Bb}(hsi:Bn s.K∧Bn s.M∧Bn s.size) (hf:DK b) (h:Bq w S tg tg0 tg1 tg2 A0 n0 c0 A1 n1 c1 A2 n2 c2 b)
  (hst:qN r.name∧qN r.digest) (hl:Sl tg4 3 qD w S4 A4 n4 c4 r.list) (hsl:Sl tg4 88 qp w S4 A5 n5 c5 r.slots):
  Calls Tryz.prog 30 #[.agg #[.int .i64 s.K,.int .i64 s.M,.int .i64 s.size],.agg #[.slice A0 n0 c0,.slice A1 n1 c1,.slice A2 n2 c2,.int .i64 b.next],.agg #[.int .i64 r.kind,.int .i64 r.id,.string r.name,.string r.digest,.slice A4 n4 c4,.slice A5 n5 c5]] w (jb (zE s b r) w):=by
 have HM:=zh (fun W (hW:Below w.heap.size w W)=>EA (w:=W) hsi hf (h.all hW));have HRM:=zh (fun W (hW:Below w.heap.size w W)=>Kc (w:=W) (r:=r) (hl.all hW) (hsl.all hW));have HOWN:=zh (fun W (hW:Below w.heap.size w W) (hq:zk s b=true)=>Jm (w:=W) (h.all hW) ⟨by have:=h.st.len;have:=hf.st;omega,by have:=h.th.len;have:=(ju hq).1;omega,by have:=h.ta.len;have:=(ju hq).2;omega⟩ hf.places hf.lists);have mt:=zh ((hl.Bd.mono (S':=fun q=>q<w.heap.size) (fun _ h _=>h.2)));have rx:=zh ((hsl.Bd.mono (S':=fun q=>q<w.heap.size) (fun _ h _=>h.2)));have HST:=zh hst;have HFW:=zh hf;clear h hf hsi hst hl hsl;have hal:Below w.heap.size w ((((w.alloc (.cells #[.int .i64 s.K,.int .i64 s.M,.int .i64 s.size] 23)).alloc (.cells #[.slice A0 n0 c0,.slice A1 n1 c1,.slice A2 n2 c2,.int .i64 b.next] 28)).alloc (.cells #[.int .i64 r.kind,.int .i64 r.id,.string r.name,.string r.digest,.slice A4 n4 c4,.slice A5 n5 c5] 61)).alloc (.cells #[.slice none 0 0,.slice none 0 0,.slice none 0 0,.int .i64 0] 28)):=bz
 have nt:((((w.alloc (.cells #[.int .i64 s.K,.int .i64 s.M,.int .i64 s.size] 23)).alloc (.cells #[.slice A0 n0 c0,.slice A1 n1 c1,.slice A2 n2 c2,.int .i64 b.next] 28)).alloc (.cells #[.int .i64 r.kind,.int .i64 r.id,.string r.name,.string r.digest,.slice A4 n4 c4,.slice A5 n5 c5] 61)).alloc (.cells #[.slice none 0 0,.slice none 0 0,.slice none 0 0,.int .i64 0] 28)).heap[w.heap.size]?=some (.cells #[.int .i64 s.K,.int .i64 s.M,.int .i64 s.size] 23 (0,0)):=by
  rw[Below.heap_alloc _ _ _ (by simp;try omega),Below.heap_alloc _ _ _ (by simp;try omega),Below.heap_alloc _ _ _ (by simp;try omega)];have:=heap_alloc_new w (.cells #[.int .i64 s.K,.int .i64 s.M,.int .i64 s.size] 23);simpa only[World.size_alloc] using this
 have hr1:((((w.alloc (.cells #[.int .i64 s.K,.int .i64 s.M,.int .i64 s.size] 23)).alloc (.cells #[.slice A0 n0 c0,.slice A1 n1 c1,.slice A2 n2 c2,.int .i64 b.next] 28)).alloc (.cells #[.int .i64 r.kind,.int .i64 r.id,.string r.name,.string r.digest,.slice A4 n4 c4,.slice A5 n5 c5] 61)).alloc (.cells #[.slice none 0 0,.slice none 0 0,.slice none 0 0,.int .i64 0] 28)).heap[w.heap.size+1]?=some (.cells #[.slice A0 n0 c0,.slice A1 n1 c1,.slice A2 n2 c2,.int .i64 b.next] 28 (0,0)):=by
  rw[Below.heap_alloc _ _ _ (by simp;try omega),Below.heap_alloc _ _ _ (by simp;try omega)];have:=heap_alloc_new (w.alloc (.cells #[.int .i64 s.K,.int .i64 s.M,.int .i64 s.size] 23)) (.cells #[.slice A0 n0 c0,.slice A1 n1 c1,.slice A2 n2 c2,.int .i64 b.next] 28);simpa only[World.size_alloc] using this
 have hr2:((((w.alloc (.cells #[.int .i64 s.K,.int .i64 s.M,.int .i64 s.size] 23)).alloc (.cells #[.slice A0 n0 c0,.slice A1 n1 c1,.slice A2 n2 c2,.int .i64 b.next] 28)).alloc (.cells #[.int .i64 r.kind,.int .i64 r.id,.string r.name,.string r.digest,.slice A4 n4 c4,.slice A5 n5 c5] 61)).alloc (.cells #[.slice none 0 0,.slice none 0 0,.slice none 0 0,.int .i64 0] 28)).heap[w.heap.size+1+1]?=some (.cells #[.int .i64 r.kind,.int .i64 r.id,.string r.name,.string r.digest,.slice A4 n4 c4,.slice A5 n5 c5] 61 (0,0)):=by
  rw[Below.heap_alloc _ _ _ (by simp;try omega)];have:=heap_alloc_new ((w.alloc (.cells #[.int .i64 s.K,.int .i64 s.M,.int .i64 s.size] 23)).alloc (.cells #[.slice A0 n0 c0,.slice A1 n1 c1,.slice A2 n2 c2,.int .i64 b.next] 28)) (.cells #[.int .i64 r.kind,.int .i64 r.id,.string r.name,.string r.digest,.slice A4 n4 c4,.slice A5 n5 c5] 61);simpa only[World.size_alloc] using this
 have hr3:((((w.alloc (.cells #[.int .i64 s.K,.int .i64 s.M,.int .i64 s.size] 23)).alloc (.cells #[.slice A0 n0 c0,.slice A1 n1 c1,.slice A2 n2 c2,.int .i64 b.next] 28)).alloc (.cells #[.int .i64 r.kind,.int .i64 r.id,.string r.name,.string r.digest,.slice A4 n4 c4,.slice A5 n5 c5] 61)).alloc (.cells #[.slice none 0 0,.slice none 0 0,.slice none 0 0,.int .i64 0] 28)).heap[w.heap.size+1+1+1]?=some (.cells #[.slice none 0 0,.slice none 0 0,.slice none 0 0,.int .i64 0] 28 (0,0)):=by
  have:=heap_alloc_new (((w.alloc (.cells #[.int .i64 s.K,.int .i64 s.M,.int .i64 s.size] 23)).alloc (.cells #[.slice A0 n0 c0,.slice A1 n1 c1,.slice A2 n2 c2,.int .i64 b.next] 28)).alloc (.cells #[.int .i64 r.kind,.int .i64 r.id,.string r.name,.string r.digest,.slice A4 n4 c4,.slice A5 n5 c5] 61)) (.cells #[.slice none 0 0,.slice none 0 0,.slice none 0 0,.int .i64 0] 28);simpa only[World.size_alloc] using this
 have hz:w.heap.size+1+1+1<((((w.alloc (.cells #[.int .i64 s.K,.int .i64 s.M,.int .i64 s.size] 23)).alloc (.cells #[.slice A0 n0 c0,.slice A1 n1 c1,.slice A2 n2 c2,.int .i64 b.next] 28)).alloc (.cells #[.int .i64 r.kind,.int .i64 r.id,.string r.name,.string r.digest,.slice A4 n4 c4,.slice A5 n5 c5] 61)).alloc (.cells #[.slice none 0 0,.slice none 0 0,.slice none 0 0,.int .i64 0] 28)).heap.size:=by simp
 go_enter Tryz.func30,Tryz.ntmps30
 go_upto_region 1 with (fail)
 generalize ((((w.alloc (.cells #[.int .i64 s.K,.int .i64 s.M,.int .i64 s.size] 23)).alloc (.cells #[.slice A0 n0 c0,.slice A1 n1 c1,.slice A2 n2 c2,.int .i64 b.next] 28)).alloc (.cells #[.int .i64 r.kind,.int .i64 r.id,.string r.name,.string r.digest,.slice A4 n4 c4,.slice A5 n5 c5] 61)).alloc (.cells #[.slice none 0 0,.slice none 0 0,.slice none 0 0,.int .i64 0] 28))=W0 at *;have gI:=zh (fun V (hV:Below W0.heap.size W0 V)=>hal.trans (hV.mono hal.size));clear hal;have ROW:=zh (fun V (hV:Below W0.heap.size W0 V)=>(show V.heap[w.heap.size]?=some (.cells #[.int .i64 s.K,.int .i64 s.M,.int .i64 s.size] 23 (0,0))∧V.heap[w.heap.size+1]?=some (.cells #[.slice A0 n0 c0,.slice A1 n1 c1,.slice A2 n2 c2,.int .i64 b.next] 28 (0,0))∧V.heap[w.heap.size+1+1]?=some (.cells #[.int .i64 r.kind,.int .i64 r.id,.string r.name,.string r.digest,.slice A4 n4 c4,.slice A5 n5 c5] 61 (0,0))∧V.heap[w.heap.size+1+1+1]?=some (.cells #[.slice none 0 0,.slice none 0 0,.slice none 0 0,.int .i64 0] 28 (0,0)) from⟨(hV.block _ (by omega)).trans nt,(hV.block _ (by omega)).trans hr1,(hV.block _ (by omega)).trans hr2,(hV.block _ (by omega)).trans hr3⟩));clear nt hr1 hr2 hr3;have hz1:w.heap.size+1+1+1<W0.heap.size:=by omega
 obtain⟨r0,r1,r2,r3⟩:=ROW.out W0 (Below.refl _ _);have nb:=zc 0 r0 (.int .i64 s.K) rfl;have mX:=zc 1 r0 (.int .i64 s.M) rfl;have mY:=zc 2 r0 (.int .i64 s.size) rfl;have rW:=zc 0 r1 (.slice _ n0 c0) rfl;have vG:=zc 1 r1 (.slice _ n1 c1) rfl;have vp:=zc 2 r1 (.slice _ n2 c2) rfl;have yV:=zc 3 r1 (.int .i64 b.next) rfl;clear r0 r1 r2 r3;go_wp2_with fail
 refine(HM.out _ (gI.out _ (Below.refl _ _))).mono ?_;clear nb mX mY rW vG vp yV;rintro e w1 ⟨rfl,hb1⟩;have gV:=zh hb1;clear hb1 HM;obtain⟨bk,hbk⟩:∃bk,bk=zk s b:=⟨_,rfl⟩;rw[←hbk];have J7:=zh hbk.symm;clear hbk
 cases bk with
 |false=>
  have HE:Hid (zE s b r=(⟨[],[],[],0⟩,1)):=zh (by unfold zE;rw[J7.out];rfl);obtain⟨_,_,_,r4⟩:=ROW.out w1 gV.out;have f0:=zc 0 r4 (.slice none 0 0) rfl;have f1:=zc 1 r4 (.slice none 0 0) rfl;have f2:=zc 2 r4 (.slice none 0 0) rfl;have f3:=zc 3 r4 (.int .i64 0) rfl;have g0:=zf 0 r4;have g1:=zf 1 r4;have g2:=zf 2 r4;have g3:=zf 3 r4;have hb4:=qX (a:=.slice none 0 0) (b:=.slice none 0 0) (c:=.slice none 0 0) (d:=.int .i64 0) r4;have gj:=zh (hb4.2.1 w.heap.size (by omega));have HUP:=zh (gI.out _ gV.out);clear r4 hb4;go_wp2
  refine bodyPost_ret (v:=.tuple #[.agg #[.slice none 0 0,.slice none 0 0,.slice none 0 0,.int .i64 0],.int .i64 1]) (by simp[results,Tryz.results30,go_sem, *];done) rfl ?_;exact⟨none,0,0,none,0,0,none,0,0,by rw[HE.out],by rw[HE.out];exact⟨Sl.Bz (by omega),Sl.Bz (by omega),Sl.Bz (by omega),(show Bn 0 by unfold Bn;omega)⟩,HUP.out.trans gj.out⟩
 |true=>
  obtain⟨r0,r1,r2,r3⟩:=ROW.out w1 gV.out;have b20:=zc 0 r2 (.int .i64 r.kind) rfl;have b21:=zc 1 r2 (.int .i64 r.id) rfl;have b22:=zc 2 r2 (.string r.name) rfl;have b23:=zc 3 r2 (.string r.digest) rfl;have b24:=zc 4 r2 (.slice _ n4 c4) rfl;have b25:=zc 5 r2 (.slice _ n5 c5) rfl;clear r0 r1 r2 r3;go_wp2_with fail
  refine(HRM.out _ (gI.out _ gV.out)).mono ?_;clear b20 b21 b22 b23 b24 b25;rintro e w2 ⟨rfl,hb2⟩;have gM:=zt gV hb2;clear hb2 HRM;obtain⟨rk,hrk⟩:∃rk,rk=qy r:=⟨_,rfl⟩;rw[←hrk];have uI:=zh hrk.symm;clear hrk
  cases rk with
  |false=>
   have HE:Hid (zE s b r=(⟨[],[],[],0⟩,1)):=zh (by unfold zE;rw[J7.out,uI.out];rfl);obtain⟨_,_,_,r4⟩:=ROW.out w2 gM.out;have f0:=zc 0 r4 (.slice none 0 0) rfl;have f1:=zc 1 r4 (.slice none 0 0) rfl;have f2:=zc 2 r4 (.slice none 0 0) rfl;have f3:=zc 3 r4 (.int .i64 0) rfl;have g0:=zf 0 r4;have g1:=zf 1 r4;have g2:=zf 2 r4;have g3:=zf 3 r4;have hb4:=qX (a:=.slice none 0 0) (b:=.slice none 0 0) (c:=.slice none 0 0) (d:=.int .i64 0) r4;have gj:=zh (hb4.2.1 w.heap.size (by omega));have HUP:=zh (gI.out _ gM.out);clear r4 hb4;go_wp2
   refine bodyPost_ret (v:=.tuple #[.agg #[.slice none 0 0,.slice none 0 0,.slice none 0 0,.int .i64 0],.int .i64 1]) (by simp[results,Tryz.results30,go_sem, *];done) rfl ?_;exact⟨none,0,0,none,0,0,none,0,0,by rw[HE.out],by rw[HE.out];exact⟨Sl.Bz (by omega),Sl.Bz (by omega),Sl.Bz (by omega),(show Bn 0 by unfold Bn;omega)⟩,HUP.out.trans gj.out⟩
  |true=>
   have mK:Hid (zE s b r=(match Co b r with|none=>(⟨[],[],[],0⟩,3)|some b'=>(b',0))):=zh (by unfold zE;rw[J7.out,uI.out];rfl);have hz2:w.heap.size+1+1+1<w2.heap.size:=Nat.lt_of_lt_of_le hz1 gM.out.size;obtain⟨r0,r1,r2,r3⟩:=ROW.out w2 gM.out;have rW:=zc 0 r1 (.slice _ n0 c0) rfl;have vG:=zc 1 r1 (.slice _ n1 c1) rfl;have vp:=zc 2 r1 (.slice _ n2 c2) rfl;have yV:=zc 3 r1 (.int .i64 b.next) rfl;clear r0 r1 r2 r3;go_wp2_with fail
   refine(HOWN.out _ (gI.out _ gM.out) J7.out).mono ?_;clear rW vG vp yV;rintro e w3 ⟨B0,k0,B1,k1,B2,k2,rfl,mv,hb3⟩;have gU:=zh mv;clear mv HOWN;have mL:=zt gM hb3;clear hb3;have HLS:=zh (And.intro (show b.Ba.length≤999999 by have:=HFW.out.st;omega) (ju J7.out));obtain⟨_,r1,_,_⟩:=ROW.out w3 mL.out;have f0:=zc 0 r1 (.slice A0 n0 c0) rfl;have f1:=zc 1 r1 (.slice A1 n1 c1) rfl;have f2:=zc 2 r1 (.slice A2 n2 c2) rfl;have f3:=zc 3 r1 (.int .i64 b.next) rfl;have g0:=zf 0 r1;have g1:=zf 1 r1;have g2:=zf 2 r1;have g3:=zf 3 r1;generalize hm0:b.Ba.length=m0 at *;generalize p9:b.things.length=m1 at *;generalize hm2:b.tags.length=m2 at *;have HM0:=zh hm0;clear hm0;have HM1:=zh p9;clear p9;have HM2:=zh hm2;clear hm2;have hb4:=qX (a:=.slice B0 m0 k0) (b:=.slice B1 m1 k1) (c:=.slice B2 m2 k2) (d:=.int .i64 b.next) r1;have H8:=zh hb4.1;have rP:=zh (hb4.2.1 (w.heap.size+1) (by omega));have HAG:=zh hb4.2.2;clear r1 hb4
   go_upto_region 4 with (fail)
   generalize hw4:((((w3.setCell ⟨w.heap.size+1,0,none⟩ (.slice B0 m0 k0)).setCell ⟨w.heap.size+1,1,none⟩ (.slice B1 m1 k1)).setCell ⟨w.heap.size+1,2,none⟩ (.slice B2 m2 k2)).setCell ⟨w.heap.size+1,3,none⟩ (.int .i64 b.next))=w4 at *;have hs4:w3.heap.size=w4.heap.size:=(by rw[←hw4];simp);clear hw4 f0 f1 f2 f3 g0 g1 g2 g3
   have HOB4:Hid (OB (fun g=>if g=w.heap.size+1+1+1 then some (.cells #[.slice none 0 0,.slice none 0 0,.slice none 0 0,.int .i64 0] 28 (0,0)) else none) (w.heap.size+1) (w.heap.size+1) B0 m0 k0 B1 m1 k1 B2 m2 k2 b w4):=zh (gU.out _ (w.heap.size+1) w4 (by omega) (HAG.out.mono (fun q hq _=>by omega)) (by omega) (fun g o hx=>by
    split at hx
    ·next e=>
     injection hx with hx
     subst e hx;exact⟨by omega,by omega,(HAG.out _ (by omega) (by have:=mL.out.size;omega)).trans (ROW.out w3 mL.out).2.2.2⟩
    cases hx) H8.out)
   have hrc:w4.heap[w.heap.size+1+1]?=some (.cells #[.int .i64 r.kind,.int .i64 r.id,.string r.name,.string r.digest,.slice A4 n4 c4,.slice A5 n5 c5] 61 (0,0)):=(HAG.out _ (by omega) (by have:=mL.out.size;omega)).trans (ROW.out w3 mL.out).2.2.1;have HB4w:Hid (Below w.heap.size w w4):=zh ((gI.out _ mL.out).trans (rP.out.mono (by omega)));have y0:=zc 0 hrc (.int .i64 r.kind) rfl;have y1:=zc 1 hrc (.int .i64 r.id) rfl;have y2:=zc 2 hrc (.string r.name) rfl;have y3:=zc 3 hrc (.string r.digest) rfl;have y4:=zc 4 hrc (.slice A4 n4 c4) rfl;have y5:=zc 5 hrc (.slice A5 n5 c5) rfl;have HDO:=zh (Kp (r:=r) HOB4.out (xw J7.out) ⟨HLS.out.1,by have:=HLS.out.2.1;omega,by have:=HLS.out.2.2;omega⟩ ⟨by have:=(zQ J7.out).2.1;omega,by have:=(zQ J7.out).2.1;omega⟩ HST.out (mt.out.all HB4w.out) (rx.out.all HB4w.out) (fun q hq=>by omega) ⟨by have:=(zZ uI.out).2.2.2.1;have:=mt.out.len;omega,by have:=(zZ uI.out).2.2.2.2;have:=rx.out.len;omega⟩ uI.out);clear hrc gU HAG H8 rP;go_wp2_with fail
   refine HDO.out.mono ?_;clear y0 y1 y2 y3 y4 y5 HDO;rintro e w5 hdo;have hO5:=hdo.2.1;have he:=hdo.1;have mB:=zh (HB4w.out.trans (hdo.2.2.mono (by omega)));have hsz5:=hdo.2.2.size;clear hdo
   cases hdr:Co b r with
   |none=>
    rw[hdr] at he;have he2:e=.returned (.int .i64 3):=he;clear he;subst he2;have HE:Hid (zE s b r=(⟨[],[],[],0⟩,3)):=zh (by rw[mK.out,hdr]);clear hdr;obtain⟨D0,d0,e0,D1,d1,e1,D2,d2,e2,hob5⟩:=hO5;obtain⟨_,_,_,_,r4⟩:=hob5.ex (w.heap.size+1+1+1) _ (if_pos rfl);clear hob5;have f0:=zc 0 r4 (.slice none 0 0) rfl;have f1:=zc 1 r4 (.slice none 0 0) rfl;have f2:=zc 2 r4 (.slice none 0 0) rfl;have f3:=zc 3 r4 (.int .i64 0) rfl;have g0:=zf 0 r4;have g1:=zf 1 r4;have g2:=zf 2 r4;have g3:=zf 3 r4;have gp:=qX (a:=.slice none 0 0) (b:=.slice none 0 0) (c:=.slice none 0 0) (d:=.int .i64 0) r4;have gj:=zh (gp.2.1 w.heap.size (by omega));clear r4 gp;go_wp2
    refine bodyPost_ret (v:=.tuple #[.agg #[.slice none 0 0,.slice none 0 0,.slice none 0 0,.int .i64 0],.int .i64 3]) (by simp[results,Tryz.results30,go_sem, *];done) rfl ?_;exact⟨none,0,0,none,0,0,none,0,0,by rw[HE.out],by rw[HE.out];exact⟨Sl.Bz (by omega),Sl.Bz (by omega),Sl.Bz (by omega),(show Bn 0 by unfold Bn;omega)⟩,mB.out.trans gj.out⟩
   |some b'=>
    rw[hdr] at he hO5;have he2:e=.returned (.int .i64 0):=he;clear he;subst he2;have HE:Hid (zE s b r=(b',0)):=zh (by rw[mK.out,hdr]);clear hdr;obtain⟨D0,d0,e0,D1,d1,e1,D2,d2,e2,hob5⟩:=hO5;have r7:=hob5.row;obtain⟨_,_,_,_,r4⟩:=hob5.ex (w.heap.size+1+1+1) _ (if_pos rfl);have HOB5:=zh hob5;clear hob5;have x0:=zc 0 r7 (.slice D0 d0 e0) rfl;have x1:=zc 1 r7 (.slice D1 d1 e1) rfl;have x2:=zc 2 r7 (.slice D2 d2 e2) rfl;have x3:=zc 3 r7 (.int .i64 b'.next) rfl;have f0:=zc 0 r4 (.slice none 0 0) rfl;have f1:=zc 1 r4 (.slice none 0 0) rfl;have f2:=zc 2 r4 (.slice none 0 0) rfl;have f3:=zc 3 r4 (.int .i64 0) rfl;have g0:=zf 0 r4;have g1:=zf 1 r4;have g2:=zf 2 r4;have g3:=zf 3 r4;have gp:=qX (a:=.slice D0 d0 e0) (b:=.slice D1 d1 e1) (c:=.slice D2 d2 e2) (d:=.int .i64 b'.next) r4;have gj:=zh (gp.2.1 w.heap.size (by omega));have HRD:=zh (HOB5.out.Dw r4 gp.2.2 (by simp));clear r4 r7 gp;go_wp2
    refine bodyPost_ret (v:=.tuple #[.agg #[.slice D0 d0 e0,.slice D1 d1 e1,.slice D2 d2 e2,.int .i64 b'.next],.int .i64 0]) (by simp[results,Tryz.results30,go_sem, *];done) rfl ?_;refine⟨D0,d0,e0,D1,d1,e1,D2,d2,e2,by rw[HE.out],?_,mB.out.trans gj.out⟩;rw[HE.out];exact HRD.out.mono (fun q hq _=>by omega)
end Go.Proofs.YtipecejghioicaaGreat
set_option maxHeartbeats 4000000
set_option maxRecDepth 100000
namespace Go.Proofs.YtipecejghioicaaGreat
open Go.RowKit Go.Silo
theorem Zk {w:World}{e:Int}:Calls Tryz.prog 20 #[.int .i64 e] w (Bf (.int .i64 e) w):=by
 go_enter Tryz.func20,Tryz.ntmps20
 go_wp2
 go_ret
 exact⟨rfl,bz⟩
def xL (s:Shape) (b:Book):Int:=if zk s b=true then 0 else 1
theorem jc {tg tg0 tg1 tg2:Bool}{S:Nat→Prop}{w:World}{A0 A1 A2:Option Addr}{n0 c0 n1 c1 n2 c2:Nat}{s:Shape}{b:Book}(hsi:Bn s.K∧Bn s.M∧Bn s.size) (hf:DK b) (h:Bq w S tg tg0 tg1 tg2 A0 n0 c0 A1 n1 c1 A2 n2 c2 b):
  Calls Tryz.prog 33 #[.agg #[.int .i64 s.K,.int .i64 s.M,.int .i64 s.size],.agg #[.slice A0 n0 c0,.slice A1 n1 c1,.slice A2 n2 c2,.int .i64 b.next]] w (Bf (.int .i64 (xL s b)) w):=by
 have HM:=zh (fun W (hW:Below w.heap.size w W)=>EA (w:=W) hsi hf (h.all hW));clear h hf hsi;have hal:Below w.heap.size w ((w.alloc (.cells #[.int .i64 s.K,.int .i64 s.M,.int .i64 s.size] 23)).alloc (.cells #[.slice A0 n0 c0,.slice A1 n1 c1,.slice A2 n2 c2,.int .i64 b.next] 28)):=bz
 have nt:((w.alloc (.cells #[.int .i64 s.K,.int .i64 s.M,.int .i64 s.size] 23)).alloc (.cells #[.slice A0 n0 c0,.slice A1 n1 c1,.slice A2 n2 c2,.int .i64 b.next] 28)).heap[w.heap.size]?=some (.cells #[.int .i64 s.K,.int .i64 s.M,.int .i64 s.size] 23 (0,0)):=by
  rw[Below.heap_alloc _ _ _ (by simp;try omega)];have:=heap_alloc_new w (.cells #[.int .i64 s.K,.int .i64 s.M,.int .i64 s.size] 23);simpa only[World.size_alloc] using this
 have hr1:((w.alloc (.cells #[.int .i64 s.K,.int .i64 s.M,.int .i64 s.size] 23)).alloc (.cells #[.slice A0 n0 c0,.slice A1 n1 c1,.slice A2 n2 c2,.int .i64 b.next] 28)).heap[w.heap.size+1]?=some (.cells #[.slice A0 n0 c0,.slice A1 n1 c1,.slice A2 n2 c2,.int .i64 b.next] 28 (0,0)):=by
  have:=heap_alloc_new (w.alloc (.cells #[.int .i64 s.K,.int .i64 s.M,.int .i64 s.size] 23)) (.cells #[.slice A0 n0 c0,.slice A1 n1 c1,.slice A2 n2 c2,.int .i64 b.next] 28);simpa only[World.size_alloc] using this
 have hz:w.heap.size+1<((w.alloc (.cells #[.int .i64 s.K,.int .i64 s.M,.int .i64 s.size] 23)).alloc (.cells #[.slice A0 n0 c0,.slice A1 n1 c1,.slice A2 n2 c2,.int .i64 b.next] 28)).heap.size:=by simp
 go_enter Tryz.func33,Tryz.ntmps33
 go_upto_region 1 with (fail)
 generalize ((w.alloc (.cells #[.int .i64 s.K,.int .i64 s.M,.int .i64 s.size] 23)).alloc (.cells #[.slice A0 n0 c0,.slice A1 n1 c1,.slice A2 n2 c2,.int .i64 b.next] 28))=W0 at *;have gI:=zh (fun V (hV:Below W0.heap.size W0 V)=>hal.trans (hV.mono hal.size));clear hal;have ROW:=zh (fun V (hV:Below W0.heap.size W0 V)=>(show V.heap[w.heap.size]?=some (.cells #[.int .i64 s.K,.int .i64 s.M,.int .i64 s.size] 23 (0,0))∧V.heap[w.heap.size+1]?=some (.cells #[.slice A0 n0 c0,.slice A1 n1 c1,.slice A2 n2 c2,.int .i64 b.next] 28 (0,0)) from⟨(hV.block _ (by omega)).trans nt,(hV.block _ (by omega)).trans hr1⟩));clear nt hr1;obtain⟨r0,r1⟩:=ROW.out W0 (Below.refl _ _);have nb:=zc 0 r0 (.int .i64 s.K) rfl;have mX:=zc 1 r0 (.int .i64 s.M) rfl;have mY:=zc 2 r0 (.int .i64 s.size) rfl;have rW:=zc 0 r1 (.slice _ n0 c0) rfl;have vG:=zc 1 r1 (.slice _ n1 c1) rfl;have vp:=zc 2 r1 (.slice _ n2 c2) rfl;have yV:=zc 3 r1 (.int .i64 b.next) rfl;clear r0 r1;go_wp2_with fail
 refine(HM.out _ (gI.out _ (Below.refl _ _))).mono ?_;clear nb mX mY rW vG vp yV;rintro e w1 ⟨rfl,hb1⟩;have gV:=zh hb1;clear hb1;obtain⟨q,hq⟩:∃q,q=zk s b:=⟨_,rfl⟩;rw[←hq];have HQ:=zh hq.symm;clear hq
 cases q with
 |true=>
  have HE:Hid (xL s b=0):=zh (by unfold xL;rw[HQ.out];rfl);go_wp2
  go_ret
  exact⟨by rw[HE.out];rfl,gI.out _ gV.out⟩
 |false=>
  have HE:Hid (xL s b=1):=zh (by unfold xL;rw[HQ.out];rfl);go_wp2
  go_ret
  exact⟨by rw[HE.out];rfl,gI.out _ gV.out⟩
end Go.Proofs.YtipecejghioicaaGreat
set_option maxHeartbeats 8000000
set_option maxRecDepth 100000
namespace Go.Silo
open Go Go.RowKit
theorem D6.ever {V W:World}{R:Nat→Value→World→Prop}{s1:Nat}{st1:List (Nat×Value)→World→World}{us:List (Nat×Value)}(h:D6 V R s1 st1 us W) {i:Nat}(hi:i∈us.map Prod.fst) (h1:i≠s1):∃v W0,us.lookup i=some v∧R i v W0:=by
 cases h with
 |pre _ hR _=>obtain⟨v,a,b⟩:=qb hi;exact⟨v,_,a,hR i v b⟩
 |@one gX W0 x _ hR _=>obtain⟨v,a,b⟩:=qb (qR hi h1);exact⟨v,_,by rw[zB h1];exact a,hR i v b⟩
def E8 (g iv k:Nat) (us:List (Nat×Value)) (W:World):World:=Bi g 0 (XH (qG k ((us.lookup iv).getD undef))) W
end Go.Silo
namespace Go.Proofs.YtipecejghioicaaGreat
open Go.RowKit Go.Silo
theorem Dx {w:World}:Calls Tryz.prog 56 #[] w (Bf (.agg #[.int .i64 2,.int .i64 1,.int .i64 4]) w):=by
 go_enter Tryz.func56,Tryz.ntmps56
 go_wp2
 refine bodyPost_ret (v:=.agg #[.int .i64 2,.int .i64 1,.int .i64 4]) (by simp[results,Tryz.results56,go_sem, *];done) rfl ?_;exact⟨rfl,bz⟩
def EJ:Bb:=⟨2,3,⟨#[]⟩,⟨#[]⟩,[5,0],[(⟨0,0⟩:Slot),⟨1,0⟩,⟨2,0⟩]⟩
theorem ZU:zE ⟨2,1,4⟩ ⟨[],[],[],0⟩ EJ=(⟨[⟨3,5,0,[(⟨0,0⟩:Slot),⟨1,0⟩,⟨2,0⟩]⟩],[],[],4⟩,0):=by decide
theorem Cu {w:World}:Calls Tryz.prog 27 #[] w (Bf (.bool true) w):=by
 go_enter Tryz.func27,Tryz.ntmps27
 go_wp2_with fail
 refine Dx.mono ?_;rintro e w1 ⟨rfl,hb1⟩;have gV:=zh hb1;clear hb1;go_wp2_with fail
 have hi:=(Silo.Bo.lit (E:=qD) (w:=w1) (S:=fun q=>True) (T:=3) (base:=0) [.int .i64 5,.int .i64 0] [5,0] 2 (Nat.zero_le _) (by decide) rfl rfl (fun k y hy=>by
  match k,hy with
  |0,hy=>injection hy with hy;subst hy;exact⟨rfl,by unfold Bn;decide⟩
  |1,hy=>injection hy with hy;subst hy;exact⟨rfl,by unfold Bn;decide⟩)).sl (tg:=true)
 have hs:=(Silo.Bo.lit (E:=qp) (w:=(w1.alloc (.cells #[.int .i64 5,.int .i64 0] 3))) (S:=fun q=>True) (T:=88) (base:=0) [.int .i64 0,.int .i64 0,.int .i64 1,.int .i64 0,.int .i64 2,.int .i64 0] [(⟨0,0⟩:Slot),⟨1,0⟩,⟨2,0⟩] 3 (Nat.zero_le _) (by decide) rfl rfl (fun k y hy=>by
  match k,hy with
  |0,hy=>injection hy with hy;subst hy;exact⟨rfl,by unfold Bn;decide,by unfold Bn;decide⟩
  |1,hy=>injection hy with hy;subst hy;exact⟨rfl,by unfold Bn;decide,by unfold Bn;decide⟩
  |2,hy=>injection hy with hy;subst hy;exact⟨rfl,by unfold Bn;decide,by unfold Bn;decide⟩)).sl (tg:=true)
 have hi2:=hi.all (w':=((w1.alloc (.cells #[.int .i64 5,.int .i64 0] 3)).alloc (.cells #[.int .i64 0,.int .i64 0,.int .i64 1,.int .i64 0,.int .i64 2,.int .i64 0] 88))) ((Below.refl _ _).alloc (Nat.le_refl _) _);have rH:Below w1.heap.size w1 ((w1.alloc (.cells #[.int .i64 5,.int .i64 0] 3)).alloc (.cells #[.int .i64 0,.int .i64 0,.int .i64 1,.int .i64 0,.int .i64 2,.int .i64 0] 88)):=bz;rw[World.size_alloc] at hs;generalize ((w1.alloc (.cells #[.int .i64 5,.int .i64 0] 3)).alloc (.cells #[.int .i64 0,.int .i64 0,.int .i64 1,.int .i64 0,.int .i64 2,.int .i64 0] 88))=w2 at *;have gM:=zt gV rH;clear rH hi;have hcl:=jD (w:=w2) (tg:=true) (tg0:=true) (tg1:=true) (tg2:=true) (S:=fun _=>False) (A0:=none) (n0:=0) (c0:=0) (A1:=none) (n1:=0) (c1:=0) (A2:=none) (n2:=0) (c2:=0) (s:=⟨2,1,4⟩) (b:=⟨[],[],[],0⟩) (r:=EJ) ⟨by unfold Bn;decide,by unfold Bn;decide,by unfold Bn;decide⟩ ⟨by decide,by decide,by decide⟩ ⟨Sl.Bz (by decide),Sl.Bz (by decide),Sl.Bz (by decide),by unfold Bn;decide⟩ ⟨QP,QP⟩ (hi2.mono (S':=fun _=>True) (fun _ _ _=>trivial)) (hs.mono (S':=fun _=>True) (fun _ _ _=>trivial));rw[ZU] at hcl;refine hcl.mono ?_;clear hcl hi2 hs;rintro e w3 ⟨D0,m0',d0,D1,m1,d1,D2,m2,d2,rfl,hbr,hb3⟩;have hlen:m0'=1:=hbr.st.len.symm;subst hlen;have mL:=zt gM hb3;clear hb3 hbr
 go_upto_region 2 with (fail)
 have hx:=heap_alloc_new w3 (.cells #[.slice D0 1 d0,.slice D1 m1 d1,.slice D2 m2 d2,.int .i64 4] 28);have hal:Below w3.heap.size w3 (w3.alloc (.cells #[.slice D0 1 d0,.slice D1 m1 d1,.slice D2 m2 d2,.int .i64 4] 28)):=bz;have hlt:w3.heap.size<(w3.alloc (.cells #[.slice D0 1 d0,.slice D1 m1 d1,.slice D2 m2 d2,.int .i64 4] 28)).heap.size:=by simp
 generalize (w3.alloc (.cells #[.slice D0 1 d0,.slice D1 m1 d1,.slice D2 m2 d2,.int .i64 4] 28))=w4 at *;have HX:=zh hx;clear hx;have ma:Hid (Below w.heap.size w w4):=zt mL hal;clear hal;generalize w3.heap.size=g at *;go_wp2_with fail
 refine(Zk (e:=0)).mono ?_;rintro e w5 ⟨rfl,gG⟩;have hx:=(gG.block g hlt).trans HX.out;have x0:=zc 0 hx (.slice D0 1 d0) rfl;have x3:=zc 3 hx (.int .i64 4) rfl;have mB:=zt ma gG;clear gG hx;go_wp2
 go_ret
 exact⟨by rfl,mB.out⟩
end Go.Proofs.YtipecejghioicaaGreat
namespace Go.Proofs.YtipecejghioicaaGreat
open Go.RowKit Go.Silo
theorem Qt {tg tg0 tg1 tg2 tg4:Bool}{S S4:Nat→Prop}{w:World}{A0 A1 A2 A4 A5:Option Addr}{n0 c0 n1 c1 n2 c2 n4 c4 n5 c5:Nat}{b:Book}{r:Bb}(hb:Bq w S tg tg0 tg1 tg2 A0 n0 c0 A1 n1 c1 A2 n2 c2 b) (hn:n0≤999990∧n1≤999990∧n2≤999990) (hp:∀y∈b.Ba,y.place.length≤100000000) (hq:∀y∈b.things,y.list.length≤100000000) (mW:Sorted b) (hnx:-1≤b.next∧b.next≤1073741825) (hst:qN r.name∧qN r.digest) (hl:Sl tg4 3 qD w S4 A4 n4 c4 r.list) (hsl:Sl tg4 88 qp w S4 A5 n5 c5 r.slots) (hok:qy r=true):
  Calls Tryz.prog 32 #[.agg #[.slice A0 n0 c0,.slice A1 n1 c1,.slice A2 n2 c2,.int .i64 b.next],.agg #[.int .i64 r.kind,.int .i64 r.id,.string r.name,.string r.digest,.slice A4 n4 c4,.slice A5 n5 c5]] w (jb (qq b r) w):=by
 obtain⟨⟨k1,k2⟩,hid,h2,h3,h4⟩:=zZ hok;have nE:n4≤100000000∧n5≤100000000:=⟨by have:=hl.len;omega,by have:=hsl.len;omega⟩;clear hok h3 h4;obtain⟨k,id,nm,dg,li,sl⟩:=r;simp only at hst hl hsl k1 k2 hid h2⊢;rcases (by omega:k=1∨k=2∨k=3∨k=4∨k=5∨k=6∨k=7∨k=8) with h|h|h|h|h|h|h|h<;>subst h
 ·exact ZK hb hn hp hq mW hnx hid hst hl hsl nE
 ·exact ZM hb hn hp hq mW hnx hid hst hl hsl nE (h2 rfl)
 ·exact ZL hb hn hp hq mW hnx hid hst hl hsl nE
 ·exact ZN hb hn hp hq mW hnx hid hst hl hsl nE
 ·exact ZO hb hn hp hq mW hnx hid hst hl hsl nE
 ·exact ZP hb hn hp hq mW hnx hid hst hl hsl nE
 ·exact ZQ hb hn hp hq mW hnx hid hst hl hsl nE
 exact ZR hb hn hp hq mW hnx hid hst hl hsl nE
def RBk (ic ib:Nat) (R9:Book×Int) (V:World) (i:Nat) (v:Value) (W:World):Prop:=
 (i=ic→∃D0 d0 e0 D1 d1 e1 D2 d2 e2,v=.tuple #[.agg #[.slice D0 d0 e0,.slice D1 d1 e1,.slice D2 d2 e2,.int .i64 R9.1.next],.int .i64 R9.2]∧Bq W (fun q=>V.heap.size≤q) true true true true D0 d0 e0 D1 d1 e1 D2 d2 e2 R9.1)∧
 (i=ib→∃g,v=.pointer (some ⟨g,0,none⟩)∧V.heap.size≤g∧W.heap[g]?=some (.cells #[.slice none 0 0,.slice none 0 0,.slice none 0 0,.int .i64 0] 28 (0,0)))
theorem RBk.all {ic ib:Nat}{R9:Book×Int}{V W W':World}(hb:Below W.heap.size W W') (j:Nat) (v:Value) (h:RBk ic ib R9 V j v W):RBk ic ib R9 V j v W':=
 ⟨fun hj=>by obtain⟨D0,d0,e0,D1,d1,e1,D2,d2,e2,e,t⟩:=h.1 hj;exact⟨D0,d0,e0,D1,d1,e1,D2,d2,e2,e,t.all hb⟩,fun hj=>by obtain⟨g,a,b,c⟩:=h.2 hj;exact⟨g,a,b,zb hb c⟩⟩
theorem Bq.Ca {W V:World}{S:Nat→Prop}{D0:Option Addr}{d0 e0:Nat}{D1:Option Addr}{d1 e1:Nat}{D2:Option Addr}{d2 e2 g:Nat}{b:Book}{cur:Array Value}{T:TypeId}{fr:Nat×Nat}(h:Bq W S true true true true D0 d0 e0 D1 d1 e1 D2 d2 e2 b) (hT:T=28∨T=61) (hg:W.heap[g]?=some (.cells cur T fr)) (hA:Agree (fun q=>q≠g) W V) (hs:W.heap.size≤V.heap.size):
  Bq V S true true true true D0 d0 e0 D1 d1 e1 D2 d2 e2 b:=by
 have ha:∀q,S q→q<W.heap.size→(∀k,W.shape? q≠some (T,k))→V.heap[q]?=W.heap[q]?:=fun q _ hq hk=>hA q (fun e=>by
  subst e
  exact hk _ (qw hg)) hq
 have n1:86≠T:=by rcases hT with h|h<;>rw[h]<;>decide
 have n2:90≠T:=by rcases hT with h|h<;>rw[h]<;>decide
 have n3:94≠T:=by rcases hT with h|h<;>rw[h]<;>decide
 have n4:88≠T:=by rcases hT with h|h<;>rw[h]<;>decide
 have n5:3≠T:=by rcases hT with h|h<;>rw[h]<;>decide
 exact⟨h.st.Ca (jJ n4) n1 ha hs,h.th.Ca (kg n5) n2 ha hs,h.ta.Ca BS.flat n3 ha hs,h.nx⟩
end Go.Proofs.YtipecejghioicaaGreat
