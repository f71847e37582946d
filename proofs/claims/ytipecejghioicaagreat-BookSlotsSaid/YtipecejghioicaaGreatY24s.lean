/- Book.Apply: the book behind a record. -/
import Derived.Test.YtipecejghioicaaGreatY18s
import Derived.Test.YtipecejghioicaaGreatY8s
import Derived.Test.YtipecejghioicaaGreatQ10s
import Derived.Test.YtipecejghioicaaGreatR2s
import Derived.Deep.CutRange
import Derived.Deep.Light
import Derived.Test.YtipecejghioicaaGreatP0s
import Derived.Test.YtipecejghioicaaGreatS1s
import Derived.Test.YtipecejghioicaaGreatN2s
import Derived.Test.YtipecejghioicaaGreatY23s
namespace Go.Proofs.YtipecejghioicaaGreat
open Go.RowKit Go.Silo
theorem Qh {α:Type} [Inhabited α] {R:α→α→Prop}(htr:∀a b c,R a b→R b c→R a c) {l:List α}(h:∀k,0<k→k<l.length→R (l.getD (k - 1) default) (l.getD k default)):l.Pairwise R:=by
 refine Bp.2 (fun i j hij hj=>?_)
 induction j with
 |zero=>omega
 |succ j ih=>
  rcases Nat.lt_or_ge i j with h1|h1
  ·exact htr _ _ _ (ih h1 (by omega)) (by have:=h (j+1) (by omega) hj;simpa using this)
  obtain rfl:i=j:=by omega
  have:=h (i+1) (by omega) hj;simpa using this
theorem jy {s:Shape}{b:Book}(h:qI s b=true):qo s=true∧(0≤b.next∧b.next≤1073741824)∧qw s b.next b.Ba=true∧(∀k,k<b.things.length→qy s b.Ba b.things k=true)∧(∀k,k<b.tags.length→Bv b.tags k=true):=by
 unfold qI at h;simp only[Bool.and_eq_true,decide_eq_true_eq] at h;obtain⟨h0,hn,hst,hth,uX⟩:=h;refine⟨h0,hn,hst,fun k hk=>?_,fun k hk=>?_⟩
 ·unfold qP at hth;simp only[Bool.and_eq_true] at hth;exact List.all_eq_true.1 hth.1 k (List.mem_range.2 hk)
 unfold zL at uX;simp only[Bool.and_eq_true] at uX;exact List.all_eq_true.1 uX.1 k (List.mem_range.2 hk)
end Go.Proofs.YtipecejghioicaaGreat
namespace Go.Proofs.YtipecejghioicaaGreat
open Go.RowKit Go.Silo
theorem DF.places {b:Book}(h:DF b):∀y∈b.Ba,y.place.length≤100000000:=fun y hy=>by
 have h1:=h.sl;unfold qd at h1;rw[List.take_length] at h1;obtain⟨s,t,e⟩:=List.append_of_mem hy;rw[e,List.flatMap_append,List.flatMap_cons,List.length_append,List.length_append] at h1;omega
theorem DF.lists {b:Book}(h:DF b):∀y∈b.things,y.list.length≤100000000:=fun y hy=>by
 have h1:=h.nm;unfold qb at h1;rw[List.take_length] at h1;obtain⟨s,t,e⟩:=List.append_of_mem hy;rw[e,List.flatMap_append,List.flatMap_cons,List.length_append,List.length_append] at h1;omega
end Go.Proofs.YtipecejghioicaaGreat
set_option maxHeartbeats 16000000
set_option maxRecDepth 100000
namespace Go.Proofs.YtipecejghioicaaGreat
open Go.RowKit Go.Silo
theorem Qv {s:Shape}{b:Book}(h:qI s b=true):Sorted b:=by
 obtain⟨_,_,hst,hth,uX⟩:=jy h;refine⟨xB hst,?_,?_⟩
 ·exact Bp.1 (Qh (R:=fun(x y:Entry)=>qr x.digest y.digest=true) (fun _ _ _ h1 h2=>ze h1 h2) (fun k h0 hk=>by
   have:=hth k hk;unfold qy at this;simp only[Bool.and_eq_true,Bool.or_eq_true,decide_eq_true_eq] at this;rcases this.2.1 with h|h
   ·omega
   exact h))
 exact Bp.1 (Qh (R:=fun(x y:Tag)=>qr x.name y.name=true) (fun _ _ _ h1 h2=>ze h1 h2) (fun k h0 hk=>by
  have:=uX k hk;unfold Bv at this;simp only[Bool.and_eq_true,Bool.or_eq_true,decide_eq_true_eq] at this;rcases this.2 with h|h
  ·omega
  exact h))
theorem jd {s:Shape}{b:Book}(h:qI s b=true):b.things.length≤60∧b.tags.length≤40:=by
 unfold qI at h;simp only[Bool.and_eq_true,decide_eq_true_eq] at h;obtain⟨_,_,_,hth,uX⟩:=h;unfold qP at hth;unfold zL at uX;simp only[Bool.and_eq_true,decide_eq_true_eq] at hth uX;exact⟨hth.2.2,uX.2⟩
def xF (s:Shape) (b:Book) (r:Bt):Book×Int:=
 if (qI s b&&qK r)=true then (match CL b r with|none=>(⟨[],[],[],0⟩,3)|some b'=>(b',0)) else (⟨[],[],[],0⟩,1)
theorem Qw {T:TypeId}(h:88≠T):(qe true).BB T:=by
 rintro w w' S vs x ha hs ⟨A,n,c,rfl,hok,hsl⟩;exact⟨A,n,c,rfl,hok,hsl.Ch BB.flat h ha hs⟩
theorem Zg {T:TypeId}(h:3≠T):(ql true).BB T:=by
 rintro w w' S vs x ha hs ⟨A,n,c,rfl,hok,hsl⟩;exact⟨A,n,c,rfl,hok,hsl.Ch BB.flat h ha hs⟩
theorem OB.Du {X:Nat→Option Obj}{β bb g:Nat}{A0:Option Addr}{n0 c0:Nat}{A1:Option Addr}{n1 c1:Nat}{A2:Option Addr}{n2 c2:Nat}{b:Book}{W V:World}{cur:Array Value}{fr:Nat×Nat}(h:OB X β bb A0 n0 c0 A1 n1 c1 A2 n2 c2 b W) (hg:W.heap[g]?=some (.cells cur 28 fr)) (hA:Agree (fun q=>q≠g) W V) (hs:W.heap.size≤V.heap.size):
  BG V (fun q=>β≤q) true true true true A0 n0 c0 A1 n1 c1 A2 n2 c2 b:=by
 have ha:∀(S:Nat→Prop) q,S q→q<W.heap.size→(∀k,W.shape? q≠some (28,k))→V.heap[q]?=W.heap[q]?:=fun S q _ hq hk=>hA q (fun e=>by
  subst e
  exact hk _ (qf hg)) hq
 have hlo:=h.lo
 have hup:∀q,(NS bb A0 A1 A2 q∨β≤q)→β≤q:=fun q hq=>by
  rcases hq with hq|hq
  ·have:=hq.1;omega
  exact hq
 exact⟨((h.st.sl (tg:=true)).mono (S':=fun q=>β≤q) (fun q hq _=>hup q hq)).Ch (Qw (by decide)) (by decide) (ha _) hs,((h.th.sl (tg:=true)).mono (S':=fun q=>β≤q) (fun q hq _=>hup q hq)).Ch (Zg (by decide)) (by decide) (ha _) hs,((h.ta.sl (tg:=true)).mono (S':=fun q=>β≤q) (fun q hq _=>hup q hq)).Ch BB.flat (by decide) (ha _) hs,h.nx⟩
theorem Kj {tg tg0 tg1 tg2 tg4:Bool}{S S4:Nat→Prop}{w:World}{A0 A1 A2 A4 A5:Option Addr}{n0 c0 n1 c1 n2 c2 n4 c4 n5 c5:Nat}{s:Shape}{b:Book}{r:Bt}(hsi:Bo s.K∧Bo s.M∧Bo s.size) (hf:DF b) (h:BG w S tg tg0 tg1 tg2 A0 n0 c0 A1 n1 c1 A2 n2 c2 b)
  (hst:zd r.name∧zd r.digest) (hl:Sl tg4 3 Bd w S4 A4 n4 c4 r.list) (hsl:Sl tg4 88 qz w S4 A5 n5 c5 r.slots):
  Calls Tryz.prog 30 #[.agg #[.int .i64 s.K,.int .i64 s.M,.int .i64 s.size],.agg #[.slice A0 n0 c0,.slice A1 n1 c1,.slice A2 n2 c2,.int .i64 b.next],.agg #[.int .i64 r.kind,.int .i64 r.id,.string r.name,.string r.digest,.slice A4 n4 c4,.slice A5 n5 c5]] w (RetOf (xF s b r) w):=by
 have HM:=zh (fun W (hW:Below w.heap.size w W)=>JH (w:=W) hsi hf (h.all hW));have HRM:=zh (fun W (hW:Below w.heap.size w W)=>JS (w:=W) (r:=r) (hl.all hW) (hsl.all hW));have HOWN:=zh (fun W (hW:Below w.heap.size w W) (hq:qI s b=true)=>Jh (w:=W) (h.all hW) ⟨by have:=h.st.len;have:=hf.st;omega,by have:=h.th.len;have:=(jd hq).1;omega,by have:=h.ta.len;have:=(jd hq).2;omega⟩ hf.places hf.lists);have HL4:=zh ((hl.Bi.mono (S':=fun q=>q<w.heap.size) (fun _ h _=>h.2)));have HS5:=zh ((hsl.Bi.mono (S':=fun q=>q<w.heap.size) (fun _ h _=>h.2)));have HST:=zh hst;have HFW:=zh hf;clear h hf hsi hst hl hsl;have hal:Below w.heap.size w ((((w.alloc (.cells #[.int .i64 s.K,.int .i64 s.M,.int .i64 s.size] 23)).alloc (.cells #[.slice A0 n0 c0,.slice A1 n1 c1,.slice A2 n2 c2,.int .i64 b.next] 28)).alloc (.cells #[.int .i64 r.kind,.int .i64 r.id,.string r.name,.string r.digest,.slice A4 n4 c4,.slice A5 n5 c5] 61)).alloc (.cells #[.slice none 0 0,.slice none 0 0,.slice none 0 0,.int .i64 0] 28)):=bz
 have mV:((((w.alloc (.cells #[.int .i64 s.K,.int .i64 s.M,.int .i64 s.size] 23)).alloc (.cells #[.slice A0 n0 c0,.slice A1 n1 c1,.slice A2 n2 c2,.int .i64 b.next] 28)).alloc (.cells #[.int .i64 r.kind,.int .i64 r.id,.string r.name,.string r.digest,.slice A4 n4 c4,.slice A5 n5 c5] 61)).alloc (.cells #[.slice none 0 0,.slice none 0 0,.slice none 0 0,.int .i64 0] 28)).heap[w.heap.size]?=some (.cells #[.int .i64 s.K,.int .i64 s.M,.int .i64 s.size] 23 (0,0)):=by
  rw[Below.heap_alloc _ _ _ (by simp;try omega),Below.heap_alloc _ _ _ (by simp;try omega),Below.heap_alloc _ _ _ (by simp;try omega)];have:=heap_alloc_new w (.cells #[.int .i64 s.K,.int .i64 s.M,.int .i64 s.size] 23);simpa only[World.size_alloc] using this
 have hr1:((((w.alloc (.cells #[.int .i64 s.K,.int .i64 s.M,.int .i64 s.size] 23)).alloc (.cells #[.slice A0 n0 c0,.slice A1 n1 c1,.slice A2 n2 c2,.int .i64 b.next] 28)).alloc (.cells #[.int .i64 r.kind,.int .i64 r.id,.string r.name,.string r.digest,.slice A4 n4 c4,.slice A5 n5 c5] 61)).alloc (.cells #[.slice none 0 0,.slice none 0 0,.slice none 0 0,.int .i64 0] 28)).heap[w.heap.size+1]?=some (.cells #[.slice A0 n0 c0,.slice A1 n1 c1,.slice A2 n2 c2,.int .i64 b.next] 28 (0,0)):=by
  rw[Below.heap_alloc _ _ _ (by simp;try omega),Below.heap_alloc _ _ _ (by simp;try omega)];have:=heap_alloc_new (w.alloc (.cells #[.int .i64 s.K,.int .i64 s.M,.int .i64 s.size] 23)) (.cells #[.slice A0 n0 c0,.slice A1 n1 c1,.slice A2 n2 c2,.int .i64 b.next] 28);simpa only[World.size_alloc] using this
 have hr2:((((w.alloc (.cells #[.int .i64 s.K,.int .i64 s.M,.int .i64 s.size] 23)).alloc (.cells #[.slice A0 n0 c0,.slice A1 n1 c1,.slice A2 n2 c2,.int .i64 b.next] 28)).alloc (.cells #[.int .i64 r.kind,.int .i64 r.id,.string r.name,.string r.digest,.slice A4 n4 c4,.slice A5 n5 c5] 61)).alloc (.cells #[.slice none 0 0,.slice none 0 0,.slice none 0 0,.int .i64 0] 28)).heap[w.heap.size+1+1]?=some (.cells #[.int .i64 r.kind,.int .i64 r.id,.string r.name,.string r.digest,.slice A4 n4 c4,.slice A5 n5 c5] 61 (0,0)):=by
  rw[Below.heap_alloc _ _ _ (by simp;try omega)];have:=heap_alloc_new ((w.alloc (.cells #[.int .i64 s.K,.int .i64 s.M,.int .i64 s.size] 23)).alloc (.cells #[.slice A0 n0 c0,.slice A1 n1 c1,.slice A2 n2 c2,.int .i64 b.next] 28)) (.cells #[.int .i64 r.kind,.int .i64 r.id,.string r.name,.string r.digest,.slice A4 n4 c4,.slice A5 n5 c5] 61);simpa only[World.size_alloc] using this
 have hr3:((((w.alloc (.cells #[.int .i64 s.K,.int .i64 s.M,.int .i64 s.size] 23)).alloc (.cells #[.slice A0 n0 c0,.slice A1 n1 c1,.slice A2 n2 c2,.int .i64 b.next] 28)).alloc (.cells #[.int .i64 r.kind,.int .i64 r.id,.string r.name,.string r.digest,.slice A4 n4 c4,.slice A5 n5 c5] 61)).alloc (.cells #[.slice none 0 0,.slice none 0 0,.slice none 0 0,.int .i64 0] 28)).heap[w.heap.size+1+1+1]?=some (.cells #[.slice none 0 0,.slice none 0 0,.slice none 0 0,.int .i64 0] 28 (0,0)):=by
  have:=heap_alloc_new (((w.alloc (.cells #[.int .i64 s.K,.int .i64 s.M,.int .i64 s.size] 23)).alloc (.cells #[.slice A0 n0 c0,.slice A1 n1 c1,.slice A2 n2 c2,.int .i64 b.next] 28)).alloc (.cells #[.int .i64 r.kind,.int .i64 r.id,.string r.name,.string r.digest,.slice A4 n4 c4,.slice A5 n5 c5] 61)) (.cells #[.slice none 0 0,.slice none 0 0,.slice none 0 0,.int .i64 0] 28);simpa only[World.size_alloc] using this
 have hz:w.heap.size+1+1+1<((((w.alloc (.cells #[.int .i64 s.K,.int .i64 s.M,.int .i64 s.size] 23)).alloc (.cells #[.slice A0 n0 c0,.slice A1 n1 c1,.slice A2 n2 c2,.int .i64 b.next] 28)).alloc (.cells #[.int .i64 r.kind,.int .i64 r.id,.string r.name,.string r.digest,.slice A4 n4 c4,.slice A5 n5 c5] 61)).alloc (.cells #[.slice none 0 0,.slice none 0 0,.slice none 0 0,.int .i64 0] 28)).heap.size:=by simp
 go_enter Tryz.func30,Tryz.ntmps30
 go_upto_region 1 with (fail)
 generalize ((((w.alloc (.cells #[.int .i64 s.K,.int .i64 s.M,.int .i64 s.size] 23)).alloc (.cells #[.slice A0 n0 c0,.slice A1 n1 c1,.slice A2 n2 c2,.int .i64 b.next] 28)).alloc (.cells #[.int .i64 r.kind,.int .i64 r.id,.string r.name,.string r.digest,.slice A4 n4 c4,.slice A5 n5 c5] 61)).alloc (.cells #[.slice none 0 0,.slice none 0 0,.slice none 0 0,.int .i64 0] 28))=W0 at *;have gm:=zh (fun V (hV:Below W0.heap.size W0 V)=>hal.trans (hV.mono hal.size));clear hal;have ROW:=zh (fun V (hV:Below W0.heap.size W0 V)=>(show V.heap[w.heap.size]?=some (.cells #[.int .i64 s.K,.int .i64 s.M,.int .i64 s.size] 23 (0,0))∧V.heap[w.heap.size+1]?=some (.cells #[.slice A0 n0 c0,.slice A1 n1 c1,.slice A2 n2 c2,.int .i64 b.next] 28 (0,0))∧V.heap[w.heap.size+1+1]?=some (.cells #[.int .i64 r.kind,.int .i64 r.id,.string r.name,.string r.digest,.slice A4 n4 c4,.slice A5 n5 c5] 61 (0,0))∧V.heap[w.heap.size+1+1+1]?=some (.cells #[.slice none 0 0,.slice none 0 0,.slice none 0 0,.int .i64 0] 28 (0,0)) from⟨(hV.block _ (by omega)).trans mV,(hV.block _ (by omega)).trans hr1,(hV.block _ (by omega)).trans hr2,(hV.block _ (by omega)).trans hr3⟩));clear mV hr1 hr2 hr3;have hz1:w.heap.size+1+1+1<W0.heap.size:=by omega
 obtain⟨r0,r1,r2,r3⟩:=ROW.out W0 (Below.refl _ _);have nz:=zc 0 r0 (.int .i64 s.K) rfl;have nr:=zc 1 r0 (.int .i64 s.M) rfl;have nt:=zc 2 r0 (.int .i64 s.size) rfl;have ng:=zc 0 r1 (.slice _ n0 c0) rfl;have pp:=zc 1 r1 (.slice _ n1 c1) rfl;have p9:=zc 2 r1 (.slice _ n2 c2) rfl;have pY:=zc 3 r1 (.int .i64 b.next) rfl;clear r0 r1 r2 r3;go_wp2_with fail
 refine(HM.out _ (gm.out _ (Below.refl _ _))).mono ?_;clear nz nr nt ng pp p9 pY;rintro e w1 ⟨rfl,hb1⟩;have gB:=zh hb1;clear hb1 HM;obtain⟨bk,hbk⟩:∃bk,bk=qI s b:=⟨_,rfl⟩;rw[←hbk];have z8:=zh hbk.symm;clear hbk
 cases bk with
 |false=>
  have HE:Hid (xF s b r=(⟨[],[],[],0⟩,1)):=zh (by unfold xF;rw[z8.out];rfl);obtain⟨_,_,_,r4⟩:=ROW.out w1 gB.out;have f0:=zc 0 r4 (.slice none 0 0) rfl;have f1:=zc 1 r4 (.slice none 0 0) rfl;have f2:=zc 2 r4 (.slice none 0 0) rfl;have f3:=zc 3 r4 (.int .i64 0) rfl;have g0:=zf 0 r4;have g1:=zf 1 r4;have g2:=zf 2 r4;have g3:=zf 3 r4;have hb4:=Jg (a:=.slice none 0 0) (b:=.slice none 0 0) (c:=.slice none 0 0) (d:=.int .i64 0) r4;have mJ:=zh (hb4.2.1 w.heap.size (by omega));have HUP:=zh (gm.out _ gB.out);clear r4 hb4;go_wp2
  refine bodyPost_ret (v:=.tuple #[.agg #[.slice none 0 0,.slice none 0 0,.slice none 0 0,.int .i64 0],.int .i64 1]) (by simp[results,Tryz.results30,go_sem, *];done) rfl ?_;exact⟨none,0,0,none,0,0,none,0,0,by rw[HE.out],by rw[HE.out];exact⟨Sl.BA (by omega),Sl.BA (by omega),Sl.BA (by omega),(show Bo 0 by unfold Bo;omega)⟩,HUP.out.trans mJ.out⟩
 |true=>
  obtain⟨r0,r1,r2,r3⟩:=ROW.out w1 gB.out;have b20:=zc 0 r2 (.int .i64 r.kind) rfl;have b21:=zc 1 r2 (.int .i64 r.id) rfl;have b22:=zc 2 r2 (.string r.name) rfl;have b23:=zc 3 r2 (.string r.digest) rfl;have b24:=zc 4 r2 (.slice _ n4 c4) rfl;have b25:=zc 5 r2 (.slice _ n5 c5) rfl;clear r0 r1 r2 r3;go_wp2_with fail
  refine(HRM.out _ (gm.out _ gB.out)).mono ?_;clear b20 b21 b22 b23 b24 b25;rintro e w2 ⟨rfl,hb2⟩;have gu:=zt gB hb2;clear hb2 HRM;obtain⟨rk,hrk⟩:∃rk,rk=qK r:=⟨_,rfl⟩;rw[←hrk];have yt:=zh hrk.symm;clear hrk
  cases rk with
  |false=>
   have HE:Hid (xF s b r=(⟨[],[],[],0⟩,1)):=zh (by unfold xF;rw[z8.out,yt.out];rfl);obtain⟨_,_,_,r4⟩:=ROW.out w2 gu.out;have f0:=zc 0 r4 (.slice none 0 0) rfl;have f1:=zc 1 r4 (.slice none 0 0) rfl;have f2:=zc 2 r4 (.slice none 0 0) rfl;have f3:=zc 3 r4 (.int .i64 0) rfl;have g0:=zf 0 r4;have g1:=zf 1 r4;have g2:=zf 2 r4;have g3:=zf 3 r4;have hb4:=Jg (a:=.slice none 0 0) (b:=.slice none 0 0) (c:=.slice none 0 0) (d:=.int .i64 0) r4;have mJ:=zh (hb4.2.1 w.heap.size (by omega));have HUP:=zh (gm.out _ gu.out);clear r4 hb4;go_wp2
   refine bodyPost_ret (v:=.tuple #[.agg #[.slice none 0 0,.slice none 0 0,.slice none 0 0,.int .i64 0],.int .i64 1]) (by simp[results,Tryz.results30,go_sem, *];done) rfl ?_;exact⟨none,0,0,none,0,0,none,0,0,by rw[HE.out],by rw[HE.out];exact⟨Sl.BA (by omega),Sl.BA (by omega),Sl.BA (by omega),(show Bo 0 by unfold Bo;omega)⟩,HUP.out.trans mJ.out⟩
  |true=>
   have HAP:Hid (xF s b r=(match CL b r with|none=>(⟨[],[],[],0⟩,3)|some b'=>(b',0))):=zh (by unfold xF;rw[z8.out,yt.out];rfl);have hz2:w.heap.size+1+1+1<w2.heap.size:=Nat.lt_of_lt_of_le hz1 gu.out.size;obtain⟨r0,r1,r2,r3⟩:=ROW.out w2 gu.out;have ng:=zc 0 r1 (.slice _ n0 c0) rfl;have pp:=zc 1 r1 (.slice _ n1 c1) rfl;have p9:=zc 2 r1 (.slice _ n2 c2) rfl;have pY:=zc 3 r1 (.int .i64 b.next) rfl;clear r0 r1 r2 r3;go_wp2_with fail
   refine(HOWN.out _ (gm.out _ gu.out) z8.out).mono ?_;clear ng pp p9 pY;rintro e w3 ⟨B0,k0,B1,k1,B2,k2,rfl,gw,hb3⟩;have gi:=zh gw;clear gw HOWN;have gG:=zt gu hb3;clear hb3;have HLS:=zh (And.intro (show b.Ba.length≤999999 by have:=HFW.out.st;omega) (jd z8.out));obtain⟨_,r1,_,_⟩:=ROW.out w3 gG.out;have f0:=zc 0 r1 (.slice A0 n0 c0) rfl;have f1:=zc 1 r1 (.slice A1 n1 c1) rfl;have f2:=zc 2 r1 (.slice A2 n2 c2) rfl;have f3:=zc 3 r1 (.int .i64 b.next) rfl;have g0:=zf 0 r1;have g1:=zf 1 r1;have g2:=zf 2 r1;have g3:=zf 3 r1;generalize hm0:b.Ba.length=m0 at *;generalize pX:b.things.length=m1 at *;generalize hm2:b.tags.length=m2 at *;have HM0:=zh hm0;clear hm0;have HM1:=zh pX;clear pX;have HM2:=zh hm2;clear hm2;have hb4:=Jg (a:=.slice B0 m0 k0) (b:=.slice B1 m1 k1) (c:=.slice B2 m2 k2) (d:=.int .i64 b.next) r1;have yc:=zh hb4.1;have HBE:=zh (hb4.2.1 (w.heap.size+1) (by omega));have HAG:=zh hb4.2.2;clear r1 hb4
   go_upto_region 4 with (fail)
   generalize hw4:((((w3.setCell ⟨w.heap.size+1,0,none⟩ (.slice B0 m0 k0)).setCell ⟨w.heap.size+1,1,none⟩ (.slice B1 m1 k1)).setCell ⟨w.heap.size+1,2,none⟩ (.slice B2 m2 k2)).setCell ⟨w.heap.size+1,3,none⟩ (.int .i64 b.next))=w4 at *;have hs4:w3.heap.size=w4.heap.size:=(by rw[←hw4];simp);clear hw4 f0 f1 f2 f3 g0 g1 g2 g3
   have HOB4:Hid (OB (fun g=>if g=w.heap.size+1+1+1 then some (.cells #[.slice none 0 0,.slice none 0 0,.slice none 0 0,.int .i64 0] 28 (0,0)) else none) (w.heap.size+1) (w.heap.size+1) B0 m0 k0 B1 m1 k1 B2 m2 k2 b w4):=zh (gi.out _ (w.heap.size+1) w4 (by omega) (HAG.out.mono (fun q hq _=>by omega)) (by omega) (fun g o hx=>by
    split at hx
    ·next e=>
     injection hx with hx
     subst e hx;exact⟨by omega,by omega,(HAG.out _ (by omega) (by have:=gG.out.size;omega)).trans (ROW.out w3 gG.out).2.2.2⟩
    cases hx) yc.out)
   have hrc:w4.heap[w.heap.size+1+1]?=some (.cells #[.int .i64 r.kind,.int .i64 r.id,.string r.name,.string r.digest,.slice A4 n4 c4,.slice A5 n5 c5] 61 (0,0)):=(HAG.out _ (by omega) (by have:=gG.out.size;omega)).trans (ROW.out w3 gG.out).2.2.1;have HB4w:Hid (Below w.heap.size w w4):=zh ((gm.out _ gG.out).trans (HBE.out.mono (by omega)));have y0:=zc 0 hrc (.int .i64 r.kind) rfl;have y1:=zc 1 hrc (.int .i64 r.id) rfl;have y2:=zc 2 hrc (.string r.name) rfl;have y3:=zc 3 hrc (.string r.digest) rfl;have y4:=zc 4 hrc (.slice A4 n4 c4) rfl;have y5:=zc 5 hrc (.slice A5 n5 c5) rfl;have HDO:=zh (Kh (r:=r) HOB4.out (Qv z8.out) ⟨HLS.out.1,by have:=HLS.out.2.1;omega,by have:=HLS.out.2.2;omega⟩ ⟨by have:=(jy z8.out).2.1;omega,by have:=(jy z8.out).2.1;omega⟩ HST.out (HL4.out.all HB4w.out) (HS5.out.all HB4w.out) (fun q hq=>by omega) ⟨by have:=(xw yt.out).2.2.2.1;have:=HL4.out.len;omega,by have:=(xw yt.out).2.2.2.2;have:=HS5.out.len;omega⟩ yt.out);clear hrc gi HAG yc HBE;go_wp2_with fail
   refine HDO.out.mono ?_;clear y0 y1 y2 y3 y4 y5 HDO;rintro e w5 hdo;have hO5:=hdo.2.1;have he:=hdo.1;have mi:=zh (HB4w.out.trans (hdo.2.2.mono (by omega)));have hsz5:=hdo.2.2.size;clear hdo
   cases hdr:CL b r with
   |none=>
    rw[hdr] at he;have he2:e=.returned (.int .i64 3):=he;clear he;subst he2;have HE:Hid (xF s b r=(⟨[],[],[],0⟩,3)):=zh (by rw[HAP.out,hdr]);clear hdr;obtain⟨D0,d0,e0,D1,d1,e1,D2,d2,e2,hob5⟩:=hO5;obtain⟨_,_,_,_,r4⟩:=hob5.ex (w.heap.size+1+1+1) _ (if_pos rfl);clear hob5;have f0:=zc 0 r4 (.slice none 0 0) rfl;have f1:=zc 1 r4 (.slice none 0 0) rfl;have f2:=zc 2 r4 (.slice none 0 0) rfl;have f3:=zc 3 r4 (.int .i64 0) rfl;have g0:=zf 0 r4;have g1:=zf 1 r4;have g2:=zf 2 r4;have g3:=zf 3 r4;have gQ:=Jg (a:=.slice none 0 0) (b:=.slice none 0 0) (c:=.slice none 0 0) (d:=.int .i64 0) r4;have mJ:=zh (gQ.2.1 w.heap.size (by omega));clear r4 gQ;go_wp2
    refine bodyPost_ret (v:=.tuple #[.agg #[.slice none 0 0,.slice none 0 0,.slice none 0 0,.int .i64 0],.int .i64 3]) (by simp[results,Tryz.results30,go_sem, *];done) rfl ?_;exact⟨none,0,0,none,0,0,none,0,0,by rw[HE.out],by rw[HE.out];exact⟨Sl.BA (by omega),Sl.BA (by omega),Sl.BA (by omega),(show Bo 0 by unfold Bo;omega)⟩,mi.out.trans mJ.out⟩
   |some b'=>
    rw[hdr] at he hO5;have he2:e=.returned (.int .i64 0):=he;clear he;subst he2;have HE:Hid (xF s b r=(b',0)):=zh (by rw[HAP.out,hdr]);clear hdr;obtain⟨D0,d0,e0,D1,d1,e1,D2,d2,e2,hob5⟩:=hO5;have r7:=hob5.row;obtain⟨_,_,_,_,r4⟩:=hob5.ex (w.heap.size+1+1+1) _ (if_pos rfl);have HOB5:=zh hob5;clear hob5;have x0:=zc 0 r7 (.slice D0 d0 e0) rfl;have x1:=zc 1 r7 (.slice D1 d1 e1) rfl;have x2:=zc 2 r7 (.slice D2 d2 e2) rfl;have x3:=zc 3 r7 (.int .i64 b'.next) rfl;have f0:=zc 0 r4 (.slice none 0 0) rfl;have f1:=zc 1 r4 (.slice none 0 0) rfl;have f2:=zc 2 r4 (.slice none 0 0) rfl;have f3:=zc 3 r4 (.int .i64 0) rfl;have g0:=zf 0 r4;have g1:=zf 1 r4;have g2:=zf 2 r4;have g3:=zf 3 r4;have gQ:=Jg (a:=.slice D0 d0 e0) (b:=.slice D1 d1 e1) (c:=.slice D2 d2 e2) (d:=.int .i64 b'.next) r4;have mJ:=zh (gQ.2.1 w.heap.size (by omega));have HRD:=zh (HOB5.out.Du r4 gQ.2.2 (by simp));clear r4 r7 gQ;go_wp2
    refine bodyPost_ret (v:=.tuple #[.agg #[.slice D0 d0 e0,.slice D1 d1 e1,.slice D2 d2 e2,.int .i64 b'.next],.int .i64 0]) (by simp[results,Tryz.results30,go_sem, *];done) rfl ?_;refine⟨D0,d0,e0,D1,d1,e1,D2,d2,e2,by rw[HE.out],?_,mi.out.trans mJ.out⟩;rw[HE.out];exact HRD.out.mono (fun q hq _=>by omega)
end Go.Proofs.YtipecejghioicaaGreat
