/- Book.Apply: the book behind a record. -/
import Derived.Test.YtipecejghioicaaGreatY9t
import Derived.Test.YtipecejghioicaaGreatY23t
set_option maxHeartbeats 16000000
set_option maxRecDepth 100000
namespace Go.Proofs.YtipecejghioicaaGreat
open Go.RowKit Go.Silo
theorem QD {α:Type} [Inhabited α] {R:α→α→Prop}(htr:∀a b c,R a b→R b c→R a c) {l:List α}(h:∀k,0<k→k<l.length→R (l.getD (k - 1) default) (l.getD k default)):l.Pairwise R:=by
 refine BA.2 (fun i j hij hj=>?_)
 induction j with
 |zero=>omega
 |succ j ih=>
  rcases Nat.lt_or_ge i j with h1|h1
  ·exact htr _ _ _ (ih h1 (by omega)) (by have:=h (j+1) (by omega) hj;simpa using this)
  obtain rfl:i=j:=by omega
  have:=h (i+1) (by omega) hj;simpa using this
theorem xm {s:Shape}{b:Book}(h:qN s b=true):qt s=true∧(0≤b.next∧b.next≤1073741824)∧qI s b.next b.Ba=true∧(∀k,k<b.things.length→qK s b.Ba b.things k=true)∧(∀k,k<b.tags.length→BP b.tags k=true):=by
 unfold qN at h;simp only[Bool.and_eq_true,decide_eq_true_eq] at h;obtain⟨h0,hn,hst,hth,vN⟩:=h;refine⟨h0,hn,hst,fun k hk=>?_,fun k hk=>?_⟩
 ·unfold ze at hth;simp only[Bool.and_eq_true] at hth;exact List.all_eq_true.1 hth.1 k (List.mem_range.2 hk)
 unfold zS at vN;simp only[Bool.and_eq_true] at vN;exact List.all_eq_true.1 vN.1 k (List.mem_range.2 hk)
theorem QU {s:Shape}{b:Book}(h:qN s b=true):Sorted b:=by
 obtain⟨_,_,hst,hth,vN⟩:=xm h;refine⟨jd hst,?_,?_⟩
 ·exact BA.1 (QD (R:=fun(x y:Entry)=>qr x.digest y.digest=true) (fun _ _ _ h1 h2=>qZ h1 h2) (fun k h0 hk=>by
   have:=hth k hk;unfold qK at this;simp only[Bool.and_eq_true,Bool.or_eq_true,decide_eq_true_eq] at this;rcases this.2.1 with h|h
   ·omega
   exact h))
 exact BA.1 (QD (R:=fun(x y:Tag)=>qr x.name y.name=true) (fun _ _ _ h1 h2=>qZ h1 h2) (fun k h0 hk=>by
  have:=vN k hk;unfold BP at this;simp only[Bool.and_eq_true,Bool.or_eq_true,decide_eq_true_eq] at this;rcases this.2 with h|h
  ·omega
  exact h))
theorem jF {s:Shape}{b:Book}(h:qN s b=true):b.things.length≤60∧b.tags.length≤40:=by
 unfold qN at h;simp only[Bool.and_eq_true,decide_eq_true_eq] at h;obtain⟨_,_,_,hth,vN⟩:=h;unfold ze at hth;unfold zS at vN;simp only[Bool.and_eq_true,decide_eq_true_eq] at hth vN;exact⟨hth.2.2,vN.2⟩
def jj (s:Shape) (b:Book) (r:Bb):Book×Int:=
 if (qN s b&&qp r)=true then (match Cj b r with|none=>(⟨[],[],[],0⟩,3)|some b'=>(b',0)) else (⟨[],[],[],0⟩,1)
theorem jP {T:TypeId}(h:88≠T):(qc true).BU T:=by
 rintro w w' S vs x ha hs ⟨A,n,c,rfl,hok,hsl⟩;exact⟨A,n,c,rfl,hok,hsl.Cc BU.flat h ha hs⟩
theorem kw {T:TypeId}(h:3≠T):(qj true).BU T:=by
 rintro w w' S vs x ha hs ⟨A,n,c,rfl,hok,hsl⟩;exact⟨A,n,c,rfl,hok,hsl.Cc BU.flat h ha hs⟩
theorem OB.DK {X:Nat→Option Obj}{β bb g:Nat}{A0:Option Addr}{n0 c0:Nat}{A1:Option Addr}{n1 c1:Nat}{A2:Option Addr}{n2 c2:Nat}{b:Book}{W V:World}{cur:Array Value}{fr:Nat×Nat}(h:OB X β bb A0 n0 c0 A1 n1 c1 A2 n2 c2 b W) (hg:W.heap[g]?=some (.cells cur 28 fr)) (hA:Agree (fun q=>q≠g) W V) (hs:W.heap.size≤V.heap.size):
  Bv V (fun q=>β≤q) true true true true A0 n0 c0 A1 n1 c1 A2 n2 c2 b:=by
 have ha:∀(S:Nat→Prop) q,S q→q<W.heap.size→(∀k,W.shape? q≠some (28,k))→V.heap[q]?=W.heap[q]?:=fun S q _ hq hk=>hA q (fun e=>by
  subst e
  exact hk _ (qy hg)) hq
 have hlo:=h.lo
 have hup:∀q,(NS bb A0 A1 A2 q∨β≤q)→β≤q:=fun q hq=>by
  rcases hq with hq|hq
  ·have:=hq.1;omega
  exact hq
 exact⟨((h.st.sl (tg:=true)).mono (S':=fun q=>β≤q) (fun q hq _=>hup q hq)).Cc (jP (by decide)) (by decide) (ha _) hs,((h.th.sl (tg:=true)).mono (S':=fun q=>β≤q) (fun q hq _=>hup q hq)).Cc (kw (by decide)) (by decide) (ha _) hs,((h.ta.sl (tg:=true)).mono (S':=fun q=>β≤q) (fun q hq _=>hup q hq)).Cc BU.flat (by decide) (ha _) hs,h.nx⟩
theorem KR {tg tg0 tg1 tg2 tg4:Bool}{S S4:Nat→Prop}{w:World}{A0 A1 A2 A4 A5:Option Addr}{n0 c0 n1 c1 n2 c2 n4 c4 n5 c5:Nat}{s:Shape}{b:Book}{r:Bb}(hsi:Bf s.K∧Bf s.M∧Bf s.size) (hf:Ej b) (h:Bv w S tg tg0 tg1 tg2 A0 n0 c0 A1 n1 c1 A2 n2 c2 b)
  (hst:qM r.name∧qM r.digest) (hl:Sl tg4 3 Bo w S4 A4 n4 c4 r.list) (hsl:Sl tg4 88 qq w S4 A5 n5 c5 r.slots):
  Calls Tryz.prog 30 #[.agg #[.int .i64 s.K,.int .i64 s.M,.int .i64 s.size],.agg #[.slice A0 n0 c0,.slice A1 n1 c1,.slice A2 n2 c2,.int .i64 b.next],.agg #[.int .i64 r.kind,.int .i64 r.id,.string r.name,.string r.digest,.slice A4 n4 c4,.slice A5 n5 c5]] w (xT (jj s b r) w):=by
 have HM:=zh (fun W (hW:Below w.heap.size w W)=>Kv (w:=W) hsi hf (h.all hW));have HRM:=zh (fun W (hW:Below w.heap.size w W)=>ZY (w:=W) (r:=r) (hl.all hW) (hsl.all hW));have HOWN:=zh (fun W (hW:Below w.heap.size w W) (hq:qN s b=true)=>JI (w:=W) (h.all hW) ⟨by have:=h.st.len;have:=hf.st;omega,by have:=h.th.len;have:=(jF hq).1;omega,by have:=h.ta.len;have:=(jF hq).2;omega⟩ hf.places hf.lists);have mA:=zh ((hl.Bd.mono (S':=fun q=>q<w.heap.size) (fun _ h _=>h.2)));have yF:=zh ((hsl.Bd.mono (S':=fun q=>q<w.heap.size) (fun _ h _=>h.2)));have HST:=zh hst;have HFW:=zh hf;clear h hf hsi hst hl hsl;have hal:Below w.heap.size w ((((w.alloc (.cells #[.int .i64 s.K,.int .i64 s.M,.int .i64 s.size] 23)).alloc (.cells #[.slice A0 n0 c0,.slice A1 n1 c1,.slice A2 n2 c2,.int .i64 b.next] 28)).alloc (.cells #[.int .i64 r.kind,.int .i64 r.id,.string r.name,.string r.digest,.slice A4 n4 c4,.slice A5 n5 c5] 61)).alloc (.cells #[.slice none 0 0,.slice none 0 0,.slice none 0 0,.int .i64 0] 28)):=bz
 have mG:((((w.alloc (.cells #[.int .i64 s.K,.int .i64 s.M,.int .i64 s.size] 23)).alloc (.cells #[.slice A0 n0 c0,.slice A1 n1 c1,.slice A2 n2 c2,.int .i64 b.next] 28)).alloc (.cells #[.int .i64 r.kind,.int .i64 r.id,.string r.name,.string r.digest,.slice A4 n4 c4,.slice A5 n5 c5] 61)).alloc (.cells #[.slice none 0 0,.slice none 0 0,.slice none 0 0,.int .i64 0] 28)).heap[w.heap.size]?=some (.cells #[.int .i64 s.K,.int .i64 s.M,.int .i64 s.size] 23 (0,0)):=by
  rw[Below.heap_alloc _ _ _ (by simp;try omega),Below.heap_alloc _ _ _ (by simp;try omega),Below.heap_alloc _ _ _ (by simp;try omega)];have:=heap_alloc_new w (.cells #[.int .i64 s.K,.int .i64 s.M,.int .i64 s.size] 23);simpa only[World.size_alloc] using this
 have hr1:((((w.alloc (.cells #[.int .i64 s.K,.int .i64 s.M,.int .i64 s.size] 23)).alloc (.cells #[.slice A0 n0 c0,.slice A1 n1 c1,.slice A2 n2 c2,.int .i64 b.next] 28)).alloc (.cells #[.int .i64 r.kind,.int .i64 r.id,.string r.name,.string r.digest,.slice A4 n4 c4,.slice A5 n5 c5] 61)).alloc (.cells #[.slice none 0 0,.slice none 0 0,.slice none 0 0,.int .i64 0] 28)).heap[w.heap.size+1]?=some (.cells #[.slice A0 n0 c0,.slice A1 n1 c1,.slice A2 n2 c2,.int .i64 b.next] 28 (0,0)):=by
  rw[Below.heap_alloc _ _ _ (by simp;try omega),Below.heap_alloc _ _ _ (by simp;try omega)];have:=heap_alloc_new (w.alloc (.cells #[.int .i64 s.K,.int .i64 s.M,.int .i64 s.size] 23)) (.cells #[.slice A0 n0 c0,.slice A1 n1 c1,.slice A2 n2 c2,.int .i64 b.next] 28);simpa only[World.size_alloc] using this
 have hr2:((((w.alloc (.cells #[.int .i64 s.K,.int .i64 s.M,.int .i64 s.size] 23)).alloc (.cells #[.slice A0 n0 c0,.slice A1 n1 c1,.slice A2 n2 c2,.int .i64 b.next] 28)).alloc (.cells #[.int .i64 r.kind,.int .i64 r.id,.string r.name,.string r.digest,.slice A4 n4 c4,.slice A5 n5 c5] 61)).alloc (.cells #[.slice none 0 0,.slice none 0 0,.slice none 0 0,.int .i64 0] 28)).heap[w.heap.size+1+1]?=some (.cells #[.int .i64 r.kind,.int .i64 r.id,.string r.name,.string r.digest,.slice A4 n4 c4,.slice A5 n5 c5] 61 (0,0)):=by
  rw[Below.heap_alloc _ _ _ (by simp;try omega)];have:=heap_alloc_new ((w.alloc (.cells #[.int .i64 s.K,.int .i64 s.M,.int .i64 s.size] 23)).alloc (.cells #[.slice A0 n0 c0,.slice A1 n1 c1,.slice A2 n2 c2,.int .i64 b.next] 28)) (.cells #[.int .i64 r.kind,.int .i64 r.id,.string r.name,.string r.digest,.slice A4 n4 c4,.slice A5 n5 c5] 61);simpa only[World.size_alloc] using this
 have hr3:((((w.alloc (.cells #[.int .i64 s.K,.int .i64 s.M,.int .i64 s.size] 23)).alloc (.cells #[.slice A0 n0 c0,.slice A1 n1 c1,.slice A2 n2 c2,.int .i64 b.next] 28)).alloc (.cells #[.int .i64 r.kind,.int .i64 r.id,.string r.name,.string r.digest,.slice A4 n4 c4,.slice A5 n5 c5] 61)).alloc (.cells #[.slice none 0 0,.slice none 0 0,.slice none 0 0,.int .i64 0] 28)).heap[w.heap.size+1+1+1]?=some (.cells #[.slice none 0 0,.slice none 0 0,.slice none 0 0,.int .i64 0] 28 (0,0)):=by
  have:=heap_alloc_new (((w.alloc (.cells #[.int .i64 s.K,.int .i64 s.M,.int .i64 s.size] 23)).alloc (.cells #[.slice A0 n0 c0,.slice A1 n1 c1,.slice A2 n2 c2,.int .i64 b.next] 28)).alloc (.cells #[.int .i64 r.kind,.int .i64 r.id,.string r.name,.string r.digest,.slice A4 n4 c4,.slice A5 n5 c5] 61)) (.cells #[.slice none 0 0,.slice none 0 0,.slice none 0 0,.int .i64 0] 28);simpa only[World.size_alloc] using this
 have hz:w.heap.size+1+1+1<((((w.alloc (.cells #[.int .i64 s.K,.int .i64 s.M,.int .i64 s.size] 23)).alloc (.cells #[.slice A0 n0 c0,.slice A1 n1 c1,.slice A2 n2 c2,.int .i64 b.next] 28)).alloc (.cells #[.int .i64 r.kind,.int .i64 r.id,.string r.name,.string r.digest,.slice A4 n4 c4,.slice A5 n5 c5] 61)).alloc (.cells #[.slice none 0 0,.slice none 0 0,.slice none 0 0,.int .i64 0] 28)).heap.size:=by simp
 go_enter Tryz.func30,Tryz.ntmps30
 go_upto_region 1 with (fail)
 generalize ((((w.alloc (.cells #[.int .i64 s.K,.int .i64 s.M,.int .i64 s.size] 23)).alloc (.cells #[.slice A0 n0 c0,.slice A1 n1 c1,.slice A2 n2 c2,.int .i64 b.next] 28)).alloc (.cells #[.int .i64 r.kind,.int .i64 r.id,.string r.name,.string r.digest,.slice A4 n4 c4,.slice A5 n5 c5] 61)).alloc (.cells #[.slice none 0 0,.slice none 0 0,.slice none 0 0,.int .i64 0] 28))=W0 at *;have gB:=zh (fun V (hV:Below W0.heap.size W0 V)=>hal.trans (hV.mono hal.size));clear hal;have ROW:=zh (fun V (hV:Below W0.heap.size W0 V)=>(show V.heap[w.heap.size]?=some (.cells #[.int .i64 s.K,.int .i64 s.M,.int .i64 s.size] 23 (0,0))∧V.heap[w.heap.size+1]?=some (.cells #[.slice A0 n0 c0,.slice A1 n1 c1,.slice A2 n2 c2,.int .i64 b.next] 28 (0,0))∧V.heap[w.heap.size+1+1]?=some (.cells #[.int .i64 r.kind,.int .i64 r.id,.string r.name,.string r.digest,.slice A4 n4 c4,.slice A5 n5 c5] 61 (0,0))∧V.heap[w.heap.size+1+1+1]?=some (.cells #[.slice none 0 0,.slice none 0 0,.slice none 0 0,.int .i64 0] 28 (0,0)) from⟨(hV.block _ (by omega)).trans mG,(hV.block _ (by omega)).trans hr1,(hV.block _ (by omega)).trans hr2,(hV.block _ (by omega)).trans hr3⟩));clear mG hr1 hr2 hr3;have hz1:w.heap.size+1+1+1<W0.heap.size:=by omega
 obtain⟨r0,r1,r2,r3⟩:=ROW.out W0 (Below.refl _ _);have mF:=zc 0 r0 (.int .i64 s.K) rfl;have mK:=zc 1 r0 (.int .i64 s.M) rfl;have mM:=zc 2 r0 (.int .i64 s.size) rfl;have ra:=zc 0 r1 (.slice _ n0 c0) rfl;have uC:=zc 1 r1 (.slice _ n1 c1) rfl;have ut:=zc 2 r1 (.slice _ n2 c2) rfl;have vL:=zc 3 r1 (.int .i64 b.next) rfl;clear r0 r1 r2 r3;go_wp2_with fail
 refine(HM.out _ (gB.out _ (Below.refl _ _))).mono ?_;clear mF mK mM ra uC ut vL;rintro e w1 ⟨rfl,hb1⟩;have gH:=zh hb1;clear hb1 HM;obtain⟨bk,hbk⟩:∃bk,bk=qN s b:=⟨_,rfl⟩;rw[←hbk];have Hv:=zh hbk.symm;clear hbk
 cases bk with
 |false=>
  have HE:Hid (jj s b r=(⟨[],[],[],0⟩,1)):=zh (by unfold jj;rw[Hv.out];rfl);obtain⟨_,_,_,r4⟩:=ROW.out w1 gH.out;have f0:=zc 0 r4 (.slice none 0 0) rfl;have f1:=zc 1 r4 (.slice none 0 0) rfl;have f2:=zc 2 r4 (.slice none 0 0) rfl;have f3:=zc 3 r4 (.int .i64 0) rfl;have g0:=zf 0 r4;have g1:=zf 1 r4;have g2:=zf 2 r4;have g3:=zf 3 r4;have hb4:=qW (a:=.slice none 0 0) (b:=.slice none 0 0) (c:=.slice none 0 0) (d:=.int .i64 0) r4;have gi:=zh (hb4.2.1 w.heap.size (by omega));have uP:=zh (gB.out _ gH.out);clear r4 hb4;go_wp2
  refine bodyPost_ret (v:=.tuple #[.agg #[.slice none 0 0,.slice none 0 0,.slice none 0 0,.int .i64 0],.int .i64 1]) (by simp[results,Tryz.results30,go_sem, *];done) rfl ?_;exact⟨none,0,0,none,0,0,none,0,0,by rw[HE.out],by rw[HE.out];exact⟨Sl.Bp (by omega),Sl.Bp (by omega),Sl.Bp (by omega),(show Bf 0 by unfold Bf;omega)⟩,uP.out.trans gi.out⟩
 |true=>
  obtain⟨r0,r1,r2,r3⟩:=ROW.out w1 gH.out;have b20:=zc 0 r2 (.int .i64 r.kind) rfl;have b21:=zc 1 r2 (.int .i64 r.id) rfl;have b22:=zc 2 r2 (.string r.name) rfl;have b23:=zc 3 r2 (.string r.digest) rfl;have b24:=zc 4 r2 (.slice _ n4 c4) rfl;have b25:=zc 5 r2 (.slice _ n5 c5) rfl;clear r0 r1 r2 r3;go_wp2_with fail
  refine(HRM.out _ (gB.out _ gH.out)).mono ?_;clear b20 b21 b22 b23 b24 b25;rintro e w2 ⟨rfl,hb2⟩;have gF:=zt gH hb2;clear hb2 HRM;obtain⟨rk,hrk⟩:∃rk,rk=qp r:=⟨_,rfl⟩;rw[←hrk];have H9:=zh hrk.symm;clear hrk
  cases rk with
  |false=>
   have HE:Hid (jj s b r=(⟨[],[],[],0⟩,1)):=zh (by unfold jj;rw[Hv.out,H9.out];rfl);obtain⟨_,_,_,r4⟩:=ROW.out w2 gF.out;have f0:=zc 0 r4 (.slice none 0 0) rfl;have f1:=zc 1 r4 (.slice none 0 0) rfl;have f2:=zc 2 r4 (.slice none 0 0) rfl;have f3:=zc 3 r4 (.int .i64 0) rfl;have g0:=zf 0 r4;have g1:=zf 1 r4;have g2:=zf 2 r4;have g3:=zf 3 r4;have hb4:=qW (a:=.slice none 0 0) (b:=.slice none 0 0) (c:=.slice none 0 0) (d:=.int .i64 0) r4;have gi:=zh (hb4.2.1 w.heap.size (by omega));have uP:=zh (gB.out _ gF.out);clear r4 hb4;go_wp2
   refine bodyPost_ret (v:=.tuple #[.agg #[.slice none 0 0,.slice none 0 0,.slice none 0 0,.int .i64 0],.int .i64 1]) (by simp[results,Tryz.results30,go_sem, *];done) rfl ?_;exact⟨none,0,0,none,0,0,none,0,0,by rw[HE.out],by rw[HE.out];exact⟨Sl.Bp (by omega),Sl.Bp (by omega),Sl.Bp (by omega),(show Bf 0 by unfold Bf;omega)⟩,uP.out.trans gi.out⟩
  |true=>
   have mC:Hid (jj s b r=(match Cj b r with|none=>(⟨[],[],[],0⟩,3)|some b'=>(b',0))):=zh (by unfold jj;rw[Hv.out,H9.out];rfl);have hz2:w.heap.size+1+1+1<w2.heap.size:=Nat.lt_of_lt_of_le hz1 gF.out.size;obtain⟨r0,r1,r2,r3⟩:=ROW.out w2 gF.out;have ra:=zc 0 r1 (.slice _ n0 c0) rfl;have uC:=zc 1 r1 (.slice _ n1 c1) rfl;have ut:=zc 2 r1 (.slice _ n2 c2) rfl;have vL:=zc 3 r1 (.int .i64 b.next) rfl;clear r0 r1 r2 r3;go_wp2_with fail
   refine(HOWN.out _ (gB.out _ gF.out) Hv.out).mono ?_;clear ra uC ut vL;rintro e w3 ⟨B0,k0,B1,k1,B2,k2,rfl,mi,hb3⟩;have gP:=zh mi;clear mi HOWN;have mr:=zt gF hb3;clear hb3;have HLS:=zh (And.intro (show b.Ba.length≤999999 by have:=HFW.out.st;omega) (jF Hv.out));obtain⟨_,r1,_,_⟩:=ROW.out w3 mr.out;have f0:=zc 0 r1 (.slice A0 n0 c0) rfl;have f1:=zc 1 r1 (.slice A1 n1 c1) rfl;have f2:=zc 2 r1 (.slice A2 n2 c2) rfl;have f3:=zc 3 r1 (.int .i64 b.next) rfl;have g0:=zf 0 r1;have g1:=zf 1 r1;have g2:=zf 2 r1;have g3:=zf 3 r1;generalize hm0:b.Ba.length=m0 at *;generalize nP:b.things.length=m1 at *;generalize hm2:b.tags.length=m2 at *;have HM0:=zh hm0;clear hm0;have HM1:=zh nP;clear nP;have HM2:=zh hm2;clear hm2;have hb4:=qW (a:=.slice B0 m0 k0) (b:=.slice B1 m1 k1) (c:=.slice B2 m2 k2) (d:=.int .i64 b.next) r1;have GY:=zh hb4.1;have pR:=zh (hb4.2.1 (w.heap.size+1) (by omega));have HAG:=zh hb4.2.2;clear r1 hb4
   go_upto_region 4 with (fail)
   generalize hw4:((((w3.setCell ⟨w.heap.size+1,0,none⟩ (.slice B0 m0 k0)).setCell ⟨w.heap.size+1,1,none⟩ (.slice B1 m1 k1)).setCell ⟨w.heap.size+1,2,none⟩ (.slice B2 m2 k2)).setCell ⟨w.heap.size+1,3,none⟩ (.int .i64 b.next))=w4 at *;have hs4:w3.heap.size=w4.heap.size:=(by rw[←hw4];simp);clear hw4 f0 f1 f2 f3 g0 g1 g2 g3
   have HOB4:Hid (OB (fun g=>if g=w.heap.size+1+1+1 then some (.cells #[.slice none 0 0,.slice none 0 0,.slice none 0 0,.int .i64 0] 28 (0,0)) else none) (w.heap.size+1) (w.heap.size+1) B0 m0 k0 B1 m1 k1 B2 m2 k2 b w4):=zh (gP.out _ (w.heap.size+1) w4 (by omega) (HAG.out.mono (fun q hq _=>by omega)) (by omega) (fun g o hx=>by
    split at hx
    ·next e=>
     injection hx with hx
     subst e hx;exact⟨by omega,by omega,(HAG.out _ (by omega) (by have:=mr.out.size;omega)).trans (ROW.out w3 mr.out).2.2.2⟩
    cases hx) GY.out)
   have hrc:w4.heap[w.heap.size+1+1]?=some (.cells #[.int .i64 r.kind,.int .i64 r.id,.string r.name,.string r.digest,.slice A4 n4 c4,.slice A5 n5 c5] 61 (0,0)):=(HAG.out _ (by omega) (by have:=mr.out.size;omega)).trans (ROW.out w3 mr.out).2.2.1;have HB4w:Hid (Below w.heap.size w w4):=zh ((gB.out _ mr.out).trans (pR.out.mono (by omega)));have y0:=zc 0 hrc (.int .i64 r.kind) rfl;have y1:=zc 1 hrc (.int .i64 r.id) rfl;have y2:=zc 2 hrc (.string r.name) rfl;have y3:=zc 3 hrc (.string r.digest) rfl;have y4:=zc 4 hrc (.slice A4 n4 c4) rfl;have y5:=zc 5 hrc (.slice A5 n5 c5) rfl;have HDO:=zh (Jj (r:=r) HOB4.out (QU Hv.out) ⟨HLS.out.1,by have:=HLS.out.2.1;omega,by have:=HLS.out.2.2;omega⟩ ⟨by have:=(xm Hv.out).2.1;omega,by have:=(xm Hv.out).2.1;omega⟩ HST.out (mA.out.all HB4w.out) (yF.out.all HB4w.out) (fun q hq=>by omega) ⟨by have:=(zT H9.out).2.2.2.1;have:=mA.out.len;omega,by have:=(zT H9.out).2.2.2.2;have:=yF.out.len;omega⟩ H9.out);clear hrc gP HAG GY pR;go_wp2_with fail
   refine HDO.out.mono ?_;clear y0 y1 y2 y3 y4 y5 HDO;rintro e w5 H0;have hO5:=H0.2.1;have he:=H0.1;have mo:=zh (HB4w.out.trans (H0.2.2.mono (by omega)));have hsz5:=H0.2.2.size;clear H0
   cases hdr:Cj b r with
   |none=>
    rw[hdr] at he;have H3:e=.returned (.int .i64 3):=he;clear he;subst H3;have HE:Hid (jj s b r=(⟨[],[],[],0⟩,3)):=zh (by rw[mC.out,hdr]);clear hdr;obtain⟨D0,d0,e0,D1,d1,e1,D2,d2,e2,hob5⟩:=hO5;obtain⟨_,_,_,_,r4⟩:=hob5.ex (w.heap.size+1+1+1) _ (if_pos rfl);clear hob5;have f0:=zc 0 r4 (.slice none 0 0) rfl;have f1:=zc 1 r4 (.slice none 0 0) rfl;have f2:=zc 2 r4 (.slice none 0 0) rfl;have f3:=zc 3 r4 (.int .i64 0) rfl;have g0:=zf 0 r4;have g1:=zf 1 r4;have g2:=zf 2 r4;have g3:=zf 3 r4;have gp:=qW (a:=.slice none 0 0) (b:=.slice none 0 0) (c:=.slice none 0 0) (d:=.int .i64 0) r4;have gi:=zh (gp.2.1 w.heap.size (by omega));clear r4 gp;go_wp2
    refine bodyPost_ret (v:=.tuple #[.agg #[.slice none 0 0,.slice none 0 0,.slice none 0 0,.int .i64 0],.int .i64 3]) (by simp[results,Tryz.results30,go_sem, *];done) rfl ?_;exact⟨none,0,0,none,0,0,none,0,0,by rw[HE.out],by rw[HE.out];exact⟨Sl.Bp (by omega),Sl.Bp (by omega),Sl.Bp (by omega),(show Bf 0 by unfold Bf;omega)⟩,mo.out.trans gi.out⟩
   |some b'=>
    rw[hdr] at he hO5;have H3:e=.returned (.int .i64 0):=he;clear he;subst H3;have HE:Hid (jj s b r=(b',0)):=zh (by rw[mC.out,hdr]);clear hdr;obtain⟨D0,d0,e0,D1,d1,e1,D2,d2,e2,hob5⟩:=hO5;have r7:=hob5.row;obtain⟨_,_,_,_,r4⟩:=hob5.ex (w.heap.size+1+1+1) _ (if_pos rfl);have yO:=zh hob5;clear hob5;have x0:=zc 0 r7 (.slice D0 d0 e0) rfl;have x1:=zc 1 r7 (.slice D1 d1 e1) rfl;have x2:=zc 2 r7 (.slice D2 d2 e2) rfl;have x3:=zc 3 r7 (.int .i64 b'.next) rfl;have f0:=zc 0 r4 (.slice none 0 0) rfl;have f1:=zc 1 r4 (.slice none 0 0) rfl;have f2:=zc 2 r4 (.slice none 0 0) rfl;have f3:=zc 3 r4 (.int .i64 0) rfl;have g0:=zf 0 r4;have g1:=zf 1 r4;have g2:=zf 2 r4;have g3:=zf 3 r4;have gp:=qW (a:=.slice D0 d0 e0) (b:=.slice D1 d1 e1) (c:=.slice D2 d2 e2) (d:=.int .i64 b'.next) r4;have gi:=zh (gp.2.1 w.heap.size (by omega));have HRD:=zh (yO.out.DK r4 gp.2.2 (by simp));clear r4 r7 gp;go_wp2
    refine bodyPost_ret (v:=.tuple #[.agg #[.slice D0 d0 e0,.slice D1 d1 e1,.slice D2 d2 e2,.int .i64 b'.next],.int .i64 0]) (by simp[results,Tryz.results30,go_sem, *];done) rfl ?_;refine⟨D0,d0,e0,D1,d1,e1,D2,d2,e2,by rw[HE.out],?_,mo.out.trans gi.out⟩;rw[HE.out];exact HRD.out.mono (fun q hq _=>by omega)
end Go.Proofs.YtipecejghioicaaGreat
