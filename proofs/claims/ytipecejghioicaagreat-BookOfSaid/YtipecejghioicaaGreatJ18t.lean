/- Siloref16.Apply of any record. -/
import Derived.Test.YtipecejghioicaaGreatY24t
import Derived.Test.YtipecejghioicaaGreatJ14t
import Derived.Test.YtipecejghioicaaGreatJ15t
import Derived.Test.YtipecejghioicaaGreatJ16t
import Derived.Test.YtipecejghioicaaGreatJ17t
set_option maxHeartbeats 8000000
set_option maxRecDepth 100000
namespace Go.Proofs.YtipecejghioicaaGreat
open Go.RowKit Go.Silo
theorem Qh {w:World}{e:Int}:Calls Tryz.prog 20 #[.int .i64 e] w (Bl (.int .i64 e) w):=by
 go_enter Tryz.func20,Tryz.ntmps20
 go_wp2
 go_ret
 exact⟨rfl,bz⟩
def xC (s:Shape) (b:Book):List Bb×Int:=if qN s b=true then (xU b,0) else ([],1)
def QE (r:List Bb×Int) (w:World) (e:Ending) (w':World):Prop:=
 ∃A n c,e=.returned (.tuple #[.slice A n c,.int .i64 r.2])∧Sl true 61 (qw true) w' (fun k=>w.heap.size≤k) A n c r.1∧Below w.heap.size w w'
theorem xD {s:Shape}{b:Book}(h:qN s b=true):b.things.length≤60∧b.tags.length≤40:=by
 unfold qN at h;simp only[Bool.and_eq_true,decide_eq_true_eq] at h;obtain⟨_,_,_,hth,vN⟩:=h;unfold ze at hth;unfold zS at vN;simp only[Bool.and_eq_true,decide_eq_true_eq] at hth vN;exact⟨hth.2.2,vN.2⟩
theorem QF {s:Shape}{b:Book}(h:qN s b=true):∀j,j<b.Ba.length→0≤(b.Ba.getD j default).id∧(b.Ba.getD j default).id≤1073741824:=fun j hj=>by
 have h1:=jD (xm h).2.2.1 j hj;have h2:=km h1.1;exact⟨h2.2.2.2.1,h2.2.2.2.2.1⟩
theorem Jk {tg tg0 tg1 tg2:Bool}{S:Nat→Prop}{w:World}{A0 A1 A2:Option Addr}{n0 c0 n1 c1 n2 c2:Nat}{s:Shape}{b:Book}(hsi:Bf s.K∧Bf s.M∧Bf s.size) (hf:Ej b) (h:Bv w S tg tg0 tg1 tg2 A0 n0 c0 A1 n1 c1 A2 n2 c2 b):
  Calls Tryz.prog 42 #[.agg #[.int .i64 s.K,.int .i64 s.M,.int .i64 s.size],.agg #[.slice A0 n0 c0,.slice A1 n1 c1,.slice A2 n2 c2,.int .i64 b.next]] w (QE (xC s b) w):=by
 have HM:=zh (fun W (hW:Below w.heap.size w W)=>Kv (w:=W) hsi hf (h.all hW));have HA:=zh (fun W (hW:Below w.heap.size w W) (hq:qN s b=true)=>JJ (w:=W) (h.all hW) ⟨by have:=h.st.len;have:=hf.st;omega,by have:=h.th.len;have:=(xD hq).1;omega,by have:=h.ta.len;have:=(xD hq).2;omega⟩ hf.places hf.lists (QF hq) (xm hq).2.1);clear h hf hsi;have hal:Below w.heap.size w ((w.alloc (.cells #[.int .i64 s.K,.int .i64 s.M,.int .i64 s.size] 23)).alloc (.cells #[.slice A0 n0 c0,.slice A1 n1 c1,.slice A2 n2 c2,.int .i64 b.next] 28)):=bz
 have mG:((w.alloc (.cells #[.int .i64 s.K,.int .i64 s.M,.int .i64 s.size] 23)).alloc (.cells #[.slice A0 n0 c0,.slice A1 n1 c1,.slice A2 n2 c2,.int .i64 b.next] 28)).heap[w.heap.size]?=some (.cells #[.int .i64 s.K,.int .i64 s.M,.int .i64 s.size] 23 (0,0)):=by
  rw[Below.heap_alloc _ _ _ (by simp;try omega)];have:=heap_alloc_new w (.cells #[.int .i64 s.K,.int .i64 s.M,.int .i64 s.size] 23);simpa only[World.size_alloc] using this
 have hr1:((w.alloc (.cells #[.int .i64 s.K,.int .i64 s.M,.int .i64 s.size] 23)).alloc (.cells #[.slice A0 n0 c0,.slice A1 n1 c1,.slice A2 n2 c2,.int .i64 b.next] 28)).heap[w.heap.size+1]?=some (.cells #[.slice A0 n0 c0,.slice A1 n1 c1,.slice A2 n2 c2,.int .i64 b.next] 28 (0,0)):=by
  have:=heap_alloc_new (w.alloc (.cells #[.int .i64 s.K,.int .i64 s.M,.int .i64 s.size] 23)) (.cells #[.slice A0 n0 c0,.slice A1 n1 c1,.slice A2 n2 c2,.int .i64 b.next] 28);simpa only[World.size_alloc] using this
 have hz:w.heap.size+1<((w.alloc (.cells #[.int .i64 s.K,.int .i64 s.M,.int .i64 s.size] 23)).alloc (.cells #[.slice A0 n0 c0,.slice A1 n1 c1,.slice A2 n2 c2,.int .i64 b.next] 28)).heap.size:=by simp
 go_enter Tryz.func42,Tryz.ntmps42
 go_upto_region 1 with (fail)
 generalize ((w.alloc (.cells #[.int .i64 s.K,.int .i64 s.M,.int .i64 s.size] 23)).alloc (.cells #[.slice A0 n0 c0,.slice A1 n1 c1,.slice A2 n2 c2,.int .i64 b.next] 28))=W0 at *;have gB:=zh (fun V (hV:Below W0.heap.size W0 V)=>hal.trans (hV.mono hal.size));clear hal;have ROW:=zh (fun V (hV:Below W0.heap.size W0 V)=>(show V.heap[w.heap.size]?=some (.cells #[.int .i64 s.K,.int .i64 s.M,.int .i64 s.size] 23 (0,0))∧V.heap[w.heap.size+1]?=some (.cells #[.slice A0 n0 c0,.slice A1 n1 c1,.slice A2 n2 c2,.int .i64 b.next] 28 (0,0)) from⟨(hV.block _ (by omega)).trans mG,(hV.block _ (by omega)).trans hr1⟩));clear mG hr1;obtain⟨r0,r1⟩:=ROW.out W0 (Below.refl _ _);have mF:=zc 0 r0 (.int .i64 s.K) rfl;have mK:=zc 1 r0 (.int .i64 s.M) rfl;have mM:=zc 2 r0 (.int .i64 s.size) rfl;have ra:=zc 0 r1 (.slice _ n0 c0) rfl;have uC:=zc 1 r1 (.slice _ n1 c1) rfl;have ut:=zc 2 r1 (.slice _ n2 c2) rfl;have vL:=zc 3 r1 (.int .i64 b.next) rfl;clear r0 r1;go_wp2_with fail
 refine(HM.out _ (gB.out _ (Below.refl _ _))).mono ?_;clear mF mK mM ra uC ut vL;rintro e w1 ⟨rfl,hb1⟩;have gH:=zh hb1;clear hb1;obtain⟨q,hq⟩:∃q,q=qN s b:=⟨_,rfl⟩;rw[←hq];have HQ:=zh hq.symm;clear hq
 cases q with
 |false=>
  have HE:Hid (xC s b=([],1)):=zh (by unfold xC;rw[HQ.out];rfl);go_wp2
  refine bodyPost_ret (v:=.tuple #[.slice none 0 0,.int .i64 1]) (by simp[results,Tryz.results42,go_sem, *];done) rfl ?_;exact⟨none,0,0,by rw[HE.out],by rw[HE.out];exact Sl.Bp (by omega),gB.out _ gH.out⟩
 |true=>
  have HE:Hid (xC s b=(xU b,0)):=zh (by unfold xC;rw[HQ.out];rfl);obtain⟨r0,r1⟩:=ROW.out w1 gH.out;have ra:=zc 0 r1 (.slice _ n0 c0) rfl;have uC:=zc 1 r1 (.slice _ n1 c1) rfl;have ut:=zc 2 r1 (.slice _ n2 c2) rfl;have vL:=zc 3 r1 (.int .i64 b.next) rfl;clear r0 r1;go_wp2_with fail
  refine(HA.out _ (gB.out _ gH.out) HQ.out).mono ?_;clear ra uC ut vL;rintro e w2 ⟨A,c,rfl,ho,hb2⟩;have HO:=zh ho;clear ho;have gF:=zt gH hb2;clear hb2;have hsz:=(gB.out _ gH.out).size;generalize mX:(xU b).length=n at *;have j6:=zh mX;clear mX;go_wp2
  refine bodyPost_ret (v:=.tuple #[.slice A n c,.int .i64 0]) (by simp[results,Tryz.results42,go_sem, *];done) rfl ?_;exact⟨A,n,c,by rw[HE.out],by rw[HE.out];exact(HO.out.sl (tg:=true)).mono (fun k hk _=>by rcases hk with hk|hk<;>omega),gB.out _ gF.out⟩
end Go.Proofs.YtipecejghioicaaGreat
namespace Go.Silo
open Go Go.RowKit
theorem CG.ever {V W:World}{R:Nat→Value→World→Prop}{s1:Nat}{st1:List (Nat×Value)→World→World}{us:List (Nat×Value)}(h:CG V R s1 st1 us W) {i:Nat}(hi:i∈us.map Prod.fst) (h1:i≠s1):∃v W0,us.lookup i=some v∧R i v W0:=by
 cases h with
 |pre _ hR _=>obtain⟨v,a,b⟩:=qa hi;exact⟨v,_,a,hR i v b⟩
 |@one gV W0 x _ hR _=>obtain⟨v,a,b⟩:=qa (qJ hi h1);exact⟨v,_,by rw[zR h1];exact a,hR i v b⟩
def Ee (ib iv k:Nat) (us:List (Nat×Value)) (W:World):World:=za (Kf ((us.lookup ib).getD undef)) 0 (Ja (qD k ((us.lookup iv).getD undef))) W
end Go.Silo
namespace Go.Proofs.YtipecejghioicaaGreat
open Go.RowKit Go.Silo
theorem DL {w:World}:Calls Tryz.prog 56 #[] w (Bl (.agg #[.int .i64 2,.int .i64 1,.int .i64 4]) w):=by
 go_enter Tryz.func56,Tryz.ntmps56
 go_wp2
 refine bodyPost_ret (v:=.agg #[.int .i64 2,.int .i64 1,.int .i64 4]) (by simp[results,Tryz.results56,go_sem, *];done) rfl ?_;exact⟨rfl,bz⟩
def EN:Bb:=⟨2,3,⟨#[]⟩,⟨#[]⟩,[5,0],[(⟨0,0⟩:Slot),⟨1,0⟩,⟨2,0⟩]⟩
theorem Xk:jj ⟨2,1,4⟩ ⟨[],[],[],0⟩ EN=(⟨[⟨3,5,0,[(⟨0,0⟩:Slot),⟨1,0⟩,⟨2,0⟩]⟩],[],[],4⟩,0):=by decide
theorem CY {w:World}:Calls Tryz.prog 27 #[] w (Bl (.bool true) w):=by
 go_enter Tryz.func27,Tryz.ntmps27
 go_wp2_with fail
 refine DL.mono ?_;rintro e w1 ⟨rfl,hb1⟩;have gH:=zh hb1;clear hb1;go_wp2_with fail
 have hi:=(Silo.Bi.lit (E:=Bo) (w:=w1) (S:=fun q=>True) (T:=3) (base:=0) [.int .i64 5,.int .i64 0] [5,0] 2 (Nat.zero_le _) (by decide) rfl rfl (fun k y hy=>by
  match k,hy with
  |0,hy=>injection hy with hy;subst hy;exact⟨rfl,by unfold Bf;decide⟩
  |1,hy=>injection hy with hy;subst hy;exact⟨rfl,by unfold Bf;decide⟩)).sl (tg:=true)
 have hs:=(Silo.Bi.lit (E:=qq) (w:=(w1.alloc (.cells #[.int .i64 5,.int .i64 0] 3))) (S:=fun q=>True) (T:=88) (base:=0) [.int .i64 0,.int .i64 0,.int .i64 1,.int .i64 0,.int .i64 2,.int .i64 0] [(⟨0,0⟩:Slot),⟨1,0⟩,⟨2,0⟩] 3 (Nat.zero_le _) (by decide) rfl rfl (fun k y hy=>by
  match k,hy with
  |0,hy=>injection hy with hy;subst hy;exact⟨rfl,by unfold Bf;decide,by unfold Bf;decide⟩
  |1,hy=>injection hy with hy;subst hy;exact⟨rfl,by unfold Bf;decide,by unfold Bf;decide⟩
  |2,hy=>injection hy with hy;subst hy;exact⟨rfl,by unfold Bf;decide,by unfold Bf;decide⟩)).sl (tg:=true)
 have hi2:=hi.all (w':=((w1.alloc (.cells #[.int .i64 5,.int .i64 0] 3)).alloc (.cells #[.int .i64 0,.int .i64 0,.int .i64 1,.int .i64 0,.int .i64 2,.int .i64 0] 88))) ((Below.refl _ _).alloc (Nat.le_refl _) _);have ui:Below w1.heap.size w1 ((w1.alloc (.cells #[.int .i64 5,.int .i64 0] 3)).alloc (.cells #[.int .i64 0,.int .i64 0,.int .i64 1,.int .i64 0,.int .i64 2,.int .i64 0] 88)):=bz;rw[World.size_alloc] at hs;generalize ((w1.alloc (.cells #[.int .i64 5,.int .i64 0] 3)).alloc (.cells #[.int .i64 0,.int .i64 0,.int .i64 1,.int .i64 0,.int .i64 2,.int .i64 0] 88))=w2 at *;have gF:=zt gH ui;clear ui hi;have hcl:=KR (w:=w2) (tg:=true) (tg0:=true) (tg1:=true) (tg2:=true) (S:=fun _=>False) (A0:=none) (n0:=0) (c0:=0) (A1:=none) (n1:=0) (c1:=0) (A2:=none) (n2:=0) (c2:=0) (s:=⟨2,1,4⟩) (b:=⟨[],[],[],0⟩) (r:=EN) ⟨by unfold Bf;decide,by unfold Bf;decide,by unfold Bf;decide⟩ ⟨by decide,by decide,by decide⟩ ⟨Sl.Bp (by decide),Sl.Bp (by decide),Sl.Bp (by decide),by unfold Bf;decide⟩ ⟨zy,zy⟩ (hi2.mono (S':=fun _=>True) (fun _ _ _=>trivial)) (hs.mono (S':=fun _=>True) (fun _ _ _=>trivial));rw[Xk] at hcl;refine hcl.mono ?_;clear hcl hi2 hs;rintro e w3 ⟨D0,m0',d0,D1,m1,d1,D2,m2,d2,rfl,hbr,hb3⟩;have hlen:m0'=1:=hbr.st.len.symm;subst hlen;have mr:=zt gF hb3;clear hb3 hbr
 go_upto_region 2 with (fail)
 have hx:=heap_alloc_new w3 (.cells #[.slice D0 1 d0,.slice D1 m1 d1,.slice D2 m2 d2,.int .i64 4] 28);have hal:Below w3.heap.size w3 (w3.alloc (.cells #[.slice D0 1 d0,.slice D1 m1 d1,.slice D2 m2 d2,.int .i64 4] 28)):=bz;have hlt:w3.heap.size<(w3.alloc (.cells #[.slice D0 1 d0,.slice D1 m1 d1,.slice D2 m2 d2,.int .i64 4] 28)).heap.size:=by simp
 generalize (w3.alloc (.cells #[.slice D0 1 d0,.slice D1 m1 d1,.slice D2 m2 d2,.int .i64 4] 28))=w4 at *;have HX:=zh hx;clear hx;have gW:Hid (Below w.heap.size w w4):=zt mr hal;clear hal;generalize w3.heap.size=g at *;go_wp2_with fail
 refine(Qh (e:=0)).mono ?_;rintro e w5 ⟨rfl,gG⟩;have hx:=(gG.block g hlt).trans HX.out;have x0:=zc 0 hx (.slice D0 1 d0) rfl;have x3:=zc 3 hx (.int .i64 4) rfl;have mo:=zt gW gG;clear gG hx;go_wp2
 go_ret
 exact⟨by rfl,mo.out⟩
theorem XO {tg tg0 tg1 tg2 tg4:Bool}{S S4:Nat→Prop}{w:World}{A0 A1 A2 A4 A5:Option Addr}{n0 c0 n1 c1 n2 c2 n4 c4 n5 c5:Nat}{b:Book}{r:Bb}(hb:Bv w S tg tg0 tg1 tg2 A0 n0 c0 A1 n1 c1 A2 n2 c2 b) (hn:n0≤999990∧n1≤999990∧n2≤999990) (hp:∀y∈b.Ba,y.place.length≤100000000) (hq:∀y∈b.things,y.list.length≤100000000) (mP:Sorted b) (hnx:-1≤b.next∧b.next≤1073741825) (hst:qM r.name∧qM r.digest) (hl:Sl tg4 3 Bo w S4 A4 n4 c4 r.list) (hsl:Sl tg4 88 qq w S4 A5 n5 c5 r.slots) (hok:qp r=true):
  Calls Tryz.prog 32 #[.agg #[.slice A0 n0 c0,.slice A1 n1 c1,.slice A2 n2 c2,.int .i64 b.next],.agg #[.int .i64 r.kind,.int .i64 r.id,.string r.name,.string r.digest,.slice A4 n4 c4,.slice A5 n5 c5]] w (xT (qs b r) w):=by
 obtain⟨⟨k1,k2⟩,hid,h2,h3,h4⟩:=zT hok;have mX:n4≤100000000∧n5≤100000000:=⟨by have:=hl.len;omega,by have:=hsl.len;omega⟩;clear hok h3 h4;obtain⟨k,id,nm,dg,li,sl⟩:=r;simp only at hst hl hsl k1 k2 hid h2⊢;rcases (by omega:k=1∨k=2∨k=3∨k=4∨k=5∨k=6∨k=7∨k=8) with h|h|h|h|h|h|h|h<;>subst h
 ·exact Xa hb hn hp hq mP hnx hid hst hl hsl mX
 ·exact Xc hb hn hp hq mP hnx hid hst hl hsl mX (h2 rfl)
 ·exact Xb hb hn hp hq mP hnx hid hst hl hsl mX
 ·exact Xd hb hn hp hq mP hnx hid hst hl hsl mX
 ·exact Xe hb hn hp hq mP hnx hid hst hl hsl mX
 ·exact Xf hb hn hp hq mP hnx hid hst hl hsl mX
 ·exact Xg hb hn hp hq mP hnx hid hst hl hsl mX
 exact Xh hb hn hp hq mP hnx hid hst hl hsl mX
def FE (ic ib:Nat) (R9:Book×Int) (V:World) (i:Nat) (v:Value) (W:World):Prop:=
 (i=ic→∃D0 d0 e0 D1 d1 e1 D2 d2 e2,v=.tuple #[.agg #[.slice D0 d0 e0,.slice D1 d1 e1,.slice D2 d2 e2,.int .i64 R9.1.next],.int .i64 R9.2]∧Bv W (fun q=>V.heap.size≤q) true true true true D0 d0 e0 D1 d1 e1 D2 d2 e2 R9.1)∧
 (i=ib→∃g,v=.pointer (some ⟨g,0,none⟩)∧V.heap.size≤g∧W.heap[g]?=some (.cells #[.slice none 0 0,.slice none 0 0,.slice none 0 0,.int .i64 0] 28 (0,0)))
theorem FE.all {ic ib:Nat}{R9:Book×Int}{V W W':World}(hb:Below W.heap.size W W') (j:Nat) (v:Value) (h:FE ic ib R9 V j v W):FE ic ib R9 V j v W':=
 ⟨fun hj=>by obtain⟨D0,d0,e0,D1,d1,e1,D2,d2,e2,e,t⟩:=h.1 hj;exact⟨D0,d0,e0,D1,d1,e1,D2,d2,e2,e,t.all hb⟩,fun hj=>by obtain⟨g,a,b,c⟩:=h.2 hj;exact⟨g,a,b,zb hb c⟩⟩
theorem Bv.Cc {W V:World}{S:Nat→Prop}{D0:Option Addr}{d0 e0:Nat}{D1:Option Addr}{d1 e1:Nat}{D2:Option Addr}{d2 e2 g:Nat}{b:Book}{cur:Array Value}{T:TypeId}{fr:Nat×Nat}(h:Bv W S true true true true D0 d0 e0 D1 d1 e1 D2 d2 e2 b) (hT:T=28∨T=61) (hg:W.heap[g]?=some (.cells cur T fr)) (hA:Agree (fun q=>q≠g) W V) (hs:W.heap.size≤V.heap.size):
  Bv V S true true true true D0 d0 e0 D1 d1 e1 D2 d2 e2 b:=by
 have ha:∀q,S q→q<W.heap.size→(∀k,W.shape? q≠some (T,k))→V.heap[q]?=W.heap[q]?:=fun q _ hq hk=>hA q (fun e=>by
  subst e
  exact hk _ (qy hg)) hq
 have n1:86≠T:=by rcases hT with h|h<;>rw[h]<;>decide
 have n2:90≠T:=by rcases hT with h|h<;>rw[h]<;>decide
 have n3:94≠T:=by rcases hT with h|h<;>rw[h]<;>decide
 have n4:88≠T:=by rcases hT with h|h<;>rw[h]<;>decide
 have n5:3≠T:=by rcases hT with h|h<;>rw[h]<;>decide
 exact⟨h.st.Cc (jP n4) n1 ha hs,h.th.Cc (kw n5) n2 ha hs,h.ta.Cc BU.flat n3 ha hs,h.nx⟩
noncomputable def Fu:Code:=((Tryz.f40.body.bind (qk 5)).getD .skip)
theorem of5 {Q:Exit→Act→World→Prop}{σ:Act}{w:World}{R9:Book×Int}{g6 b9 o9 n c k m0 k0 m1 k1 m2 k2 n4 c4 n5 c5:Nat}{B0 B1 B2 A4 A5:Option Addr}{nx:Int}{r:Bb}(hlt:k<n) (R6:Hid (w.heap[g6]?=some (.cells #[.slice B0 m0 k0,.slice B1 m1 k1,.slice B2 m2 k2,.int .i64 nx] 28 (0,0)))) (nA:Hid (∀V,Below w.heap.size w V→V.cell? ⟨b9,o9+k* 6,none⟩=some (.int .i64 r.kind)∧V.cell? ⟨b9,o9+k* 6+1,none⟩=some (.int .i64 r.id)∧V.cell? ⟨b9,o9+k* 6+2,none⟩=some (.string r.name)∧V.cell? ⟨b9,o9+k* 6+3,none⟩=some (.string r.digest)∧V.cell? ⟨b9,o9+k* 6+4,none⟩=some (.slice A4 n4 c4)∧V.cell? ⟨b9,o9+k* 6+5,none⟩=some (.slice A5 n5 c5))) (mC:Hid (∀V,Below w.heap.size w V→Calls Tryz.prog 32 #[.agg #[.slice B0 m0 k0,.slice B1 m1 k1,.slice B2 m2 k2,.int .i64 nx],.agg #[.int .i64 r.kind,.int .i64 r.id,.string r.name,.string r.digest,.slice A4 n4 c4,.slice A5 n5 c5]] V (xT R9 V))) (hσ:σ.tmps.size=36) (s6:σ.eval (.tmp 6)=.pointer (some ⟨g6,0,none⟩)) (s1:σ.eval (.tmp 1)=.slice (some ⟨b9,o9,none⟩) n c) (s7:σ.eval (.tmp 7)=.int .i64 (k:Int))
  (hend:∀(v:Nat→Value) (wz:World) (g:Nat) (D0:Option Addr) (d0 e0:Nat) (D1:Option Addr) (d1 e1:Nat) (D2:Option Addr) (d2 e2:Nat),v 8=.pointer (some ⟨g,0,none⟩)→v 9=.int .i64 R9.2→w.heap.size≤g→wz.heap[g]?=some (.cells #[.slice D0 d0 e0,.slice D1 d1 e1,.slice D2 d2 e2,.int .i64 R9.1.next] 28 (0,0))→Bv wz (fun q=>w.heap.size≤q) true true true true D0 d0 e0 D1 d1 e1 D2 d2 e2 R9.1→Below w.heap.size w wz→Q .normal (qb σ (([17,18,19,20,21,22,16,23,24,8,9]:List Nat).map fun d=>(d,v d))) wz):
  Fu.wp Tryz.prog Q σ w:=by
 conv=>arg 2;whnf
 refine rF 36 hσ [17,18,19,20,21,22,16,23,24,8,9] [5,9,10]
   [kp 17 (.agg #[.slice B0 m0 k0,.slice B1 m1 k1,.slice B2 m2 k2,.int .i64 nx]),kp 18 (.slice (some ⟨b9,o9,none⟩) n c),ki 19 k,kq 20 (b9) (o9+k* 6),kp 21 (.agg #[.int .i64 r.kind,.int .i64 r.id,.string r.name,.string r.digest,.slice A4 n4 c4,.slice A5 n5 c5]),(16,[5],fun l=>l.getD 0 undef),(23,[5],fun l=>qD 0 (l.getD 0 undef)),(24,[5],fun l=>qD 1 (l.getD 0 undef)),(9,[5],fun l=>qD 1 (l.getD 0 undef))]
   [[10],[10],[10],[10],[10],[10],[10],[10],[],[10]] [[],[],[],[],[],[],[],[],[],[],[5,9]] (CG w (FE 5 9 R9 w) 10 (Ee 9 5 0)) .init ⟨?_,.q s1,.q s7,?_,?_,?_,.a,?_,?_,?_,?_,.a,trivial⟩ ?_
 ·(refine Bh.rd rfl rfl (fun ρ us w6 ho ht hc hl hsrc hW=>?_);have e6:=zv (ho 6 rfl) (.pointer (some ⟨g6,0,none⟩)) s6;have r7:=((hW.early (hl 10 (by decide))).1.block _ (zl R6.out)).trans R6.out;have y0:=zo 0 r7;have y1:=zo 1 r7;have y2:=zo 2 r7;have y3:=zo 3 r7;clear r7;clear ht ho;simp only[execOp,e6];go_simp;try rfl)
 ·(refine .r2 (.slice (some ⟨b9,o9,none⟩) n c) (.int .i64 (k:Int)) fun _ _ _ e18 e19 _ _ _ _=>?_;simp only[execOp,e18,e19];go_simp;first|rfl|(simp;omega)|(congr;omega))
 ·(refine .r1 (.pointer (some ⟨b9,o9+k* 6,none⟩)) fun _ _ w6 vg _ hl _ hW=>?_;obtain⟨y0,y1,y2,y3,y4,y5⟩:=nA.out w6 (hW.early (hl 10 (by decide))).1;simp only[execOp,vg];go_simp;try rfl)
 ·refine Bh.wr rfl (fun Z us w6 ho ht hni hlim gh hW K hK=>?_);have e17:=zv (ht 17 (by decide)) (.agg #[.slice B0 m0 k0,.slice B1 m1 k1,.slice B2 m2 k2,.int .i64 nx]) rfl;have nH:=zv (ht 21 (by decide)) (.agg #[.int .i64 r.kind,.int .i64 r.id,.string r.name,.string r.digest,.slice A4 n4 c4,.slice A5 n5 c5]) rfl;have hn:=hlim 10 (by decide);have gp:=(hW.early hn).1;have hcl:=mC.out w6 gp;refine qo rfl 32 #[.tmp 17,.tmp 21] #[28,61] rfl Tryz.func32 (by kernel_rfl) (by kernel_rfl) #[.agg #[.slice B0 m0 k0,.slice B1 m1 k1,.slice B2 m2 k2,.int .i64 nx],.agg #[.int .i64 r.kind,.int .i64 r.id,.string r.name,.string r.digest,.slice A4 n4 c4,.slice A5 n5 c5]] (by simp[e17,nH];try first|done|rfl|exact⟨rfl,rfl⟩) (hcl) ?_;rintro e w7 ⟨D0,d0,e0,D1,d1,e1,D2,d2,e2,rfl,hbr,gq⟩;exact⟨_,rfl,hK _ _ (hW.snoc (by decide) hn gq (fun j v h=>FE.all gq j v h) ⟨fun _=>⟨D0,d0,e0,D1,d1,e1,D2,d2,e2,rfl,hbr.mono (fun q hq _=>Nat.le_trans gp.size hq)⟩,fun h=>absurd h (by decide)⟩)⟩
 ·refine Bh.rd rfl rfl (fun ρ us w6 ho ht hc hl hsrc hW=>?_);obtain⟨v8,W7,l8,r8⟩:=hW.ever (hsrc 5 (by exact(List.mem_singleton.2 rfl:(5:Nat)∈[5]))) (by decide);obtain⟨D0,d0,e0,D1,d1,e1,D2,d2,e2,rfl,hbr⟩:=r8.1 rfl;have e3:=((ht 16 (by decide)).trans (show _=(us.lookup 5).getD undef from rfl)).trans (show _=(.tuple #[.agg #[.slice D0 d0 e0,.slice D1 d1 e1,.slice D2 d2 e2,.int .i64 R9.1.next],.int .i64 R9.2]:Value) by rw[l8];rfl);change _=Result.ok (Next.value (qD 0 ((us.lookup 5).getD undef))) w6;rw[l8];clear ht ho hl hsrc hW l8 r8;simp only[execOp,e3];go_simp
  rfl
 ·refine Bh.rd rfl rfl (fun ρ us w6 ho ht hc hl hsrc hW=>?_);obtain⟨v8,W7,l8,r8⟩:=hW.ever (hsrc 5 (by exact(List.mem_singleton.2 rfl:(5:Nat)∈[5]))) (by decide);obtain⟨D0,d0,e0,D1,d1,e1,D2,d2,e2,rfl,hbr⟩:=r8.1 rfl;have e3:=((ht 16 (by decide)).trans (show _=(us.lookup 5).getD undef from rfl)).trans (show _=(.tuple #[.agg #[.slice D0 d0 e0,.slice D1 d1 e1,.slice D2 d2 e2,.int .i64 R9.1.next],.int .i64 R9.2]:Value) by rw[l8];rfl);change _=Result.ok (Next.value (qD 1 ((us.lookup 5).getD undef))) w6;rw[l8];clear ht ho hl hsrc hW l8 r8;simp only[execOp,e3];go_simp
  rfl
 ·refine Bh.wr rfl (fun Z us w6 ho ht hni hlim gh hW K hK=>?_);have hn:=hlim 10 (by decide);have hdone:=hW.snoc (i:=9) (x:=.pointer (some ⟨w6.heap.size,0,none⟩)) (by decide) hn ((Below.refl _ _).alloc (Nat.le_refl _) (.cells #[.slice none 0 0,.slice none 0 0,.slice none 0 0,.int .i64 0] 28)) (fun j v h=>FE.all ((Below.refl _ _).alloc (Nat.le_refl _) _) j v h) ⟨fun h=>absurd h (by decide),fun _=>⟨_,rfl,(hW.early hn).1.size,heap_alloc_new _ _⟩⟩;have mz:=zh hdone;clear hdone hW hni hlim gh ho ht hn;rw[if_pos (by simp[Region.wanted])];unfold Oper.wp;generalize Z.eval=ρ at *;simp only[execOp];go_simp
  exact hK _ _ mz.out
 ·refine Bh.wr rfl (fun Z us w6 ho ht hni hlim gh hW K hK=>?_);have hE:=hW.early hni;obtain⟨v8,l8,m8⟩:=qa (gh 5 (by decide));obtain⟨v12,l12,m12⟩:=qa (gh 9 (by decide));obtain⟨D0,d0,e0,D1,d1,e1,D2,d2,e2,rfl,hbr⟩:=(hE.2 5 v8 m8).1 rfl;obtain⟨g,rfl,hg,hr⟩:=(hE.2 9 v12 m12).2 rfl;have ea1:=((ht 8 (by decide)).trans (show _=(us.lookup 9).getD undef from rfl)).trans (show _=(.pointer (some ⟨g,0,none⟩):Value) by rw[l12];rfl);have ea13:=((ht 23 (by decide)).trans (show _=qD 0 ((us.lookup 5).getD undef) from rfl)).trans (show _=(.agg #[.slice D0 d0 e0,.slice D1 d1 e1,.slice D2 d2 e2,.int .i64 R9.1.next]:Value) by rw[l8];rfl);have hst:Ee 9 5 0 us w6=za g 0 [.slice D0 d0 e0,.slice D1 d1 e1,.slice D2 d2 e2,.int .i64 R9.1.next] w6:=by unfold Ee;rw[l12,l8];rfl
  have hdone:=hW.store hni (x:=undef);rw[hst] at hdone;have f0:=(zo 0 hr).trans (show _=some (.slice none 0 0:Value) from rfl);have q0:=zf 0 hr;have f1:=(zo 1 hr).trans (show _=some (.slice none 0 0:Value) from rfl);have q1:=zf 1 hr;have f2:=(zo 2 hr).trans (show _=some (.slice none 0 0:Value) from rfl);have q2:=zf 2 hr;have f3:=(zo 3 hr).trans (show _=some (.int .i64 0:Value) from rfl);have q3:=zf 3 hr;have mz:=zh hdone;clear hdone hW hni hlim gh ho ht hst hr l8 l12 m8 m12 hE hbr;rw[if_pos (by simp[Region.wanted])];unfold Oper.wp;generalize Z.eval=ρ at *;simp only[execOp,ea1,ea13];go_simp
  exact hK undef _ mz.out
 intro us wz hmem hW;obtain⟨gV,W6,x0,rfl,rfl,hb,hR,pH⟩:=hW.last (hmem 10 (by decide));obtain⟨v8,l8,m8⟩:=qa (qJ (hmem 5 (by decide)) (by decide));obtain⟨v12,l12,m12⟩:=qa (qJ (hmem 9 (by decide)) (by decide));obtain⟨D0,d0,e0,D1,d1,e1,D2,d2,e2,rfl,hbr⟩:=(hR 5 v8 m8).1 rfl;obtain⟨g,rfl,hg,hr⟩:=(hR 9 v12 m12).2 rfl;have hst:Ee 9 5 0 gV W6=za g 0 [.slice D0 d0 e0,.slice D1 d1 e1,.slice D2 d2 e2,.int .i64 R9.1.next] W6:=by unfold Ee;rw[l12,l8];rfl
 rw[hst];have Hg:=hbr.Cc (.inl rfl) hr (V:=za g 0 [.slice D0 d0 e0,.slice D1 d1 e1,.slice D2 d2 e2,.int .i64 R9.1.next] W6) (fun q hq _=>zF hq _ _ _) (qU (Nat.le_refl _) _ 0 W6 (Below.refl g W6)).size;refine hend _ _ g D0 d0 e0 D1 d1 e1 D2 d2 e2 ?_ ?_ hg (kb hr) Hg (qU hg _ _ _ hb)
 ·show((gV++[(10,x0)]).lookup 9).getD undef=_;rw[zR (by decide),l12];rfl
 show qD 1 (((gV++[(10,x0)]).lookup 5).getD undef)=_;rw[zR (by decide),l8];rfl
end Go.Proofs.YtipecejghioicaaGreat
