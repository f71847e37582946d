import Derived.Test.YtipecejghioicaaGreatY24v
import Derived.Test.YtipecejghioicaaGreatJ14v
import Derived.Test.YtipecejghioicaaGreatJ15v
import Derived.Test.YtipecejghioicaaGreatJ16v
import Derived.Test.YtipecejghioicaaGreatJ17v
set_option maxHeartbeats 8000000
set_option maxRecDepth 100000
namespace Go.Proofs.YtipecejghioicaaGreat
open Go.RowKit Go.Silo
theorem kb {w:World}{e:Int}:Calls Tryz.prog 20 #[.int .i64 e] w (Bh (.int .i64 e) w):=by
 go_enter Tryz.func20,Tryz.ntmps20
 go_wp2
 go_ret
 exact⟨rfl,bz⟩
def jb (s:Shape) (b:Book):Int:=if qD s b=true then 0 else 1
theorem jB {tg tg0 tg1 tg2:Bool}{S:Nat→Prop}{w:World}{A0 A1 A2:Option Addr}{n0 c0 n1 c1 n2 c2:Nat}{s:Shape}{b:Book}(hsi:Bg s.K∧Bg s.M∧Bg s.size) (hf:Ea b) (h:Bl w S tg tg0 tg1 tg2 A0 n0 c0 A1 n1 c1 A2 n2 c2 b):
  Calls Tryz.prog 33 #[.agg #[.int .i64 s.K,.int .i64 s.M,.int .i64 s.size],.agg #[.slice A0 n0 c0,.slice A1 n1 c1,.slice A2 n2 c2,.int .i64 b.next]] w (Bh (.int .i64 (jb s b)) w):=by
 have HM:=zh (fun W (hW:Below w.heap.size w W)=>JU (w:=W) hsi hf (h.all hW));clear h hf hsi;have hal:Below w.heap.size w ((w.alloc (.cells #[.int .i64 s.K,.int .i64 s.M,.int .i64 s.size] 23)).alloc (.cells #[.slice A0 n0 c0,.slice A1 n1 c1,.slice A2 n2 c2,.int .i64 b.next] 28)):=bz
 have mL:((w.alloc (.cells #[.int .i64 s.K,.int .i64 s.M,.int .i64 s.size] 23)).alloc (.cells #[.slice A0 n0 c0,.slice A1 n1 c1,.slice A2 n2 c2,.int .i64 b.next] 28)).heap[w.heap.size]?=some (.cells #[.int .i64 s.K,.int .i64 s.M,.int .i64 s.size] 23 (0,0)):=by
  rw[Below.heap_alloc _ _ _ (by simp;try omega)];have:=heap_alloc_new w (.cells #[.int .i64 s.K,.int .i64 s.M,.int .i64 s.size] 23);simpa only[World.size_alloc] using this
 have hr1:((w.alloc (.cells #[.int .i64 s.K,.int .i64 s.M,.int .i64 s.size] 23)).alloc (.cells #[.slice A0 n0 c0,.slice A1 n1 c1,.slice A2 n2 c2,.int .i64 b.next] 28)).heap[w.heap.size+1]?=some (.cells #[.slice A0 n0 c0,.slice A1 n1 c1,.slice A2 n2 c2,.int .i64 b.next] 28 (0,0)):=by
  have:=heap_alloc_new (w.alloc (.cells #[.int .i64 s.K,.int .i64 s.M,.int .i64 s.size] 23)) (.cells #[.slice A0 n0 c0,.slice A1 n1 c1,.slice A2 n2 c2,.int .i64 b.next] 28);simpa only[World.size_alloc] using this
 have hz:w.heap.size+1<((w.alloc (.cells #[.int .i64 s.K,.int .i64 s.M,.int .i64 s.size] 23)).alloc (.cells #[.slice A0 n0 c0,.slice A1 n1 c1,.slice A2 n2 c2,.int .i64 b.next] 28)).heap.size:=by simp
 go_enter Tryz.func33,Tryz.ntmps33
 go_upto_region 1 with (fail)
 generalize ((w.alloc (.cells #[.int .i64 s.K,.int .i64 s.M,.int .i64 s.size] 23)).alloc (.cells #[.slice A0 n0 c0,.slice A1 n1 c1,.slice A2 n2 c2,.int .i64 b.next] 28))=W0 at *;have gm:=zh (fun V (hV:Below W0.heap.size W0 V)=>hal.trans (hV.mono hal.size));clear hal;have ROW:=zh (fun V (hV:Below W0.heap.size W0 V)=>(show V.heap[w.heap.size]?=some (.cells #[.int .i64 s.K,.int .i64 s.M,.int .i64 s.size] 23 (0,0))∧V.heap[w.heap.size+1]?=some (.cells #[.slice A0 n0 c0,.slice A1 n1 c1,.slice A2 n2 c2,.int .i64 b.next] 28 (0,0)) from⟨(hV.block _ (by omega)).trans mL,(hV.block _ (by omega)).trans hr1⟩));clear mL hr1;obtain⟨r0,r1⟩:=ROW.out W0 (Below.refl _ _);obtain⟨gW,j6,ma⟩:=xQ r0;obtain⟨pX,ut,ui,vk⟩:=zC r1;clear r0 r1;go_wp2_with fail
 refine(HM.out _ (gm.out _ (Below.refl _ _))).mono ?_;clear gW j6 ma pX ut ui vk;rintro e w1 ⟨rfl,hb1⟩;have gG:=zh hb1;clear hb1;obtain⟨q,hq⟩:∃q,q=qD s b:=⟨_,rfl⟩;rw[←hq];have HQ:=zh hq.symm;clear hq
 cases q with
 |true=>
  have HE:Hid (jb s b=0):=zh (by unfold jb;rw[HQ.out];rfl);go_wp2
  go_ret
  exact⟨by rw[HE.out];rfl,gm.out _ gG.out⟩
 |false=>
  have HE:Hid (jb s b=1):=zh (by unfold jb;rw[HQ.out];rfl);go_wp2
  go_ret
  exact⟨by rw[HE.out];rfl,gm.out _ gG.out⟩
def xF (s:Shape) (b:Book):List Bc×Int:=if qD s b=true then (ja b,0) else ([],1)
def Zj (r:List Bc×Int) (w:World) (e:Ending) (w':World):Prop:=
 ∃A n c,e=.returned (.tuple #[.slice A n c,.int .i64 r.2])∧Sl true 61 (qi true) w' (fun k=>w.heap.size≤k) A n c r.1∧Below w.heap.size w w'
theorem xG {s:Shape}{b:Book}(h:qD s b=true):b.things.length≤60∧b.tags.length≤40:=by
 unfold qD at h;simp only[Bool.and_eq_true,decide_eq_true_eq] at h;obtain⟨_,_,_,hth,vZ⟩:=h;unfold qX at hth;unfold zW at vZ;simp only[Bool.and_eq_true,decide_eq_true_eq] at hth vZ;exact⟨hth.2.2,vZ.2⟩
theorem Zk {s:Shape}{b:Book}(h:qD s b=true):∀j,j<b.Ba.length→0≤(b.Ba.getD j default).id∧(b.Ba.getD j default).id≤1073741824:=fun j hj=>by
 have h1:=jR (zk h).2.2.1 j hj;have h2:=kL h1.1;exact⟨h2.2.2.2.1,h2.2.2.2.2.1⟩
theorem JZ {tg tg0 tg1 tg2:Bool}{S:Nat→Prop}{w:World}{A0 A1 A2:Option Addr}{n0 c0 n1 c1 n2 c2:Nat}{s:Shape}{b:Book}(hsi:Bg s.K∧Bg s.M∧Bg s.size) (hf:Ea b) (h:Bl w S tg tg0 tg1 tg2 A0 n0 c0 A1 n1 c1 A2 n2 c2 b):
  Calls Tryz.prog 42 #[.agg #[.int .i64 s.K,.int .i64 s.M,.int .i64 s.size],.agg #[.slice A0 n0 c0,.slice A1 n1 c1,.slice A2 n2 c2,.int .i64 b.next]] w (Zj (xF s b) w):=by
 have HM:=zh (fun W (hW:Below w.heap.size w W)=>JU (w:=W) hsi hf (h.all hW));have HA:=zh (fun W (hW:Below w.heap.size w W) (hq:qD s b=true)=>Kw (w:=W) (h.all hW) ⟨by have:=h.st.len;have:=hf.st;omega,by have:=h.th.len;have:=(xG hq).1;omega,by have:=h.ta.len;have:=(xG hq).2;omega⟩ hf.places hf.lists (Zk hq) (zk hq).2.1);clear h hf hsi;have hal:Below w.heap.size w ((w.alloc (.cells #[.int .i64 s.K,.int .i64 s.M,.int .i64 s.size] 23)).alloc (.cells #[.slice A0 n0 c0,.slice A1 n1 c1,.slice A2 n2 c2,.int .i64 b.next] 28)):=bz
 have mL:((w.alloc (.cells #[.int .i64 s.K,.int .i64 s.M,.int .i64 s.size] 23)).alloc (.cells #[.slice A0 n0 c0,.slice A1 n1 c1,.slice A2 n2 c2,.int .i64 b.next] 28)).heap[w.heap.size]?=some (.cells #[.int .i64 s.K,.int .i64 s.M,.int .i64 s.size] 23 (0,0)):=by
  rw[Below.heap_alloc _ _ _ (by simp;try omega)];have:=heap_alloc_new w (.cells #[.int .i64 s.K,.int .i64 s.M,.int .i64 s.size] 23);simpa only[World.size_alloc] using this
 have hr1:((w.alloc (.cells #[.int .i64 s.K,.int .i64 s.M,.int .i64 s.size] 23)).alloc (.cells #[.slice A0 n0 c0,.slice A1 n1 c1,.slice A2 n2 c2,.int .i64 b.next] 28)).heap[w.heap.size+1]?=some (.cells #[.slice A0 n0 c0,.slice A1 n1 c1,.slice A2 n2 c2,.int .i64 b.next] 28 (0,0)):=by
  have:=heap_alloc_new (w.alloc (.cells #[.int .i64 s.K,.int .i64 s.M,.int .i64 s.size] 23)) (.cells #[.slice A0 n0 c0,.slice A1 n1 c1,.slice A2 n2 c2,.int .i64 b.next] 28);simpa only[World.size_alloc] using this
 have hz:w.heap.size+1<((w.alloc (.cells #[.int .i64 s.K,.int .i64 s.M,.int .i64 s.size] 23)).alloc (.cells #[.slice A0 n0 c0,.slice A1 n1 c1,.slice A2 n2 c2,.int .i64 b.next] 28)).heap.size:=by simp
 go_enter Tryz.func42,Tryz.ntmps42
 go_upto_region 1 with (fail)
 generalize ((w.alloc (.cells #[.int .i64 s.K,.int .i64 s.M,.int .i64 s.size] 23)).alloc (.cells #[.slice A0 n0 c0,.slice A1 n1 c1,.slice A2 n2 c2,.int .i64 b.next] 28))=W0 at *;have gm:=zh (fun V (hV:Below W0.heap.size W0 V)=>hal.trans (hV.mono hal.size));clear hal;have ROW:=zh (fun V (hV:Below W0.heap.size W0 V)=>(show V.heap[w.heap.size]?=some (.cells #[.int .i64 s.K,.int .i64 s.M,.int .i64 s.size] 23 (0,0))∧V.heap[w.heap.size+1]?=some (.cells #[.slice A0 n0 c0,.slice A1 n1 c1,.slice A2 n2 c2,.int .i64 b.next] 28 (0,0)) from⟨(hV.block _ (by omega)).trans mL,(hV.block _ (by omega)).trans hr1⟩));clear mL hr1;obtain⟨r0,r1⟩:=ROW.out W0 (Below.refl _ _);obtain⟨gW,j6,ma⟩:=xQ r0;obtain⟨pX,ut,ui,vk⟩:=zC r1;clear r0 r1;go_wp2_with fail
 refine(HM.out _ (gm.out _ (Below.refl _ _))).mono ?_;clear gW j6 ma pX ut ui vk;rintro e w1 ⟨rfl,hb1⟩;have gG:=zh hb1;clear hb1;obtain⟨q,hq⟩:∃q,q=qD s b:=⟨_,rfl⟩;rw[←hq];have HQ:=zh hq.symm;clear hq
 cases q with
 |false=>
  have HE:Hid (xF s b=([],1)):=zh (by unfold xF;rw[HQ.out];rfl);go_wp2
  refine bodyPost_ret (v:=.tuple #[.slice none 0 0,.int .i64 1]) (by simp[results,Tryz.results42,go_sem, *];done) rfl ?_;exact⟨none,0,0,by rw[HE.out],by rw[HE.out];exact Sl.Bn (by omega),gm.out _ gG.out⟩
 |true=>
  have HE:Hid (xF s b=(ja b,0)):=zh (by unfold xF;rw[HQ.out];rfl);obtain⟨r0,r1⟩:=ROW.out w1 gG.out;obtain⟨pX,ut,ui,vk⟩:=zC r1;clear r0 r1;go_wp2_with fail
  refine(HA.out _ (gm.out _ gG.out) HQ.out).mono ?_;clear pX ut ui vk;rintro e w2 ⟨A,c,rfl,ho,hb2⟩;have HO:=zh ho;clear ho;have gM:=zt gG hb2;clear hb2;have hsz:=(gm.out _ gG.out).size;generalize mV:(ja b).length=n at *;have mg:=zh mV;clear mV;go_wp2
  refine bodyPost_ret (v:=.tuple #[.slice A n c,.int .i64 0]) (by simp[results,Tryz.results42,go_sem, *];done) rfl ?_;exact⟨A,n,c,by rw[HE.out],by rw[HE.out];exact(HO.out.sl (tg:=true)).mono (fun k hk _=>by rcases hk with hk|hk<;>omega),gm.out _ gM.out⟩
end Go.Proofs.YtipecejghioicaaGreat
namespace Go.Silo
open Go Go.RowKit
theorem CV.ever {V W:World}{R:Nat→Value→World→Prop}{s1:Nat}{st1:List (Nat×Value)→World→World}{us:List (Nat×Value)}(h:CV V R s1 st1 us W) {i:Nat}(hi:i∈us.map Prod.fst) (h1:i≠s1):∃v W0,us.lookup i=some v∧R i v W0:=by
 cases h with
 |pre _ hR _=>obtain⟨v,a,b⟩:=qa hi;exact⟨v,_,a,hR i v b⟩
 |@one gI W0 x _ hR _=>obtain⟨v,a,b⟩:=qa (qw hi h1);exact⟨v,_,by rw[qQ h1];exact a,hR i v b⟩
def Er (ib iv k:Nat) (us:List (Nat×Value)) (W:World):World:=Bf (JO ((us.lookup ib).getD undef)) 0 (QF (qt k ((us.lookup iv).getD undef))) W
def Es (g iv k:Nat) (us:List (Nat×Value)) (W:World):World:=Bf g 0 (QF (qt k ((us.lookup iv).getD undef))) W
end Go.Silo
namespace Go.Proofs.YtipecejghioicaaGreat
open Go.RowKit Go.Silo
theorem E5 {w:World}:Calls Tryz.prog 56 #[] w (Bh (.agg #[.int .i64 2,.int .i64 1,.int .i64 4]) w):=by
 go_enter Tryz.func56,Tryz.ntmps56
 go_wp2
 refine bodyPost_ret (v:=.agg #[.int .i64 2,.int .i64 1,.int .i64 4]) (by simp[results,Tryz.results56,go_sem, *];done) rfl ?_;exact⟨rfl,bz⟩
def Fh:Bc:=⟨2,3,⟨#[]⟩,⟨#[]⟩,[5,0],[(⟨0,0⟩:Slot),⟨1,0⟩,⟨2,0⟩]⟩
theorem XT:zE ⟨2,1,4⟩ ⟨[],[],[],0⟩ Fh=(⟨[⟨3,5,0,[(⟨0,0⟩:Slot),⟨1,0⟩,⟨2,0⟩]⟩],[],[],4⟩,0):=by decide
theorem Ck {w:World}:Calls Tryz.prog 27 #[] w (Bh (.bool true) w):=by
 go_enter Tryz.func27,Tryz.ntmps27
 go_wp2_with fail
 refine E5.mono ?_;rintro e w1 ⟨rfl,hb1⟩;have gG:=zh hb1;clear hb1;go_wp2_with fail
 have hi:=(Silo.Bj.lit (E:=Bo) (w:=w1) (S:=fun q=>True) (T:=3) (base:=0) [.int .i64 5,.int .i64 0] [5,0] 2 (Nat.zero_le _) (by decide) rfl rfl (fun k y hy=>by
  match k,hy with
  |0,hy=>injection hy with hy;subst hy;exact⟨rfl,by unfold Bg;decide⟩
  |1,hy=>injection hy with hy;subst hy;exact⟨rfl,by unfold Bg;decide⟩)).sl (tg:=true)
 have hs:=(Silo.Bj.lit (E:=qr) (w:=(w1.alloc (.cells #[.int .i64 5,.int .i64 0] 3))) (S:=fun q=>True) (T:=88) (base:=0) [.int .i64 0,.int .i64 0,.int .i64 1,.int .i64 0,.int .i64 2,.int .i64 0] [(⟨0,0⟩:Slot),⟨1,0⟩,⟨2,0⟩] 3 (Nat.zero_le _) (by decide) rfl rfl (fun k y hy=>by
  match k,hy with
  |0,hy=>injection hy with hy;subst hy;exact⟨rfl,by unfold Bg;decide,by unfold Bg;decide⟩
  |1,hy=>injection hy with hy;subst hy;exact⟨rfl,by unfold Bg;decide,by unfold Bg;decide⟩
  |2,hy=>injection hy with hy;subst hy;exact⟨rfl,by unfold Bg;decide,by unfold Bg;decide⟩)).sl (tg:=true)
 have hi2:=hi.all (w':=((w1.alloc (.cells #[.int .i64 5,.int .i64 0] 3)).alloc (.cells #[.int .i64 0,.int .i64 0,.int .i64 1,.int .i64 0,.int .i64 2,.int .i64 0] 88))) ((Below.refl _ _).alloc (Nat.le_refl _) _);have nR:Below w1.heap.size w1 ((w1.alloc (.cells #[.int .i64 5,.int .i64 0] 3)).alloc (.cells #[.int .i64 0,.int .i64 0,.int .i64 1,.int .i64 0,.int .i64 2,.int .i64 0] 88)):=bz;rw[World.size_alloc] at hs;generalize ((w1.alloc (.cells #[.int .i64 5,.int .i64 0] 3)).alloc (.cells #[.int .i64 0,.int .i64 0,.int .i64 1,.int .i64 0,.int .i64 2,.int .i64 0] 88))=w2 at *;have gM:=zt gG nR;clear nR hi;have hcl:=ka (w:=w2) (tg:=true) (tg0:=true) (tg1:=true) (tg2:=true) (S:=fun _=>False) (A0:=none) (n0:=0) (c0:=0) (A1:=none) (n1:=0) (c1:=0) (A2:=none) (n2:=0) (c2:=0) (s:=⟨2,1,4⟩) (b:=⟨[],[],[],0⟩) (r:=Fh) ⟨by unfold Bg;decide,by unfold Bg;decide,by unfold Bg;decide⟩ ⟨by decide,by decide,by decide⟩ ⟨Sl.Bn (by decide),Sl.Bn (by decide),Sl.Bn (by decide),by unfold Bg;decide⟩ ⟨zx,zx⟩ (hi2.mono (S':=fun _=>True) (fun _ _ _=>trivial)) (hs.mono (S':=fun _=>True) (fun _ _ _=>trivial));rw[XT] at hcl;refine hcl.mono ?_;clear hcl hi2 hs;rintro e w3 ⟨D0,m0',d0,D1,m1,d1,D2,m2,d2,rfl,hbr,hb3⟩;have hlen:m0'=1:=hbr.st.len.symm;subst hlen;have mO:=zt gM hb3;clear hb3 hbr
 go_upto_region 2 with (fail)
 have hx:=heap_alloc_new w3 (.cells #[.slice D0 1 d0,.slice D1 m1 d1,.slice D2 m2 d2,.int .i64 4] 28);have hal:Below w3.heap.size w3 (w3.alloc (.cells #[.slice D0 1 d0,.slice D1 m1 d1,.slice D2 m2 d2,.int .i64 4] 28)):=bz;have hlt:w3.heap.size<(w3.alloc (.cells #[.slice D0 1 d0,.slice D1 m1 d1,.slice D2 m2 d2,.int .i64 4] 28)).heap.size:=by simp
 generalize (w3.alloc (.cells #[.slice D0 1 d0,.slice D1 m1 d1,.slice D2 m2 d2,.int .i64 4] 28))=w4 at *;have HX:=zh hx;clear hx;have mf:Hid (Below w.heap.size w w4):=zt mO hal;clear hal;generalize w3.heap.size=g at *;go_wp2_with fail
 refine(kb (e:=0)).mono ?_;rintro e w5 ⟨rfl,gB⟩;have hx:=(gB.block g hlt).trans HX.out;have x0:=zc 0 hx (.slice D0 1 d0) rfl;have x3:=zc 3 hx (.int .i64 4) rfl;have mA:=zt mf gB;clear gB hx;go_wp2
 go_ret
 exact⟨by rfl,mA.out⟩
theorem kA {tg tg0 tg1 tg2 tg4:Bool}{S S4:Nat→Prop}{w:World}{A0 A1 A2 A4 A5:Option Addr}{n0 c0 n1 c1 n2 c2 n4 c4 n5 c5:Nat}{b:Book}{r:Bc}(hb:Bl w S tg tg0 tg1 tg2 A0 n0 c0 A1 n1 c1 A2 n2 c2 b) (hn:n0≤999990∧n1≤999990∧n2≤999990) (hp:∀y∈b.Ba,y.place.length≤100000000) (hq:∀y∈b.things,y.list.length≤100000000) (mP:Sorted b) (hnx:-1≤b.next∧b.next≤1073741825) (hst:qG r.name∧qG r.digest) (hl:Sl tg4 3 Bo w S4 A4 n4 c4 r.list) (hsl:Sl tg4 88 qr w S4 A5 n5 c5 r.slots) (hok:qI r=true):
  Calls Tryz.prog 32 #[.agg #[.slice A0 n0 c0,.slice A1 n1 c1,.slice A2 n2 c2,.int .i64 b.next],.agg #[.int .i64 r.kind,.int .i64 r.id,.string r.name,.string r.digest,.slice A4 n4 c4,.slice A5 n5 c5]] w (xD (qm b r) w):=by
 obtain⟨⟨k1,k2⟩,hid,h2,h3,h4⟩:=zF hok;have mV:n4≤100000000∧n5≤100000000:=⟨by have:=hl.len;omega,by have:=hsl.len;omega⟩;clear hok h3 h4;obtain⟨k,id,nm,dg,li,sl⟩:=r;simp only at hst hl hsl k1 k2 hid h2⊢;rcases (by omega:k=1∨k=2∨k=3∨k=4∨k=5∨k=6∨k=7∨k=8) with h|h|h|h|h|h|h|h<;>subst h
 ·exact XI hb hn hp hq mP hnx hid hst hl hsl mV
 ·exact XK hb hn hp hq mP hnx hid hst hl hsl mV (h2 rfl)
 ·exact XJ hb hn hp hq mP hnx hid hst hl hsl mV
 ·exact XL hb hn hp hq mP hnx hid hst hl hsl mV
 ·exact XM hb hn hp hq mP hnx hid hst hl hsl mV
 ·exact XN hb hn hp hq mP hnx hid hst hl hsl mV
 ·exact XO hb hn hp hq mP hnx hid hst hl hsl mV
 exact XP hb hn hp hq mP hnx hid hst hl hsl mV
def Fj (ic ib:Nat) (R9:Book×Int) (V:World) (i:Nat) (v:Value) (W:World):Prop:=
 (i=ic→∃D0 d0 e0 D1 d1 e1 D2 d2 e2,v=.tuple #[.agg #[.slice D0 d0 e0,.slice D1 d1 e1,.slice D2 d2 e2,.int .i64 R9.1.next],.int .i64 R9.2]∧Bl W (fun q=>V.heap.size≤q) true true true true D0 d0 e0 D1 d1 e1 D2 d2 e2 R9.1)∧
 (i=ib→∃g,v=.pointer (some ⟨g,0,none⟩)∧V.heap.size≤g∧W.heap[g]?=some (.cells #[.slice none 0 0,.slice none 0 0,.slice none 0 0,.int .i64 0] 28 (0,0)))
theorem Fj.all {ic ib:Nat}{R9:Book×Int}{V W W':World}(hb:Below W.heap.size W W') (j:Nat) (v:Value) (h:Fj ic ib R9 V j v W):Fj ic ib R9 V j v W':=
 ⟨fun hj=>by obtain⟨D0,d0,e0,D1,d1,e1,D2,d2,e2,e,t⟩:=h.1 hj;exact⟨D0,d0,e0,D1,d1,e1,D2,d2,e2,e,t.all hb⟩,fun hj=>by obtain⟨g,a,b,c⟩:=h.2 hj;exact⟨g,a,b,zb hb c⟩⟩
theorem Bl.BS {W V:World}{S:Nat→Prop}{D0:Option Addr}{d0 e0:Nat}{D1:Option Addr}{d1 e1:Nat}{D2:Option Addr}{d2 e2 g:Nat}{b:Book}{cur:Array Value}{T:TypeId}{fr:Nat×Nat}(h:Bl W S true true true true D0 d0 e0 D1 d1 e1 D2 d2 e2 b) (hT:T=28∨T=61) (hg:W.heap[g]?=some (.cells cur T fr)) (hA:Agree (fun q=>q≠g) W V) (hs:W.heap.size≤V.heap.size):
  Bl V S true true true true D0 d0 e0 D1 d1 e1 D2 d2 e2 b:=by
 have ha:∀q,S q→q<W.heap.size→(∀k,W.shape? q≠some (T,k))→V.heap[q]?=W.heap[q]?:=fun q _ hq hk=>hA q (fun e=>by
  subst e
  exact hk _ (qn hg)) hq
 have n1:86≠T:=by rcases hT with h|h<;>rw[h]<;>decide
 have n2:90≠T:=by rcases hT with h|h<;>rw[h]<;>decide
 have n3:94≠T:=by rcases hT with h|h<;>rw[h]<;>decide
 have n4:88≠T:=by rcases hT with h|h<;>rw[h]<;>decide
 have n5:3≠T:=by rcases hT with h|h<;>rw[h]<;>decide
 exact⟨h.st.BS (kn n4) n1 ha hs,h.th.BS (kS n5) n2 ha hs,h.ta.BS BL.flat n3 ha hs,h.nx⟩
noncomputable def I7:Code:=((Tryz.f40.body.bind (qe 5)).getD .skip)
theorem of5 {Q:Exit→Act→World→Prop}{σ:Act}{w:World}{R9:Book×Int}{g6 b9 o9 n c k m0 k0 m1 k1 m2 k2 n4 c4 n5 c5:Nat}{B0 B1 B2 A4 A5:Option Addr}{nx:Int}{r:Bc}(hlt:k<n) (R6:Hid (w.heap[g6]?=some (.cells #[.slice B0 m0 k0,.slice B1 m1 k1,.slice B2 m2 k2,.int .i64 nx] 28 (0,0)))) (mB:Hid (∀V,Below w.heap.size w V→V.cell? ⟨b9,o9+k* 6,none⟩=some (.int .i64 r.kind)∧V.cell? ⟨b9,o9+k* 6+1,none⟩=some (.int .i64 r.id)∧V.cell? ⟨b9,o9+k* 6+2,none⟩=some (.string r.name)∧V.cell? ⟨b9,o9+k* 6+3,none⟩=some (.string r.digest)∧V.cell? ⟨b9,o9+k* 6+4,none⟩=some (.slice A4 n4 c4)∧V.cell? ⟨b9,o9+k* 6+5,none⟩=some (.slice A5 n5 c5))) (mq:Hid (∀V,Below w.heap.size w V→Calls Tryz.prog 32 #[.agg #[.slice B0 m0 k0,.slice B1 m1 k1,.slice B2 m2 k2,.int .i64 nx],.agg #[.int .i64 r.kind,.int .i64 r.id,.string r.name,.string r.digest,.slice A4 n4 c4,.slice A5 n5 c5]] V (xD R9 V))) (hσ:σ.tmps.size=36) (s6:σ.eval (.tmp 6)=.pointer (some ⟨g6,0,none⟩)) (s1:σ.eval (.tmp 1)=.slice (some ⟨b9,o9,none⟩) n c) (s7:σ.eval (.tmp 7)=.int .i64 (k:Int))
  (hend:∀(v:Nat→Value) (wz:World) (g:Nat) (D0:Option Addr) (d0 e0:Nat) (D1:Option Addr) (d1 e1:Nat) (D2:Option Addr) (d2 e2:Nat),v 8=.pointer (some ⟨g,0,none⟩)→v 9=.int .i64 R9.2→w.heap.size≤g→wz.heap[g]?=some (.cells #[.slice D0 d0 e0,.slice D1 d1 e1,.slice D2 d2 e2,.int .i64 R9.1.next] 28 (0,0))→Bl wz (fun q=>w.heap.size≤q) true true true true D0 d0 e0 D1 d1 e1 D2 d2 e2 R9.1→Below w.heap.size w wz→Q .normal (qb σ (([17,18,19,20,21,22,16,23,24,8,9]:List Nat).map fun d=>(d,v d))) wz):
  I7.wp Tryz.prog Q σ w:=by
 conv=>arg 2;whnf
 refine rF 36 hσ [17,18,19,20,21,22,16,23,24,8,9] [5,9,10]
   [kp 17 (.agg #[.slice B0 m0 k0,.slice B1 m1 k1,.slice B2 m2 k2,.int .i64 nx]),kp 18 (.slice (some ⟨b9,o9,none⟩) n c),ki 19 k,kq 20 (b9) (o9+k* 6),kp 21 (.agg #[.int .i64 r.kind,.int .i64 r.id,.string r.name,.string r.digest,.slice A4 n4 c4,.slice A5 n5 c5]),(16,[5],fun l=>l.getD 0 undef),(23,[5],fun l=>qt 0 (l.getD 0 undef)),(24,[5],fun l=>qt 1 (l.getD 0 undef)),(9,[5],fun l=>qt 1 (l.getD 0 undef))]
   [[10],[10],[10],[10],[10],[10],[10],[10],[],[10]] [[],[],[],[],[],[],[],[],[],[],[5,9]] (CV w (Fj 5 9 R9 w) 10 (Er 9 5 0)) .init ⟨?_,.q s1,.q s7,?_,?_,?_,.a,?_,?_,?_,?_,.a,trivial⟩ ?_
 ·(refine Bi.rd rfl rfl (fun ρ us w6 ho ht hc hl hsrc hW=>?_);have e6:=zv (ho 6 rfl) (.pointer (some ⟨g6,0,none⟩)) s6;have r7:=((hW.early (hl 10 (by decide))).1.block _ (zl R6.out)).trans R6.out;have y0:=zo 0 r7;have y1:=zo 1 r7;have y2:=zo 2 r7;have y3:=zo 3 r7;clear r7;clear ht ho;simp only[execOp,e6];go_simp;try rfl)
 ·(refine .r2 (.slice (some ⟨b9,o9,none⟩) n c) (.int .i64 (k:Int)) fun _ _ _ e18 e19 _ _ _ _=>?_;simp only[execOp,e18,e19];go_simp;first|rfl|(simp;omega)|(congr;omega))
 ·(refine .r1 (.pointer (some ⟨b9,o9+k* 6,none⟩)) fun _ _ w6 vA _ hl _ hW=>?_;obtain⟨y0,y1,y2,y3,y4,y5⟩:=mB.out w6 (hW.early (hl 10 (by decide))).1;simp only[execOp,vA];go_simp;try rfl)
 ·refine Bi.wr rfl (fun Z us w6 ho ht hni hlim gf hW K hK=>?_);have e17:=zv (ht 17 (by decide)) (.agg #[.slice B0 m0 k0,.slice B1 m1 k1,.slice B2 m2 k2,.int .i64 nx]) rfl;have nM:=zv (ht 21 (by decide)) (.agg #[.int .i64 r.kind,.int .i64 r.id,.string r.name,.string r.digest,.slice A4 n4 c4,.slice A5 n5 c5]) rfl;have hn:=hlim 10 (by decide);have gu:=(hW.early hn).1;have hcl:=mq.out w6 gu;refine qh rfl 32 #[.tmp 17,.tmp 21] #[28,61] rfl Tryz.func32 (by kernel_rfl) (by kernel_rfl) #[.agg #[.slice B0 m0 k0,.slice B1 m1 k1,.slice B2 m2 k2,.int .i64 nx],.agg #[.int .i64 r.kind,.int .i64 r.id,.string r.name,.string r.digest,.slice A4 n4 c4,.slice A5 n5 c5]] (by simp[e17,nM];try first|done|rfl|exact⟨rfl,rfl⟩) (hcl) ?_;rintro e w7 ⟨D0,d0,e0,D1,d1,e1,D2,d2,e2,rfl,hbr,gy⟩;exact⟨_,rfl,hK _ _ (hW.snoc (by decide) hn gy (fun j v h=>Fj.all gy j v h) ⟨fun _=>⟨D0,d0,e0,D1,d1,e1,D2,d2,e2,rfl,hbr.mono (fun q hq _=>Nat.le_trans gu.size hq)⟩,fun h=>absurd h (by decide)⟩)⟩
 ·refine Bi.rd rfl rfl (fun ρ us w6 ho ht hc hl hsrc hW=>?_);obtain⟨v8,W7,l8,r8⟩:=hW.ever (hsrc 5 (by exact(List.mem_singleton.2 rfl:(5:Nat)∈[5]))) (by decide);obtain⟨D0,d0,e0,D1,d1,e1,D2,d2,e2,rfl,hbr⟩:=r8.1 rfl;have e3:=((ht 16 (by decide)).trans (show _=(us.lookup 5).getD undef from rfl)).trans (show _=(.tuple #[.agg #[.slice D0 d0 e0,.slice D1 d1 e1,.slice D2 d2 e2,.int .i64 R9.1.next],.int .i64 R9.2]:Value) by rw[l8];rfl);change _=Result.ok (Next.value (qt 0 ((us.lookup 5).getD undef))) w6;rw[l8];clear ht ho hl hsrc hW l8 r8;simp only[execOp,e3];go_simp
  rfl
 ·refine Bi.rd rfl rfl (fun ρ us w6 ho ht hc hl hsrc hW=>?_);obtain⟨v8,W7,l8,r8⟩:=hW.ever (hsrc 5 (by exact(List.mem_singleton.2 rfl:(5:Nat)∈[5]))) (by decide);obtain⟨D0,d0,e0,D1,d1,e1,D2,d2,e2,rfl,hbr⟩:=r8.1 rfl;have e3:=((ht 16 (by decide)).trans (show _=(us.lookup 5).getD undef from rfl)).trans (show _=(.tuple #[.agg #[.slice D0 d0 e0,.slice D1 d1 e1,.slice D2 d2 e2,.int .i64 R9.1.next],.int .i64 R9.2]:Value) by rw[l8];rfl);change _=Result.ok (Next.value (qt 1 ((us.lookup 5).getD undef))) w6;rw[l8];clear ht ho hl hsrc hW l8 r8;simp only[execOp,e3];go_simp
  rfl
 ·refine Bi.wr rfl (fun Z us w6 ho ht hni hlim gf hW K hK=>?_);have hn:=hlim 10 (by decide);have hdone:=hW.snoc (i:=9) (x:=.pointer (some ⟨w6.heap.size,0,none⟩)) (by decide) hn ((Below.refl _ _).alloc (Nat.le_refl _) (.cells #[.slice none 0 0,.slice none 0 0,.slice none 0 0,.int .i64 0] 28)) (fun j v h=>Fj.all ((Below.refl _ _).alloc (Nat.le_refl _) _) j v h) ⟨fun h=>absurd h (by decide),fun _=>⟨_,rfl,(hW.early hn).1.size,heap_alloc_new _ _⟩⟩;have mb:=zh hdone;clear hdone hW hni hlim gf ho ht hn;rw[if_pos (by simp[Region.wanted])];unfold Oper.wp;generalize Z.eval=ρ at *;simp only[execOp];go_simp
  exact hK _ _ mb.out
 ·refine Bi.wr rfl (fun Z us w6 ho ht hni hlim gf hW K hK=>?_);have hE:=hW.early hni;obtain⟨v8,l8,m8⟩:=qa (gf 5 (by decide));obtain⟨v12,l12,m12⟩:=qa (gf 9 (by decide));obtain⟨D0,d0,e0,D1,d1,e1,D2,d2,e2,rfl,hbr⟩:=(hE.2 5 v8 m8).1 rfl;obtain⟨g,rfl,hg,hr⟩:=(hE.2 9 v12 m12).2 rfl;have ea1:=((ht 8 (by decide)).trans (show _=(us.lookup 9).getD undef from rfl)).trans (show _=(.pointer (some ⟨g,0,none⟩):Value) by rw[l12];rfl);have ea13:=((ht 23 (by decide)).trans (show _=qt 0 ((us.lookup 5).getD undef) from rfl)).trans (show _=(.agg #[.slice D0 d0 e0,.slice D1 d1 e1,.slice D2 d2 e2,.int .i64 R9.1.next]:Value) by rw[l8];rfl);have hst:Er 9 5 0 us w6=Bf g 0 [.slice D0 d0 e0,.slice D1 d1 e1,.slice D2 d2 e2,.int .i64 R9.1.next] w6:=by unfold Er;rw[l12,l8];rfl
  have hdone:=hW.store hni (x:=undef);rw[hst] at hdone;have f0:=(zo 0 hr).trans (show _=some (.slice none 0 0:Value) from rfl);have q0:=zf 0 hr;have f1:=(zo 1 hr).trans (show _=some (.slice none 0 0:Value) from rfl);have q1:=zf 1 hr;have f2:=(zo 2 hr).trans (show _=some (.slice none 0 0:Value) from rfl);have q2:=zf 2 hr;have f3:=(zo 3 hr).trans (show _=some (.int .i64 0:Value) from rfl);have q3:=zf 3 hr;have mb:=zh hdone;clear hdone hW hni hlim gf ho ht hst hr l8 l12 m8 m12 hE hbr;rw[if_pos (by simp[Region.wanted])];unfold Oper.wp;generalize Z.eval=ρ at *;simp only[execOp,ea1,ea13];go_simp
  exact hK undef _ mb.out
 intro us wz hmem hW;obtain⟨gI,W6,x0,rfl,rfl,hb,hR,pu⟩:=hW.last (hmem 10 (by decide));obtain⟨v8,l8,m8⟩:=qa (qw (hmem 5 (by decide)) (by decide));obtain⟨v12,l12,m12⟩:=qa (qw (hmem 9 (by decide)) (by decide));obtain⟨D0,d0,e0,D1,d1,e1,D2,d2,e2,rfl,hbr⟩:=(hR 5 v8 m8).1 rfl;obtain⟨g,rfl,hg,hr⟩:=(hR 9 v12 m12).2 rfl;have hst:Er 9 5 0 gI W6=Bf g 0 [.slice D0 d0 e0,.slice D1 d1 e1,.slice D2 d2 e2,.int .i64 R9.1.next] W6:=by unfold Er;rw[l12,l8];rfl
 rw[hst];have uV:=hbr.BS (.inl rfl) hr (V:=Bf g 0 [.slice D0 d0 e0,.slice D1 d1 e1,.slice D2 d2 e2,.int .i64 R9.1.next] W6) (fun q hq _=>qz hq _ _ _) (qA (Nat.le_refl _) _ 0 W6 (Below.refl g W6)).size;refine hend _ _ g D0 d0 e0 D1 d1 e1 D2 d2 e2 ?_ ?_ hg (ju hr) uV (qA hg _ _ _ hb)
 ·show((gI++[(10,x0)]).lookup 9).getD undef=_;rw[qQ (by decide),l12];rfl
 show qt 1 (((gI++[(10,x0)]).lookup 5).getD undef)=_;rw[qQ (by decide),l8];rfl
end Go.Proofs.YtipecejghioicaaGreat
