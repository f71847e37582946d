/- Book.Do, for all records. -/
import Derived.Test.YtipecejghioicaaGreatY7s
import Derived.Test.YtipecejghioicaaGreatY12s
import Derived.Test.YtipecejghioicaaGreatP0s
import Derived.Deep.CutBlock
import Derived.Deep.Cut
set_option maxHeartbeats 4000000
set_option maxRecDepth 100000
namespace Go.Proofs.YtipecejghioicaaGreat
open Go.RowKit Go.Silo
def kG (X:Nat→Option Obj) (β bb:Nat) (is:Bool) (b b':Book) (w:World) (e:Ending) (w':World):Prop:=
 e=.returned (.int .i64 (if is then 0 else 3))∧(∃A0 n0 c0 A1 n1 c1 A2 n2 c2,OB X β bb A0 n0 c0 A1 n1 c1 A2 n2 c2 (if is then b' else b) w')∧Below β w w'
theorem ZL {X:Nat→Option Obj}{β bb:Nat}{w:World}{A0:Option Addr}{n0 c0:Nat}{A1:Option Addr}{n1 c1:Nat}{A2:Option Addr}{n2 c2:Nat}{b:Book}{i:Nat}{is:Bool}(gw:OB X β bb A0 n0 c0 A1 n1 c1 A2 n2 c2 b w) (his:is=true→i<n0) (hn:n0≤1000000):
  Calls Tryz.prog 98 #[.pointer (some ⟨bb,0,none⟩),.int .i64 (i:Int),.bool is] w (kG X β bb is b {b with Ba:=qN i b.Ba} w):=by
 have gi:=zh gw
 cases is with
 |false=>
  clear gw
  go_enter Tryz.func98,Tryz.ntmps98
  go_wp2
  go_ret
  exact⟨rfl,⟨_,_,_,_,_,_,_,_,_,gi.out⟩,Below.refl _ _⟩
 |true=>
  have hrow:=gw.row;have hbb:=gw.box;have x0:=zc 0 hrow (.slice A0 n0 c0) rfl;have HD:=zh (Qr (i:=i) gw.st (his rfl) hn);have hcap:n0≤9223372036854775807:=by omega
  have hi9:i<n0:=his rfl;clear gw his hrow
  go_enter Tryz.func98,Tryz.ntmps98
  go_wp2_with fail
  refine HD.out.mono ?_;clear x0;rintro e w2 ⟨rfl,hown,hgr⟩;have gF:=Cq.BI hgr;have hrow2:=(gF.agree bb (fun e=>gi.out.ap.b0 e.symm) gi.out.box).trans gi.out.row;have x0:=zc 0 hrow2 (.slice A0 n0 c0) rfl;have f0:=zf 0 hrow2;have HP:=zh (gi.out.put0 gF hown (.inl rfl));clear hown hgr gF hrow2;go_wp2
  go_ret
  exact⟨rfl,⟨_,_,_,_,_,_,_,_,_,HP.out.1⟩,HP.out.2⟩
theorem Xo {X:Nat→Option Obj}{β bb:Nat}{w:World}{A0:Option Addr}{n0 c0:Nat}{A1:Option Addr}{n1 c1:Nat}{A2:Option Addr}{n2 c2:Nat}{b:Book}{i:Nat}{is:Bool}(gw:OB X β bb A0 n0 c0 A1 n1 c1 A2 n2 c2 b w) (his:is=true→i<n1) (hn:n1≤1000000):
  Calls Tryz.prog 101 #[.pointer (some ⟨bb,1,none⟩),.int .i64 (i:Int),.bool is] w (kG X β bb is b {b with things:=qN i b.things} w):=by
 have gi:=zh gw
 cases is with
 |false=>
  clear gw
  go_enter Tryz.func101,Tryz.ntmps101
  go_wp2
  go_ret
  exact⟨rfl,⟨_,_,_,_,_,_,_,_,_,gi.out⟩,Below.refl _ _⟩
 |true=>
  have hrow:=gw.row;have hbb:=gw.box;have x0:=zc 1 hrow (.slice A1 n1 c1) rfl;have HD:=zh (QS (i:=i) gw.th (his rfl) hn);have hcap:n1≤9223372036854775807:=by omega
  have hi9:i<n1:=his rfl;clear gw his hrow
  go_enter Tryz.func101,Tryz.ntmps101
  go_wp2_with fail
  refine HD.out.mono ?_;clear x0;rintro e w2 ⟨rfl,hown,hgr⟩;have gF:=Cq.BI hgr;have hrow2:=(gF.agree bb (fun e=>gi.out.ap.b1 e.symm) gi.out.box).trans gi.out.row;have x0:=zc 1 hrow2 (.slice A1 n1 c1) rfl;have f0:=zf 1 hrow2;have HP:=zh (gi.out.put1 gF hown (.inl rfl));clear hown hgr gF hrow2;go_wp2
  go_ret
  exact⟨rfl,⟨_,_,_,_,_,_,_,_,_,HP.out.1⟩,HP.out.2⟩
theorem JQ {X:Nat→Option Obj}{β bb:Nat}{w:World}{A0:Option Addr}{n0 c0:Nat}{A1:Option Addr}{n1 c1:Nat}{A2:Option Addr}{n2 c2:Nat}{b:Book}{i:Nat}{is:Bool}(gw:OB X β bb A0 n0 c0 A1 n1 c1 A2 n2 c2 b w) (his:is=true→i<n2) (hn:n2≤1000000):
  Calls Tryz.prog 105 #[.pointer (some ⟨bb,2,none⟩),.int .i64 (i:Int),.bool is] w (kG X β bb is b {b with tags:=qN i b.tags} w):=by
 have gi:=zh gw
 cases is with
 |false=>
  clear gw
  go_enter Tryz.func105,Tryz.ntmps105
  go_wp2
  go_ret
  exact⟨rfl,⟨_,_,_,_,_,_,_,_,_,gi.out⟩,Below.refl _ _⟩
 |true=>
  have hrow:=gw.row;have hbb:=gw.box;have x0:=zc 2 hrow (.slice A2 n2 c2) rfl;have HD:=zh (Xe (i:=i) gw.ta (his rfl) hn);have hcap:n2≤9223372036854775807:=by omega
  have hi9:i<n2:=his rfl;clear gw his hrow
  go_enter Tryz.func105,Tryz.ntmps105
  go_wp2_with fail
  refine HD.out.mono ?_;clear x0;rintro e w2 ⟨rfl,hown,hgr⟩;have gF:=Cq.BI hgr;have hrow2:=(gF.agree bb (fun e=>gi.out.ap.b2 e.symm) gi.out.box).trans gi.out.row;have x0:=zc 2 hrow2 (.slice A2 n2 c2) rfl;have f0:=zf 2 hrow2;have HP:=zh (gi.out.put2 gF hown (.inl rfl));clear hown hgr gF hrow2;go_wp2
  go_ret
  exact⟨rfl,⟨_,_,_,_,_,_,_,_,_,HP.out.1⟩,HP.out.2⟩
end Go.Proofs.YtipecejghioicaaGreat
set_option maxHeartbeats 8000000
set_option maxRecDepth 100000
namespace Go.Proofs.YtipecejghioicaaGreat
open Go.RowKit Go.Silo
def CL (b:Book) (r:Bt):Option Book:=
 if r.kind=3 then (if Dk b.Ba r.id=true then some {b with Ba:=qN (jx b.Ba r.id) b.Ba} else none)
 else if r.kind=6 then (if Cw Entry.digest b.things r.digest=true then some {b with things:=qN (xl Entry.digest b.things r.digest) b.things} else none)
 else if r.kind=8 then (if Cw Tag.name b.tags r.name=true then some {b with tags:=qN (xl Tag.name b.tags r.name) b.tags} else none)
 else some (Ex b r)
def Cv (X:Nat→Option Obj) (β bb:Nat) (o:Option Book) (b:Book) (w:World) (e:Ending) (w':World):Prop:=
 e=.returned (.int .i64 (if o.isSome then 0 else 3))∧(∃A0 n0 c0 A1 n1 c1 A2 n2 c2,OB X β bb A0 n0 c0 A1 n1 c1 A2 n2 c2 (o.getD b) w')∧Below β w w'
theorem Cv.CX {X:Nat→Option Obj}{β bb:Nat}{is:Bool}{b b':Book}{o:Option Book}{w w1:World}{e:Ending}{w':World}(ho:o=if is=true then some b' else none) (hb:Below β w w1) (h:kG X β bb is b b' w1 e w'):Cv X β bb o b w e w':=by
 obtain⟨h1,h2,h3⟩:=h;subst ho
 cases is with
 |true=>exact⟨h1,h2,hb.trans h3⟩
 |false=>exact⟨h1,h2,hb.trans h3⟩
theorem Kf {tg:Bool}{S:Nat→Prop}{X:Nat→Option Obj}{β bb:Nat}{w:World}{A0:Option Addr}{n0 c0:Nat}{A1:Option Addr}{n1 c1:Nat}{A2:Option Addr}{n2 c2:Nat}{A4 A5:Option Addr}{n4 c4 n5 c5:Nat}{b:Book}{r:Bt}(gw:OB X β bb A0 n0 c0 A1 n1 c1 A2 n2 c2 b w) (hs:Sorted b)
  (hn:n0≤999999∧n1≤999999∧n2≤999999) (hnx:b.next≤1073741825∧-1≤b.next) (hid:0≤r.id∧r.id≤1073741824) (hst:zd r.name∧zd r.digest) (hl:Sl tg 3 Bd w S A4 n4 c4 r.list) (hsl:Sl tg 88 qz w S A5 n5 c5 r.slots) (hS:∀k,S k→k<β) (_hln:n4≤100000000∧n5≤100000000)
  (hk:r.kind=3∨r.kind=6∨r.kind=8):
  Calls Tryz.prog 63 #[.pointer (some ⟨bb,0,none⟩),.agg #[.int .i64 r.kind,.int .i64 r.id,.string r.name,.string r.digest,.slice A4 n4 c4,.slice A5 n5 c5]] w (Cv X β bb (CL b r) b w):=by
 obtain⟨kd,id,nm,dg,li,xs⟩:=r;simp only at hid hst hl hsl hk⊢;have p8:=gw.box;have hgl:Below w.heap.size w (w.alloc (.cells #[.int .i64 kd,.int .i64 id,.string nm,.string dg,.slice A4 n4 c4,.slice A5 n5 c5] 61)):=(Below.refl _ _).alloc (Nat.le_refl _) _;have mZ:=heap_alloc_new w (.cells #[.int .i64 kd,.int .i64 id,.string nm,.string dg,.slice A4 n4 c4,.slice A5 n5 c5] 61);have gi:=zh (gw.all hgl);have hgb:w.heap.size≠bb:=by omega
 have HG0:Hid (some w.heap.size≠qa A0∧some w.heap.size≠qa A1∧some w.heap.size≠qa A2):=zh ⟨fun e=>by have:=(gw.st.lt _ e.symm).2;omega,fun e=>by have:=(gw.th.lt _ e.symm).2;omega,fun e=>by have:=(gw.ta.lt _ e.symm).2;omega⟩;have HL:=zh (hl.all hgl);have pM:=zh (hsl.all hgl);have gK:=zh (show Below β w (w.alloc (.cells #[.int .i64 kd,.int .i64 id,.string nm,.string dg,.slice A4 n4 c4,.slice A5 n5 c5] 61)) from hgl.mono (Nat.le_trans gw.lo (Nat.le_of_lt p8)));have hlo:=gw.lo;have HN:=zh (And.intro gw.st.len (And.intro gw.th.len gw.ta.len));have pm:=zh hs;have hI1:Bo (id+1):=by unfold Bo;omega
 have hI2:Bo (max b.next (id+1)):=by unfold Bo;omega
 have hI0:Bo id:=by unfold Bo;omega
 have HFL:Hid (∀k,S k→k<(w.alloc (.cells #[.int .i64 kd,.int .i64 id,.string nm,.string dg,.slice A4 n4 c4,.slice A5 n5 c5] 61)).heap.size∧some k≠qa A0∧k≠bb):=zh (fun k hk=>by
  have h1:=hS k hk;refine⟨by simp;omega,fun e=>?_,by omega⟩
  have:=(gw.st.lt _ e.symm).1;omega)
 clear gw hl hsl hs
 go_enter Tryz.func63,Tryz.ntmps63
 rcases hk with rfl|rfl|rfl
 ·skip
  go_upto_region 9 with (fail)
  generalize (w.alloc (.cells #[.int .i64 3,.int .i64 id,.string nm,.string dg,.slice A4 n4 c4,.slice A5 n5 c5] 61))=w1 at *;have RR:=zh mZ;clear mZ hgl
  refine do9 (P:=fun k is=>k=jx b.Ba id∧is=Dk b.Ba id) gi RR (zh (fun V hV=>(kS (w:=V) (nx:=b.next) (x:=id) ((gi.out.all hV).st.sl (tg:=true)) (by omega) (fun i j h1 h2=>pm.out.s i j h1 (by rw[HN.out.1];exact h2))).mono (fun e w' he=>by
   obtain⟨k,hk,e1,h1,h2,hb⟩:=he
   exact⟨k,_,e1,Xx hk rfl h1 h2,hb⟩))) rfl rfl rfl ?_
  intro v w2 k is hv1 hv2 hp hb2;simp only[qc,BR,BS,BU,BV,Act.put,BO,BP,BQ];rw[hv1,hv2];obtain⟨rfl,rfl⟩:=hp;have rE:=zh (gi.out.all hb2);have gu:=zh (gK.out.trans (hb2.mono (Nat.le_trans hlo (Nat.le_of_lt gi.out.box))));clear hv1 hv2 hb2;have vX:=zh (ZL (i:=jx b.Ba id) (is:=Dk b.Ba id) rE.out (fun h=>by unfold Dk at h;have:=of_decide_eq_true h;rw[←HN.out.1];exact this.1) (by omega));have vY:Hid (CL b ⟨3,id,nm,dg,li,xs⟩=if Dk b.Ba id=true then some {b with Ba:=qN (jx b.Ba id) b.Ba} else none):=zh (by unfold CL;rfl);generalize CL b ⟨3,id,nm,dg,li,xs⟩=RR9 at *;obtain⟨vZ,his9⟩:∃vZ,vZ=Dk b.Ba id:=⟨_,rfl⟩;rw[←his9] at vX vY⊢;obtain⟨yY,hps9⟩:∃yY,yY=jx b.Ba id:=⟨_,rfl⟩;rw[←hps9] at vX vY⊢;clear his9 hps9;go_wp2_with fail
  refine vX.out.mono ?_;rintro e w3 nD;have HGO:=zh (Cv.CX vY.out gu.out nD);obtain⟨yZ,_,_⟩:=nD;generalize (if vZ=true then (0:Int) else 3)=er9 at yZ;subst yZ;go_wp2
  go_ret
  exact HGO.out
 ·skip
  go_upto_region 16 with (fail)
  generalize (w.alloc (.cells #[.int .i64 6,.int .i64 id,.string nm,.string dg,.slice A4 n4 c4,.slice A5 n5 c5] 61))=w1 at *;have RR:=zh mZ;clear mZ hgl
  refine do16 (P:=fun k is=>k=xl Entry.digest b.things dg∧is=Cw Entry.digest b.things dg) gi RR (zh (fun V hV=>(Zc (w:=V) (nx:=b.next) (x:=dg) ((gi.out.all hV).th.sl (tg:=true)) (by omega) (fun i j h1 h2=>pm.out.t i j h1 (by rw[HN.out.2.1];exact h2))).mono (fun e w' he=>by
   obtain⟨k,hk,e1,h1,h2,hb⟩:=he
   exact⟨k,_,e1,jJ hk rfl h1 h2,hb⟩))) rfl rfl rfl ?_
  intro v w2 k is hv1 hv2 hp hb2;simp only[qc,BR,BS,BU,BV,Act.put,BO,BP,BQ];rw[hv1,hv2];obtain⟨rfl,rfl⟩:=hp;have rE:=zh (gi.out.all hb2);have gu:=zh (gK.out.trans (hb2.mono (Nat.le_trans hlo (Nat.le_of_lt gi.out.box))));clear hv1 hv2 hb2;have vX:=zh (Xo (i:=xl Entry.digest b.things dg) (is:=Cw Entry.digest b.things dg) rE.out (fun h=>by unfold Cw at h;have:=of_decide_eq_true h;rw[←HN.out.2.1];exact this.1) (by omega));have vY:Hid (CL b ⟨6,id,nm,dg,li,xs⟩=if Cw Entry.digest b.things dg=true then some {b with things:=qN (xl Entry.digest b.things dg) b.things} else none):=zh (by unfold CL;rfl);generalize CL b ⟨6,id,nm,dg,li,xs⟩=RR9 at *;obtain⟨vZ,his9⟩:∃vZ,vZ=Cw Entry.digest b.things dg:=⟨_,rfl⟩;rw[←his9] at vX vY⊢;obtain⟨yY,hps9⟩:∃yY,yY=xl Entry.digest b.things dg:=⟨_,rfl⟩;rw[←hps9] at vX vY⊢;clear his9 hps9;go_wp2_with fail
  refine vX.out.mono ?_;rintro e w3 nD;have HGO:=zh (Cv.CX vY.out gu.out nD);obtain⟨yZ,_,_⟩:=nD;generalize (if vZ=true then (0:Int) else 3)=er9 at yZ;subst yZ;go_wp2
  go_ret
  exact HGO.out
 skip
 go_upto_region 22 with (fail)
 generalize (w.alloc (.cells #[.int .i64 8,.int .i64 id,.string nm,.string dg,.slice A4 n4 c4,.slice A5 n5 c5] 61))=w1 at *;have RR:=zh mZ;clear mZ hgl
 refine do22 (P:=fun k is=>k=xl Tag.name b.tags nm∧is=Cw Tag.name b.tags nm) gi RR (zh (fun V hV=>(kr (w:=V) (x:=nm) ((gi.out.all hV).ta.sl (tg:=true)) (by omega) (fun i j h1 h2=>pm.out.g i j h1 (by rw[HN.out.2.2];exact h2))).mono (fun e w' he=>by
  obtain⟨k,hk,e1,h1,h2,hb⟩:=he
  exact⟨k,_,e1,jJ hk rfl h1 h2,hb⟩))) rfl rfl rfl ?_
 intro v w2 k is hv1 hv2 hp hb2;simp only[qc,BR,BS,BU,BV,Act.put,BO,BP,BQ];rw[hv1,hv2];obtain⟨rfl,rfl⟩:=hp;have rE:=zh (gi.out.all hb2);have gu:=zh (gK.out.trans (hb2.mono (Nat.le_trans hlo (Nat.le_of_lt gi.out.box))));clear hv1 hv2 hb2;have vX:=zh (JQ (i:=xl Tag.name b.tags nm) (is:=Cw Tag.name b.tags nm) rE.out (fun h=>by unfold Cw at h;have:=of_decide_eq_true h;rw[←HN.out.2.2];exact this.1) (by omega));have vY:Hid (CL b ⟨8,id,nm,dg,li,xs⟩=if Cw Tag.name b.tags nm=true then some {b with tags:=qN (xl Tag.name b.tags nm) b.tags} else none):=zh (by unfold CL;rfl);generalize CL b ⟨8,id,nm,dg,li,xs⟩=RR9 at *;obtain⟨vZ,his9⟩:∃vZ,vZ=Cw Tag.name b.tags nm:=⟨_,rfl⟩;rw[←his9] at vX vY⊢;obtain⟨yY,hps9⟩:∃yY,yY=xl Tag.name b.tags nm:=⟨_,rfl⟩;rw[←hps9] at vX vY⊢;clear his9 hps9;go_wp2_with fail
 refine vX.out.mono ?_;rintro e w3 nD;have HGO:=zh (Cv.CX vY.out gu.out nD);obtain⟨yZ,_,_⟩:=nD;generalize (if vZ=true then (0:Int) else 3)=er9 at yZ;subst yZ;go_wp2
 go_ret
 exact HGO.out
end Go.Proofs.YtipecejghioicaaGreat
