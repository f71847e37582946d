/- Record.May: may a record be? -/
import Derived.Test.YtipecejghioicaaGreatY7p
import Derived.Test.YtipecejghioicaaGreatY12p
import Derived.Test.YtipecejghioicaaGreatDatap
import Derived.Deep.CutBlock
import Derived.Deep.Cut
import Derived.Test.YtipecejghioicaaGreatQ2p
import Derived.Test.YtipecejghioicaaGreatE2p
import Derived.Laws.RangeString
import Derived.Laws.RangeAny
import Derived.Deep.Light
set_option maxHeartbeats 4000000
set_option maxRecDepth 100000
namespace Go.Proofs.YtipecejghioicaaGreat
open Go.RowKit Go.Silo
def kU (X:Nat→Option Obj) (β bb:Nat) (is:Bool) (b b':Book) (w:World) (e:Ending) (w':World):Prop:=
 e=.returned (.int .i64 (if is then 0 else 3))∧(∃A0 n0 c0 A1 n1 c1 A2 n2 c2,OB X β bb A0 n0 c0 A1 n1 c1 A2 n2 c2 (if is then b' else b) w')∧Below β w w'
theorem ZI {X:Nat→Option Obj}{β bb:Nat}{w:World}{A0:Option Addr}{n0 c0:Nat}{A1:Option Addr}{n1 c1:Nat}{A2:Option Addr}{n2 c2:Nat}{b:Book}{i:Nat}{is:Bool}(mv:OB X β bb A0 n0 c0 A1 n1 c1 A2 n2 c2 b w) (his:is=true→i<n0) (hn:n0≤1000000):
  Calls Tryz.prog 98 #[.pointer (some ⟨bb,0,none⟩),.int .i64 (i:Int),.bool is] w (kU X β bb is b {b with Ba:=zY i b.Ba} w):=by
 have gU:=zh mv
 cases is with
 |false=>
  clear mv
  go_enter Tryz.func98,Tryz.ntmps98
  go_wp2
  go_ret
  exact⟨rfl,⟨_,_,_,_,_,_,_,_,_,gU.out⟩,Below.refl _ _⟩
 |true=>
  have hrow:=mv.row;have hbb:=mv.box;have x0:=zc 0 hrow (.slice A0 n0 c0) rfl;have HD:=zh (QE (i:=i) mv.st (his rfl) hn);have hcap:n0≤9223372036854775807:=by omega
  have hi9:i<n0:=his rfl;clear mv his hrow
  go_enter Tryz.func98,Tryz.ntmps98
  go_wp2_with fail
  refine HD.out.mono ?_;clear x0;rintro e w2 ⟨rfl,hown,hgr⟩;have mC:=Cr.C8 hgr;have hrow2:=(mC.agree bb (fun e=>gU.out.ap.b0 e.symm) gU.out.box).trans gU.out.row;have x0:=zc 0 hrow2 (.slice A0 n0 c0) rfl;have f0:=zf 0 hrow2;have HP:=zh (gU.out.put0 mC hown (.inl rfl));clear hown hgr mC hrow2;go_wp2
  go_ret
  exact⟨rfl,⟨_,_,_,_,_,_,_,_,_,HP.out.1⟩,HP.out.2⟩
theorem Xs {X:Nat→Option Obj}{β bb:Nat}{w:World}{A0:Option Addr}{n0 c0:Nat}{A1:Option Addr}{n1 c1:Nat}{A2:Option Addr}{n2 c2:Nat}{b:Book}{i:Nat}{is:Bool}(mv:OB X β bb A0 n0 c0 A1 n1 c1 A2 n2 c2 b w) (his:is=true→i<n1) (hn:n1≤1000000):
  Calls Tryz.prog 101 #[.pointer (some ⟨bb,1,none⟩),.int .i64 (i:Int),.bool is] w (kU X β bb is b {b with things:=zY i b.things} w):=by
 have gU:=zh mv
 cases is with
 |false=>
  clear mv
  go_enter Tryz.func101,Tryz.ntmps101
  go_wp2
  go_ret
  exact⟨rfl,⟨_,_,_,_,_,_,_,_,_,gU.out⟩,Below.refl _ _⟩
 |true=>
  have hrow:=mv.row;have hbb:=mv.box;have x0:=zc 1 hrow (.slice A1 n1 c1) rfl;have HD:=zh (Zf (i:=i) mv.th (his rfl) hn);have hcap:n1≤9223372036854775807:=by omega
  have hi9:i<n1:=his rfl;clear mv his hrow
  go_enter Tryz.func101,Tryz.ntmps101
  go_wp2_with fail
  refine HD.out.mono ?_;clear x0;rintro e w2 ⟨rfl,hown,hgr⟩;have mC:=Cr.C8 hgr;have hrow2:=(mC.agree bb (fun e=>gU.out.ap.b1 e.symm) gU.out.box).trans gU.out.row;have x0:=zc 1 hrow2 (.slice A1 n1 c1) rfl;have f0:=zf 1 hrow2;have HP:=zh (gU.out.put1 mC hown (.inl rfl));clear hown hgr mC hrow2;go_wp2
  go_ret
  exact⟨rfl,⟨_,_,_,_,_,_,_,_,_,HP.out.1⟩,HP.out.2⟩
theorem Ka {X:Nat→Option Obj}{β bb:Nat}{w:World}{A0:Option Addr}{n0 c0:Nat}{A1:Option Addr}{n1 c1:Nat}{A2:Option Addr}{n2 c2:Nat}{b:Book}{i:Nat}{is:Bool}(mv:OB X β bb A0 n0 c0 A1 n1 c1 A2 n2 c2 b w) (his:is=true→i<n2) (hn:n2≤1000000):
  Calls Tryz.prog 105 #[.pointer (some ⟨bb,2,none⟩),.int .i64 (i:Int),.bool is] w (kU X β bb is b {b with tags:=zY i b.tags} w):=by
 have gU:=zh mv
 cases is with
 |false=>
  clear mv
  go_enter Tryz.func105,Tryz.ntmps105
  go_wp2
  go_ret
  exact⟨rfl,⟨_,_,_,_,_,_,_,_,_,gU.out⟩,Below.refl _ _⟩
 |true=>
  have hrow:=mv.row;have hbb:=mv.box;have x0:=zc 2 hrow (.slice A2 n2 c2) rfl;have HD:=zh (Xr (i:=i) mv.ta (his rfl) hn);have hcap:n2≤9223372036854775807:=by omega
  have hi9:i<n2:=his rfl;clear mv his hrow
  go_enter Tryz.func105,Tryz.ntmps105
  go_wp2_with fail
  refine HD.out.mono ?_;clear x0;rintro e w2 ⟨rfl,hown,hgr⟩;have mC:=Cr.C8 hgr;have hrow2:=(mC.agree bb (fun e=>gU.out.ap.b2 e.symm) gU.out.box).trans gU.out.row;have x0:=zc 2 hrow2 (.slice A2 n2 c2) rfl;have f0:=zf 2 hrow2;have HP:=zh (gU.out.put2 mC hown (.inl rfl));clear hown hgr mC hrow2;go_wp2
  go_ret
  exact⟨rfl,⟨_,_,_,_,_,_,_,_,_,HP.out.1⟩,HP.out.2⟩
end Go.Proofs.YtipecejghioicaaGreat
set_option maxHeartbeats 8000000
set_option maxRecDepth 100000
namespace Go.Proofs.YtipecejghioicaaGreat
open Go.RowKit Go.Silo
def Co (b:Book) (r:Bb):Option Book:=
 if r.kind=3 then (if CE b.Ba r.id=true then some {b with Ba:=zY (xq b.Ba r.id) b.Ba} else none)
 else if r.kind=6 then (if Ce Entry.digest b.things r.digest=true then some {b with things:=zY (zm Entry.digest b.things r.digest) b.things} else none)
 else if r.kind=8 then (if Ce Tag.name b.tags r.name=true then some {b with tags:=zY (zm Tag.name b.tags r.name) b.tags} else none)
 else some (EG b r)
def Cx (X:Nat→Option Obj) (β bb:Nat) (o:Option Book) (b:Book) (w:World) (e:Ending) (w':World):Prop:=
 e=.returned (.int .i64 (if o.isSome then 0 else 3))∧(∃A0 n0 c0 A1 n1 c1 A2 n2 c2,OB X β bb A0 n0 c0 A1 n1 c1 A2 n2 c2 (o.getD b) w')∧Below β w w'
theorem Cx.D5 {X:Nat→Option Obj}{β bb:Nat}{is:Bool}{b b':Book}{o:Option Book}{w w1:World}{e:Ending}{w':World}(ho:o=if is=true then some b' else none) (hb:Below β w w1) (h:kU X β bb is b b' w1 e w'):Cx X β bb o b w e w':=by
 obtain⟨h1,h2,h3⟩:=h;subst ho
 cases is with
 |true=>exact⟨h1,h2,hb.trans h3⟩
 |false=>exact⟨h1,h2,hb.trans h3⟩
theorem Kn {tg:Bool}{S:Nat→Prop}{X:Nat→Option Obj}{β bb:Nat}{w:World}{A0:Option Addr}{n0 c0:Nat}{A1:Option Addr}{n1 c1:Nat}{A2:Option Addr}{n2 c2:Nat}{A4 A5:Option Addr}{n4 c4 n5 c5:Nat}{b:Book}{r:Bb}(mv:OB X β bb A0 n0 c0 A1 n1 c1 A2 n2 c2 b w) (hs:Sorted b)
  (hn:n0≤999999∧n1≤999999∧n2≤999999) (hnx:b.next≤1073741825∧-1≤b.next) (hid:0≤r.id∧r.id≤1073741824) (hst:qN r.name∧qN r.digest) (hl:Sl tg 3 qD w S A4 n4 c4 r.list) (hsl:Sl tg 88 qp w S A5 n5 c5 r.slots) (hS:∀k,S k→k<β) (_hln:n4≤100000000∧n5≤100000000)
  (hk:r.kind=3∨r.kind=6∨r.kind=8):
  Calls Tryz.prog 63 #[.pointer (some ⟨bb,0,none⟩),.agg #[.int .i64 r.kind,.int .i64 r.id,.string r.name,.string r.digest,.slice A4 n4 c4,.slice A5 n5 c5]] w (Cx X β bb (Co b r) b w):=by
 obtain⟨kd,id,nm,dg,li,xs⟩:=r;simp only at hid hst hl hsl hk⊢;have rH:=mv.box;have hgl:Below w.heap.size w (w.alloc (.cells #[.int .i64 kd,.int .i64 id,.string nm,.string dg,.slice A4 n4 c4,.slice A5 n5 c5] 61)):=(Below.refl _ _).alloc (Nat.le_refl _) _;have nL:=heap_alloc_new w (.cells #[.int .i64 kd,.int .i64 id,.string nm,.string dg,.slice A4 n4 c4,.slice A5 n5 c5] 61);have gU:=zh (mv.all hgl);have hgb:w.heap.size≠bb:=by omega
 have HG0:Hid (some w.heap.size≠qd A0∧some w.heap.size≠qd A1∧some w.heap.size≠qd A2):=zh ⟨fun e=>by have:=(mv.st.lt _ e.symm).2;omega,fun e=>by have:=(mv.th.lt _ e.symm).2;omega,fun e=>by have:=(mv.ta.lt _ e.symm).2;omega⟩;have HL:=zh (hl.all hgl);have mZ:=zh (hsl.all hgl);have mq:=zh (show Below β w (w.alloc (.cells #[.int .i64 kd,.int .i64 id,.string nm,.string dg,.slice A4 n4 c4,.slice A5 n5 c5] 61)) from hgl.mono (Nat.le_trans mv.lo (Nat.le_of_lt rH)));have hlo:=mv.lo;have HN:=zh (And.intro mv.st.len (And.intro mv.th.len mv.ta.len));have pc:=zh hs;have hI1:Bn (id+1):=by unfold Bn;omega
 have hI2:Bn (max b.next (id+1)):=by unfold Bn;omega
 have hI0:Bn id:=by unfold Bn;omega
 have HFL:Hid (∀k,S k→k<(w.alloc (.cells #[.int .i64 kd,.int .i64 id,.string nm,.string dg,.slice A4 n4 c4,.slice A5 n5 c5] 61)).heap.size∧some k≠qd A0∧k≠bb):=zh (fun k hk=>by
  have h1:=hS k hk;refine⟨by simp;omega,fun e=>?_,by omega⟩
  have:=(mv.st.lt _ e.symm).1;omega)
 clear mv hl hsl hs
 go_enter Tryz.func63,Tryz.ntmps63
 rcases hk with rfl|rfl|rfl
 ·skip
  go_upto_region 9 with (fail)
  generalize (w.alloc (.cells #[.int .i64 3,.int .i64 id,.string nm,.string dg,.slice A4 n4 c4,.slice A5 n5 c5] 61))=w1 at *;have RR:=zh nL;clear nL hgl
  refine do9 (P:=fun k is=>k=xq b.Ba id∧is=CE b.Ba id) gU RR (zh (fun V hV=>(Qe (w:=V) (nx:=b.next) (x:=id) ((gU.out.all hV).st.sl (tg:=true)) (by omega) (fun i j h1 h2=>pc.out.s i j h1 (by rw[HN.out.1];exact h2))).mono (fun e w' he=>by
   obtain⟨k,hk,e1,h1,h2,hb⟩:=he
   exact⟨k,_,e1,kb hk rfl h1 h2,hb⟩))) rfl rfl rfl ?_
  intro v w2 k is hv1 hv2 hp hb2;simp only[qa,BG,BH,BI,BJ,Act.put,BC,BD,BF];rw[hv1,hv2];obtain⟨rfl,rfl⟩:=hp;have vP:=zh (gU.out.all hb2);have gM:=zh (mq.out.trans (hb2.mono (Nat.le_trans hlo (Nat.le_of_lt gU.out.box))));clear hv1 hv2 hb2;have GK:=zh (ZI (i:=xq b.Ba id) (is:=CE b.Ba id) vP.out (fun h=>by unfold CE at h;have:=of_decide_eq_true h;rw[←HN.out.1];exact this.1) (by omega));have GL:Hid (Co b ⟨3,id,nm,dg,li,xs⟩=if CE b.Ba id=true then some {b with Ba:=zY (xq b.Ba id) b.Ba} else none):=zh (by unfold Co;rfl);generalize Co b ⟨3,id,nm,dg,li,xs⟩=RR9 at *;obtain⟨GM,his9⟩:∃GM,GM=CE b.Ba id:=⟨_,rfl⟩;rw[←his9] at GK GL⊢;obtain⟨J4,hps9⟩:∃J4,J4=xq b.Ba id:=⟨_,rfl⟩;rw[←hps9] at GK GL⊢;clear his9 hps9;go_wp2_with fail
  refine GK.out.mono ?_;rintro e w3 rN;have HGO:=zh (Cx.D5 GL.out gM.out rN);obtain⟨J5,_,_⟩:=rN;generalize (if GM=true then (0:Int) else 3)=er9 at J5;subst J5;go_wp2
  go_ret
  exact HGO.out
 ·skip
  go_upto_region 16 with (fail)
  generalize (w.alloc (.cells #[.int .i64 6,.int .i64 id,.string nm,.string dg,.slice A4 n4 c4,.slice A5 n5 c5] 61))=w1 at *;have RR:=zh nL;clear nL hgl
  refine do16 (P:=fun k is=>k=zm Entry.digest b.things dg∧is=Ce Entry.digest b.things dg) gU RR (zh (fun V hV=>(Ze (w:=V) (nx:=b.next) (x:=dg) ((gU.out.all hV).th.sl (tg:=true)) (by omega) (fun i j h1 h2=>pc.out.t i j h1 (by rw[HN.out.2.1];exact h2))).mono (fun e w' he=>by
   obtain⟨k,hk,e1,h1,h2,hb⟩:=he
   exact⟨k,_,e1,zF hk rfl h1 h2,hb⟩))) rfl rfl rfl ?_
  intro v w2 k is hv1 hv2 hp hb2;simp only[qa,BG,BH,BI,BJ,Act.put,BC,BD,BF];rw[hv1,hv2];obtain⟨rfl,rfl⟩:=hp;have vP:=zh (gU.out.all hb2);have gM:=zh (mq.out.trans (hb2.mono (Nat.le_trans hlo (Nat.le_of_lt gU.out.box))));clear hv1 hv2 hb2;have GK:=zh (Xs (i:=zm Entry.digest b.things dg) (is:=Ce Entry.digest b.things dg) vP.out (fun h=>by unfold Ce at h;have:=of_decide_eq_true h;rw[←HN.out.2.1];exact this.1) (by omega));have GL:Hid (Co b ⟨6,id,nm,dg,li,xs⟩=if Ce Entry.digest b.things dg=true then some {b with things:=zY (zm Entry.digest b.things dg) b.things} else none):=zh (by unfold Co;rfl);generalize Co b ⟨6,id,nm,dg,li,xs⟩=RR9 at *;obtain⟨GM,his9⟩:∃GM,GM=Ce Entry.digest b.things dg:=⟨_,rfl⟩;rw[←his9] at GK GL⊢;obtain⟨J4,hps9⟩:∃J4,J4=zm Entry.digest b.things dg:=⟨_,rfl⟩;rw[←hps9] at GK GL⊢;clear his9 hps9;go_wp2_with fail
  refine GK.out.mono ?_;rintro e w3 rN;have HGO:=zh (Cx.D5 GL.out gM.out rN);obtain⟨J5,_,_⟩:=rN;generalize (if GM=true then (0:Int) else 3)=er9 at J5;subst J5;go_wp2
  go_ret
  exact HGO.out
 skip
 go_upto_region 22 with (fail)
 generalize (w.alloc (.cells #[.int .i64 8,.int .i64 id,.string nm,.string dg,.slice A4 n4 c4,.slice A5 n5 c5] 61))=w1 at *;have RR:=zh nL;clear nL hgl
 refine do22 (P:=fun k is=>k=zm Tag.name b.tags nm∧is=Ce Tag.name b.tags nm) gU RR (zh (fun V hV=>(kF (w:=V) (x:=nm) ((gU.out.all hV).ta.sl (tg:=true)) (by omega) (fun i j h1 h2=>pc.out.g i j h1 (by rw[HN.out.2.2];exact h2))).mono (fun e w' he=>by
  obtain⟨k,hk,e1,h1,h2,hb⟩:=he
  exact⟨k,_,e1,zF hk rfl h1 h2,hb⟩))) rfl rfl rfl ?_
 intro v w2 k is hv1 hv2 hp hb2;simp only[qa,BG,BH,BI,BJ,Act.put,BC,BD,BF];rw[hv1,hv2];obtain⟨rfl,rfl⟩:=hp;have vP:=zh (gU.out.all hb2);have gM:=zh (mq.out.trans (hb2.mono (Nat.le_trans hlo (Nat.le_of_lt gU.out.box))));clear hv1 hv2 hb2;have GK:=zh (Ka (i:=zm Tag.name b.tags nm) (is:=Ce Tag.name b.tags nm) vP.out (fun h=>by unfold Ce at h;have:=of_decide_eq_true h;rw[←HN.out.2.2];exact this.1) (by omega));have GL:Hid (Co b ⟨8,id,nm,dg,li,xs⟩=if Ce Tag.name b.tags nm=true then some {b with tags:=zY (zm Tag.name b.tags nm) b.tags} else none):=zh (by unfold Co;rfl);generalize Co b ⟨8,id,nm,dg,li,xs⟩=RR9 at *;obtain⟨GM,his9⟩:∃GM,GM=Ce Tag.name b.tags nm:=⟨_,rfl⟩;rw[←his9] at GK GL⊢;obtain⟨J4,hps9⟩:∃J4,J4=zm Tag.name b.tags nm:=⟨_,rfl⟩;rw[←hps9] at GK GL⊢;clear his9 hps9;go_wp2_with fail
 refine GK.out.mono ?_;rintro e w3 rN;have HGO:=zh (Cx.D5 GL.out gM.out rN);obtain⟨J5,_,_⟩:=rN;generalize (if GM=true then (0:Int) else 3)=er9 at J5;subst J5;go_wp2
 go_ret
 exact HGO.out
end Go.Proofs.YtipecejghioicaaGreat
set_option maxHeartbeats 4000000
namespace Go.Proofs.YtipecejghioicaaGreat
open Go.RowKit Go.Silo
def xv (k:Int):ByteArray:=if k=1 then ⟨#[105,115]⟩ else if k=2 then ⟨#[105,108,115]⟩ else if k=3 then ⟨#[105]⟩ else if k=4∨k=5 then ⟨#[105,100,108]⟩ else if k=6 then ⟨#[100]⟩ else if k=7 then ⟨#[110,100]⟩ else if k=8 then ⟨#[110]⟩ else ⟨#[]⟩
def qi (k c:Int):Bool:=(xv k).data.toList.any (fun b=>decide ((b.toNat:Int)=c))
theorem QF (k:Int):∀(j:Nat) (h:j<(xv k).size),((xv k)[j]'h).toNat<128:=fun j h=>by
 have hall:∀b∈(xv k).data.toList,b.toNat<128:=by
  unfold xv
  (repeat' split)<;>decide
 exact hall _ (Array.mem_toList_iff.2 (Array.getElem_mem (xs:=(xv k).data) (i:=j) h))
theorem DW {s:ByteArray}{p:UInt8→Bool}:s.data.toList.any p=true↔∃(j:Nat) (h:j<s.size),p (s[j]'h)=true:=by
 rw[List.any_eq_true];constructor
 ·rintro⟨x,hx,hp⟩;obtain⟨j,hj,e⟩:=List.getElem_of_mem hx;rw[←e] at hp;have h2:p (s.data[j]'(by simpa using hj))=true:=by simpa using hp
  exact⟨j,by simpa using hj,h2⟩
 rintro⟨j,hj,hp⟩;exact⟨s[j],Array.mem_toList_iff.2 (Array.getElem_mem (xs:=s.data) (i:=j) hj),hp⟩
theorem Kb {w:World}{k:Int}:Calls Tryz.prog 115 #[.int .i64 k] w fun e w'=>e=.returned (.string (xv k))∧w'=w:=by
 obtain⟨R,hR⟩:∃R,R=xv k:=⟨_,rfl⟩;rw[←hR];unfold xv at hR;have HR:=zh hR;clear hR
 go_enter Tryz.func115,Tryz.ntmps115
 go_wp2
 all_goals
  go_ret
  exact⟨by rw[HR.out];simp_all,rfl⟩
theorem qu {w:World}{k c:Int}:Calls Tryz.prog 87 #[.int .i64 k,.int .i32 c] w (Bf (.bool (qi k c)) w):=by
 have HA:=zh (QF k);obtain⟨R,hR⟩:∃R,R=qi k c:=⟨_,rfl⟩;rw[←hR];unfold qi at hR;have HR:=zh hR;clear hR;have HF:=zh (@Kb w k);generalize xv k=s at *
 go_enter Tryz.func87,Tryz.ntmps87
 go_wp2_with fail
 refine HF.out.mono ?_;rintro e w1 ⟨rfl,rfl⟩;go_wp2_with fail
 go_loopw [6] (fun _ wr=>∃pos:Nat,pos≤s.size∧wr=w1.iter s pos∧Hid (∀(j:Nat) (h:j<s.size),j<pos→((s[j]'h).toNat:Int)≠c)) (fun _ wr=>s.size - World.iterPos wr w1.heap.size)
 case atStart=>exact⟨0,Nat.zero_le _,rfl,zh (fun j h hj=>by omega)⟩
 case round=>
  obtain⟨pos,hp,rfl,HN⟩:=hrel;by_cases hlt:pos<s.size
  ·have hnx:=fun ty=>run_next_ascii (P:=Tryz.prog) w1 s pos ty hlt (HA.out pos hlt);by_cases hc:((s[pos]'hlt).toNat:Int)=c
   ·have HE:Hid (R=true):=zh (by
     rw[HR.out]
     exact DW.2 ⟨pos,hlt,decide_eq_true hc⟩)
    go_wp2
    go_ret
    exact⟨by rw[HE.out];rfl,(Below.refl _ _).alloc (Nat.le_refl _) _⟩
   have Gi:Hid (∀(j:Nat) (h:j<s.size),j<pos+1→((s[j]'h).toNat:Int)≠c):=zh (fun j h hj=>by
    rcases Nat.lt_or_ge j pos with h'|h'
    ·exact HN.out j h h'
    obtain rfl:j=pos:=by omega
    exact hc)
   go_wp2
   exact⟨⟨pos+1,by omega,rfl,Gi⟩,by rw[World.iterPos_iter,World.iterPos_iter];omega⟩
  have hnx:=fun ty=>run_next_end (P:=Tryz.prog) w1 s pos ty hlt
  have HE:Hid (R=false):=zh (by
   rw[HR.out]
   cases hq:s.data.toList.any (fun b=>decide ((b.toNat:Int)=c)) with
   |false=>rfl
   |true=>
    obtain⟨j,hj,hp2⟩:=DW.1 hq
    exact absurd (of_decide_eq_true hp2) (HN.out j hj (by omega)))
  go_wp2
  go_ret
  exact⟨by rw[HE.out];rfl,(Below.refl _ _).alloc (Nat.le_refl _) _⟩
theorem Cb {w:World}{n:Int}:Calls Tryz.prog 88 #[.int .i64 n] w (Bf (.bool (qg n)) w):=by
 have hr:qg n=decide (0≤n∧n≤1073741824):=rfl;generalize qg n=r at *;have HR:=zh hr;clear hr
 go_enter Tryz.func88,Tryz.ntmps88
 go_wp2
 all_goals
  go_ret
  exact⟨by rw[HR.out];congr 2;simp_all;try omega,bz⟩
theorem Ko {w:World}{n:Int}:Calls Tryz.prog 117 #[.int .i64 n] w (Bf (.bool (!qg n)) w):=by
 go_enter Tryz.func117,Tryz.ntmps117
 go_wp2_with fail
 refine Cb.mono ?_;rintro e w1 ⟨rfl,hb1⟩;go_wp2
 go_ret
 exact⟨rfl,bz⟩
def qE (p:Slot):Bool:=decide (p.disk< -1∨12≤p.disk∨p.pos<0∨64≤p.pos)
theorem Jc {w:World}{p:Slot}:Calls Tryz.prog 118 #[.agg #[.int .i64 p.disk,.int .i64 p.pos]] w (Bf (.bool (qE p)) w):=by
 have hr:qE p=decide (p.disk< -1∨12≤p.disk∨p.pos<0∨64≤p.pos):=rfl;generalize qE p=r at *;have HR:=zh hr;clear hr;by_cases h0:p.disk< -1
 ·go_enter Tryz.func118,Tryz.ntmps118
  go_wp2
  all_goals
   go_ret
   exact⟨by rw[HR.out,decide_eq_true (by omega:p.disk< -1∨12≤p.disk∨p.pos<0∨64≤p.pos)];first|rfl|exact congrArg Value.bool (decide_eq_true (by omega))|exact congrArg Value.bool (decide_eq_false (by omega)),bz⟩
 skip
 by_cases h1:12≤p.disk
 ·go_enter Tryz.func118,Tryz.ntmps118
  go_wp2
  all_goals
   go_ret
   exact⟨by rw[HR.out,decide_eq_true (by omega:p.disk< -1∨12≤p.disk∨p.pos<0∨64≤p.pos)];first|rfl|exact congrArg Value.bool (decide_eq_true (by omega))|exact congrArg Value.bool (decide_eq_false (by omega)),bz⟩
 skip
 by_cases h2:p.pos<0
 ·go_enter Tryz.func118,Tryz.ntmps118
  go_wp2
  all_goals
   go_ret
   exact⟨by rw[HR.out,decide_eq_true (by omega:p.disk< -1∨12≤p.disk∨p.pos<0∨64≤p.pos)];first|rfl|exact congrArg Value.bool (decide_eq_true (by omega))|exact congrArg Value.bool (decide_eq_false (by omega)),bz⟩
 skip
 by_cases h3:64≤p.pos
 ·go_enter Tryz.func118,Tryz.ntmps118
  go_wp2
  all_goals
   go_ret
   exact⟨by rw[HR.out,decide_eq_true (by omega:p.disk< -1∨12≤p.disk∨p.pos<0∨64≤p.pos)];first|rfl|exact congrArg Value.bool (decide_eq_true (by omega))|exact congrArg Value.bool (decide_eq_false (by omega)),bz⟩
 skip
 go_enter Tryz.func118,Tryz.ntmps118
 go_wp2
 all_goals
  go_ret
  exact⟨by rw[HR.out,decide_eq_false (by omega:¬(p.disk< -1∨12≤p.disk∨p.pos<0∨64≤p.pos))];first|rfl|exact congrArg Value.bool (decide_eq_true (by omega))|exact congrArg Value.bool (decide_eq_false (by omega)),bz⟩
theorem Zg {tg:Bool}{T:TypeId}{S:Nat→Prop}{w:World}{A:Option Addr}{n c:Nat}{xs:List Slot}(h:Sl tg T qp w S A n c xs) (p:Slot→Bool)
  (hp:∀(W:World) (x:Slot),Below w.heap.size w W→Calls Tryz.prog 118 #[.agg #[.int .i64 x.disk,.int .i64 x.pos]] W (Bf (.bool (p x)) W)):
  Calls Tryz.prog 137 #[.slice A n c,.func (.func 118) #[] #[]] w (Bf (.int .i64 (idxOf p xs)) w):=by
 have HL:=zh h.len;have HP:=zh hp;clear hp;have hcap:n≤9223372036854775807:=Nat.le_trans h.le h.cap
 go_enter Tryz.func137,Tryz.ntmps137
 go_wp2
 go_loopw [5,8] (fun _ i wr=>∃k:Nat,k≤n∧i=.int .i64 k∧Below w.heap.size w wr∧Hid (∀j,j<k→p (xs.getD j default)=false)) (fun _ i _=>n - (intOf i).toNat)
 case atStart=>exact⟨0,Nat.zero_le _,rfl,Below.refl _ _,zh (fun j hj=>by omega)⟩
 case round=>
  obtain⟨k,hk,rfl,hB,he⟩:=hrel;by_cases hlt:k<n
  ·obtain⟨b,off,rfl,hS,hbl,g1,g2,hc0,hc1,_⟩:=(h.all hB).BA hlt;have hcall:=HP.out wr (xs.getD k default) hB;generalize hx:xs.getD k default=x at *;have HX:=zh hx;clear hx;have HB:=zh hB;clear hB;have HC:=zh hcall;clear hcall;go_wp2_with fail
   refine HC.out.mono ?_;rintro e w2 ⟨rfl,hb2⟩;have gM:=zh hb2;clear hb2
   cases hpx:p x with
   |true=>
    have HF:Hid (idxOf p xs=(k:Int)):=zh (xG (d:=default) (by have:=HL.out;omega) (by rw[HX.out];exact hpx) he.out);clear hpx;go_wp2
    go_ret
    exact⟨by rw[HF.out];rfl,via HB.out gM.out (Nat.le_refl _)⟩
   |false=>
    have HF:Hid (∀j,j<k+1→p (xs.getD j default)=false):=zh (fun j hj=>by
     by_cases hjk:j=k
     ·subst hjk;rw[HX.out];exact hpx
     exact he.out j (by omega))
    clear hpx;go_wp2
    go_roundw
    case rel=>exact⟨k+1,by omega,by go_num,via HB.out gM.out (Nat.le_refl _),HF⟩
    case measure=>simp[intOf];omega
  have HF:Hid (idxOf p xs=-1):=zh (jf (d:=default) fun j hj=>he.out j (by have:=HL.out;omega));go_wp2
  go_ret
  exact⟨by rw[HF.out];rfl,hB⟩
theorem kM {tg:Bool}{T:TypeId}{S:Nat→Prop}{w:World}{A:Option Addr}{n c:Nat}{xs:List Slot}(h:Sl tg T qp w S A n c xs) (p:Slot→Bool)
  (hp:∀(W:World) (x:Slot),Below w.heap.size w W→Calls Tryz.prog 118 #[.agg #[.int .i64 x.disk,.int .i64 x.pos]] W (Bf (.bool (p x)) W)):
  Calls Tryz.prog 119 #[.slice A n c,.func (.func 118) #[] #[]] w (Bf (.bool (xs.any p)) w):=by
 have HP:=zh hp;clear hp;have HQ:=zh (jA (xs:=xs) (p:=p))
 go_enter Tryz.func119,Tryz.ntmps119
 go_wp2_with fail
 refine(Zg h p HP.out).mono ?_;rintro e w2 ⟨rfl,hb2⟩;generalize hi:idxOf p xs=i at *;go_wp2
 all_goals
  go_ret
  refine⟨?_,hb2⟩;rw[HQ.out]
  first|rfl|(congr 2;simp_all;done)|(congr 2;simp_all;omega)
theorem Zh {tg:Bool}{T:TypeId}{S:Nat→Prop}{w:World}{A:Option Addr}{n c:Nat}{xs:List Int}(h:Sl tg T qD w S A n c xs) (p:Int→Bool)
  (hp:∀(W:World) (x:Int),Below w.heap.size w W→Calls Tryz.prog 117 #[.int .i64 x] W (Bf (.bool (p x)) W)):
  Calls Tryz.prog 136 #[.slice A n c,.func (.func 117) #[] #[]] w (Bf (.int .i64 (idxOf p xs)) w):=by
 have HL:=zh h.len;have HP:=zh hp;clear hp;have hcap:n≤9223372036854775807:=Nat.le_trans h.le h.cap
 go_enter Tryz.func136,Tryz.ntmps136
 go_wp2
 go_loopw [5,8] (fun _ i wr=>∃k:Nat,k≤n∧i=.int .i64 k∧Below w.heap.size w wr∧Hid (∀j,j<k→p (xs.getD j 0)=false)) (fun _ i _=>n - (intOf i).toNat)
 case atStart=>exact⟨0,Nat.zero_le _,rfl,Below.refl _ _,zh (fun j hj=>by omega)⟩
 case round=>
  obtain⟨k,hk,rfl,hB,he⟩:=hrel;by_cases hlt:k<n
  ·obtain⟨b,off,rfl,hS,hbl,g1,hc0,_⟩:=(h.all hB).BN hlt;have hcall:=HP.out wr (xs.getD k 0) hB;generalize hx:xs.getD k 0=x at *;have HX:=zh hx;clear hx;have HB:=zh hB;clear hB;have HC:=zh hcall;clear hcall;go_wp2_with fail
   refine HC.out.mono ?_;rintro e w2 ⟨rfl,hb2⟩;have gM:=zh hb2;clear hb2
   cases hpx:p x with
   |true=>
    have HF:Hid (idxOf p xs=(k:Int)):=zh (xG (d:=0) (by have:=HL.out;omega) (by rw[HX.out];exact hpx) he.out);clear hpx;go_wp2
    go_ret
    exact⟨by rw[HF.out];rfl,via HB.out gM.out (Nat.le_refl _)⟩
   |false=>
    have HF:Hid (∀j,j<k+1→p (xs.getD j 0)=false):=zh (fun j hj=>by
     by_cases hjk:j=k
     ·subst hjk;rw[HX.out];exact hpx
     exact he.out j (by omega))
    clear hpx;go_wp2
    go_roundw
    case rel=>exact⟨k+1,by omega,by go_num,via HB.out gM.out (Nat.le_refl _),HF⟩
    case measure=>simp[intOf];omega
  have HF:Hid (idxOf p xs=-1):=zh (jf (d:=0) fun j hj=>he.out j (by have:=HL.out;omega));go_wp2
  go_ret
  exact⟨by rw[HF.out];rfl,hB⟩
theorem kN {tg:Bool}{T:TypeId}{S:Nat→Prop}{w:World}{A:Option Addr}{n c:Nat}{xs:List Int}(h:Sl tg T qD w S A n c xs) (p:Int→Bool)
  (hp:∀(W:World) (x:Int),Below w.heap.size w W→Calls Tryz.prog 117 #[.int .i64 x] W (Bf (.bool (p x)) W)):
  Calls Tryz.prog 116 #[.slice A n c,.func (.func 117) #[] #[]] w (Bf (.bool (xs.any p)) w):=by
 have HP:=zh hp;clear hp;have HQ:=zh (jA (xs:=xs) (p:=p))
 go_enter Tryz.func116,Tryz.ntmps116
 go_wp2_with fail
 refine(Zh h p HP.out).mono ?_;rintro e w2 ⟨rfl,hb2⟩;generalize hi:idxOf p xs=i at *;go_wp2
 all_goals
  go_ret
  refine⟨?_,hb2⟩;rw[HQ.out]
  first|rfl|(congr 2;simp_all;done)|(congr 2;simp_all;omega)
def qA (l:List Slot):Bool:=decide (1≤l.length)&&(decide (l.length≤14)&&!(l.any qE))
def qM (kd:Int) (l:List Int):Bool:=!(decide (kd=2)&&decide (l.length≠2))&&(decide (l.length≤2000)&&!(l.any (fun n=>!qg n)))
theorem xA {tg:Bool}{T:TypeId}{S:Nat→Prop}{w:World}{A:Option Addr}{n c:Nat}{xs:List Slot}(h:Sl tg T qp w S A n c xs):
  Calls Tryz.prog 90 #[.slice A n c] w (Bf (.bool (qA xs)) w):=by
 have HL:=zh h.len;have hcap:n≤9223372036854775807:=Nat.le_trans h.le h.cap;have HC:=zh (kM h qE (fun W x _=>Jc));obtain⟨R,hR⟩:∃R,R=qA xs:=⟨_,rfl⟩;rw[←hR];have HR:Hid (R=(decide (1≤n)&&(decide (n≤14)&&!(xs.any qE)))):=zh (by rw[hR];unfold qA;rw[HL.out]);clear hR;generalize xs.any qE=q at *
 go_enter Tryz.func90,Tryz.ntmps90
 by_cases h1:1≤n
 ·by_cases h2:n≤14
  ·go_wp2_with fail
   refine HC.out.mono ?_;rintro e w1 ⟨rfl,hb1⟩;go_wp2
   go_ret
   exact⟨by rw[HR.out,decide_eq_true h1,decide_eq_true h2];simp,hb1⟩
  go_wp2
  go_ret
  exact⟨by rw[HR.out,decide_eq_false h2];simp,Below.refl _ _⟩
 obtain rfl:n=0:=by omega
 go_wp2
 go_ret
 exact⟨by rw[HR.out];rfl,Below.refl _ _⟩
theorem jt {tg:Bool}{T:TypeId}{S:Nat→Prop}{w:World}{A B:Option Addr}{n c n5 c5:Nat}{xs:List Int}{kd id:Int}{nm dg:ByteArray}(h:Sl tg T qD w S A n c xs):
  Calls Tryz.prog 89 #[.agg #[.int .i64 kd,.int .i64 id,.string nm,.string dg,.slice A n c,.slice B n5 c5]] w (Bf (.bool (qM kd xs)) w):=by
 have HL:=zh h.len;have hcap:n≤9223372036854775807:=Nat.le_trans h.le h.cap;have HC:=zh (fun W (hW:Below w.heap.size w W)=>kN (h.all hW) (fun n=>!qg n) (fun W x _=>Ko));obtain⟨R,hR⟩:∃R,R=qM kd xs:=⟨_,rfl⟩;rw[←hR];have HR:Hid (R=(!(decide (kd=2)&&decide (n≠2))&&(decide (n≤2000)&&!(xs.any (fun n=>!qg n))))):=zh (by rw[hR];unfold qM;rw[HL.out]);clear hR;generalize xs.any (fun n=>!qg n)=q at *
 go_enter Tryz.func89,Tryz.ntmps89
 by_cases hb:kd=2∧n≠2
 ·obtain⟨hb1,hb2⟩:=hb;subst hb1;have hb3:((n:Int) !=2)=true:=by simp;omega
  go_wp2
  go_ret
  exact⟨by rw[HR.out];simp[hb2],bz⟩
 by_cases hk:kd=2
 ·have rZ:n=2:=by
   rcases Nat.decEq n 2 with h2|h2
   ·exact absurd ⟨hk,h2⟩ hb
   exact h2
  subst hk;subst rZ;clear hb;go_wp2_with fail
  refine(HC.out _ bz).mono ?_;rintro e w1 ⟨rfl,hb1⟩;go_wp2
  go_ret
  exact⟨by rw[HR.out];simp,bz⟩
 have hk2:(kd==2)=false:=by simpa using hk
 have HK:=zh hk;clear hk hb;by_cases h3:n≤2000
 ·go_wp2_with fail
  refine(HC.out _ bz).mono ?_;rintro e w1 ⟨rfl,hb1⟩;go_wp2
  go_ret
  exact⟨by rw[HR.out,decide_eq_false HK.out,decide_eq_true h3];simp,bz⟩
 go_wp2
 go_ret
 exact⟨by rw[HR.out,decide_eq_false HK.out,decide_eq_false h3];simp,bz⟩
end Go.Proofs.YtipecejghioicaaGreat
