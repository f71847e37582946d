/- Record.May: may a record be? -/
import Derived.Test.YtipecejghioicaaGreatY12t
set_option maxHeartbeats 8000000
set_option maxRecDepth 100000
namespace Go.Proofs.YtipecejghioicaaGreat
open Go.RowKit Go.Silo
def Qg (X:Nat→Option Obj) (β bb:Nat) (is:Bool) (b b':Book) (w:World) (e:Ending) (w':World):Prop:=
 e=.returned (.int .i64 (if is then 0 else 3))∧(∃A0 n0 c0 A1 n1 c1 A2 n2 c2,OB X β bb A0 n0 c0 A1 n1 c1 A2 n2 c2 (if is then b' else b) w')∧Below β w w'
theorem ZX {X:Nat→Option Obj}{β bb:Nat}{w:World}{A0:Option Addr}{n0 c0:Nat}{A1:Option Addr}{n1 c1:Nat}{A2:Option Addr}{n2 c2:Nat}{b:Book}{i:Nat}{is:Bool}(mi:OB X β bb A0 n0 c0 A1 n1 c1 A2 n2 c2 b w) (his:is=true→i<n0) (hn:n0≤1000000):
  Calls Tryz.prog 98 #[.pointer (some ⟨bb,0,none⟩),.int .i64 (i:Int),.bool is] w (Qg X β bb is b {b with Ba:=xh i b.Ba} w):=by
 have gP:=zh mi
 cases is with
 |false=>
  clear mi
  go_enter Tryz.func98,Tryz.ntmps98
  go_wp2
  go_ret
  exact⟨rfl,⟨_,_,_,_,_,_,_,_,_,gP.out⟩,Below.refl _ _⟩
 |true=>
  have hrow:=mi.row;have hbb:=mi.box;have x0:=zc 0 hrow (.slice A0 n0 c0) rfl;have HD:=zh (QR (i:=i) mi.st (his rfl) hn);have hcap:n0≤9223372036854775807:=by omega
  have hi9:i<n0:=his rfl;clear mi his hrow
  go_enter Tryz.func98,Tryz.ntmps98
  go_wp2_with fail
  refine HD.out.mono ?_;clear x0;rintro e w2 ⟨rfl,hown,hgr⟩;have gJ:=Cn.BS hgr;have hrow2:=(gJ.agree bb (fun e=>gP.out.ap.b0 e.symm) gP.out.box).trans gP.out.row;have x0:=zc 0 hrow2 (.slice A0 n0 c0) rfl;have f0:=zf 0 hrow2;have HP:=zh (gP.out.put0 gJ hown (.inl rfl));clear hown hgr gJ hrow2;go_wp2
  go_ret
  exact⟨rfl,⟨_,_,_,_,_,_,_,_,_,HP.out.1⟩,HP.out.2⟩
theorem XK {X:Nat→Option Obj}{β bb:Nat}{w:World}{A0:Option Addr}{n0 c0:Nat}{A1:Option Addr}{n1 c1:Nat}{A2:Option Addr}{n2 c2:Nat}{b:Book}{i:Nat}{is:Bool}(mi:OB X β bb A0 n0 c0 A1 n1 c1 A2 n2 c2 b w) (his:is=true→i<n1) (hn:n1≤1000000):
  Calls Tryz.prog 101 #[.pointer (some ⟨bb,1,none⟩),.int .i64 (i:Int),.bool is] w (Qg X β bb is b {b with things:=xh i b.things} w):=by
 have gP:=zh mi
 cases is with
 |false=>
  clear mi
  go_enter Tryz.func101,Tryz.ntmps101
  go_wp2
  go_ret
  exact⟨rfl,⟨_,_,_,_,_,_,_,_,_,gP.out⟩,Below.refl _ _⟩
 |true=>
  have hrow:=mi.row;have hbb:=mi.box;have x0:=zc 1 hrow (.slice A1 n1 c1) rfl;have HD:=zh (Zs (i:=i) mi.th (his rfl) hn);have hcap:n1≤9223372036854775807:=by omega
  have hi9:i<n1:=his rfl;clear mi his hrow
  go_enter Tryz.func101,Tryz.ntmps101
  go_wp2_with fail
  refine HD.out.mono ?_;clear x0;rintro e w2 ⟨rfl,hown,hgr⟩;have gJ:=Cn.BS hgr;have hrow2:=(gJ.agree bb (fun e=>gP.out.ap.b1 e.symm) gP.out.box).trans gP.out.row;have x0:=zc 1 hrow2 (.slice A1 n1 c1) rfl;have f0:=zf 1 hrow2;have HP:=zh (gP.out.put1 gJ hown (.inl rfl));clear hown hgr gJ hrow2;go_wp2
  go_ret
  exact⟨rfl,⟨_,_,_,_,_,_,_,_,_,HP.out.1⟩,HP.out.2⟩
theorem Ky {X:Nat→Option Obj}{β bb:Nat}{w:World}{A0:Option Addr}{n0 c0:Nat}{A1:Option Addr}{n1 c1:Nat}{A2:Option Addr}{n2 c2:Nat}{b:Book}{i:Nat}{is:Bool}(mi:OB X β bb A0 n0 c0 A1 n1 c1 A2 n2 c2 b w) (his:is=true→i<n2) (hn:n2≤1000000):
  Calls Tryz.prog 105 #[.pointer (some ⟨bb,2,none⟩),.int .i64 (i:Int),.bool is] w (Qg X β bb is b {b with tags:=xh i b.tags} w):=by
 have gP:=zh mi
 cases is with
 |false=>
  clear mi
  go_enter Tryz.func105,Tryz.ntmps105
  go_wp2
  go_ret
  exact⟨rfl,⟨_,_,_,_,_,_,_,_,_,gP.out⟩,Below.refl _ _⟩
 |true=>
  have hrow:=mi.row;have hbb:=mi.box;have x0:=zc 2 hrow (.slice A2 n2 c2) rfl;have HD:=zh (XJ (i:=i) mi.ta (his rfl) hn);have hcap:n2≤9223372036854775807:=by omega
  have hi9:i<n2:=his rfl;clear mi his hrow
  go_enter Tryz.func105,Tryz.ntmps105
  go_wp2_with fail
  refine HD.out.mono ?_;clear x0;rintro e w2 ⟨rfl,hown,hgr⟩;have gJ:=Cn.BS hgr;have hrow2:=(gJ.agree bb (fun e=>gP.out.ap.b2 e.symm) gP.out.box).trans gP.out.row;have x0:=zc 2 hrow2 (.slice A2 n2 c2) rfl;have f0:=zf 2 hrow2;have HP:=zh (gP.out.put2 gJ hown (.inl rfl));clear hown hgr gJ hrow2;go_wp2
  go_ret
  exact⟨rfl,⟨_,_,_,_,_,_,_,_,_,HP.out.1⟩,HP.out.2⟩
def Cj (b:Book) (r:Bb):Option Book:=
 if r.kind=3 then (if CB b.Ba r.id=true then some {b with Ba:=xh (xA b.Ba r.id) b.Ba} else none)
 else if r.kind=6 then (if Ce Entry.digest b.things r.digest=true then some {b with things:=xh (zr Entry.digest b.things r.digest) b.things} else none)
 else if r.kind=8 then (if Ce Tag.name b.tags r.name=true then some {b with tags:=xh (zr Tag.name b.tags r.name) b.tags} else none)
 else some (EK b r)
def Cw (X:Nat→Option Obj) (β bb:Nat) (o:Option Book) (b:Book) (w:World) (e:Ending) (w':World):Prop:=
 e=.returned (.int .i64 (if o.isSome then 0 else 3))∧(∃A0 n0 c0 A1 n1 c1 A2 n2 c2,OB X β bb A0 n0 c0 A1 n1 c1 A2 n2 c2 (o.getD b) w')∧Below β w w'
theorem Cw.D7 {X:Nat→Option Obj}{β bb:Nat}{is:Bool}{b b':Book}{o:Option Book}{w w1:World}{e:Ending}{w':World}(ho:o=if is=true then some b' else none) (hb:Below β w w1) (h:Qg X β bb is b b' w1 e w'):Cw X β bb o b w e w':=by
 obtain⟨h1,h2,h3⟩:=h;subst ho
 cases is with
 |true=>exact⟨h1,h2,hb.trans h3⟩
 |false=>exact⟨h1,h2,hb.trans h3⟩
theorem KL {tg:Bool}{S:Nat→Prop}{X:Nat→Option Obj}{β bb:Nat}{w:World}{A0:Option Addr}{n0 c0:Nat}{A1:Option Addr}{n1 c1:Nat}{A2:Option Addr}{n2 c2:Nat}{A4 A5:Option Addr}{n4 c4 n5 c5:Nat}{b:Book}{r:Bb}(mi:OB X β bb A0 n0 c0 A1 n1 c1 A2 n2 c2 b w) (hs:Sorted b)
  (hn:n0≤999999∧n1≤999999∧n2≤999999) (hnx:b.next≤1073741825∧-1≤b.next) (hid:0≤r.id∧r.id≤1073741824) (hst:qM r.name∧qM r.digest) (hl:Sl tg 3 Bo w S A4 n4 c4 r.list) (hsl:Sl tg 88 qq w S A5 n5 c5 r.slots) (hS:∀k,S k→k<β) (_hln:n4≤100000000∧n5≤100000000)
  (hk:r.kind=3∨r.kind=6∨r.kind=8):
  Calls Tryz.prog 63 #[.pointer (some ⟨bb,0,none⟩),.agg #[.int .i64 r.kind,.int .i64 r.id,.string r.name,.string r.digest,.slice A4 n4 c4,.slice A5 n5 c5]] w (Cw X β bb (Cj b r) b w):=by
 obtain⟨kd,id,nm,dg,li,xs⟩:=r;simp only at hid hst hl hsl hk⊢;have ui:=mi.box;have hgl:Below w.heap.size w (w.alloc (.cells #[.int .i64 kd,.int .i64 id,.string nm,.string dg,.slice A4 n4 c4,.slice A5 n5 c5] 61)):=(Below.refl _ _).alloc (Nat.le_refl _) _;have nv:=heap_alloc_new w (.cells #[.int .i64 kd,.int .i64 id,.string nm,.string dg,.slice A4 n4 c4,.slice A5 n5 c5] 61);have gP:=zh (mi.all hgl);have hgb:w.heap.size≠bb:=by omega
 have HG0:Hid (some w.heap.size≠qd A0∧some w.heap.size≠qd A1∧some w.heap.size≠qd A2):=zh ⟨fun e=>by have:=(mi.st.lt _ e.symm).2;omega,fun e=>by have:=(mi.th.lt _ e.symm).2;omega,fun e=>by have:=(mi.ta.lt _ e.symm).2;omega⟩;have HL:=zh (hl.all hgl);have nI:=zh (hsl.all hgl);have mS:=zh (show Below β w (w.alloc (.cells #[.int .i64 kd,.int .i64 id,.string nm,.string dg,.slice A4 n4 c4,.slice A5 n5 c5] 61)) from hgl.mono (Nat.le_trans mi.lo (Nat.le_of_lt ui)));have hlo:=mi.lo;have HN:=zh (And.intro mi.st.len (And.intro mi.th.len mi.ta.len));have nQ:=zh hs;have hI1:Bf (id+1):=by unfold Bf;omega
 have hI2:Bf (max b.next (id+1)):=by unfold Bf;omega
 have hI0:Bf id:=by unfold Bf;omega
 have HFL:Hid (∀k,S k→k<(w.alloc (.cells #[.int .i64 kd,.int .i64 id,.string nm,.string dg,.slice A4 n4 c4,.slice A5 n5 c5] 61)).heap.size∧some k≠qd A0∧k≠bb):=zh (fun k hk=>by
  have h1:=hS k hk;refine⟨by simp;omega,fun e=>?_,by omega⟩
  have:=(mi.st.lt _ e.symm).1;omega)
 clear mi hl hsl hs
 go_enter Tryz.func63,Tryz.ntmps63
 rcases hk with rfl|rfl|rfl
 ·skip
  go_upto_region 9 with (fail)
  generalize (w.alloc (.cells #[.int .i64 3,.int .i64 id,.string nm,.string dg,.slice A4 n4 c4,.slice A5 n5 c5] 61))=w1 at *;have RR:=zh nv;clear nv hgl
  refine do9 (P:=fun k is=>k=xA b.Ba id∧is=CB b.Ba id) gP RR (zh (fun V hV=>(Qr (w:=V) (nx:=b.next) (x:=id) ((gP.out.all hV).st.sl (tg:=true)) (by omega) (fun i j h1 h2=>nQ.out.s i j h1 (by rw[HN.out.1];exact h2))).mono (fun e w' he=>by
   obtain⟨k,hk,e1,h1,h2,hb⟩:=he
   exact⟨k,_,e1,kr hk rfl h1 h2,hb⟩))) rfl rfl rfl ?_
  intro v w2 k is hv1 hv2 hp hb2;simp only[qb,BH,BI,BJ,BL,Act.put,BD,BF,BG];rw[hv1,hv2];obtain⟨rfl,rfl⟩:=hp;have pI:=zh (gP.out.all hb2);have gF:=zh (mS.out.trans (hb2.mono (Nat.le_trans hlo (Nat.le_of_lt gP.out.box))));clear hv1 hv2 hb2;have Gr:=zh (ZX (i:=xA b.Ba id) (is:=CB b.Ba id) pI.out (fun h=>by unfold CB at h;have:=of_decide_eq_true h;rw[←HN.out.1];exact this.1) (by omega));have Gs:Hid (Cj b ⟨3,id,nm,dg,li,xs⟩=if CB b.Ba id=true then some {b with Ba:=xh (xA b.Ba id) b.Ba} else none):=zh (by unfold Cj;rfl);generalize Cj b ⟨3,id,nm,dg,li,xs⟩=RR9 at *;obtain⟨Gt,his9⟩:∃Gt,Gt=CB b.Ba id:=⟨_,rfl⟩;rw[←his9] at Gr Gs⊢;obtain⟨Hs,hps9⟩:∃Hs,Hs=xA b.Ba id:=⟨_,rfl⟩;rw[←hps9] at Gr Gs⊢;clear his9 hps9;go_wp2_with fail
  refine Gr.out.mono ?_;rintro e w3 rq;have HGO:=zh (Cw.D7 Gs.out gF.out rq);obtain⟨Ht,_,_⟩:=rq;generalize (if Gt=true then (0:Int) else 3)=er9 at Ht;subst Ht;go_wp2
  go_ret
  exact HGO.out
 ·skip
  go_upto_region 16 with (fail)
  generalize (w.alloc (.cells #[.int .i64 6,.int .i64 id,.string nm,.string dg,.slice A4 n4 c4,.slice A5 n5 c5] 61))=w1 at *;have RR:=zh nv;clear nv hgl
  refine do16 (P:=fun k is=>k=zr Entry.digest b.things dg∧is=Ce Entry.digest b.things dg) gP RR (zh (fun V hV=>(Zr (w:=V) (nx:=b.next) (x:=dg) ((gP.out.all hV).th.sl (tg:=true)) (by omega) (fun i j h1 h2=>nQ.out.t i j h1 (by rw[HN.out.2.1];exact h2))).mono (fun e w' he=>by
   obtain⟨k,hk,e1,h1,h2,hb⟩:=he
   exact⟨k,_,e1,zG hk rfl h1 h2,hb⟩))) rfl rfl rfl ?_
  intro v w2 k is hv1 hv2 hp hb2;simp only[qb,BH,BI,BJ,BL,Act.put,BD,BF,BG];rw[hv1,hv2];obtain⟨rfl,rfl⟩:=hp;have pI:=zh (gP.out.all hb2);have gF:=zh (mS.out.trans (hb2.mono (Nat.le_trans hlo (Nat.le_of_lt gP.out.box))));clear hv1 hv2 hb2;have Gr:=zh (XK (i:=zr Entry.digest b.things dg) (is:=Ce Entry.digest b.things dg) pI.out (fun h=>by unfold Ce at h;have:=of_decide_eq_true h;rw[←HN.out.2.1];exact this.1) (by omega));have Gs:Hid (Cj b ⟨6,id,nm,dg,li,xs⟩=if Ce Entry.digest b.things dg=true then some {b with things:=xh (zr Entry.digest b.things dg) b.things} else none):=zh (by unfold Cj;rfl);generalize Cj b ⟨6,id,nm,dg,li,xs⟩=RR9 at *;obtain⟨Gt,his9⟩:∃Gt,Gt=Ce Entry.digest b.things dg:=⟨_,rfl⟩;rw[←his9] at Gr Gs⊢;obtain⟨Hs,hps9⟩:∃Hs,Hs=zr Entry.digest b.things dg:=⟨_,rfl⟩;rw[←hps9] at Gr Gs⊢;clear his9 hps9;go_wp2_with fail
  refine Gr.out.mono ?_;rintro e w3 rq;have HGO:=zh (Cw.D7 Gs.out gF.out rq);obtain⟨Ht,_,_⟩:=rq;generalize (if Gt=true then (0:Int) else 3)=er9 at Ht;subst Ht;go_wp2
  go_ret
  exact HGO.out
 skip
 go_upto_region 22 with (fail)
 generalize (w.alloc (.cells #[.int .i64 8,.int .i64 id,.string nm,.string dg,.slice A4 n4 c4,.slice A5 n5 c5] 61))=w1 at *;have RR:=zh nv;clear nv hgl
 refine do22 (P:=fun k is=>k=zr Tag.name b.tags nm∧is=Ce Tag.name b.tags nm) gP RR (zh (fun V hV=>(kQ (w:=V) (x:=nm) ((gP.out.all hV).ta.sl (tg:=true)) (by omega) (fun i j h1 h2=>nQ.out.g i j h1 (by rw[HN.out.2.2];exact h2))).mono (fun e w' he=>by
  obtain⟨k,hk,e1,h1,h2,hb⟩:=he
  exact⟨k,_,e1,zG hk rfl h1 h2,hb⟩))) rfl rfl rfl ?_
 intro v w2 k is hv1 hv2 hp hb2;simp only[qb,BH,BI,BJ,BL,Act.put,BD,BF,BG];rw[hv1,hv2];obtain⟨rfl,rfl⟩:=hp;have pI:=zh (gP.out.all hb2);have gF:=zh (mS.out.trans (hb2.mono (Nat.le_trans hlo (Nat.le_of_lt gP.out.box))));clear hv1 hv2 hb2;have Gr:=zh (Ky (i:=zr Tag.name b.tags nm) (is:=Ce Tag.name b.tags nm) pI.out (fun h=>by unfold Ce at h;have:=of_decide_eq_true h;rw[←HN.out.2.2];exact this.1) (by omega));have Gs:Hid (Cj b ⟨8,id,nm,dg,li,xs⟩=if Ce Tag.name b.tags nm=true then some {b with tags:=xh (zr Tag.name b.tags nm) b.tags} else none):=zh (by unfold Cj;rfl);generalize Cj b ⟨8,id,nm,dg,li,xs⟩=RR9 at *;obtain⟨Gt,his9⟩:∃Gt,Gt=Ce Tag.name b.tags nm:=⟨_,rfl⟩;rw[←his9] at Gr Gs⊢;obtain⟨Hs,hps9⟩:∃Hs,Hs=zr Tag.name b.tags nm:=⟨_,rfl⟩;rw[←hps9] at Gr Gs⊢;clear his9 hps9;go_wp2_with fail
 refine Gr.out.mono ?_;rintro e w3 rq;have HGO:=zh (Cw.D7 Gs.out gF.out rq);obtain⟨Ht,_,_⟩:=rq;generalize (if Gt=true then (0:Int) else 3)=er9 at Ht;subst Ht;go_wp2
 go_ret
 exact HGO.out
def xH (k:Int):ByteArray:=if k=1 then ⟨#[105,115]⟩ else if k=2 then ⟨#[105,108,115]⟩ else if k=3 then ⟨#[105]⟩ else if k=4∨k=5 then ⟨#[105,100,108]⟩ else if k=6 then ⟨#[100]⟩ else if k=7 then ⟨#[110,100]⟩ else if k=8 then ⟨#[110]⟩ else ⟨#[]⟩
def qi (k c:Int):Bool:=(xH k).data.toList.any (fun b=>decide ((b.toNat:Int)=c))
theorem QS (k:Int):∀(j:Nat) (h:j<(xH k).size),((xH k)[j]'h).toNat<128:=fun j h=>by
 have hall:∀b∈(xH k).data.toList,b.toNat<128:=by
  unfold xH
  (repeat' split)<;>decide
 exact hall _ (Array.mem_toList_iff.2 (Array.getElem_mem (xs:=(xH k).data) (i:=j) h))
theorem E9 {s:ByteArray}{p:UInt8→Bool}:s.data.toList.any p=true↔∃(j:Nat) (h:j<s.size),p (s[j]'h)=true:=by
 rw[List.any_eq_true];constructor
 ·rintro⟨x,hx,hp⟩;obtain⟨j,hj,e⟩:=List.getElem_of_mem hx;rw[←e] at hp;have h2:p (s.data[j]'(by simpa using hj))=true:=by simpa using hp
  exact⟨j,by simpa using hj,h2⟩
 rintro⟨j,hj,hp⟩;exact⟨s[j],Array.mem_toList_iff.2 (Array.getElem_mem (xs:=s.data) (i:=j) hj),hp⟩
theorem Kz {w:World}{k:Int}:Calls Tryz.prog 115 #[.int .i64 k] w fun e w'=>e=.returned (.string (xH k))∧w'=w:=by
 obtain⟨R,hR⟩:∃R,R=xH k:=⟨_,rfl⟩;rw[←hR];unfold xH at hR;have HR:=zh hR;clear hR
 go_enter Tryz.func115,Tryz.ntmps115
 go_wp2
 all_goals
  go_ret
  exact⟨by rw[HR.out];simp_all,rfl⟩
theorem qx {w:World}{k c:Int}:Calls Tryz.prog 87 #[.int .i64 k,.int .i32 c] w (Bl (.bool (qi k c)) w):=by
 have HA:=zh (QS k);obtain⟨R,hR⟩:∃R,R=qi k c:=⟨_,rfl⟩;rw[←hR];unfold qi at hR;have HR:=zh hR;clear hR;have HF:=zh (@Kz w k);generalize xH k=s at *
 go_enter Tryz.func87,Tryz.ntmps87
 go_wp2_with fail
 refine HF.out.mono ?_;rintro e w1 ⟨rfl,rfl⟩;go_wp2_with fail
 go_loopw [6] (fun _ wr=>∃pos:Nat,pos≤s.size∧wr=w1.iter s pos∧Hid (∀(j:Nat) (h:j<s.size),j<pos→((s[j]'h).toNat:Int)≠c)) (fun _ wr=>s.size - World.iterPos wr w1.heap.size)
 case atStart=>exact⟨0,Nat.zero_le _,rfl,zh (fun j h hj=>by omega)⟩
 case round=>
  obtain⟨pos,hp,rfl,HN⟩:=hrel;by_cases hlt:pos<s.size
  ·have hnx:=fun ty=>run_next_ascii (P:=Tryz.prog) w1 s pos ty hlt (HA.out pos hlt);by_cases hc:((s[pos]'hlt).toNat:Int)=c
   ·have HE:Hid (R=true):=zh (by
     rw[HR.out]
     exact E9.2 ⟨pos,hlt,decide_eq_true hc⟩)
    go_wp2
    go_ret
    exact⟨by rw[HE.out];rfl,(Below.refl _ _).alloc (Nat.le_refl _) _⟩
   have yV:Hid (∀(j:Nat) (h:j<s.size),j<pos+1→((s[j]'h).toNat:Int)≠c):=zh (fun j h hj=>by
    rcases Nat.lt_or_ge j pos with h'|h'
    ·exact HN.out j h h'
    obtain rfl:j=pos:=by omega
    exact hc)
   go_wp2
   exact⟨⟨pos+1,by omega,rfl,yV⟩,by rw[World.iterPos_iter,World.iterPos_iter];omega⟩
  have hnx:=fun ty=>run_next_end (P:=Tryz.prog) w1 s pos ty hlt
  have HE:Hid (R=false):=zh (by
   rw[HR.out]
   cases hq:s.data.toList.any (fun b=>decide ((b.toNat:Int)=c)) with
   |false=>rfl
   |true=>
    obtain⟨j,hj,hp2⟩:=E9.1 hq
    exact absurd (of_decide_eq_true hp2) (HN.out j hj (by omega)))
  go_wp2
  go_ret
  exact⟨by rw[HE.out];rfl,(Below.refl _ _).alloc (Nat.le_refl _) _⟩
theorem Cb {w:World}{n:Int}:Calls Tryz.prog 88 #[.int .i64 n] w (Bl (.bool (qg n)) w):=by
 have hr:qg n=decide (0≤n∧n≤1073741824):=rfl;generalize qg n=r at *;have HR:=zh hr;clear hr
 go_enter Tryz.func88,Tryz.ntmps88
 go_wp2
 all_goals
  go_ret
  exact⟨by rw[HR.out];congr 2;simp_all;try omega,bz⟩
theorem KM {w:World}{n:Int}:Calls Tryz.prog 117 #[.int .i64 n] w (Bl (.bool (!qg n)) w):=by
 go_enter Tryz.func117,Tryz.ntmps117
 go_wp2_with fail
 refine Cb.mono ?_;rintro e w1 ⟨rfl,hb1⟩;go_wp2
 go_ret
 exact⟨rfl,bz⟩
def qH (p:Slot):Bool:=decide (p.disk< -1∨12≤p.disk∨p.pos<0∨64≤p.pos)
theorem Jy {w:World}{p:Slot}:Calls Tryz.prog 118 #[.agg #[.int .i64 p.disk,.int .i64 p.pos]] w (Bl (.bool (qH p)) w):=by
 have hr:qH p=decide (p.disk< -1∨12≤p.disk∨p.pos<0∨64≤p.pos):=rfl;generalize qH p=r at *;have HR:=zh hr;clear hr;by_cases h0:p.disk< -1
 ·go_enter Tryz.func118,Tryz.ntmps118
  go_wp2
  all_goals
   go_ret
   exact⟨by rw[HR.out,decide_eq_true (by omega:p.disk< -1∨12≤p.disk∨p.pos<0∨64≤p.pos)];first|rfl|exact congrArg Value.bool (decide_eq_true (by omega))|exact congrArg Value.bool (decide_eq_false (by omega)),bz⟩
 skip
 by_cases h1:12≤p.disk
 ·go_enter Tryz.func118,Tryz.ntmps118
  go_wp2
  all_goals
   go_ret
   exact⟨by rw[HR.out,decide_eq_true (by omega:p.disk< -1∨12≤p.disk∨p.pos<0∨64≤p.pos)];first|rfl|exact congrArg Value.bool (decide_eq_true (by omega))|exact congrArg Value.bool (decide_eq_false (by omega)),bz⟩
 skip
 by_cases h2:p.pos<0
 ·go_enter Tryz.func118,Tryz.ntmps118
  go_wp2
  all_goals
   go_ret
   exact⟨by rw[HR.out,decide_eq_true (by omega:p.disk< -1∨12≤p.disk∨p.pos<0∨64≤p.pos)];first|rfl|exact congrArg Value.bool (decide_eq_true (by omega))|exact congrArg Value.bool (decide_eq_false (by omega)),bz⟩
 skip
 by_cases h3:64≤p.pos
 ·go_enter Tryz.func118,Tryz.ntmps118
  go_wp2
  all_goals
   go_ret
   exact⟨by rw[HR.out,decide_eq_true (by omega:p.disk< -1∨12≤p.disk∨p.pos<0∨64≤p.pos)];first|rfl|exact congrArg Value.bool (decide_eq_true (by omega))|exact congrArg Value.bool (decide_eq_false (by omega)),bz⟩
 skip
 go_enter Tryz.func118,Tryz.ntmps118
 go_wp2
 all_goals
  go_ret
  exact⟨by rw[HR.out,decide_eq_false (by omega:¬(p.disk< -1∨12≤p.disk∨p.pos<0∨64≤p.pos))];first|rfl|exact congrArg Value.bool (decide_eq_true (by omega))|exact congrArg Value.bool (decide_eq_false (by omega)),bz⟩
theorem Zt {tg:Bool}{T:TypeId}{S:Nat→Prop}{w:World}{A:Option Addr}{n c:Nat}{xs:List Slot}(h:Sl tg T qq w S A n c xs) (p:Slot→Bool)
  (hp:∀(W:World) (x:Slot),Below w.heap.size w W→Calls Tryz.prog 118 #[.agg #[.int .i64 x.disk,.int .i64 x.pos]] W (Bl (.bool (p x)) W)):
  Calls Tryz.prog 137 #[.slice A n c,.func (.func 118) #[] #[]] w (Bl (.int .i64 (idxOf p xs)) w):=by
 have HL:=zh h.len;have HP:=zh hp;clear hp;have hcap:n≤9223372036854775807:=Nat.le_trans h.le h.cap
 go_enter Tryz.func137,Tryz.ntmps137
 go_wp2
 go_loopw [5,8] (fun _ i wr=>∃k:Nat,k≤n∧i=.int .i64 k∧Below w.heap.size w wr∧Hid (∀j,j<k→p (xs.getD j default)=false)) (fun _ i _=>n - (intOf i).toNat)
 case atStart=>exact⟨0,Nat.zero_le _,rfl,Below.refl _ _,zh (fun j hj=>by omega)⟩
 case round=>
  obtain⟨k,hk,rfl,hB,he⟩:=hrel;by_cases hlt:k<n
  ·obtain⟨b,off,rfl,hS,hbl,g1,g2,hc0,hc1,_⟩:=(h.all hB).BM hlt;have hcall:=HP.out wr (xs.getD k default) hB;generalize hx:xs.getD k default=x at *;have HX:=zh hx;clear hx;have HB:=zh hB;clear hB;have HC:=zh hcall;clear hcall;go_wp2_with fail
   refine HC.out.mono ?_;rintro e w2 ⟨rfl,hb2⟩;have gF:=zh hb2;clear hb2
   cases hpx:p x with
   |true=>
    have HF:Hid (idxOf p xs=(k:Int)):=zh (xB (d:=default) (by have:=HL.out;omega) (by rw[HX.out];exact hpx) he.out);clear hpx;go_wp2
    go_ret
    exact⟨by rw[HF.out];rfl,via HB.out gF.out (Nat.le_refl _)⟩
   |false=>
    have HF:Hid (∀j,j<k+1→p (xs.getD j default)=false):=zh (fun j hj=>by
     by_cases hjk:j=k
     ·subst hjk;rw[HX.out];exact hpx
     exact he.out j (by omega))
    clear hpx;go_wp2
    go_roundw
    case rel=>exact⟨k+1,by omega,by go_num,via HB.out gF.out (Nat.le_refl _),HF⟩
    case measure=>simp[intOf];omega
  have HF:Hid (idxOf p xs=-1):=zh (xP (d:=default) fun j hj=>he.out j (by have:=HL.out;omega));go_wp2
  go_ret
  exact⟨by rw[HF.out];rfl,hB⟩
theorem kZ {tg:Bool}{T:TypeId}{S:Nat→Prop}{w:World}{A:Option Addr}{n c:Nat}{xs:List Slot}(h:Sl tg T qq w S A n c xs) (p:Slot→Bool)
  (hp:∀(W:World) (x:Slot),Below w.heap.size w W→Calls Tryz.prog 118 #[.agg #[.int .i64 x.disk,.int .i64 x.pos]] W (Bl (.bool (p x)) W)):
  Calls Tryz.prog 119 #[.slice A n c,.func (.func 118) #[] #[]] w (Bl (.bool (xs.any p)) w):=by
 have HP:=zh hp;clear hp;have HQ:=zh (jk (xs:=xs) (p:=p))
 go_enter Tryz.func119,Tryz.ntmps119
 go_wp2_with fail
 refine(Zt h p HP.out).mono ?_;rintro e w2 ⟨rfl,hb2⟩;generalize hi:idxOf p xs=i at *;go_wp2
 all_goals
  go_ret
  refine⟨?_,hb2⟩;rw[HQ.out]
  first|rfl|(congr 2;simp_all;done)|(congr 2;simp_all;omega)
theorem Zu {tg:Bool}{T:TypeId}{S:Nat→Prop}{w:World}{A:Option Addr}{n c:Nat}{xs:List Int}(h:Sl tg T Bo w S A n c xs) (p:Int→Bool)
  (hp:∀(W:World) (x:Int),Below w.heap.size w W→Calls Tryz.prog 117 #[.int .i64 x] W (Bl (.bool (p x)) W)):
  Calls Tryz.prog 136 #[.slice A n c,.func (.func 117) #[] #[]] w (Bl (.int .i64 (idxOf p xs)) w):=by
 have HL:=zh h.len;have HP:=zh hp;clear hp;have hcap:n≤9223372036854775807:=Nat.le_trans h.le h.cap
 go_enter Tryz.func136,Tryz.ntmps136
 go_wp2
 go_loopw [5,8] (fun _ i wr=>∃k:Nat,k≤n∧i=.int .i64 k∧Below w.heap.size w wr∧Hid (∀j,j<k→p (xs.getD j 0)=false)) (fun _ i _=>n - (intOf i).toNat)
 case atStart=>exact⟨0,Nat.zero_le _,rfl,Below.refl _ _,zh (fun j hj=>by omega)⟩
 case round=>
  obtain⟨k,hk,rfl,hB,he⟩:=hrel;by_cases hlt:k<n
  ·obtain⟨b,off,rfl,hS,hbl,g1,hc0,_⟩:=(h.all hB).BR hlt;have hcall:=HP.out wr (xs.getD k 0) hB;generalize hx:xs.getD k 0=x at *;have HX:=zh hx;clear hx;have HB:=zh hB;clear hB;have HC:=zh hcall;clear hcall;go_wp2_with fail
   refine HC.out.mono ?_;rintro e w2 ⟨rfl,hb2⟩;have gF:=zh hb2;clear hb2
   cases hpx:p x with
   |true=>
    have HF:Hid (idxOf p xs=(k:Int)):=zh (xB (d:=0) (by have:=HL.out;omega) (by rw[HX.out];exact hpx) he.out);clear hpx;go_wp2
    go_ret
    exact⟨by rw[HF.out];rfl,via HB.out gF.out (Nat.le_refl _)⟩
   |false=>
    have HF:Hid (∀j,j<k+1→p (xs.getD j 0)=false):=zh (fun j hj=>by
     by_cases hjk:j=k
     ·subst hjk;rw[HX.out];exact hpx
     exact he.out j (by omega))
    clear hpx;go_wp2
    go_roundw
    case rel=>exact⟨k+1,by omega,by go_num,via HB.out gF.out (Nat.le_refl _),HF⟩
    case measure=>simp[intOf];omega
  have HF:Hid (idxOf p xs=-1):=zh (xP (d:=0) fun j hj=>he.out j (by have:=HL.out;omega));go_wp2
  go_ret
  exact⟨by rw[HF.out];rfl,hB⟩
theorem Qa {tg:Bool}{T:TypeId}{S:Nat→Prop}{w:World}{A:Option Addr}{n c:Nat}{xs:List Int}(h:Sl tg T Bo w S A n c xs) (p:Int→Bool)
  (hp:∀(W:World) (x:Int),Below w.heap.size w W→Calls Tryz.prog 117 #[.int .i64 x] W (Bl (.bool (p x)) W)):
  Calls Tryz.prog 116 #[.slice A n c,.func (.func 117) #[] #[]] w (Bl (.bool (xs.any p)) w):=by
 have HP:=zh hp;clear hp;have HQ:=zh (jk (xs:=xs) (p:=p))
 go_enter Tryz.func116,Tryz.ntmps116
 go_wp2_with fail
 refine(Zu h p HP.out).mono ?_;rintro e w2 ⟨rfl,hb2⟩;generalize hi:idxOf p xs=i at *;go_wp2
 all_goals
  go_ret
  refine⟨?_,hb2⟩;rw[HQ.out]
  first|rfl|(congr 2;simp_all;done)|(congr 2;simp_all;omega)
def qA (l:List Slot):Bool:=decide (1≤l.length)&&(decide (l.length≤14)&&!(l.any qH))
def qO (kd:Int) (l:List Int):Bool:=!(decide (kd=2)&&decide (l.length≠2))&&(decide (l.length≤2000)&&!(l.any (fun n=>!qg n)))
theorem xJ {tg:Bool}{T:TypeId}{S:Nat→Prop}{w:World}{A:Option Addr}{n c:Nat}{xs:List Slot}(h:Sl tg T qq w S A n c xs):
  Calls Tryz.prog 90 #[.slice A n c] w (Bl (.bool (qA xs)) w):=by
 have HL:=zh h.len;have hcap:n≤9223372036854775807:=Nat.le_trans h.le h.cap;have HC:=zh (kZ h qH (fun W x _=>Jy));obtain⟨R,hR⟩:∃R,R=qA xs:=⟨_,rfl⟩;rw[←hR];have HR:Hid (R=(decide (1≤n)&&(decide (n≤14)&&!(xs.any qH)))):=zh (by rw[hR];unfold qA;rw[HL.out]);clear hR;generalize xs.any qH=q at *
 go_enter Tryz.func90,Tryz.ntmps90
 by_cases h1:1≤n
 ·by_cases h2:n≤14
  ·go_wp2_with fail
   refine HC.out.mono ?_;rintro e w1 ⟨rfl,hb1⟩;go_wp2
   go_ret
   exact⟨by rw[HR.out,decide_eq_true h1,decide_eq_true h2];simp,hb1⟩
  go_wp2
  go_ret
  exact⟨by rw[HR.out,decide_eq_false h2];simp,Below.refl _ _⟩
 obtain rfl:n=0:=by omega
 go_wp2
 go_ret
 exact⟨by rw[HR.out];rfl,Below.refl _ _⟩
theorem jE {tg:Bool}{T:TypeId}{S:Nat→Prop}{w:World}{A B:Option Addr}{n c n5 c5:Nat}{xs:List Int}{kd id:Int}{nm dg:ByteArray}(h:Sl tg T Bo w S A n c xs):
  Calls Tryz.prog 89 #[.agg #[.int .i64 kd,.int .i64 id,.string nm,.string dg,.slice A n c,.slice B n5 c5]] w (Bl (.bool (qO kd xs)) w):=by
 have HL:=zh h.len;have hcap:n≤9223372036854775807:=Nat.le_trans h.le h.cap;have HC:=zh (fun W (hW:Below w.heap.size w W)=>Qa (h.all hW) (fun n=>!qg n) (fun W x _=>KM));obtain⟨R,hR⟩:∃R,R=qO kd xs:=⟨_,rfl⟩;rw[←hR];have HR:Hid (R=(!(decide (kd=2)&&decide (n≠2))&&(decide (n≤2000)&&!(xs.any (fun n=>!qg n))))):=zh (by rw[hR];unfold qO;rw[HL.out]);clear hR;generalize xs.any (fun n=>!qg n)=q at *
 go_enter Tryz.func89,Tryz.ntmps89
 by_cases hb:kd=2∧n≠2
 ·obtain⟨hb1,hb2⟩:=hb;subst hb1;have hb3:((n:Int) !=2)=true:=by simp;omega
  go_wp2
  go_ret
  exact⟨by rw[HR.out];simp[hb2],bz⟩
 by_cases hk:kd=2
 ·have uf:n=2:=by
   rcases Nat.decEq n 2 with h2|h2
   ·exact absurd ⟨hk,h2⟩ hb
   exact h2
  subst hk;subst uf;clear hb;go_wp2_with fail
  refine(HC.out _ bz).mono ?_;rintro e w1 ⟨rfl,hb1⟩;go_wp2
  go_ret
  exact⟨by rw[HR.out];simp,bz⟩
 have hk2:(kd==2)=false:=by simpa using hk
 have HK:=zh hk;clear hk hb;by_cases h3:n≤2000
 ·go_wp2_with fail
  refine(HC.out _ bz).mono ?_;rintro e w1 ⟨rfl,hb1⟩;go_wp2
  go_ret
  exact⟨by rw[HR.out,decide_eq_false HK.out,decide_eq_true h3];simp,bz⟩
 go_wp2
 go_ret
 exact⟨by rw[HR.out,decide_eq_false HK.out,decide_eq_false h3];simp,bz⟩
end Go.Proofs.YtipecejghioicaaGreat
