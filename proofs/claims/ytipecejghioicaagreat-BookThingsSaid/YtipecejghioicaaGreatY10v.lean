import Derived.Test.YtipecejghioicaaGreatY12v
set_option maxHeartbeats 8000000
set_option maxRecDepth 100000
namespace Go.Proofs.YtipecejghioicaaGreat
open Go.RowKit Go.Silo
def QG (X:Nat→Option Obj) (β bb:Nat) (is:Bool) (b b':Book) (w:World) (e:Ending) (w':World):Prop:=
 e=.returned (.int .i64 (if is then 0 else 3))∧(∃A0 n0 c0 A1 n1 c1 A2 n2 c2,OB X β bb A0 n0 c0 A1 n1 c1 A2 n2 c2 (if is then b' else b) w')∧Below β w w'
theorem XE {X:Nat→Option Obj}{β bb:Nat}{w:World}{A0:Option Addr}{n0 c0:Nat}{A1:Option Addr}{n1 c1:Nat}{A2:Option Addr}{n2 c2:Nat}{b:Book}{i:Nat}{is:Bool}(gY:OB X β bb A0 n0 c0 A1 n1 c1 A2 n2 c2 b w) (his:is=true→i<n0) (hn:n0≤1000000):
  Calls Tryz.prog 98 #[.pointer (some ⟨bb,0,none⟩),.int .i64 (i:Int),.bool is] w (QG X β bb is b {b with Ba:=xo i b.Ba} w):=by
 have gJ:=zh gY
 cases is with
 |false=>
  clear gY
  go_enter Tryz.func98,Tryz.ntmps98
  go_wp2
  go_ret
  exact⟨rfl,⟨_,_,_,_,_,_,_,_,_,gJ.out⟩,Below.refl _ _⟩
 |true=>
  have hrow:=gY.row;have hbb:=gY.box;have x0:=zc 0 hrow (.slice A0 n0 c0) rfl;have HD:=zh (Zy (i:=i) gY.st (his rfl) hn);have hcap:n0≤9223372036854775807:=by omega
  have hi9:i<n0:=his rfl;clear gY his hrow
  go_enter Tryz.func98,Tryz.ntmps98
  go_wp2_with fail
  refine HD.out.mono ?_;clear x0;rintro e w2 ⟨rfl,hown,hgr⟩;have gK:=Cr.BP hgr;have hrow2:=(gK.agree bb (fun e=>gJ.out.ap.b0 e.symm) gJ.out.box).trans gJ.out.row;have x0:=zc 0 hrow2 (.slice A0 n0 c0) rfl;have f0:=zf 0 hrow2;have HP:=zh (gJ.out.put0 gK hown (.inl rfl));clear hown hgr gK hrow2;go_wp2
  go_ret
  exact⟨rfl,⟨_,_,_,_,_,_,_,_,_,HP.out.1⟩,HP.out.2⟩
theorem Ju {X:Nat→Option Obj}{β bb:Nat}{w:World}{A0:Option Addr}{n0 c0:Nat}{A1:Option Addr}{n1 c1:Nat}{A2:Option Addr}{n2 c2:Nat}{b:Book}{i:Nat}{is:Bool}(gY:OB X β bb A0 n0 c0 A1 n1 c1 A2 n2 c2 b w) (his:is=true→i<n1) (hn:n1≤1000000):
  Calls Tryz.prog 101 #[.pointer (some ⟨bb,1,none⟩),.int .i64 (i:Int),.bool is] w (QG X β bb is b {b with things:=xo i b.things} w):=by
 have gJ:=zh gY
 cases is with
 |false=>
  clear gY
  go_enter Tryz.func101,Tryz.ntmps101
  go_wp2
  go_ret
  exact⟨rfl,⟨_,_,_,_,_,_,_,_,_,gJ.out⟩,Below.refl _ _⟩
 |true=>
  have hrow:=gY.row;have hbb:=gY.box;have x0:=zc 1 hrow (.slice A1 n1 c1) rfl;have HD:=zh (Xd (i:=i) gY.th (his rfl) hn);have hcap:n1≤9223372036854775807:=by omega
  have hi9:i<n1:=his rfl;clear gY his hrow
  go_enter Tryz.func101,Tryz.ntmps101
  go_wp2_with fail
  refine HD.out.mono ?_;clear x0;rintro e w2 ⟨rfl,hown,hgr⟩;have gK:=Cr.BP hgr;have hrow2:=(gK.agree bb (fun e=>gJ.out.ap.b1 e.symm) gJ.out.box).trans gJ.out.row;have x0:=zc 1 hrow2 (.slice A1 n1 c1) rfl;have f0:=zf 1 hrow2;have HP:=zh (gJ.out.Ct gK hown (.inl rfl));clear hown hgr gK hrow2;go_wp2
  go_ret
  exact⟨rfl,⟨_,_,_,_,_,_,_,_,_,HP.out.1⟩,HP.out.2⟩
theorem ye {X:Nat→Option Obj}{β bb:Nat}{w:World}{A0:Option Addr}{n0 c0:Nat}{A1:Option Addr}{n1 c1:Nat}{A2:Option Addr}{n2 c2:Nat}{b:Book}{i:Nat}{is:Bool}(gY:OB X β bb A0 n0 c0 A1 n1 c1 A2 n2 c2 b w) (his:is=true→i<n2) (hn:n2≤1000000):
  Calls Tryz.prog 105 #[.pointer (some ⟨bb,2,none⟩),.int .i64 (i:Int),.bool is] w (QG X β bb is b {b with tags:=xo i b.tags} w):=by
 have gJ:=zh gY
 cases is with
 |false=>
  clear gY
  go_enter Tryz.func105,Tryz.ntmps105
  go_wp2
  go_ret
  exact⟨rfl,⟨_,_,_,_,_,_,_,_,_,gJ.out⟩,Below.refl _ _⟩
 |true=>
  have hrow:=gY.row;have hbb:=gY.box;have x0:=zc 2 hrow (.slice A2 n2 c2) rfl;have HD:=zh (Jt (i:=i) gY.ta (his rfl) hn);have hcap:n2≤9223372036854775807:=by omega
  have hi9:i<n2:=his rfl;clear gY his hrow
  go_enter Tryz.func105,Tryz.ntmps105
  go_wp2_with fail
  refine HD.out.mono ?_;clear x0;rintro e w2 ⟨rfl,hown,hgr⟩;have gK:=Cr.BP hgr;have hrow2:=(gK.agree bb (fun e=>gJ.out.ap.b2 e.symm) gJ.out.box).trans gJ.out.row;have x0:=zc 2 hrow2 (.slice A2 n2 c2) rfl;have f0:=zf 2 hrow2;have HP:=zh (gJ.out.CB gK hown (.inl rfl));clear hown hgr gK hrow2;go_wp2
  go_ret
  exact⟨rfl,⟨_,_,_,_,_,_,_,_,_,HP.out.1⟩,HP.out.2⟩
def Cj (b:Book) (r:Bc):Option Book:=
 if r.kind=3 then (if CQ b.Ba r.id=true then some {b with Ba:=xo (xC b.Ba r.id) b.Ba} else none)
 else if r.kind=6 then (if Cg Entry.digest b.things r.digest=true then some {b with things:=xo (zj Entry.digest b.things r.digest) b.things} else none)
 else if r.kind=8 then (if Cg Tag.name b.tags r.name=true then some {b with tags:=xo (zj Tag.name b.tags r.name) b.tags} else none)
 else some (Fe b r)
def CG (X:Nat→Option Obj) (β bb:Nat) (o:Option Book) (b:Book) (w:World) (e:Ending) (w':World):Prop:=
 e=.returned (.int .i64 (if o.isSome then 0 else 3))∧(∃A0 n0 c0 A1 n1 c1 A2 n2 c2,OB X β bb A0 n0 c0 A1 n1 c1 A2 n2 c2 (o.getD b) w')∧Below β w w'
theorem CG.Di {X:Nat→Option Obj}{β bb:Nat}{is:Bool}{b b':Book}{o:Option Book}{w w1:World}{e:Ending}{w':World}(ho:o=if is=true then some b' else none) (hb:Below β w w1) (h:QG X β bb is b b' w1 e w'):CG X β bb o b w e w':=by
 obtain⟨h1,h2,h3⟩:=h;subst ho
 cases is with
 |true=>exact⟨h1,h2,hb.trans h3⟩
 |false=>exact⟨h1,h2,hb.trans h3⟩
theorem yB {tg:Bool}{S:Nat→Prop}{X:Nat→Option Obj}{β bb:Nat}{w:World}{A0:Option Addr}{n0 c0:Nat}{A1:Option Addr}{n1 c1:Nat}{A2:Option Addr}{n2 c2:Nat}{A4 A5:Option Addr}{n4 c4 n5 c5:Nat}{b:Book}{r:Bc}(gY:OB X β bb A0 n0 c0 A1 n1 c1 A2 n2 c2 b w) (hs:Sorted b)
  (hn:n0≤999999∧n1≤999999∧n2≤999999) (hnx:b.next≤1073741825∧-1≤b.next) (hid:0≤r.id∧r.id≤1073741824) (hst:qG r.name∧qG r.digest) (hl:Sl tg 3 Bo w S A4 n4 c4 r.list) (hsl:Sl tg 88 qr w S A5 n5 c5 r.slots) (hS:∀k,S k→k<β) (_hln:n4≤100000000∧n5≤100000000)
  (hk:r.kind=3∨r.kind=6∨r.kind=8):
  Calls Tryz.prog 63 #[.pointer (some ⟨bb,0,none⟩),.agg #[.int .i64 r.kind,.int .i64 r.id,.string r.name,.string r.digest,.slice A4 n4 c4,.slice A5 n5 c5]] w (CG X β bb (Cj b r) b w):=by
 obtain⟨kd,id,nm,dg,li,xs⟩:=r;simp only at hid hst hl hsl hk⊢;have nR:=gY.box;have hgl:Below w.heap.size w (w.alloc (.cells #[.int .i64 kd,.int .i64 id,.string nm,.string dg,.slice A4 n4 c4,.slice A5 n5 c5] 61)):=(Below.refl _ _).alloc (Nat.le_refl _) _;have rH:=heap_alloc_new w (.cells #[.int .i64 kd,.int .i64 id,.string nm,.string dg,.slice A4 n4 c4,.slice A5 n5 c5] 61);have gJ:=zh (gY.all hgl);have hgb:w.heap.size≠bb:=by omega
 have HG0:Hid (some w.heap.size≠qd A0∧some w.heap.size≠qd A1∧some w.heap.size≠qd A2):=zh ⟨fun e=>by have:=(gY.st.lt _ e.symm).2;omega,fun e=>by have:=(gY.th.lt _ e.symm).2;omega,fun e=>by have:=(gY.ta.lt _ e.symm).2;omega⟩;have HL:=zh (hl.all hgl);have mK:=zh (hsl.all hgl);have gT:=zh (show Below β w (w.alloc (.cells #[.int .i64 kd,.int .i64 id,.string nm,.string dg,.slice A4 n4 c4,.slice A5 n5 c5] 61)) from hgl.mono (Nat.le_trans gY.lo (Nat.le_of_lt nR)));have hlo:=gY.lo;have HN:=zh (And.intro gY.st.len (And.intro gY.th.len gY.ta.len));have nX:=zh hs;have hI1:Bg (id+1):=by unfold Bg;omega
 have hI2:Bg (max b.next (id+1)):=by unfold Bg;omega
 have hI0:Bg id:=by unfold Bg;omega
 have HFL:Hid (∀k,S k→k<(w.alloc (.cells #[.int .i64 kd,.int .i64 id,.string nm,.string dg,.slice A4 n4 c4,.slice A5 n5 c5] 61)).heap.size∧some k≠qd A0∧k≠bb):=zh (fun k hk=>by
  have h1:=hS k hk;refine⟨by simp;omega,fun e=>?_,by omega⟩
  have:=(gY.st.lt _ e.symm).1;omega)
 clear gY hl hsl hs
 go_enter Tryz.func63,Tryz.ntmps63
 rcases hk with rfl|rfl|rfl
 ·skip
  go_upto_region 9 with (fail)
  generalize (w.alloc (.cells #[.int .i64 3,.int .i64 id,.string nm,.string dg,.slice A4 n4 c4,.slice A5 n5 c5] 61))=w1 at *;have RR:=zh rH;clear rH hgl
  refine do9 (P:=fun k is=>k=xC b.Ba id∧is=CQ b.Ba id) gJ RR (zh (fun V hV=>(QU (w:=V) (nx:=b.next) (x:=id) ((gJ.out.all hV).st.sl (tg:=true)) (by omega) (fun i j h1 h2=>nX.out.s i j h1 (by rw[HN.out.1];exact h2))).mono (fun e w' he=>by
   obtain⟨k,hk,e1,h1,h2,hb⟩:=he
   exact⟨k,_,e1,kO hk rfl h1 h2,hb⟩))) rfl rfl rfl ?_
  intro v w2 k is hv1 hv2 hp hb2;simp only[qb,BC,BD,BF,BG,Act.put,Bz,BA,BB];rw[hv1,hv2];obtain⟨rfl,rfl⟩:=hp;have pJ:=zh (gJ.out.all hb2);have gM:=zh (gT.out.trans (hb2.mono (Nat.le_trans hlo (Nat.le_of_lt gJ.out.box))));clear hv1 hv2 hb2;have Hm:=zh (XE (i:=xC b.Ba id) (is:=CQ b.Ba id) pJ.out (fun h=>by unfold CQ at h;have:=of_decide_eq_true h;rw[←HN.out.1];exact this.1) (by omega));have Hn:Hid (Cj b ⟨3,id,nm,dg,li,xs⟩=if CQ b.Ba id=true then some {b with Ba:=xo (xC b.Ba id) b.Ba} else none):=zh (by unfold Cj;rfl);generalize Cj b ⟨3,id,nm,dg,li,xs⟩=RR9 at *;obtain⟨Ho,his9⟩:∃Ho,Ho=CQ b.Ba id:=⟨_,rfl⟩;rw[←his9] at Hm Hn⊢;obtain⟨MA,hps9⟩:∃MA,MA=xC b.Ba id:=⟨_,rfl⟩;rw[←hps9] at Hm Hn⊢;clear his9 hps9;go_wp2_with fail
  refine Hm.out.mono ?_;rintro e w3 rI;have HGO:=zh (CG.Di Hn.out gM.out rI);obtain⟨MB,_,_⟩:=rI;generalize (if Ho=true then (0:Int) else 3)=er9 at MB;subst MB;go_wp2
  go_ret
  exact HGO.out
 ·skip
  go_upto_region 16 with (fail)
  generalize (w.alloc (.cells #[.int .i64 6,.int .i64 id,.string nm,.string dg,.slice A4 n4 c4,.slice A5 n5 c5] 61))=w1 at *;have RR:=zh rH;clear rH hgl
  refine do16 (P:=fun k is=>k=zj Entry.digest b.things dg∧is=Cg Entry.digest b.things dg) gJ RR (zh (fun V hV=>(Xc (w:=V) (nx:=b.next) (x:=dg) ((gJ.out.all hV).th.sl (tg:=true)) (by omega) (fun i j h1 h2=>nX.out.t i j h1 (by rw[HN.out.2.1];exact h2))).mono (fun e w' he=>by
   obtain⟨k,hk,e1,h1,h2,hb⟩:=he
   exact⟨k,_,e1,zH hk rfl h1 h2,hb⟩))) rfl rfl rfl ?_
  intro v w2 k is hv1 hv2 hp hb2;simp only[qb,BC,BD,BF,BG,Act.put,Bz,BA,BB];rw[hv1,hv2];obtain⟨rfl,rfl⟩:=hp;have pJ:=zh (gJ.out.all hb2);have gM:=zh (gT.out.trans (hb2.mono (Nat.le_trans hlo (Nat.le_of_lt gJ.out.box))));clear hv1 hv2 hb2;have Hm:=zh (Ju (i:=zj Entry.digest b.things dg) (is:=Cg Entry.digest b.things dg) pJ.out (fun h=>by unfold Cg at h;have:=of_decide_eq_true h;rw[←HN.out.2.1];exact this.1) (by omega));have Hn:Hid (Cj b ⟨6,id,nm,dg,li,xs⟩=if Cg Entry.digest b.things dg=true then some {b with things:=xo (zj Entry.digest b.things dg) b.things} else none):=zh (by unfold Cj;rfl);generalize Cj b ⟨6,id,nm,dg,li,xs⟩=RR9 at *;obtain⟨Ho,his9⟩:∃Ho,Ho=Cg Entry.digest b.things dg:=⟨_,rfl⟩;rw[←his9] at Hm Hn⊢;obtain⟨MA,hps9⟩:∃MA,MA=zj Entry.digest b.things dg:=⟨_,rfl⟩;rw[←hps9] at Hm Hn⊢;clear his9 hps9;go_wp2_with fail
  refine Hm.out.mono ?_;rintro e w3 rI;have HGO:=zh (CG.Di Hn.out gM.out rI);obtain⟨MB,_,_⟩:=rI;generalize (if Ho=true then (0:Int) else 3)=er9 at MB;subst MB;go_wp2
  go_ret
  exact HGO.out
 skip
 go_upto_region 22 with (fail)
 generalize (w.alloc (.cells #[.int .i64 8,.int .i64 id,.string nm,.string dg,.slice A4 n4 c4,.slice A5 n5 c5] 61))=w1 at *;have RR:=zh rH;clear rH hgl
 refine do22 (P:=fun k is=>k=zj Tag.name b.tags nm∧is=Cg Tag.name b.tags nm) gJ RR (zh (fun V hV=>(Qo (w:=V) (x:=nm) ((gJ.out.all hV).ta.sl (tg:=true)) (by omega) (fun i j h1 h2=>nX.out.g i j h1 (by rw[HN.out.2.2];exact h2))).mono (fun e w' he=>by
  obtain⟨k,hk,e1,h1,h2,hb⟩:=he
  exact⟨k,_,e1,zH hk rfl h1 h2,hb⟩))) rfl rfl rfl ?_
 intro v w2 k is hv1 hv2 hp hb2;simp only[qb,BC,BD,BF,BG,Act.put,Bz,BA,BB];rw[hv1,hv2];obtain⟨rfl,rfl⟩:=hp;have pJ:=zh (gJ.out.all hb2);have gM:=zh (gT.out.trans (hb2.mono (Nat.le_trans hlo (Nat.le_of_lt gJ.out.box))));clear hv1 hv2 hb2;have Hm:=zh (ye (i:=zj Tag.name b.tags nm) (is:=Cg Tag.name b.tags nm) pJ.out (fun h=>by unfold Cg at h;have:=of_decide_eq_true h;rw[←HN.out.2.2];exact this.1) (by omega));have Hn:Hid (Cj b ⟨8,id,nm,dg,li,xs⟩=if Cg Tag.name b.tags nm=true then some {b with tags:=xo (zj Tag.name b.tags nm) b.tags} else none):=zh (by unfold Cj;rfl);generalize Cj b ⟨8,id,nm,dg,li,xs⟩=RR9 at *;obtain⟨Ho,his9⟩:∃Ho,Ho=Cg Tag.name b.tags nm:=⟨_,rfl⟩;rw[←his9] at Hm Hn⊢;obtain⟨MA,hps9⟩:∃MA,MA=zj Tag.name b.tags nm:=⟨_,rfl⟩;rw[←hps9] at Hm Hn⊢;clear his9 hps9;go_wp2_with fail
 refine Hm.out.mono ?_;rintro e w3 rI;have HGO:=zh (CG.Di Hn.out gM.out rI);obtain⟨MB,_,_⟩:=rI;generalize (if Ho=true then (0:Int) else 3)=er9 at MB;subst MB;go_wp2
 go_ret
 exact HGO.out
def xK (k:Int):ByteArray:=if k=1 then ⟨#[105,115]⟩ else if k=2 then ⟨#[105,108,115]⟩ else if k=3 then ⟨#[105]⟩ else if k=4∨k=5 then ⟨#[105,100,108]⟩ else if k=6 then ⟨#[100]⟩ else if k=7 then ⟨#[110,100]⟩ else if k=8 then ⟨#[110]⟩ else ⟨#[]⟩
def xE (k c:Int):Bool:=(xK k).data.toList.any (fun b=>decide ((b.toNat:Int)=c))
theorem Zz (k:Int):∀(j:Nat) (h:j<(xK k).size),((xK k)[j]'h).toNat<128:=fun j h=>by
 have hall:∀b∈(xK k).data.toList,b.toNat<128:=by
  unfold xK
  (repeat' split)<;>decide
 exact hall _ (Array.mem_toList_iff.2 (Array.getElem_mem (xs:=(xK k).data) (i:=j) h))
theorem El {s:ByteArray}{p:UInt8→Bool}:s.data.toList.any p=true↔∃(j:Nat) (h:j<s.size),p (s[j]'h)=true:=by
 rw[List.any_eq_true];constructor
 ·rintro⟨x,hx,hp⟩;obtain⟨j,hj,e⟩:=List.getElem_of_mem hx;rw[←e] at hp;have h2:p (s.data[j]'(by simpa using hj))=true:=by simpa using hp
  exact⟨j,by simpa using hj,h2⟩
 rintro⟨j,hj,hp⟩;exact⟨s[j],Array.mem_toList_iff.2 (Array.getElem_mem (xs:=s.data) (i:=j) hj),hp⟩
theorem yf {w:World}{k:Int}:Calls Tryz.prog 115 #[.int .i64 k] w fun e w'=>e=.returned (.string (xK k))∧w'=w:=by
 obtain⟨R,hR⟩:∃R,R=xK k:=⟨_,rfl⟩;rw[←hR];unfold xK at hR;have HR:=zh hR;clear hR
 go_enter Tryz.func115,Tryz.ntmps115
 go_wp2
 all_goals
  go_ret
  exact⟨by rw[HR.out];simp_all,rfl⟩
theorem km {w:World}{k c:Int}:Calls Tryz.prog 87 #[.int .i64 k,.int .i32 c] w (Bh (.bool (xE k c)) w):=by
 have HA:=zh (Zz k);obtain⟨R,hR⟩:∃R,R=xE k c:=⟨_,rfl⟩;rw[←hR];unfold xE at hR;have HR:=zh hR;clear hR;have HF:=zh (@yf w k);generalize xK k=s at *
 go_enter Tryz.func87,Tryz.ntmps87
 go_wp2_with fail
 refine HF.out.mono ?_;rintro e w1 ⟨rfl,rfl⟩;go_wp2_with fail
 go_loopw [6] (fun _ wr=>∃pos:Nat,pos≤s.size∧wr=w1.iter s pos∧Hid (∀(j:Nat) (h:j<s.size),j<pos→((s[j]'h).toNat:Int)≠c)) (fun _ wr=>s.size - World.iterPos wr w1.heap.size)
 case atStart=>exact⟨0,Nat.zero_le _,rfl,zh (fun j h hj=>by omega)⟩
 case round=>
  obtain⟨pos,hp,rfl,HN⟩:=hrel;by_cases hlt:pos<s.size
  ·have hnx:=fun ty=>run_next_ascii (P:=Tryz.prog) w1 s pos ty hlt (HA.out pos hlt);by_cases hc:((s[pos]'hlt).toNat:Int)=c
   ·have HE:Hid (R=true):=zh (by
     rw[HR.out]
     exact El.2 ⟨pos,hlt,decide_eq_true hc⟩)
    go_wp2
    go_ret
    exact⟨by rw[HE.out];rfl,(Below.refl _ _).alloc (Nat.le_refl _) _⟩
   have GL:Hid (∀(j:Nat) (h:j<s.size),j<pos+1→((s[j]'h).toNat:Int)≠c):=zh (fun j h hj=>by
    rcases Nat.lt_or_ge j pos with h'|h'
    ·exact HN.out j h h'
    obtain rfl:j=pos:=by omega
    exact hc)
   go_wp2
   exact⟨⟨pos+1,by omega,rfl,GL⟩,by rw[World.iterPos_iter,World.iterPos_iter];omega⟩
  have hnx:=fun ty=>run_next_end (P:=Tryz.prog) w1 s pos ty hlt
  have HE:Hid (R=false):=zh (by
   rw[HR.out]
   cases hq:s.data.toList.any (fun b=>decide ((b.toNat:Int)=c)) with
   |false=>rfl
   |true=>
    obtain⟨j,hj,hp2⟩:=El.1 hq
    exact absurd (of_decide_eq_true hp2) (HN.out j hj (by omega)))
  go_wp2
  go_ret
  exact⟨by rw[HE.out];rfl,(Below.refl _ _).alloc (Nat.le_refl _) _⟩
theorem CR {w:World}{n:Int}:Calls Tryz.prog 88 #[.int .i64 n] w (Bh (.bool (qW n)) w):=by
 have hr:qW n=decide (0≤n∧n≤1073741824):=rfl;generalize qW n=r at *;have HR:=zh hr;clear hr
 go_enter Tryz.func88,Tryz.ntmps88
 go_wp2
 all_goals
  go_ret
  exact⟨by rw[HR.out];congr 2;simp_all;try omega,bz⟩
theorem yC {w:World}{n:Int}:Calls Tryz.prog 117 #[.int .i64 n] w (Bh (.bool (!qW n)) w):=by
 go_enter Tryz.func117,Tryz.ntmps117
 go_wp2_with fail
 refine CR.mono ?_;rintro e w1 ⟨rfl,hb1⟩;go_wp2
 go_ret
 exact⟨rfl,bz⟩
def jM (p:Slot):Bool:=decide (p.disk< -1∨12≤p.disk∨p.pos<0∨64≤p.pos)
theorem Kn {w:World}{p:Slot}:Calls Tryz.prog 118 #[.agg #[.int .i64 p.disk,.int .i64 p.pos]] w (Bh (.bool (jM p)) w):=by
 have hr:jM p=decide (p.disk< -1∨12≤p.disk∨p.pos<0∨64≤p.pos):=rfl;generalize jM p=r at *;have HR:=zh hr;clear hr;by_cases h0:p.disk< -1
 ·go_enter Tryz.func118,Tryz.ntmps118
  go_wp2
  all_goals
   go_ret
   exact⟨by rw[HR.out,decide_eq_true (by omega:p.disk< -1∨12≤p.disk∨p.pos<0∨64≤p.pos)];first|rfl|exact congrArg Value.bool (decide_eq_true (by omega))|exact congrArg Value.bool (decide_eq_false (by omega)),bz⟩
 skip
 by_cases h1:12≤p.disk
 ·go_enter Tryz.func118,Tryz.ntmps118
  go_wp2
  all_goals
   go_ret
   exact⟨by rw[HR.out,decide_eq_true (by omega:p.disk< -1∨12≤p.disk∨p.pos<0∨64≤p.pos)];first|rfl|exact congrArg Value.bool (decide_eq_true (by omega))|exact congrArg Value.bool (decide_eq_false (by omega)),bz⟩
 skip
 by_cases h2:p.pos<0
 ·go_enter Tryz.func118,Tryz.ntmps118
  go_wp2
  all_goals
   go_ret
   exact⟨by rw[HR.out,decide_eq_true (by omega:p.disk< -1∨12≤p.disk∨p.pos<0∨64≤p.pos)];first|rfl|exact congrArg Value.bool (decide_eq_true (by omega))|exact congrArg Value.bool (decide_eq_false (by omega)),bz⟩
 skip
 by_cases h3:64≤p.pos
 ·go_enter Tryz.func118,Tryz.ntmps118
  go_wp2
  all_goals
   go_ret
   exact⟨by rw[HR.out,decide_eq_true (by omega:p.disk< -1∨12≤p.disk∨p.pos<0∨64≤p.pos)];first|rfl|exact congrArg Value.bool (decide_eq_true (by omega))|exact congrArg Value.bool (decide_eq_false (by omega)),bz⟩
 skip
 go_enter Tryz.func118,Tryz.ntmps118
 go_wp2
 all_goals
  go_ret
  exact⟨by rw[HR.out,decide_eq_false (by omega:¬(p.disk< -1∨12≤p.disk∨p.pos<0∨64≤p.pos))];first|rfl|exact congrArg Value.bool (decide_eq_true (by omega))|exact congrArg Value.bool (decide_eq_false (by omega)),bz⟩
theorem Xe {tg:Bool}{T:TypeId}{S:Nat→Prop}{w:World}{A:Option Addr}{n c:Nat}{xs:List Slot}(h:Sl tg T qr w S A n c xs) (p:Slot→Bool)
  (hp:∀(W:World) (x:Slot),Below w.heap.size w W→Calls Tryz.prog 118 #[.agg #[.int .i64 x.disk,.int .i64 x.pos]] W (Bh (.bool (p x)) W)):
  Calls Tryz.prog 137 #[.slice A n c,.func (.func 118) #[] #[]] w (Bh (.int .i64 (idxOf p xs)) w):=by
 have HL:=zh h.len;have HP:=zh hp;clear hp;have hcap:n≤9223372036854775807:=Nat.le_trans h.le h.cap
 go_enter Tryz.func137,Tryz.ntmps137
 go_wp2
 go_loopw [5,8] (fun _ i wr=>∃k:Nat,k≤n∧i=.int .i64 k∧Below w.heap.size w wr∧Hid (∀j,j<k→p (xs.getD j default)=false)) (fun _ i _=>n - (intOf i).toNat)
 case atStart=>exact⟨0,Nat.zero_le _,rfl,Below.refl _ _,zh (fun j hj=>by omega)⟩
 case round=>
  obtain⟨k,hk,rfl,hB,he⟩:=hrel;by_cases hlt:k<n
  ·obtain⟨b,off,rfl,hS,hbl,g1,g2,hc0,hc1,_⟩:=(h.all hB).C8 hlt;have hcall:=HP.out wr (xs.getD k default) hB;generalize hx:xs.getD k default=x at *;have HX:=zh hx;clear hx;have HB:=zh hB;clear hB;have HC:=zh hcall;clear hcall;go_wp2_with fail
   refine HC.out.mono ?_;rintro e w2 ⟨rfl,hb2⟩;have gM:=zh hb2;clear hb2
   cases hpx:p x with
   |true=>
    have HF:Hid (idxOf p xs=(k:Int)):=zh (zU (d:=default) (by have:=HL.out;omega) (by rw[HX.out];exact hpx) he.out);clear hpx;go_wp2
    go_ret
    exact⟨by rw[HF.out];rfl,via HB.out gM.out (Nat.le_refl _)⟩
   |false=>
    have HF:Hid (∀j,j<k+1→p (xs.getD j default)=false):=zh (fun j hj=>by
     by_cases hjk:j=k
     ·subst hjk;rw[HX.out];exact hpx
     exact he.out j (by omega))
    clear hpx;go_wp2
    go_roundw
    case rel=>exact⟨k+1,by omega,by go_num,via HB.out gM.out (Nat.le_refl _),HF⟩
    case measure=>simp[intOf];omega
  have HF:Hid (idxOf p xs=-1):=zh (xV (d:=default) fun j hj=>he.out j (by have:=HL.out;omega));go_wp2
  go_ret
  exact⟨by rw[HF.out];rfl,hB⟩
theorem Qy {tg:Bool}{T:TypeId}{S:Nat→Prop}{w:World}{A:Option Addr}{n c:Nat}{xs:List Slot}(h:Sl tg T qr w S A n c xs) (p:Slot→Bool)
  (hp:∀(W:World) (x:Slot),Below w.heap.size w W→Calls Tryz.prog 118 #[.agg #[.int .i64 x.disk,.int .i64 x.pos]] W (Bh (.bool (p x)) W)):
  Calls Tryz.prog 119 #[.slice A n c,.func (.func 118) #[] #[]] w (Bh (.bool (xs.any p)) w):=by
 have HP:=zh hp;clear hp;have HQ:=zh (jx (xs:=xs) (p:=p))
 go_enter Tryz.func119,Tryz.ntmps119
 go_wp2_with fail
 refine(Xe h p HP.out).mono ?_;rintro e w2 ⟨rfl,hb2⟩;generalize hi:idxOf p xs=i at *;go_wp2
 all_goals
  go_ret
  refine⟨?_,hb2⟩;rw[HQ.out]
  first|rfl|(congr 2;simp_all;done)|(congr 2;simp_all;omega)
theorem Xf {tg:Bool}{T:TypeId}{S:Nat→Prop}{w:World}{A:Option Addr}{n c:Nat}{xs:List Int}(h:Sl tg T Bo w S A n c xs) (p:Int→Bool)
  (hp:∀(W:World) (x:Int),Below w.heap.size w W→Calls Tryz.prog 117 #[.int .i64 x] W (Bh (.bool (p x)) W)):
  Calls Tryz.prog 136 #[.slice A n c,.func (.func 117) #[] #[]] w (Bh (.int .i64 (idxOf p xs)) w):=by
 have HL:=zh h.len;have HP:=zh hp;clear hp;have hcap:n≤9223372036854775807:=Nat.le_trans h.le h.cap
 go_enter Tryz.func136,Tryz.ntmps136
 go_wp2
 go_loopw [5,8] (fun _ i wr=>∃k:Nat,k≤n∧i=.int .i64 k∧Below w.heap.size w wr∧Hid (∀j,j<k→p (xs.getD j 0)=false)) (fun _ i _=>n - (intOf i).toNat)
 case atStart=>exact⟨0,Nat.zero_le _,rfl,Below.refl _ _,zh (fun j hj=>by omega)⟩
 case round=>
  obtain⟨k,hk,rfl,hB,he⟩:=hrel;by_cases hlt:k<n
  ·obtain⟨b,off,rfl,hS,hbl,g1,hc0,_⟩:=(h.all hB).BZ hlt;have hcall:=HP.out wr (xs.getD k 0) hB;generalize hx:xs.getD k 0=x at *;have HX:=zh hx;clear hx;have HB:=zh hB;clear hB;have HC:=zh hcall;clear hcall;go_wp2_with fail
   refine HC.out.mono ?_;rintro e w2 ⟨rfl,hb2⟩;have gM:=zh hb2;clear hb2
   cases hpx:p x with
   |true=>
    have HF:Hid (idxOf p xs=(k:Int)):=zh (zU (d:=0) (by have:=HL.out;omega) (by rw[HX.out];exact hpx) he.out);clear hpx;go_wp2
    go_ret
    exact⟨by rw[HF.out];rfl,via HB.out gM.out (Nat.le_refl _)⟩
   |false=>
    have HF:Hid (∀j,j<k+1→p (xs.getD j 0)=false):=zh (fun j hj=>by
     by_cases hjk:j=k
     ·subst hjk;rw[HX.out];exact hpx
     exact he.out j (by omega))
    clear hpx;go_wp2
    go_roundw
    case rel=>exact⟨k+1,by omega,by go_num,via HB.out gM.out (Nat.le_refl _),HF⟩
    case measure=>simp[intOf];omega
  have HF:Hid (idxOf p xs=-1):=zh (xV (d:=0) fun j hj=>he.out j (by have:=HL.out;omega));go_wp2
  go_ret
  exact⟨by rw[HF.out];rfl,hB⟩
theorem Qz {tg:Bool}{T:TypeId}{S:Nat→Prop}{w:World}{A:Option Addr}{n c:Nat}{xs:List Int}(h:Sl tg T Bo w S A n c xs) (p:Int→Bool)
  (hp:∀(W:World) (x:Int),Below w.heap.size w W→Calls Tryz.prog 117 #[.int .i64 x] W (Bh (.bool (p x)) W)):
  Calls Tryz.prog 116 #[.slice A n c,.func (.func 117) #[] #[]] w (Bh (.bool (xs.any p)) w):=by
 have HP:=zh hp;clear hp;have HQ:=zh (jx (xs:=xs) (p:=p))
 go_enter Tryz.func116,Tryz.ntmps116
 go_wp2_with fail
 refine(Xf h p HP.out).mono ?_;rintro e w2 ⟨rfl,hb2⟩;generalize hi:idxOf p xs=i at *;go_wp2
 all_goals
  go_ret
  refine⟨?_,hb2⟩;rw[HQ.out]
  first|rfl|(congr 2;simp_all;done)|(congr 2;simp_all;omega)
def xZ (l:List Slot):Bool:=decide (1≤l.length)&&(decide (l.length≤14)&&!(l.any jM))
def jS (kd:Int) (l:List Int):Bool:=!(decide (kd=2)&&decide (l.length≠2))&&(decide (l.length≤2000)&&!(l.any (fun n=>!qW n)))
theorem yh {tg:Bool}{T:TypeId}{S:Nat→Prop}{w:World}{A:Option Addr}{n c:Nat}{xs:List Slot}(h:Sl tg T qr w S A n c xs):
  Calls Tryz.prog 90 #[.slice A n c] w (Bh (.bool (xZ xs)) w):=by
 have HL:=zh h.len;have hcap:n≤9223372036854775807:=Nat.le_trans h.le h.cap;have HC:=zh (Qy h jM (fun W x _=>Kn));obtain⟨R,hR⟩:∃R,R=xZ xs:=⟨_,rfl⟩;rw[←hR];have HR:Hid (R=(decide (1≤n)&&(decide (n≤14)&&!(xs.any jM)))):=zh (by rw[hR];unfold xZ;rw[HL.out]);clear hR;generalize xs.any jM=q at *
 go_enter Tryz.func90,Tryz.ntmps90
 by_cases h1:1≤n
 ·by_cases h2:n≤14
  ·go_wp2_with fail
   refine HC.out.mono ?_;rintro e w1 ⟨rfl,hb1⟩;go_wp2
   go_ret
   exact⟨by rw[HR.out,decide_eq_true h1,decide_eq_true h2];simp,hb1⟩
  go_wp2
  go_ret
  exact⟨by rw[HR.out,decide_eq_false h2];simp,Below.refl _ _⟩
 obtain rfl:n=0:=by omega
 go_wp2
 go_ret
 exact⟨by rw[HR.out];rfl,Below.refl _ _⟩
theorem I4 {tg:Bool}{T:TypeId}{S:Nat→Prop}{w:World}{A B:Option Addr}{n c n5 c5:Nat}{xs:List Int}{kd id:Int}{nm dg:ByteArray}(h:Sl tg T Bo w S A n c xs):
  Calls Tryz.prog 89 #[.agg #[.int .i64 kd,.int .i64 id,.string nm,.string dg,.slice A n c,.slice B n5 c5]] w (Bh (.bool (jS kd xs)) w):=by
 have HL:=zh h.len;have hcap:n≤9223372036854775807:=Nat.le_trans h.le h.cap;have HC:=zh (fun W (hW:Below w.heap.size w W)=>Qz (h.all hW) (fun n=>!qW n) (fun W x _=>yC));obtain⟨R,hR⟩:∃R,R=jS kd xs:=⟨_,rfl⟩;rw[←hR];have HR:Hid (R=(!(decide (kd=2)&&decide (n≠2))&&(decide (n≤2000)&&!(xs.any (fun n=>!qW n))))):=zh (by rw[hR];unfold jS;rw[HL.out]);clear hR;generalize xs.any (fun n=>!qW n)=q at *
 go_enter Tryz.func89,Tryz.ntmps89
 by_cases hb:kd=2∧n≠2
 ·obtain⟨hb1,hb2⟩:=hb;subst hb1;have hb3:((n:Int) !=2)=true:=by simp;omega
  go_wp2
  go_ret
  exact⟨by rw[HR.out];simp[hb2],bz⟩
 by_cases hk:kd=2
 ·have rO:n=2:=by
   rcases Nat.decEq n 2 with h2|h2
   ·exact absurd ⟨hk,h2⟩ hb
   exact h2
  subst hk;subst rO;clear hb;go_wp2_with fail
  refine(HC.out _ bz).mono ?_;rintro e w1 ⟨rfl,hb1⟩;go_wp2
  go_ret
  exact⟨by rw[HR.out];simp,bz⟩
 have hk2:(kd==2)=false:=by simpa using hk
 have HK:=zh hk;clear hk hb;by_cases h3:n≤2000
 ·go_wp2_with fail
  refine(HC.out _ bz).mono ?_;rintro e w1 ⟨rfl,hb1⟩;go_wp2
  go_ret
  exact⟨by rw[HR.out,decide_eq_false HK.out,decide_eq_true h3];simp,bz⟩
 go_wp2
 go_ret
 exact⟨by rw[HR.out,decide_eq_false HK.out,decide_eq_false h3];simp,bz⟩
end Go.Proofs.YtipecejghioicaaGreat
