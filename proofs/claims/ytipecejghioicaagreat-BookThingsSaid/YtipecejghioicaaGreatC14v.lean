import Derived.Test.YtipecejghioicaaGreatJ2v
set_option maxHeartbeats 2000000
set_option maxRecDepth 100000
namespace Go.Proofs.YtipecejghioicaaGreat
open Go.RowKit Go.Silo
def XV (r:Bc):Bc:=⟨r.kind,if zZ (xf r.kind) 73 then r.id else 0,if zZ (xf r.kind) 78 then r.name else ByteArray.empty,if zZ (xf r.kind) 68 then r.digest else ByteArray.empty,if zZ (xf r.kind) 76 then r.list else [],if zZ (xf r.kind) 83 then r.slots else []⟩
def Ka (r:Bc):Bool:=decide (r=XV r)&&(decide (0≤r.id∧r.id≤1073741824)&&((!zZ (xf r.kind) 78||decide (1≤(r.name.size:Int)∧(r.name.size:Int)≤40))&&((!zZ (xf r.kind) 68||decide (r.digest.size=32))&&(decide (r.list.length≤2000)&&((!decide (r.kind=2)||decide (r.list.length=2))&&(!zZ (xf r.kind) 83||decide (1≤(r.slots.length:Int)∧(r.slots.length:Int)≤14)))))))
theorem JF {r:Bc}(hk:1≤r.kind∧r.kind≤8):qI r=(Ka r&&(!(r.list.any (fun n=>!qW n))&&!(r.slots.any jM))):=by
 obtain⟨k,id,nm,dg,li,sl⟩:=r;simp only at hk
 have e1:∀k:Int,1≤k∧k≤8→(xE k 105=zZ (xf k) 73∧xE k 110=zZ (xf k) 78∧xE k 100=zZ (xf k) 68∧xE k 108=zZ (xf k) 76∧xE k 115=zZ (xf k) 83)∧(k=2→zZ (xf k) 76=true):=fun k hk=>by
  rcases (by omega:k=1∨k=2∨k=3∨k=4∨k=5∨k=6∨k=7∨k=8) with h|h|h|h|h|h|h|h<;>subst h<;>decide
 obtain⟨⟨a1,a2,a3,a4,a5⟩,a6⟩:=e1 k hk;unfold qI Ka XV jS xZ;simp only[a1,a2,a3,a4,a5,decide_eq_true hk,Bool.true_and];clear e1 a1 a2 a3 a4 a5;have hd:k=2→zZ (xf k) 76=true:=a6;generalize zZ (xf k) 73=hI at *;generalize zZ (xf k) 78=hN at *;generalize zZ (xf k) 68=hD at *;generalize zZ (xf k) 76=hL at *;generalize zZ (xf k) 83=hS at *;rw[Bool.eq_iff_iff]
 cases hI<;>cases hN<;>cases hD<;>cases hL<;>cases hS<;>simp[qW] at * <;>grind
theorem KD {k:Int}(hk:1≤k∧k≤8):(xf k).size≤3:=by
 rcases (by omega:k=1∨k=2∨k=3∨k=4∨k=5∨k=6∨k=7∨k=8) with h|h|h|h|h|h|h|h<;>subst h<;>decide
def WQ (W0:World) (g:Nat) (r:Bc) (V:World):Prop:=
 Below W0.heap.size W0 V∧∃A n c A' n' c',V.heap[g]?=some (.cells #[.int .i64 r.kind,.int .i64 r.id,.string r.name,.string r.digest,.slice A n c,.slice A' n' c'] 61 (0,0))∧(∃tg T,Sl tg T Bo V (fun q=>q<g) A n c r.list)∧∃tg T,Sl tg T qr V (fun q=>q<g) A' n' c' r.slots
theorem WQ.all {W0:World}{g:Nat}{r:Bc}{V V':World}(h:WQ W0 g r V) (hb:Below V.heap.size V V'):WQ W0 g r V':=by
 obtain⟨h0,A,n,c,A',n',c',hr,⟨t1,T1,s1⟩,t2,T2,s2⟩:=h;exact⟨h0.trans (hb.mono h0.size),A,n,c,A',n',c',zb hb hr,⟨t1,T1,s1.all hb⟩,t2,T2,s2.all hb⟩
theorem WQ.Ct {W0 V:World}{g:Nat}{y:Bc}(h:WQ W0 g y V) (hg:W0.heap.size≤g) (v:Int):WQ W0 g {y with id:=v} (V.setCell ⟨g,1,none⟩ (.int .i64 v)):=by
 obtain⟨h0,A,n,c,A',n',c',hr,⟨t1,T1,s1⟩,t2,T2,s2⟩:=h;exact⟨h0.setCell hg _,A,n,c,A',n',c',by simp[World.setCell,Array.getElem?_modify,hr],⟨t1,T1,s1.keep (Be.setCell (S:=fun q=>q<g) (Be.refl _ _) (p:=⟨g,1,none⟩) (fun h=>Nat.lt_irrefl g h) _)⟩,t2,T2,s2.keep (Be.setCell (S:=fun q=>q<g) (Be.refl _ _) (p:=⟨g,1,none⟩) (fun h=>Nat.lt_irrefl g h) _)⟩
theorem WQ.CB {W0 V:World}{g:Nat}{y:Bc}(h:WQ W0 g y V) (hg:W0.heap.size≤g) (v:ByteArray):WQ W0 g {y with name:=v} (V.setCell ⟨g,2,none⟩ (.string v)):=by
 obtain⟨h0,A,n,c,A',n',c',hr,⟨t1,T1,s1⟩,t2,T2,s2⟩:=h;exact⟨h0.setCell hg _,A,n,c,A',n',c',by simp[World.setCell,Array.getElem?_modify,hr],⟨t1,T1,s1.keep (Be.setCell (S:=fun q=>q<g) (Be.refl _ _) (p:=⟨g,2,none⟩) (fun h=>Nat.lt_irrefl g h) _)⟩,t2,T2,s2.keep (Be.setCell (S:=fun q=>q<g) (Be.refl _ _) (p:=⟨g,2,none⟩) (fun h=>Nat.lt_irrefl g h) _)⟩
theorem WQ.put3 {W0 V:World}{g:Nat}{y:Bc}(h:WQ W0 g y V) (hg:W0.heap.size≤g) (v:ByteArray):WQ W0 g {y with digest:=v} (V.setCell ⟨g,3,none⟩ (.string v)):=by
 obtain⟨h0,A,n,c,A',n',c',hr,⟨t1,T1,s1⟩,t2,T2,s2⟩:=h;exact⟨h0.setCell hg _,A,n,c,A',n',c',by simp[World.setCell,Array.getElem?_modify,hr],⟨t1,T1,s1.keep (Be.setCell (S:=fun q=>q<g) (Be.refl _ _) (p:=⟨g,3,none⟩) (fun h=>Nat.lt_irrefl g h) _)⟩,t2,T2,s2.keep (Be.setCell (S:=fun q=>q<g) (Be.refl _ _) (p:=⟨g,3,none⟩) (fun h=>Nat.lt_irrefl g h) _)⟩
theorem WQ.put4 {W0 V:World}{g n4 c4:Nat}{A4:Option Addr}{tg:Bool}{T:TypeId}{S:Nat→Prop}{y:Bc}{v:List Int}(h:WQ W0 g y V) (hg:W0.heap.size≤g) (hs:Sl tg T Bo V S A4 n4 c4 v) (hS:∀q,S q→q<g):WQ W0 g {y with list:=v} (V.setCell ⟨g,4,none⟩ (.slice A4 n4 c4)):=by
 obtain⟨h0,A,n,c,A',n',c',hr,⟨t1,T1,s1⟩,t2,T2,s2⟩:=h;exact⟨h0.setCell hg _,A4,n4,c4,A',n',c',by simp[World.setCell,Array.getElem?_modify,hr],⟨tg,T,(hs.mono (fun q hq _=>hS q hq)).keep (Be.setCell (S:=fun q=>q<g) (Be.refl _ _) (p:=⟨g,4,none⟩) (fun h=>Nat.lt_irrefl g h) _)⟩,t2,T2,s2.keep (Be.setCell (S:=fun q=>q<g) (Be.refl _ _) (p:=⟨g,4,none⟩) (fun h=>Nat.lt_irrefl g h) _)⟩
theorem WQ.put5 {W0 V:World}{g n5 c5:Nat}{A5:Option Addr}{tg:Bool}{T:TypeId}{S:Nat→Prop}{y:Bc}{v:List Slot}(h:WQ W0 g y V) (hg:W0.heap.size≤g) (hs:Sl tg T qr V S A5 n5 c5 v) (hS:∀q,S q→q<g):WQ W0 g {y with slots:=v} (V.setCell ⟨g,5,none⟩ (.slice A5 n5 c5)):=by
 obtain⟨h0,A,n,c,A',n',c',hr,⟨t1,T1,s1⟩,t2,T2,s2⟩:=h;exact⟨h0.setCell hg _,A,n,c,A5,n5,c5,by simp[World.setCell,Array.getElem?_modify,hr],⟨t1,T1,s1.keep (Be.setCell (S:=fun q=>q<g) (Be.refl _ _) (p:=⟨g,5,none⟩) (fun h=>Nat.lt_irrefl g h) _)⟩,tg,T,(hs.mono (fun q hq _=>hS q hq)).keep (Be.setCell (S:=fun q=>q<g) (Be.refl _ _) (p:=⟨g,5,none⟩) (fun h=>Nat.lt_irrefl g h) _)⟩
def XW (bI bN bD bL bS b2:Bool):Prop:=∀(tg:Bool) (S:Nat→Prop) (w:World) (A4 A5:Option Addr) (n4 c4 n5 c5:Nat) (r:Bc),1≤r.kind∧r.kind≤8→zZ (xf r.kind) 73=bI→zZ (xf r.kind) 78=bN→zZ (xf r.kind) 68=bD→zZ (xf r.kind) 76=bL→zZ (xf r.kind) 83=bS→decide (r.kind=2)=b2→Sl tg 3 Bo w S A4 n4 c4 r.list→Sl tg 88 qr w S A5 n5 c5 r.slots→
  Calls Tryz.prog 31 #[.agg #[.int .i64 r.kind,.int .i64 r.id,.string r.name,.string r.digest,.slice A4 n4 c4,.slice A5 n5 c5]] w (Bh (.bool (qI r)) w)
theorem Zm {P:Prop}(h:P:=by
 unfold XW;intro tg S w A4 A5 n4 c4 n5 c5 r hk eI eN eD eL eS e2 hl hs;have rP:=zh (fun hk=>JF (r:=r) hk);generalize qI r=R at *;have mZ:=zh hl.len;have Ml:=zh hs.len;have MC:n4≤9223372036854775807:=Nat.le_trans hl.le hl.cap;have hcap5:n5≤9223372036854775807:=Nat.le_trans hs.le hs.cap;have mY:=zh (fun V (hV:Below w.heap.size w V)=>hl.Bd.all hV);have HSS:=zh (fun V (hV:Below w.heap.size w V)=>hs.Bd.all hV);clear hl hs;obtain⟨k0,id,nm,dg,li,sl⟩:=r;simp only at rP hk eI eN eD eL eS e2 mZ Ml mY HSS⊢;have hal:Below w.heap.size w (w.alloc (.cells #[.int .i64 k0,.int .i64 id,.string nm,.string dg,.slice A4 n4 c4,.slice A5 n5 c5] 61)):=(Below.refl _ _).alloc (Nat.le_refl _) _;have rH:=heap_alloc_new w (.cells #[.int .i64 k0,.int .i64 id,.string nm,.string dg,.slice A4 n4 c4,.slice A5 n5 c5] 61);have hz:w.heap.size<(w.alloc (.cells #[.int .i64 k0,.int .i64 id,.string nm,.string dg,.slice A4 n4 c4,.slice A5 n5 c5] 61)).heap.size:=by simp
 go_enter Tryz.func31,Tryz.ntmps31
 go_upto_region 1 with (fail)
 generalize (w.alloc (.cells #[.int .i64 k0,.int .i64 id,.string nm,.string dg,.slice A4 n4 c4,.slice A5 n5 c5] 61))=W0 at *;have pE:=zh hal;clear hal;have ROW:=zh (fun V (hV:Below W0.heap.size W0 V)=>(show V.heap[w.heap.size]?=some (.cells #[.int .i64 k0,.int .i64 id,.string nm,.string dg,.slice A4 n4 c4,.slice A5 n5 c5] 61 (0,0)) from(hV.block _ hz).trans rH));clear rH;have r0:=ROW.out W0 (Below.refl _ _);have b0:=zc 0 r0 (.int .i64 k0) rfl;clear r0;go_wp2_with fail
 refine(BN (n:=k0) (l:=1) (m:=8)).mono ?_;clear b0;rintro e w1 ⟨rfl,hb1⟩;have gG:=zh hb1;clear hb1;rw[decide_eq_true hk];obtain⟨X,hX⟩:∃X,X=Ka ⟨k0,id,nm,dg,li,sl⟩:=⟨_,rfl⟩;have HX:=zh hX;clear hX;have GQ:Hid (R=(X&&(!(li.any (fun n=>!qW n))&&!(sl.any jM)))):=zh (by rw[rP.out hk,HX.out]);have hsz:=KD hk;have yQ:=JD (w:=w1) hk;clear rP hk;have MD:=zh yQ;clear yQ;have hwq:XV ⟨k0,id,nm,dg,li,sl⟩=⟨k0,if zZ (xf k0) 73 then id else 0,if zZ (xf k0) 78 then nm else ByteArray.empty,if zZ (xf k0) 68 then dg else ByteArray.empty,if zZ (xf k0) 76 then li else [],if zZ (xf k0) 83 then sl else []⟩:=rfl;unfold Ka at HX;simp only at HX;rw[eI,eN,eD,eL,eS] at hwq;rw[eN,eD,eS,e2] at HX;have HWQ:=zh hwq;clear hwq;generalize xf k0=fl at *;have EI:=zh eI;clear eI;have EN:=zh eN;clear eN;have ED:=zh eD;clear eD;have EL:=zh eL;clear eL;have ES:=zh eS;clear eS;have r0:=ROW.out w1 gG.out;have b0:=zc 0 r0 (.int .i64 k0) rfl;clear r0;go_wp2_with fail
 refine MD.out.mono ?_;clear b0 MD;rintro e w2 ⟨rfl,hb2⟩;have gM:=zt gG hb2;clear hb2;have r0:=ROW.out w2 gM.out;have b0:=zc 0 r0 (.int .i64 k0) rfl;clear r0
 go_upto_region 5 with (fail)
 clear b0;have hrw:=heap_alloc_new w2 (.cells #[.int .i64 k0,.int .i64 0,.string ⟨#[]⟩,.string ⟨#[]⟩,.slice none 0 0,.slice none 0 0] 61);have gF:Below w2.heap.size w2 (w2.alloc (.cells #[.int .i64 k0,.int .i64 0,.string ⟨#[]⟩,.string ⟨#[]⟩,.slice none 0 0,.slice none 0 0] 61)):=(Below.refl _ _).alloc (Nat.le_refl _) _;generalize (w2.alloc (.cells #[.int .i64 k0,.int .i64 0,.string ⟨#[]⟩,.string ⟨#[]⟩,.slice none 0 0,.slice none 0 0] 61))=w3 at *;have hgW:W0.heap.size≤w2.heap.size:=gM.out.size;have hgw:w.heap.size<w2.heap.size:=by omega
 have HB2':=zh (gM.out.trans (gF.mono hgW));clear gM;generalize w2.heap.size=g at *;have HQ:Hid (WQ W0 g ⟨k0,0,ByteArray.empty,ByteArray.empty,[],[]⟩ w3):=zh ⟨HB2'.out,none,0,0,none,0,0,hrw,⟨true,3,Sl.Bn (by omega)⟩,true,3,Sl.Bn (by omega)⟩;clear hrw gF HB2' gG;have HC:=zh (fun V=>jj (w:=V) (s:=fl) (c:=73) hsz);rw[EI.out] at HC;go_wp2_with fail
 refine(HC.out _).mono ?_;rintro e wn ⟨rfl,hbn⟩;have HQ:=zh (HQ.out.all hbn);clear hbn HC
 first
 |have hh:=EI.out.trans (rfl:_=true)
  clear hh;obtain⟨hb0,A,n,c,A',n',c',hr,_⟩:=HQ.out;have r0:=ROW.out _ hb0;have bF:=zc 1 r0 (.int .i64 id) rfl;clear r0;have y0:=(zo 1 hr).trans (show _=some _ from rfl);have z0:=zf 1 hr;have HN:=zh (WQ.Ct HQ.out hgW id);clear hr hb0 HQ
  go_upto_region 7 with (fail)
  generalize (wn.setCell ⟨g,1,none⟩ (.int .i64 id))=wm at *;clear bF y0 z0;have HQ:=HN
  clear HN
 |skip
 have HC:=zh (fun V=>jj (w:=V) (s:=fl) (c:=78) hsz);rw[EN.out] at HC;go_wp2_with fail
 refine(HC.out _).mono ?_;rintro e wn ⟨rfl,hbn⟩;have HQ:=zh (HQ.out.all hbn);clear hbn HC
 first
 |have hh:=EN.out.trans (rfl:_=true)
  clear hh;obtain⟨hb0,A,n,c,A',n',c',hr,_⟩:=HQ.out;have r0:=ROW.out _ hb0;have bF:=zc 2 r0 (.string nm) rfl;clear r0;have y0:=(zo 2 hr).trans (show _=some _ from rfl);have z0:=zf 2 hr;have HN:=zh (WQ.CB HQ.out hgW nm);clear hr hb0 HQ
  go_upto_region 9 with (fail)
  generalize (wn.setCell ⟨g,2,none⟩ (.string nm))=wm at *;clear bF y0 z0;have HQ:=HN
  clear HN
 |skip
 have HC:=zh (fun V=>jj (w:=V) (s:=fl) (c:=68) hsz);rw[ED.out] at HC;go_wp2_with fail
 refine(HC.out _).mono ?_;rintro e wn ⟨rfl,hbn⟩;have HQ:=zh (HQ.out.all hbn);clear hbn HC
 first
 |have hh:=ED.out.trans (rfl:_=true)
  clear hh;obtain⟨hb0,A,n,c,A',n',c',hr,_⟩:=HQ.out;have r0:=ROW.out _ hb0;have bF:=zc 3 r0 (.string dg) rfl;clear r0;have y0:=(zo 3 hr).trans (show _=some _ from rfl);have z0:=zf 3 hr;have HN:=zh (WQ.put3 HQ.out hgW dg);clear hr hb0 HQ
  go_upto_region 11 with (fail)
  generalize (wn.setCell ⟨g,3,none⟩ (.string dg))=wm at *;clear bF y0 z0;have HQ:=HN
  clear HN
 |skip
 have HC:=zh (fun V=>jj (w:=V) (s:=fl) (c:=76) hsz);rw[EL.out] at HC;go_wp2_with fail
 refine(HC.out _).mono ?_;rintro e wn ⟨rfl,hbn⟩;have HQ:=zh (HQ.out.all hbn);clear hbn HC
 first
 |have hh:=EL.out.trans (rfl:_=true)
  clear hh;obtain⟨hb0,A,n,c,A',n',c',hr,_⟩:=HQ.out;have r0:=ROW.out _ hb0;have bF:=zc 4 r0 (.slice A4 n4 c4) rfl;clear r0;have y0:=(zo 4 hr).trans (show _=some _ from rfl);have z0:=zf 4 hr;have HN:=zh (WQ.put4 HQ.out hgW (mY.out _ (zu pE hb0)) (fun q hq=>Nat.lt_trans hq.2 hgw));clear hr hb0 HQ
  go_upto_region 13 with (fail)
  generalize (wn.setCell ⟨g,4,none⟩ (.slice A4 n4 c4))=wm at *;clear bF y0 z0;have HQ:=HN
  clear HN
 |skip
 have HC:=zh (fun V=>jj (w:=V) (s:=fl) (c:=83) hsz);rw[ES.out] at HC;go_wp2_with fail
 refine(HC.out _).mono ?_;rintro e wn ⟨rfl,hbn⟩;have HQ:=zh (HQ.out.all hbn);clear hbn HC
 first
 |have hh:=ES.out.trans (rfl:_=true)
  clear hh;obtain⟨hb0,A,n,c,A',n',c',hr,_⟩:=HQ.out;have r0:=ROW.out _ hb0;have bF:=zc 5 r0 (.slice A5 n5 c5) rfl;clear r0;have y0:=(zo 5 hr).trans (show _=some _ from rfl);have z0:=zf 5 hr;have HN:=zh (WQ.put5 HQ.out hgW (HSS.out _ (zu pE hb0)) (fun q hq=>Nat.lt_trans hq.2 hgw));clear hr hb0 HQ
  go_upto_region 15 with (fail)
  generalize (wn.setCell ⟨g,5,none⟩ (.slice A5 n5 c5))=wm at *;clear bF y0 z0;have HQ:=HN
  clear HN
 |skip
 have nB:Hid (WQ W0 g (XV ⟨k0,id,nm,dg,li,sl⟩) _):=zh (by have h:=HQ.out;rw[HWQ.out];simpa using h);clear HQ HWQ;generalize XV ⟨k0,id,nm,dg,li,sl⟩=y at *;obtain⟨hb0,A,n,c,A',n',c',hr,⟨t1,T1,s4⟩,t2,T2,s5⟩:=nB.out;have mr:=zh hb0;have r0:=ROW.out _ mr.out;obtain⟨b0,b1,b2,b3,b4,b5⟩:=QK r0;clear r0;obtain⟨y0,y1,y2,y3,y4,y5⟩:=QK hr;have HE:=zh (ze (x:=⟨k0,id,nm,dg,li,sl⟩) (y:=y) (mY.out _ (zu pE hb0)) (HSS.out _ (zu pE hb0)) s4 s5);clear hr s4 s5 hb0 nB;generalize hq1:decide ((⟨k0,id,nm,dg,li,sl⟩:Bc)=y)=q1 at *;clear hq1;go_wp2_with fail
 refine HE.out.mono ?_;clear b0 b1 b2 b3 b4 b5 y0 y1 y2 y3 y4 y5 HE;rintro e wn ⟨rfl,hbn⟩;have mr:=zt mr hbn;clear hbn;rcases q1 with _|_
 ·have HF:Hid (R=false):=zh (by rw[GQ.out,HX.out];simp);go_wp2
  go_ret
  exact⟨by rw[HF.out];rfl,pE.out.trans (mr.out.mono pE.out.size)⟩
 have r0:=ROW.out _ mr.out;have b1:=zc 1 r0 (.int .i64 id) rfl;clear r0;generalize hq:decide (0≤id∧id≤1073741824)=qq at *;go_wp2_with fail
 refine(Ci (n:=id) (m:=1073741824)).mono ?_;rw[hq];clear b1 hq;rintro e wn ⟨rfl,hbn⟩;have mr:=zt mr hbn;clear hbn;rcases qq with _|_
 ·have HF:Hid (R=false):=zh (by rw[GQ.out,HX.out];simp);go_wp2
  go_ret
  exact⟨by rw[HF.out];rfl,pE.out.trans (mr.out.mono pE.out.size)⟩
 have HC:=zh (fun V=>jj (w:=V) (s:=fl) (c:=78) hsz);rw[EN.out] at HC;go_wp2_with fail
 refine(HC.out _).mono ?_;clear HC;rintro e wn ⟨rfl,hbn⟩;have mr:=zt mr hbn;clear hbn
 first
 |have hh:=EN.out.trans (rfl:_=true)
  clear hh;have r0:=ROW.out _ mr.out;have b2:=zc 2 r0 (.string nm) rfl;clear r0;generalize hq:decide (1≤(nm.size:Int)∧(nm.size:Int)≤40)=qq at *;go_wp2_with fail
  refine(BN (n:=(nm.size:Int)) (l:=1) (m:=40)).mono ?_;rw[hq];clear b2 hq;rintro e wn ⟨rfl,hbn⟩;have mr:=zt mr hbn;clear hbn;rcases qq with _|_
  ·have HF:Hid (R=false):=zh (by rw[GQ.out,HX.out];simp)
   go_wp2
   go_ret
   exact⟨by rw[HF.out];rfl,pE.out.trans (mr.out.mono pE.out.size)⟩
 |skip
 have HC:=zh (fun V=>jj (w:=V) (s:=fl) (c:=68) hsz);rw[ED.out] at HC;go_wp2_with fail
 refine(HC.out _).mono ?_;clear HC;rintro e wn ⟨rfl,hbn⟩;have mr:=zt mr hbn;clear hbn
 first
 |have hh:=ED.out.trans (rfl:_=true)
  clear hh;have r0:=ROW.out _ mr.out;have b3:=zc 3 r0 (.string dg) rfl;clear r0;generalize hq:decide (dg.size=32)=qq at *
  have hne:((dg.size:Int) !=32)=!qq:=by
    rw[←hq,Bool.eq_iff_iff];simp;omega
  clear hq;rcases qq with _|_
  ·have HF:Hid (R=false):=zh (by rw[GQ.out,HX.out];simp)
   go_wp2
   go_ret
   exact⟨by rw[HF.out];rfl,pE.out.trans (mr.out.mono pE.out.size)⟩
  have hne2:((dg.size:Int) !=32)=false:=hne
  clear hne
 |skip
 have r0:=ROW.out _ mr.out;have b0:=zc 0 r0 (.int .i64 k0) rfl;have b4:=zc 4 r0 (.slice A4 n4 c4) rfl;clear r0;generalize hq5:decide (li.length≤2000)=q5 at *;rcases q5 with _|_
 ·have hn4:2000<n4:=by have:=of_decide_eq_false hq5;have:=mZ.out;omega
  have HF:Hid (R=false):=zh (by rw[GQ.out,HX.out];simp);go_wp2
  go_ret
  exact⟨by rw[HF.out];rfl,pE.out.trans (mr.out.mono pE.out.size)⟩
 have hn4:¬2000<n4:=by have:=of_decide_eq_true hq5;have:=mZ.out;omega
 first
 |have hk2:(k0==2)=true:=by have:=of_decide_eq_true e2;simpa using this
  generalize ME:decide (li.length=2)=q7 at *;rcases q7 with _|_
  ·have rO:((n4:Int) !=2)=true:=by have:=of_decide_eq_false ME;have:=mZ.out;simp;omega
   have HF:Hid (R=false):=zh (by rw[GQ.out,HX.out];simp);go_wp2
   go_ret
   exact⟨by rw[HF.out];rfl,pE.out.trans (mr.out.mono pE.out.size)⟩
  have rO:((n4:Int) !=2)=false:=by have:=of_decide_eq_true ME;have:=mZ.out;simp;omega
 |have hk2:(k0==2)=false:=by have:=of_decide_eq_false e2;simpa using this
 have HC:=zh (fun V=>jj (w:=V) (s:=fl) (c:=83) hsz);rw[ES.out] at HC;go_wp2_with fail
 refine(HC.out _).mono ?_;clear HC;rintro e wn ⟨rfl,hbn⟩;have mr:=zt mr hbn;clear hbn;clear b0 b4
 first
 |have hh:=ES.out.trans (rfl:_=true)
  clear hh;have r0:=ROW.out _ mr.out;have b5:=zc 5 r0 (.slice A5 n5 c5) rfl;clear r0;generalize hq:decide (1≤(sl.length:Int)∧(sl.length:Int)≤14)=qq at *;go_wp2_with fail
  refine(BN (n:=n5) (l:=1) (m:=14)).mono ?_;rw[show decide (1≤(n5:Int)∧(n5:Int)≤14)=qq by rw[←hq,Ml.out]];clear b5 hq;rintro e wn ⟨rfl,hbn⟩;have mr:=zt mr hbn;clear hbn;rcases qq with _|_
  ·have HF:Hid (R=false):=zh (by rw[GQ.out,HX.out];simp)
   go_wp2
   go_ret
   exact⟨by rw[HF.out];rfl,pE.out.trans (mr.out.mono pE.out.size)⟩
 |skip
 obtain⟨q8,hq8⟩:∃q8,(!(li.any (fun n=>!qW n)))=q8:=⟨_,rfl⟩;obtain⟨q9,hq9⟩:∃q9,(!(sl.any jM))=q9:=⟨_,rfl⟩;have HT:Hid (R=(q8&&q9)):=zh (by rw[GQ.out,HX.out,hq8,hq9];simp);have HQ8:=zh hq8;clear hq8;have HQ9:=zh hq9;clear hq9;have HBE:=mr;clear GQ HX;clear hn4;have r0:=ROW.out _ HBE.out;have b4:=zc 4 r0 (.slice A4 n4 c4) rfl;clear r0;go_wp2_with fail
 go_loopw [5] (fun i wr=>∃k:Nat,k≤n4∧i=.int .i64 k∧Hid (Below W0.heap.size W0 wr)∧Hid (∀j,j<k→qW (li.getD j 0)=true)) (fun i _=>n4 - (intOf i).toNat)
 case atStart=>exact⟨0,Nat.zero_le _,rfl,HBE,zh (fun j hj=>by omega)⟩
 case round=>
  clear b4;obtain⟨k,hk,rfl,HBr,he⟩:=hrel;have r0:=ROW.out wr HBr.out;have b4:=zc 4 r0 (.slice A4 n4 c4) rfl;clear r0;by_cases hlt:k<n4
  ·obtain⟨b,off,eA,_,hbl,_,hc0,_⟩:=(mY.out wr (zu pE HBr.out)).BZ hlt;subst eA;have hkl:k<li.length:=(by have:=mZ.out;omega);have HM:=zh (zV (d:=0) hkl);clear hkl;generalize hy:li.getD k 0=y at *;have HY:=zh hy;clear hy;go_wp2_with fail
   refine(Ci (n:=y) (m:=1073741824)).mono ?_;rw[show decide (0≤y∧y≤1073741824)=qW y from rfl];clear b4 hc0;rintro e wn ⟨rfl,hbn⟩;have HBn:=zt HBr hbn;clear hbn
   cases hn:qW y with
   |false=>
    have HF:Hid (R=false):=zh (by
     have h1:(li.any (fun n=>!qW n))=true:=List.any_eq_true.2 ⟨y,HM.out,by rw[hn];rfl⟩
     rw[HT.out,←HQ8.out,h1];rfl)
    clear hn;go_wp2
    go_ret
    exact⟨by rw[HF.out];rfl,pE.out.trans (HBn.out.mono pE.out.size)⟩
   |true=>
    have HN:Hid (∀j,j<k+1→qW (li.getD j 0)=true):=zh (fun j hj=>by
     by_cases e:j=k
     ·subst e;rw[HY.out];exact hn
     exact he.out j (by omega))
    clear hn;go_wp2
    go_roundw
    case rel=>exact⟨k+1,by omega,by go_num,HBn,HN⟩
    case measure=>simp[intOf];omega
  have Mj:Hid (R=q9):=zh (by
   have h1:(li.any (fun n=>!qW n))=false:=List.any_eq_false.2 (fun x hx=>by
    obtain⟨j,hj,e⟩:=List.getElem_of_mem hx;have:=he.out j (by have:=mZ.out;omega);rw[List.getD_eq_getElem?_getD,List.getElem?_eq_getElem hj,Option.getD_some,e] at this
    rw[this];decide)
   rw[HT.out,←HQ8.out,h1];rfl)
  clear HT HQ8 he
  rename World=>wo
  have r0:=ROW.out wo HBr.out;have b5:=zc 5 r0 (.slice A5 n5 c5) rfl;clear r0;go_wp2_with fail
  go_loopw [6] (fun i wr=>∃k:Nat,k≤n5∧i=.int .i64 k∧Hid (Below W0.heap.size W0 wr)∧Hid (∀j,j<k→jM (sl.getD j default)=false)) (fun i _=>n5 - (intOf i).toNat)
  case atStart=>exact⟨0,Nat.zero_le _,rfl,HBr,zh (fun j hj=>by omega)⟩
  case round=>
   clear b4 b5;obtain⟨m,hm,rfl,HBs,he⟩:=hrel;have r0:=ROW.out wr HBs.out;have b5:=zc 5 r0 (.slice A5 n5 c5) rfl;clear r0;by_cases rT:m<n5
   ·obtain⟨b,off,eA,_,hbl,_,_,hc0,hc1,_⟩:=(HSS.out wr (zu pE HBs.out)).C8 rT;subst eA;have hkl:m<sl.length:=(by have:=Ml.out;omega);have HM:=zh (zV (d:=default) hkl);clear hkl;generalize hy:sl.getD m default=y at *;have HY:=zh hy;clear hy;go_wp2_with fail
    refine(BN (n:=y.disk) (l:=-1) (m:=11)).mono ?_;clear b5 hc0;rintro e wn ⟨rfl,hbn⟩;have HBn:=zt HBs hbn;have hc1:=(hbn.cell (p:=⟨b,off+m* 2+1,none⟩) hbl).trans hc1;have hbl:=Nat.lt_of_lt_of_le hbl hbn.size;clear hbn;by_cases hd1:(-1≤y.disk∧y.disk≤11)
    ·rw[decide_eq_true hd1];have r0:=ROW.out wn HBn.out;have b5:=zc 5 r0 (.slice (some ⟨b,off,none⟩) n5 c5) rfl;clear r0;have HD1:=zh hd1;clear hd1;go_wp2_with fail
     refine(Ci (n:=y.pos) (m:=63)).mono ?_;clear b5 hc1;rintro e wp ⟨rfl,hbp⟩;have Gx:=zt HBn hbp;clear hbp;by_cases hd2:(0≤y.pos∧y.pos≤63)
     ·rw[decide_eq_true hd2]
      have HN:Hid (∀j,j<m+1→jM (sl.getD j default)=false):=zh (fun j hj=>by
       by_cases e:j=m
       ·subst e;rw[HY.out];unfold jM;exact decide_eq_false (by have:=HD1.out;omega)
       exact he.out j (by omega))
      clear hd2;go_wp2
      go_roundw
      case rel=>exact⟨m+1,by omega,by go_num,Gx,HN⟩
      case measure=>simp[intOf];omega
     rw[decide_eq_false hd2]
     have HF:Hid (R=false):=zh (by
      have h1:(sl.any jM)=true:=List.any_eq_true.2 ⟨y,HM.out,by unfold jM;exact decide_eq_true (by omega)⟩
      rw[Mj.out,←HQ9.out,h1];rfl)
     clear hd2;go_wp2
     go_ret
     exact⟨by rw[HF.out];rfl,pE.out.trans (Gx.out.mono pE.out.size)⟩
    rw[decide_eq_false hd1]
    have HF:Hid (R=false):=zh (by
     have h1:(sl.any jM)=true:=List.any_eq_true.2 ⟨y,HM.out,by unfold jM;exact decide_eq_true (by omega)⟩
     rw[Mj.out,←HQ9.out,h1];rfl)
    clear hd1;go_wp2
    go_ret
    exact⟨by rw[HF.out];rfl,pE.out.trans (HBn.out.mono pE.out.size)⟩
   have HF:Hid (R=true):=zh (by
    have h1:(sl.any jM)=false:=List.any_eq_false.2 (fun x hx=>by
     obtain⟨j,hj,e⟩:=List.getElem_of_mem hx;have:=he.out j (by have:=Ml.out;omega);rw[List.getD_eq_getElem?_getD,List.getElem?_eq_getElem hj,Option.getD_some,e] at this
     rw[this];decide)
    rw[Mj.out,←HQ9.out,h1];rfl)
   go_wp2
   go_ret
   exact⟨by rw[HF.out];rfl,pE.out.trans (HBs.out.mono pE.out.size)⟩):P:=h
end Go.Proofs.YtipecejghioicaaGreat
