import Derived.Test.YtipecejghioicaaGreatJ20v
import Derived.Test.YtipecejghioicaaGreatH3v
set_option maxHeartbeats 16000000
set_option maxRecDepth 100000
namespace Go.Proofs.YtipecejghioicaaGreat
open Go.RowKit Go.Silo
theorem QC (w:World) (p:Addr) (v:Value) (q:Addr) (h:(w.cell? q).isSome=true):((w.setCell p v).cell? q).isSome=true:=by
 by_cases e:p=q
 ·subst e;rw[World.cell?_setCell_same' w p v h];rfl
 rw[World.cell?_setCell_other w p q v e];exact h
structure BR (S:Nat→Prop) (w w':World):Prop where
 os:w'.os=w.os
 tape:w'.tape=w.tape
 output:w'.output=w.output
 size:w.heap.size≤w'.heap.size
 block:∀b,b<w.heap.size→¬S b→w'.heap[b]?=w.heap[b]?
 cell:∀p,(w.cell? p).isSome=true→(w'.cell? p).isSome=true∧w'.frozen? p=w.frozen? p
theorem BR.refl (S:Nat→Prop) (w:World):BR S w w:=⟨rfl,rfl,rfl,Nat.le_refl _,fun _ _ _=>rfl,fun _ h=>⟨h,rfl⟩⟩
theorem BR.trans {S:Nat→Prop}{a b c:World}(h:BR S a b) (k:BR S b c):BR S a c:=
 ⟨k.os.trans h.os,k.tape.trans h.tape,k.output.trans h.output,Nat.le_trans h.size k.size,fun i hi hn=>(k.block i (Nat.lt_of_lt_of_le hi h.size) hn).trans (h.block i hi hn),fun p hp=>⟨(k.cell p (h.cell p hp).1).1,((k.cell p (h.cell p hp).1).2).trans (h.cell p hp).2⟩⟩
theorem BR.mono {S S':Nat→Prop}{w w':World}(h:BR S w w') (hS:∀b,b<w.heap.size→S b→S' b):BR S' w w':=⟨h.os,h.tape,h.output,h.size,fun b hb hn=>h.block b hb (fun hs=>hn (hS b hb hs)),h.cell⟩
theorem BR.of_below {S:Nat→Prop}{w w':World}(h:Below w.heap.size w w'):BR S w w':=⟨h.os,h.tape,h.output,h.size,fun b hb _=>h.block b hb,fun p hp=>by
 obtain⟨u,hu⟩:=Option.isSome_iff_exists.1 hp;have hl:=World.block_lt_of_cell? w p hu
 exact⟨by rw[h.cell hl];exact hp,h.frozen hl⟩⟩
theorem BR.setCell {S:Nat→Prop}{w w':World}(h:BR S w w') {p:Addr}(hp:S p.block) (v:Value):BR S w (w'.setCell p v):=
 h.trans ⟨rfl,rfl,rfl,by simp,fun b _ hn=>Below.heap_setCell w' p v b (fun e=>hn (by rw[e];exact hp)),fun q hq=>⟨QC _ _ _ _ hq,World.frozen?_setCell _ _ _ _⟩⟩
def Wr (w:World) (A:Option Addr) (n:Nat):Prop:=0<n→∃b off,A=some ⟨b,off,none⟩∧b<w.heap.size∧∀j,j<n→(w.cell? ⟨b,off+j,none⟩).isSome=true∧w.frozen? ⟨b,off+j,none⟩=false
theorem Wr.EY {S:Nat→Prop}{w w':World}{A:Option Addr}{n:Nat}(h:Wr w A n) (k:BR S w w'):Wr w' A n:=fun hn=>by
 obtain⟨b,off,e,hl,hc⟩:=h hn;exact⟨b,off,e,Nat.lt_of_lt_of_le hl k.size,fun j hj=>⟨(k.cell _ (hc j hj).1).1,((k.cell _ (hc j hj).1).2).trans (hc j hj).2⟩⟩
theorem _root_.Go.Silo.Sl.wr {tg:Bool}{T:TypeId}{w:World}{S:Nat→Prop}{A:Option Addr}{n c:Nat}{xs:List Int}(h:Sl tg T Bo w S A n c xs):Wr w A n:=fun hn=>by
 obtain⟨b,off,e,_,hl,_,_,_⟩:=h.BZ hn;refine⟨b,off,e,hl,fun j hj=>?_⟩;obtain⟨b',off',e',_,_,_,hc,hf⟩:=h.BZ hj;rw[e] at e';injection e' with e';injection e' with e1 e2 _;subst e1;subst e2
 exact⟨by rw[hc];rfl,hf⟩
theorem KG {w:World}{A:Option Addr}{n c:Nat}(h:Wr w A n) (hcap:n≤9223372036854775807):
  Calls Tryz.prog 55 #[.slice A n c] w (fun e w'=>(∃v,e=.returned v)∧BR (fun b=>0<n∧qd A=some b) w w'):=by
 go_enter Tryz.func55,Tryz.ntmps55
 go_wp2
 go_loopw [2] (fun i wr=>∃k:Nat,k≤n∧i=.int .i64 k∧BR (fun b=>0<n∧qd A=some b) w wr) (fun i _=>n - (intOf i).toNat)
 case atStart=>exact⟨0,Nat.zero_le _,rfl,BR.refl _ _⟩
 case round=>
  obtain⟨k,hk,rfl,hT⟩:=hrel;by_cases hlt:k<n
  ·obtain⟨b,off,rfl,hl,hc⟩:=(h.EY hT) (by omega);have hl':=hl;obtain⟨hc1,hc2⟩:=hc k hlt;obtain⟨u,hu⟩:=Option.isSome_iff_exists.1 hc1;have HT:=zh hT;clear hc hT hc1 h;go_wp2
   go_roundw
   case rel=>exact⟨k+1,by omega,by go_num,HT.out.setCell (p:=⟨b,off+k,none⟩) ⟨by omega,rfl⟩ _⟩
   case measure=>simp[intOf];omega
  go_wp2
  refine bodyPost_end (results_none rfl _ _ _) rfl ?_;exact⟨⟨_,rfl⟩,hT⟩
theorem jl {α β:Type}{T T':TypeId}{E:Enc α}{F:Enc β}{w:World}{S S':Nat→Prop}{b off n c b' off' n' c':Nat}{xs:List α}{ys:List β}(h:Sl true T E w S (some ⟨b,off,none⟩) n c xs) (h':Sl true T' F w S' (some ⟨b',off',none⟩) n' c' ys) (hn:0<n) (hn':0<n') (hT:T≠T'):b≠b':=by
 intro e;subst e;obtain⟨q,hq⟩:=h.BI hn;obtain⟨q',hq'⟩:=h'.BI hn';rw[hq] at hq';injection hq' with hq';injection hq' with hq' _
 exact hT hq'
theorem Qt {g:Nat}{p:Addr}:∀(vs:List Value) (k:Nat) (W:World),(p.block≠g∨p.off<k∨k+vs.length≤p.off)→(Bf g k vs W).cell? p=W.cell? p
 |[],_,_,_=>rfl
 |v::vs,k,W,h=>by
  show(Bf g (k+1) vs (W.setCell ⟨g,k,none⟩ v)).cell? p=_;rw[Qt vs (k+1) _ (by simp only[List.length_cons] at h;omega)];exact World.cell?_setCell_other _ _ _ _ (fun e=>by subst e;simp only[List.length_cons] at h;omega)
theorem BR.Bf {S:Nat→Prop}{w:World}{g:Nat}(hS:S g):∀(vs:List Value) (k:Nat) (W:World),BR S w W→BR S w (Silo.Bf g k vs W)
 |[],_,_,h=>h
 |v::vs,k,_W,h=>BR.Bf hS vs (k+1) _ (h.setCell (p:=⟨g,k,none⟩) hS v)
theorem _root_.Go.Silo.Sl.wr2 {tg:Bool}{T:TypeId}{w:World}{S:Nat→Prop}{A:Option Addr}{n c:Nat}{xs:List Slot}(h:Sl tg T qr w S A n c xs):Wr w A (n* 2):=fun hn=>by
 obtain⟨b,off,e,_,hl,_⟩:=h.C8 (k:=0) (by omega);refine⟨b,off,e,hl,fun j hj=>?_⟩;obtain⟨b',off',e',_,_,_,_,hc,hc1,hf,hf1⟩:=h.C8 (k:=j / 2) (by omega);rw[e] at e';injection e' with e';injection e' with e1 e2 _;subst e1;subst e2
 rcases (by omega:j=j / 2* 2∨j=j / 2* 2+1) with vW|vW
 ·rw[vW];exact⟨by rw[hc];rfl,hf⟩
 rw[vW,show off+(j / 2* 2+1)=off+j / 2* 2+1 from by omega];exact⟨by rw[hc1];rfl,hf1⟩
theorem JK {w:World}{A:Option Addr}{n c:Nat}(h:Wr w A (n* 2)) (hcap:n≤9223372036854775807):
  Calls Tryz.prog 70 #[.slice A n c] w (fun e w'=>(∃v,e=.returned v)∧BR (fun b=>0<n∧qd A=some b) w w'):=by
 go_enter Tryz.func70,Tryz.ntmps70
 go_wp2
 go_loopw [2] (fun i wr=>∃k:Nat,k≤n∧i=.int .i64 k∧BR (fun b=>0<n∧qd A=some b) w wr) (fun i _=>n - (intOf i).toNat)
 case atStart=>exact⟨0,Nat.zero_le _,rfl,BR.refl _ _⟩
 case round=>
  obtain⟨k,hk,rfl,hT⟩:=hrel;by_cases hlt:k<n
  ·obtain⟨b,off,rfl,hl,hc⟩:=(h.EY hT) (by omega);obtain⟨hc1,hc2⟩:=hc (k* 2) (by omega);obtain⟨hc3,x4⟩:=hc (k* 2+1) (by omega);obtain⟨u,hu⟩:=Option.isSome_iff_exists.1 hc1;obtain⟨v,hv⟩:=Option.isSome_iff_exists.1 hc3;rw[show off+(k* 2+1)=off+k* 2+1 from by omega] at hv x4;have HT:=zh hT;clear hc hT hc1 hc3 h;go_wp2
   go_roundw
   case rel=>exact⟨k+1,by omega,by go_num,(HT.out.setCell (p:=⟨b,off+k* 2,none⟩) ⟨by omega,rfl⟩ _).setCell (p:=⟨b,off+k* 2+1,none⟩) ⟨by omega,rfl⟩ _⟩
   case measure=>simp[intOf];omega
  go_wp2
  refine bodyPost_end (results_none rfl _ _ _) rfl ?_;exact⟨⟨_,rfl⟩,hT⟩
def Cb (W W':World) (A:Option Addr) (i n:Nat):Prop:=∀b off,A=some ⟨b,off,none⟩→∀j,i≤j→j<n→W'.cell? ⟨b,off+j,none⟩=W.cell? ⟨b,off+j,none⟩
theorem Cb.refl {W:World}{A:Option Addr}{i n:Nat}:Cb W W A i n:=fun _ _ _ _ _ _=>rfl
theorem Cb.later {W W':World}{A:Option Addr}{i i' n:Nat}(h:Cb W W' A i n) (hi:i≤i'):Cb W W' A i' n:=fun b off e j hj hn=>h b off e j (Nat.le_trans hi hj) hn
theorem Cb.step {SS:Nat→Prop}{W wo w5:World}{A:Option Addr}{i i' n g o:Nat}{vs:List Value}(h:Cb W wo A i n) (ht:BR SS wo w5) (hA:∀b off,A=some ⟨b,off,none⟩→0<n→b<wo.heap.size∧¬SS b∧(b≠g∨∀j,i'≤j→off+j<o∨o+vs.length≤off+j)) (hi:i≤i'):
  Cb W (Bf g o vs w5) A i' n:=fun b off e j hj hn=>by
 obtain⟨h1,h2,h3⟩:=hA b off e (by omega);rw[Qt vs o w5 (by rcases h3 with h3|h3;exact .inl h3;exact .inr (h3 j hj))];exact(World.cell?_of_block (a:=⟨b,off+j,none⟩) (ht.block b h1 h2)).trans (h b off e j (Nat.le_trans hi hj) hn)
theorem jX {w:World}{S:Nat→Prop}{A0 A1 A2:Option Addr}{n0 c0 n1 c1 n2 c2:Nat}{b:Book}(h:Bl w S true true true true A0 n0 c0 A1 n1 c1 A2 n2 c2 b):
  Calls Tryz.prog 36 #[.agg #[.slice A0 n0 c0,.slice A1 n1 c1,.slice A2 n2 c2,.int .i64 b.next]] w (fun e w'=>(∃v,e=.returned v)∧BR (fun b=>S b∧b<w.heap.size) w w'):=by
 have hcap0:n0≤9223372036854775807:=Nat.le_trans h.st.le h.st.cap;have hcap1:n1≤9223372036854775807:=Nat.le_trans h.th.le h.th.cap;have hcap2:n2≤9223372036854775807:=Nat.le_trans h.ta.le h.ta.cap;have g0:=(h.st.Bd).frame (Agree.alloc _ w (.cells #[.slice A0 n0 c0,.slice A1 n1 c1,.slice A2 n2 c2,.int .i64 b.next] 28)) (by simp);have g1:=(h.th.Bd).frame (Agree.alloc _ w (.cells #[.slice A0 n0 c0,.slice A1 n1 c1,.slice A2 n2 c2,.int .i64 b.next] 28)) (by simp);have g2:=(h.ta.Bd).frame (Agree.alloc _ w (.cells #[.slice A0 n0 c0,.slice A1 n1 c1,.slice A2 n2 c2,.int .i64 b.next] 28)) (by simp);have G3:=heap_alloc_new w (.cells #[.slice A0 n0 c0,.slice A1 n1 c1,.slice A2 n2 c2,.int .i64 b.next] 28);have hT0:BR (fun g=>S g∧g<w.heap.size) w (w.alloc (.cells #[.slice A0 n0 c0,.slice A1 n1 c1,.slice A2 n2 c2,.int .i64 b.next] 28)):=.of_below ((Below.refl _ _).alloc (Nat.le_refl _) _);have hz:w.heap.size<(w.alloc (.cells #[.slice A0 n0 c0,.slice A1 n1 c1,.slice A2 n2 c2,.int .i64 b.next] 28)).heap.size:=by simp
 have G0:=zh g0;clear g0;have G1:=zh g1;clear g1;have G2:=zh g2;clear g2 h;have HT0:=zh hT0;clear hT0;have HBOX:=zh G3;clear G3
 go_enter Tryz.func36,Tryz.ntmps36
 go_upto_region 1 with (fail)
 generalize (w.alloc (.cells #[.slice A0 n0 c0,.slice A1 n1 c1,.slice A2 n2 c2,.int .i64 b.next] 28))=W1 at *;generalize b.next=nx at *;go_wp2_with fail
 go_loopw [2] (fun i wr=>∃k:Nat,k≤n0∧i=.int .i64 k∧Hid (BR (fun g=>S g∧g<w.heap.size) W1 wr)∧Hid (Cb W1 wr A0 (k* 4) (n0* 4))∧Hid (Cb W1 wr A1 0 (n1* 4))∧Hid (Cb W1 wr A2 0 (n2* 2))) (fun i _=>n0 - (intOf i).toNat)
 case atStart=>exact⟨0,Nat.zero_le _,rfl,zh (BR.refl _ _),zh Cb.refl,zh Cb.refl,zh Cb.refl⟩
 case round=>
  obtain⟨k,hk,rfl,HT,GN,vo,uk⟩:=hrel
  rename World=>wo
  have hrow:wo.heap[w.heap.size]?=some (.cells #[.slice A0 n0 c0,.slice A1 n1 c1,.slice A2 n2 c2,.int .i64 nx] 28 (0,0)):=(HT.out.block w.heap.size hz (fun h=>absurd h.2 (Nat.lt_irrefl _))).trans HBOX.out;have p0:=(cell_of_row wo w.heap.size 0 _ _ _ hrow).trans (show _=some (Value.slice A0 n0 c0) from rfl);have gS:=zh hrow;clear hrow;by_cases hlt:k<n0
  ·obtain⟨bb,off,A3,n3,c3,eA,hS1,hbl1,_,_,_,hsl,hc0,hc1,hc2,hc3,hf0,hf1,hf2,hf3⟩:=G0.out.Br hlt;subst eA;have u0:wo.cell? ⟨bb,off+k* 4,none⟩=_:=(GN.out bb off rfl (k* 4) (by omega) (by omega)).trans hc0;have v0:wo.frozen? ⟨bb,off+k* 4,none⟩=false:=((HT.out.cell _ (by rw[hc0];rfl)).2).trans hf0;have u1:wo.cell? ⟨bb,off+k* 4+1,none⟩=_:=(GN.out bb off rfl (k* 4+1) (by omega) (by omega)).trans hc1;have v1:wo.frozen? ⟨bb,off+k* 4+1,none⟩=false:=((HT.out.cell _ (by rw[hc1];rfl)).2).trans hf1;have u2:wo.cell? ⟨bb,off+k* 4+2,none⟩=_:=(GN.out bb off rfl (k* 4+2) (by omega) (by omega)).trans hc2;have v2:wo.frozen? ⟨bb,off+k* 4+2,none⟩=false:=((HT.out.cell _ (by rw[hc2];rfl)).2).trans hf2;have u3:wo.cell? ⟨bb,off+k* 4+3,none⟩=_:=(GN.out bb off rfl (k* 4+3) (by omega) (by omega)).trans hc3;have v3:wo.frozen? ⟨bb,off+k* 4+3,none⟩=false:=((HT.out.cell _ (by rw[hc3];rfl)).2).trans hf3;clear hc0 hf0 hc1 hf1 hc2 hf2 hc3 hf3;have hbl:bb<wo.heap.size:=Nat.lt_of_lt_of_le hbl1 HT.out.size;have Mh:=zh hS1;clear hS1;have mK:=zh hsl;clear hsl
   have uE:Hid (∀g,(0<n3∧qd A3=some g)→g≠bb∧(0<n1→∀b0 po,A1=some ⟨b0,po,none⟩→g≠b0)∧(0<n2→∀b0 po,A2=some ⟨b0,po,none⟩→g≠b0)∧S g∧g<w.heap.size):=zh (fun g hg=>by
    obtain⟨bi,oi,e,hSi,_,_⟩:=mK.out.2.2.2 hg.1;have pA:=e;subst e;have:g=bi:=by have:=hg.2;injection this with this;exact this.symm
    subst this;refine⟨jl mK.out G0.out hg.1 (by omega) (by decide),?_,?_,hSi⟩
    ·intro hn b0 po e0;subst e0;exact jl mK.out G1.out hg.1 hn (by decide)
    intro hn b0 po e0;subst e0
    exact jl mK.out G2.out hg.1 hn (by decide))
   have J8:=JK (mK.out.wr2.EY HT.out) (c:=c3) (Nat.le_trans mK.out.le mK.out.cap);go_wp2_with fail
   refine J8.mono ?_;clear J8;rintro e w5 ⟨⟨v,rfl⟩,hT5⟩;have s0:=(World.cell?_of_block (a:=⟨bb,off+k* 4,none⟩) (hT5.block bb hbl (fun h=>(uE.out _ h).1 rfl))).trans u0;have t0:w5.frozen? ⟨bb,off+k* 4,none⟩=false:=((hT5.cell _ (by rw[u0];rfl)).2).trans v0;have s1:=(World.cell?_of_block (a:=⟨bb,off+k* 4+1,none⟩) (hT5.block bb hbl (fun h=>(uE.out _ h).1 rfl))).trans u1;have t1:w5.frozen? ⟨bb,off+k* 4+1,none⟩=false:=((hT5.cell _ (by rw[u1];rfl)).2).trans v1;have s2:=(World.cell?_of_block (a:=⟨bb,off+k* 4+2,none⟩) (hT5.block bb hbl (fun h=>(uE.out _ h).1 rfl))).trans u2;have t2:w5.frozen? ⟨bb,off+k* 4+2,none⟩=false:=((hT5.cell _ (by rw[u2];rfl)).2).trans v2;have s3:=(World.cell?_of_block (a:=⟨bb,off+k* 4+3,none⟩) (hT5.block bb hbl (fun h=>(uE.out _ h).1 rfl))).trans u3;have t3:w5.frozen? ⟨bb,off+k* 4+3,none⟩=false:=((hT5.cell _ (by rw[u3];rfl)).2).trans v3;clear u0 v0 u1 v1 u2 v2 u3 v3;have hzo:w.heap.size<wo.heap.size:=Nat.lt_of_lt_of_le hz HT.out.size;have vP:=(hT5.block w.heap.size hzo (fun h=>absurd (uE.out _ h).2.2.2.2 (Nat.lt_irrefl _))).trans gS.out;have p5:=(cell_of_row w5 w.heap.size 0 _ _ _ vP).trans (show _=some (Value.slice (some ⟨bb,off,none⟩) n0 c0) from rfl);clear vP p0;have GS:=zh hT5;clear hT5;have HTN:Hid (BR (fun g=>S g∧g<w.heap.size) W1 (Silo.Bf bb (off+k* 4) [.int .i64 (-9),.int .i64 0,.int .i64 0,.slice none 0 0] w5)):=zh (BR.Bf Mh.out _ _ _ (HT.out.trans (GS.out.mono (fun g _ h=>(uE.out g h).2.2.2))))
   have HSN0:Hid (Cb W1 (Silo.Bf bb (off+k* 4) [.int .i64 (-9),.int .i64 0,.int .i64 0,.slice none 0 0] w5) (some ⟨bb,off,none⟩) ((k+1)* 4) (n0* 4)):=zh (GN.out.step GS.out (fun b0 po e0 _=>by
    injection e0 with e0;injection e0 with e1 e2 _;subst e1;subst e2
    exact⟨hbl,fun h=>(uE.out _ h).1 rfl,.inr (fun j hj=>.inr (by simp only[List.length_cons,List.length_nil];omega))⟩) (by omega))
   have HSN1:Hid (Cb W1 (Silo.Bf bb (off+k* 4) [.int .i64 (-9),.int .i64 0,.int .i64 0,.slice none 0 0] w5) A1 0 (n1* 4)):=zh (vo.out.step GS.out (fun b0 po e0 hn=>by
    subst e0;have gx:=G1.out.2.2.2 (by omega);obtain⟨b9,o9,e9,_,hl9,_⟩:=gx;injection e9 with e9;injection e9 with e1 _ _;subst e1
    exact⟨Nat.lt_of_lt_of_le hl9 HT.out.size,fun h=>(uE.out _ h).2.1 (by omega) b0 po rfl rfl,.inl (jl G1.out G0.out (by omega) (by omega) (by decide))⟩) (Nat.le_refl _))
   have J9:Hid (Cb W1 (Silo.Bf bb (off+k* 4) [.int .i64 (-9),.int .i64 0,.int .i64 0,.slice none 0 0] w5) A2 0 (n2* 2)):=zh (uk.out.step GS.out (fun b0 po e0 hn=>by
    subst e0;have gx:=G2.out.2.2.2 (by omega);obtain⟨b9,o9,e9,_,hl9,_⟩:=gx;injection e9 with e9;injection e9 with e1 _ _;subst e1
    exact⟨Nat.lt_of_lt_of_le hl9 HT.out.size,fun h=>(uE.out _ h).2.2.1 (by omega) b0 po rfl rfl,.inl (jl G2.out G0.out (by omega) (by omega) (by decide))⟩) (Nat.le_refl _))
   clear HT GN vo uk GS uE mK;go_wp2
   go_roundw
   case rel=>exact⟨k+1,by omega,by go_num,HTN,HSN0,HSN1,J9⟩
   case measure=>simp[intOf];omega
  obtain rfl:n0=k:=by omega
  clear hlt hk;clear GN;have p1:=(cell_of_row wo w.heap.size 1 _ _ _ gS.out).trans (show _=some (Value.slice A1 n1 c1) from rfl);clear gS;go_wp2_with fail
  go_loopw [3] (fun i wr=>∃k:Nat,k≤n1∧i=.int .i64 k∧Hid (BR (fun g=>S g∧g<w.heap.size) W1 wr)∧Hid (Cb W1 wr A1 (k* 4) (n1* 4))∧Hid (Cb W1 wr A2 0 (n2* 2))) (fun i _=>n1 - (intOf i).toNat)
  case atStart=>exact⟨0,Nat.zero_le _,rfl,HT,vo,uk⟩
  case round=>
   clear HT vo uk;obtain⟨k,hk,rfl,HT,vo,uk⟩:=hrel
   rename World=>wo
   have hrow:wo.heap[w.heap.size]?=some (.cells #[.slice A0 n0 c0,.slice A1 n1 c1,.slice A2 n2 c2,.int .i64 nx] 28 (0,0)):=(HT.out.block w.heap.size hz (fun h=>absurd h.2 (Nat.lt_irrefl _))).trans HBOX.out;have p1:=(cell_of_row wo w.heap.size 1 _ _ _ hrow).trans (show _=some (Value.slice A1 n1 c1) from rfl);have gS:=zh hrow;clear hrow;by_cases hlt:k<n1
   ·obtain⟨bb,off,A3,n3,c3,eA,hS1,hbl1,_,_,hsl,hc0,hc1,hc2,hc3,hf0,hf1,hf2,hf3⟩:=G1.out.BH hlt;subst eA;have u0:wo.cell? ⟨bb,off+k* 4,none⟩=_:=(vo.out bb off rfl (k* 4) (by omega) (by omega)).trans hc0;have v0:wo.frozen? ⟨bb,off+k* 4,none⟩=false:=((HT.out.cell _ (by rw[hc0];rfl)).2).trans hf0;have u1:wo.cell? ⟨bb,off+k* 4+1,none⟩=_:=(vo.out bb off rfl (k* 4+1) (by omega) (by omega)).trans hc1;have v1:wo.frozen? ⟨bb,off+k* 4+1,none⟩=false:=((HT.out.cell _ (by rw[hc1];rfl)).2).trans hf1;have u2:wo.cell? ⟨bb,off+k* 4+2,none⟩=_:=(vo.out bb off rfl (k* 4+2) (by omega) (by omega)).trans hc2;have v2:wo.frozen? ⟨bb,off+k* 4+2,none⟩=false:=((HT.out.cell _ (by rw[hc2];rfl)).2).trans hf2;have u3:wo.cell? ⟨bb,off+k* 4+3,none⟩=_:=(vo.out bb off rfl (k* 4+3) (by omega) (by omega)).trans hc3;have v3:wo.frozen? ⟨bb,off+k* 4+3,none⟩=false:=((HT.out.cell _ (by rw[hc3];rfl)).2).trans hf3;clear hc0 hf0 hc1 hf1 hc2 hf2 hc3 hf3;have hbl:bb<wo.heap.size:=Nat.lt_of_lt_of_le hbl1 HT.out.size;have Mh:=zh hS1;clear hS1;have mK:=zh hsl;clear hsl
    have uE:Hid (∀g,(0<n3∧qd A3=some g)→g≠bb∧(0<n2→∀b0 po,A2=some ⟨b0,po,none⟩→g≠b0)∧S g∧g<w.heap.size):=zh (fun g hg=>by
     obtain⟨bi,oi,e,hSi,_,_⟩:=mK.out.2.2.2 hg.1;have pA:=e;subst e;have:g=bi:=by have:=hg.2;injection this with this;exact this.symm
     subst this;refine⟨jl mK.out G1.out hg.1 (by omega) (by decide),?_,hSi⟩;intro hn b0 po e0;subst e0
     exact jl mK.out G2.out hg.1 hn (by decide))
    have J8:=KG (mK.out.wr.EY HT.out) (c:=c3) (Nat.le_trans mK.out.le mK.out.cap);go_wp2_with fail
    refine J8.mono ?_;clear J8;rintro e w5 ⟨⟨v,rfl⟩,hT5⟩;have s0:=(World.cell?_of_block (a:=⟨bb,off+k* 4,none⟩) (hT5.block bb hbl (fun h=>(uE.out _ h).1 rfl))).trans u0;have t0:w5.frozen? ⟨bb,off+k* 4,none⟩=false:=((hT5.cell _ (by rw[u0];rfl)).2).trans v0;have s1:=(World.cell?_of_block (a:=⟨bb,off+k* 4+1,none⟩) (hT5.block bb hbl (fun h=>(uE.out _ h).1 rfl))).trans u1;have t1:w5.frozen? ⟨bb,off+k* 4+1,none⟩=false:=((hT5.cell _ (by rw[u1];rfl)).2).trans v1;have s2:=(World.cell?_of_block (a:=⟨bb,off+k* 4+2,none⟩) (hT5.block bb hbl (fun h=>(uE.out _ h).1 rfl))).trans u2;have t2:w5.frozen? ⟨bb,off+k* 4+2,none⟩=false:=((hT5.cell _ (by rw[u2];rfl)).2).trans v2;have s3:=(World.cell?_of_block (a:=⟨bb,off+k* 4+3,none⟩) (hT5.block bb hbl (fun h=>(uE.out _ h).1 rfl))).trans u3;have t3:w5.frozen? ⟨bb,off+k* 4+3,none⟩=false:=((hT5.cell _ (by rw[u3];rfl)).2).trans v3;clear u0 v0 u1 v1 u2 v2 u3 v3;have hzo:w.heap.size<wo.heap.size:=Nat.lt_of_lt_of_le hz HT.out.size;have vP:=(hT5.block w.heap.size hzo (fun h=>absurd (uE.out _ h).2.2.2 (Nat.lt_irrefl _))).trans gS.out;have p5:=(cell_of_row w5 w.heap.size 1 _ _ _ vP).trans (show _=some (Value.slice (some ⟨bb,off,none⟩) n1 c1) from rfl);clear vP p1;have GS:=zh hT5;clear hT5;have HTN:Hid (BR (fun g=>S g∧g<w.heap.size) W1 (Silo.Bf bb (off+k* 4) [.string ⟨#[]⟩,.int .i64 (-9),.bool false,.slice none 0 0] w5)):=zh (BR.Bf Mh.out _ _ _ (HT.out.trans (GS.out.mono (fun g _ h=>(uE.out g h).2.2))))
    have HSN1:Hid (Cb W1 (Silo.Bf bb (off+k* 4) [.string ⟨#[]⟩,.int .i64 (-9),.bool false,.slice none 0 0] w5) (some ⟨bb,off,none⟩) ((k+1)* 4) (n1* 4)):=zh (vo.out.step GS.out (fun b0 po e0 _=>by
     injection e0 with e0;injection e0 with e1 e2 _;subst e1;subst e2
     exact⟨hbl,fun h=>(uE.out _ h).1 rfl,.inr (fun j hj=>.inr (by simp only[List.length_cons,List.length_nil];omega))⟩) (by omega))
    have J9:Hid (Cb W1 (Silo.Bf bb (off+k* 4) [.string ⟨#[]⟩,.int .i64 (-9),.bool false,.slice none 0 0] w5) A2 0 (n2* 2)):=zh (uk.out.step GS.out (fun b0 po e0 hn=>by
     subst e0;have gx:=G2.out.2.2.2 (by omega);obtain⟨b9,o9,e9,_,hl9,_⟩:=gx;injection e9 with e9;injection e9 with e1 _ _;subst e1
     exact⟨Nat.lt_of_lt_of_le hl9 HT.out.size,fun h=>(uE.out _ h).2.1 (by omega) b0 po rfl rfl,.inl (jl G2.out G1.out (by omega) (by omega) (by decide))⟩) (Nat.le_refl _))
    clear HT vo uk GS uE mK;go_wp2
    go_roundw
    case rel=>exact⟨k+1,by omega,by go_num,HTN,HSN1,J9⟩
    case measure=>simp[intOf];omega
   obtain rfl:n1=k:=by omega
   clear hlt hk;clear vo;have p2:=(cell_of_row wo w.heap.size 2 _ _ _ gS.out).trans (show _=some (Value.slice A2 n2 c2) from rfl);clear gS;go_wp2_with fail
   go_loopw [4] (fun i wr=>∃k:Nat,k≤n2∧i=.int .i64 k∧Hid (BR (fun g=>S g∧g<w.heap.size) W1 wr)∧Hid (Cb W1 wr A2 (k* 2) (n2* 2))) (fun i _=>n2 - (intOf i).toNat)
   case atStart=>exact⟨0,Nat.zero_le _,rfl,HT,uk⟩
   case round=>
    clear HT uk;obtain⟨k,hk,rfl,HT,uk⟩:=hrel
    rename World=>wo
    have hrow:wo.heap[w.heap.size]?=some (.cells #[.slice A0 n0 c0,.slice A1 n1 c1,.slice A2 n2 c2,.int .i64 nx] 28 (0,0)):=(HT.out.block w.heap.size hz (fun h=>absurd h.2 (Nat.lt_irrefl _))).trans HBOX.out;have p2:=(cell_of_row wo w.heap.size 2 _ _ _ hrow).trans (show _=some (Value.slice A2 n2 c2) from rfl);have gS:=zh hrow;clear hrow;by_cases hlt:k<n2
    ·obtain⟨bb,off,eA,hS1,hbl1,_,_,hc0,hc1,hf0,hf1⟩:=G2.out.Cc hlt;subst eA;have u0:wo.cell? ⟨bb,off+k* 2,none⟩=_:=(uk.out bb off rfl (k* 2) (by omega) (by omega)).trans hc0;have v0:wo.frozen? ⟨bb,off+k* 2,none⟩=false:=((HT.out.cell _ (by rw[hc0];rfl)).2).trans hf0;have u1:wo.cell? ⟨bb,off+k* 2+1,none⟩=_:=(uk.out bb off rfl (k* 2+1) (by omega) (by omega)).trans hc1;have v1:wo.frozen? ⟨bb,off+k* 2+1,none⟩=false:=((HT.out.cell _ (by rw[hc1];rfl)).2).trans hf1;clear hc0 hf0 hc1 hf1;have hbl:bb<wo.heap.size:=Nat.lt_of_lt_of_le hbl1 HT.out.size;have Mh:=zh hS1;clear hS1;have HTN:Hid (BR (fun g=>S g∧g<w.heap.size) W1 (Silo.Bf bb (off+k* 2) [.string ⟨#[]⟩,.string ⟨#[]⟩] wo)):=zh (BR.Bf Mh.out _ _ _ (HT.out))
     have J9:Hid (Cb W1 (Silo.Bf bb (off+k* 2) [.string ⟨#[]⟩,.string ⟨#[]⟩] wo) (some ⟨bb,off,none⟩) ((k+1)* 2) (n2* 2)):=zh (uk.out.step (BR.refl (fun _=>False) wo) (fun b0 po e0 _=>by
      injection e0 with e0;injection e0 with e1 e2 _;subst e1;subst e2
      exact⟨hbl,fun h=>h,.inr (fun j hj=>.inr (by simp only[List.length_cons,List.length_nil];omega))⟩) (by omega))
     clear HT uk;go_wp2
     go_roundw
     case rel=>exact⟨k+1,by omega,by go_num,HTN,J9⟩
     case measure=>simp[intOf];omega
    obtain rfl:n2=k:=by omega
    clear hlt hk;clear uk;go_wp2
    refine bodyPost_end (results_none rfl _ _ _) rfl ?_;exact⟨⟨_,rfl⟩,HT0.out.trans (HT.out.mono (fun b _ h=>h))⟩
theorem JL {l:List Nat}{a:Nat}(h:a∈l):a≤l.sum:=by
 induction l with
 |nil=>cases h
 |cons b l ih=>
  rw[List.sum_cons];rcases List.mem_cons.1 h with rfl|h
  ·omega
  have:=ih h;omega
theorem Jc {l:List Bc}{r:Bc}(h:r∈l):r.list.length+r.slots.length≤Qg l:=JL (List.mem_map.2 ⟨r,h,rfl⟩)
structure Ew (b:Book) (k:Nat):Prop where
 ls:b.Ba.length≤2500+k
 lt:b.things.length≤2500+k
 lg:b.tags.length≤2500+k
 ss:(b.Ba.map (fun y=>y.place.length)).sum≤14* (2500+k)
 st:(b.things.map (fun y=>y.list.length)).sum≤2500+2000* k
theorem Ew.few {b:Book}{k:Nat}(h:Ew b k) (hk:k≤20):Ea b:=by
 refine⟨Nat.le_trans h.ls (by omega),?_,?_⟩
 ·unfold qg;rw[List.take_length,List.length_flatMap];have:=h.ss;omega
 unfold qp;rw[List.take_length,List.length_flatMap];have:=h.st;omega
theorem Ew.step {s:Shape}{b b':Book}{k:Nat}{r:Bc}(h:Ew b k) (hb:qD s b=true) (hr:qI r=true) (he:Cj b r=some b'):Ew b' (k+1):=by
 have hn:=(zk hb).2.1;have hi:BInv b (2500+k) (2500+2000* k):=⟨xL hb,h.ls,h.lt,h.lg,⟨hn.1,by omega⟩,h.ss,h.st⟩;have h2:=hi.step hr he;have h3:=(zF hr).2.2.2.1;exact⟨h2.ls,h2.lt,h2.lg,h2.ss,Nat.le_trans h2.st (by omega)⟩
theorem Ew.start {q:zn}(h:CW q):Ew q.b 0:=by
 have h1:=h.bk;unfold qg qp at h1;rw[List.take_length,List.take_length,List.length_flatMap,List.length_flatMap] at h1;exact⟨by omega,by omega,by omega,by omega,by omega⟩
structure BAJ (W0:World) (g3 g5 g6:Nat) (D0:Option Addr) (d0 e0:Nat) (D1:Option Addr) (d1 e1:Nat) (D2:Option Addr) (d2 e2:Nat) (F0:Option Addr) (f0 h0:Nat) (F1:Option Addr) (f1 h1:Nat) (F2:Option Addr) (f2 h2:Nat) (G4:Option Addr) (m4 j4:Nat) (G5:Option Addr) (m5 j5:Nat) (bk:Book) (r:Bc) (W:World):Prop where
 of:Eb W0 g3 D0 d0 e0 D1 d1 e1 D2 d2 e2 bk W
 r5:W.heap[g5]?=some (.cells #[.slice F0 f0 h0,.slice F1 f1 h1,.slice F2 f2 h2,.int .i64 bk.next] 28 (0,0))
 r6:W.heap[g6]?=some (.cells #[.int .i64 r.kind,.int .i64 r.id,.string r.name,.string r.digest,.slice G4 m4 j4,.slice G5 m5 j5] 61 (0,0))
 b5:Bl W (fun q=>W0.heap.size≤q) true true true true F0 f0 h0 F1 f1 h1 F2 f2 h2 bk
 s4:Sl true 3 Bo W (fun q=>W0.heap.size≤q) G4 m4 j4 r.list
 s5:Sl true 88 qr W (fun q=>W0.heap.size≤q) G5 m5 j5 r.slots
theorem BAJ.all {W0:World}{g3 g5 g6:Nat}{D0:Option Addr}{d0 e0:Nat}{D1:Option Addr}{d1 e1:Nat}{D2:Option Addr}{d2 e2:Nat}{F0:Option Addr}{f0 h0:Nat}{F1:Option Addr}{f1 h1:Nat}{F2:Option Addr}{f2 h2:Nat}{G4:Option Addr}{m4 j4:Nat}{G5:Option Addr}{m5 j5:Nat}{bk:Book}{r:Bc}{W V:World}(h:BAJ W0 g3 g5 g6 D0 d0 e0 D1 d1 e1 D2 d2 e2 F0 f0 h0 F1 f1 h1 F2 f2 h2 G4 m4 j4 G5 m5 j5 bk r W) (hb:Below W.heap.size W V):BAJ W0 g3 g5 g6 D0 d0 e0 D1 d1 e1 D2 d2 e2 F0 f0 h0 F1 f1 h1 F2 f2 h2 G4 m4 j4 G5 m5 j5 bk r V:=
 ⟨h.of.all hb,zb hb h.r5,zb hb h.r6,h.b5.all hb,h.s4.all hb,h.s5.all hb⟩
theorem BR.CJ {S:Nat→Prop}{B:Nat}{w w':World}(h:BR S w w') (hB:B≤w.heap.size) (hS:∀b,S b→B≤b):Below B w w':=
 ⟨h.os,h.tape,h.output,h.size,fun b hb=>h.block b (Nat.lt_of_lt_of_le hb hB) (fun hs=>by have:=hS b hs;omega)⟩
end Go.Proofs.YtipecejghioicaaGreat
