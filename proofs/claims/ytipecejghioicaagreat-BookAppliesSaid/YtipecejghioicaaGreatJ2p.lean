/- Siloref13.fields, siloref13.has: which fields a kind names. -/
import Derived.Test.YtipecejghioicaaGreatR4p
import Derived.Test.YtipecejghioicaaGreatDatap
import Derived.Test.YtipecejghioicaaGreatN2p
import Derived.Test.YtipecejghioicaaGreatB6p
import Derived.Deep.Light
import Derived.Test.YtipecejghioicaaGreatE2p
set_option maxHeartbeats 2000000
namespace Go.Proofs.YtipecejghioicaaGreat
open Go.RowKit Go.Silo
theorem kO (w:World) (p:Addr) (v:Value) (q:Addr) (h:(w.cell? q).isSome=true):((w.setCell p v).cell? q).isSome=true:=by
 by_cases e:p=q
 ·subst e;rw[World.cell?_setCell_same' w p v h];rfl
 rw[World.cell?_setCell_other w p q v e];exact h
structure BU (S:Nat→Prop) (w w':World):Prop where
 os:w'.os=w.os
 tape:w'.tape=w.tape
 output:w'.output=w.output
 size:w.heap.size≤w'.heap.size
 block:∀b,b<w.heap.size→¬S b→w'.heap[b]?=w.heap[b]?
 cell:∀p,(w.cell? p).isSome=true→(w'.cell? p).isSome=true∧w'.frozen? p=w.frozen? p
theorem BU.refl (S:Nat→Prop) (w:World):BU S w w:=⟨rfl,rfl,rfl,Nat.le_refl _,fun _ _ _=>rfl,fun _ h=>⟨h,rfl⟩⟩
theorem BU.trans {S:Nat→Prop}{a b c:World}(h:BU S a b) (k:BU S b c):BU S a c:=
 ⟨k.os.trans h.os,k.tape.trans h.tape,k.output.trans h.output,Nat.le_trans h.size k.size,fun i hi hn=>(k.block i (Nat.lt_of_lt_of_le hi h.size) hn).trans (h.block i hi hn),fun p hp=>⟨(k.cell p (h.cell p hp).1).1,((k.cell p (h.cell p hp).1).2).trans (h.cell p hp).2⟩⟩
theorem BU.mono {S S':Nat→Prop}{w w':World}(h:BU S w w') (hS:∀b,b<w.heap.size→S b→S' b):BU S' w w':=⟨h.os,h.tape,h.output,h.size,fun b hb hn=>h.block b hb (fun hs=>hn (hS b hb hs)),h.cell⟩
theorem BU.of_below {S:Nat→Prop}{w w':World}(h:Below w.heap.size w w'):BU S w w':=⟨h.os,h.tape,h.output,h.size,fun b hb _=>h.block b hb,fun p hp=>by
 obtain⟨u,hu⟩:=Option.isSome_iff_exists.1 hp;have hl:=World.block_lt_of_cell? w p hu
 exact⟨by rw[h.cell hl];exact hp,h.frozen hl⟩⟩
theorem BU.setCell {S:Nat→Prop}{w w':World}(h:BU S w w') {p:Addr}(hp:S p.block) (v:Value):BU S w (w'.setCell p v):=
 h.trans ⟨rfl,rfl,rfl,by simp,fun b _ hn=>Below.heap_setCell w' p v b (fun e=>hn (by rw[e];exact hp)),fun q hq=>⟨kO _ _ _ _ hq,World.frozen?_setCell _ _ _ _⟩⟩
def Wr (w:World) (A:Option Addr) (n:Nat):Prop:=0<n→∃b off,A=some ⟨b,off,none⟩∧b<w.heap.size∧∀j,j<n→(w.cell? ⟨b,off+j,none⟩).isSome=true∧w.frozen? ⟨b,off+j,none⟩=false
theorem Wr.Eu {S:Nat→Prop}{w w':World}{A:Option Addr}{n:Nat}(h:Wr w A n) (k:BU S w w'):Wr w' A n:=fun hn=>by
 obtain⟨b,off,e,hl,hc⟩:=h hn;exact⟨b,off,e,Nat.lt_of_lt_of_le hl k.size,fun j hj=>⟨(k.cell _ (hc j hj).1).1,((k.cell _ (hc j hj).1).2).trans (hc j hj).2⟩⟩
theorem _root_.Go.Silo.Sl.wr {tg:Bool}{T:TypeId}{w:World}{S:Nat→Prop}{A:Option Addr}{n c:Nat}{xs:List Int}(h:Sl tg T qD w S A n c xs):Wr w A n:=fun hn=>by
 obtain⟨b,off,e,_,hl,_,_,_⟩:=h.BN hn;refine⟨b,off,e,hl,fun j hj=>?_⟩;obtain⟨b',off',e',_,_,_,hc,hf⟩:=h.BN hj;rw[e] at e';injection e' with e';injection e' with e1 e2 _;subst e1;subst e2
 exact⟨by rw[hc];rfl,hf⟩
theorem Jt {w:World}{A:Option Addr}{n c:Nat}(h:Wr w A n) (hcap:n≤9223372036854775807):
  Calls Tryz.prog 55 #[.slice A n c] w (fun e w'=>(∃v,e=.returned v)∧BU (fun b=>0<n∧qd A=some b) w w'):=by
 go_enter Tryz.func55,Tryz.ntmps55
 go_wp2
 go_loopw [2] (fun i wr=>∃k:Nat,k≤n∧i=.int .i64 k∧BU (fun b=>0<n∧qd A=some b) w wr) (fun i _=>n - (intOf i).toNat)
 case atStart=>exact⟨0,Nat.zero_le _,rfl,BU.refl _ _⟩
 case round=>
  obtain⟨k,hk,rfl,hT⟩:=hrel;by_cases hlt:k<n
  ·obtain⟨b,off,rfl,hl,hc⟩:=(h.Eu hT) (by omega);have hl':=hl;obtain⟨hc1,hc2⟩:=hc k hlt;obtain⟨u,hu⟩:=Option.isSome_iff_exists.1 hc1;have HT:=zh hT;clear hc hT hc1 h;go_wp2
   go_roundw
   case rel=>exact⟨k+1,by omega,by go_num,HT.out.setCell (p:=⟨b,off+k,none⟩) ⟨by omega,rfl⟩ _⟩
   case measure=>simp[intOf];omega
  go_wp2
  refine bodyPost_end (results_none rfl _ _ _) rfl ?_;exact⟨⟨_,rfl⟩,hT⟩
end Go.Proofs.YtipecejghioicaaGreat
namespace Go.Proofs.YtipecejghioicaaGreat
open Go.RowKit Go.Silo
theorem xS {α β:Type}{T T':TypeId}{E:Enc α}{F:Enc β}{w:World}{S S':Nat→Prop}{b off n c b' off' n' c':Nat}{xs:List α}{ys:List β}(h:Sl true T E w S (some ⟨b,off,none⟩) n c xs) (h':Sl true T' F w S' (some ⟨b',off',none⟩) n' c' ys) (hn:0<n) (hn':0<n') (hT:T≠T'):b≠b':=by
 intro e;subst e;obtain⟨q,hq⟩:=h.BL hn;obtain⟨q',hq'⟩:=h'.BL hn';rw[hq] at hq';injection hq' with hq';injection hq' with hq' _
 exact hT hq'
end Go.Proofs.YtipecejghioicaaGreat
set_option maxHeartbeats 16000000
set_option maxRecDepth 100000
namespace Go.Proofs.YtipecejghioicaaGreat
open Go.RowKit Go.Silo
theorem kG {g:Nat}{p:Addr}:∀(vs:List Value) (k:Nat) (W:World),(p.block≠g∨p.off<k∨k+vs.length≤p.off)→(Bi g k vs W).cell? p=W.cell? p
 |[],_,_,_=>rfl
 |v::vs,k,W,h=>by
  show(Bi g (k+1) vs (W.setCell ⟨g,k,none⟩ v)).cell? p=_;rw[kG vs (k+1) _ (by simp only[List.length_cons] at h;omega)];exact World.cell?_setCell_other _ _ _ _ (fun e=>by subst e;simp only[List.length_cons] at h;omega)
theorem BU.Bi {S:Nat→Prop}{w:World}{g:Nat}(hS:S g):∀(vs:List Value) (k:Nat) (W:World),BU S w W→BU S w (Silo.Bi g k vs W)
 |[],_,_,h=>h
 |v::vs,k,_W,h=>BU.Bi hS vs (k+1) _ (h.setCell (p:=⟨g,k,none⟩) hS v)
theorem _root_.Go.Silo.Sl.wr2 {tg:Bool}{T:TypeId}{w:World}{S:Nat→Prop}{A:Option Addr}{n c:Nat}{xs:List Slot}(h:Sl tg T qp w S A n c xs):Wr w A (n* 2):=fun hn=>by
 obtain⟨b,off,e,_,hl,_⟩:=h.BA (k:=0) (by omega);refine⟨b,off,e,hl,fun j hj=>?_⟩;obtain⟨b',off',e',_,_,_,_,hc,hc1,hf,hf1⟩:=h.BA (k:=j / 2) (by omega);rw[e] at e';injection e' with e';injection e' with e1 e2 _;subst e1;subst e2
 rcases (by omega:j=j / 2* 2∨j=j / 2* 2+1) with x6|x6
 ·rw[x6];exact⟨by rw[hc];rfl,hf⟩
 rw[x6,show off+(j / 2* 2+1)=off+j / 2* 2+1 from by omega];exact⟨by rw[hc1];rfl,hf1⟩
theorem XA {w:World}{A:Option Addr}{n c:Nat}(h:Wr w A (n* 2)) (hcap:n≤9223372036854775807):
  Calls Tryz.prog 70 #[.slice A n c] w (fun e w'=>(∃v,e=.returned v)∧BU (fun b=>0<n∧qd A=some b) w w'):=by
 go_enter Tryz.func70,Tryz.ntmps70
 go_wp2
 go_loopw [2] (fun i wr=>∃k:Nat,k≤n∧i=.int .i64 k∧BU (fun b=>0<n∧qd A=some b) w wr) (fun i _=>n - (intOf i).toNat)
 case atStart=>exact⟨0,Nat.zero_le _,rfl,BU.refl _ _⟩
 case round=>
  obtain⟨k,hk,rfl,hT⟩:=hrel;by_cases hlt:k<n
  ·obtain⟨b,off,rfl,hl,hc⟩:=(h.Eu hT) (by omega);obtain⟨hc1,hc2⟩:=hc (k* 2) (by omega);obtain⟨hc3,hc4⟩:=hc (k* 2+1) (by omega);obtain⟨u,hu⟩:=Option.isSome_iff_exists.1 hc1;obtain⟨v,hv⟩:=Option.isSome_iff_exists.1 hc3;rw[show off+(k* 2+1)=off+k* 2+1 from by omega] at hv hc4;have HT:=zh hT;clear hc hT hc1 hc3 h;go_wp2
   go_roundw
   case rel=>exact⟨k+1,by omega,by go_num,(HT.out.setCell (p:=⟨b,off+k* 2,none⟩) ⟨by omega,rfl⟩ _).setCell (p:=⟨b,off+k* 2+1,none⟩) ⟨by omega,rfl⟩ _⟩
   case measure=>simp[intOf];omega
  go_wp2
  refine bodyPost_end (results_none rfl _ _ _) rfl ?_;exact⟨⟨_,rfl⟩,hT⟩
def C9 (W W':World) (A:Option Addr) (i n:Nat):Prop:=∀b off,A=some ⟨b,off,none⟩→∀j,i≤j→j<n→W'.cell? ⟨b,off+j,none⟩=W.cell? ⟨b,off+j,none⟩
theorem C9.refl {W:World}{A:Option Addr}{i n:Nat}:C9 W W A i n:=fun _ _ _ _ _ _=>rfl
theorem C9.later {W W':World}{A:Option Addr}{i i' n:Nat}(h:C9 W W' A i n) (hi:i≤i'):C9 W W' A i' n:=fun b off e j hj hn=>h b off e j (Nat.le_trans hi hj) hn
theorem C9.step {SS:Nat→Prop}{W wo w5:World}{A:Option Addr}{i i' n g o:Nat}{vs:List Value}(h:C9 W wo A i n) (ht:BU SS wo w5) (hA:∀b off,A=some ⟨b,off,none⟩→0<n→b<wo.heap.size∧¬SS b∧(b≠g∨∀j,i'≤j→off+j<o∨o+vs.length≤off+j)) (hi:i≤i'):
  C9 W (Bi g o vs w5) A i' n:=fun b off e j hj hn=>by
 obtain⟨h1,h2,h3⟩:=hA b off e (by omega);rw[kG vs o w5 (by rcases h3 with h3|h3;exact .inl h3;exact .inr (h3 j hj))];exact(World.cell?_of_block (a:=⟨b,off+j,none⟩) (ht.block b h1 h2)).trans (h b off e j (Nat.le_trans hi hj) hn)
theorem jx {w:World}{S:Nat→Prop}{A0 A1 A2:Option Addr}{n0 c0 n1 c1 n2 c2:Nat}{b:Book}(h:Bq w S true true true true A0 n0 c0 A1 n1 c1 A2 n2 c2 b):
  Calls Tryz.prog 36 #[.agg #[.slice A0 n0 c0,.slice A1 n1 c1,.slice A2 n2 c2,.int .i64 b.next]] w (fun e w'=>(∃v,e=.returned v)∧BU (fun b=>S b∧b<w.heap.size) w w'):=by
 have hcap0:n0≤9223372036854775807:=Nat.le_trans h.st.le h.st.cap;have hcap1:n1≤9223372036854775807:=Nat.le_trans h.th.le h.th.cap;have hcap2:n2≤9223372036854775807:=Nat.le_trans h.ta.le h.ta.cap;have g0:=(h.st.Bd).frame (Agree.alloc _ w (.cells #[.slice A0 n0 c0,.slice A1 n1 c1,.slice A2 n2 c2,.int .i64 b.next] 28)) (by simp);have g1:=(h.th.Bd).frame (Agree.alloc _ w (.cells #[.slice A0 n0 c0,.slice A1 n1 c1,.slice A2 n2 c2,.int .i64 b.next] 28)) (by simp);have g2:=(h.ta.Bd).frame (Agree.alloc _ w (.cells #[.slice A0 n0 c0,.slice A1 n1 c1,.slice A2 n2 c2,.int .i64 b.next] 28)) (by simp);have hbox:=heap_alloc_new w (.cells #[.slice A0 n0 c0,.slice A1 n1 c1,.slice A2 n2 c2,.int .i64 b.next] 28);have hT0:BU (fun g=>S g∧g<w.heap.size) w (w.alloc (.cells #[.slice A0 n0 c0,.slice A1 n1 c1,.slice A2 n2 c2,.int .i64 b.next] 28)):=.of_below ((Below.refl _ _).alloc (Nat.le_refl _) _);have hz:w.heap.size<(w.alloc (.cells #[.slice A0 n0 c0,.slice A1 n1 c1,.slice A2 n2 c2,.int .i64 b.next] 28)).heap.size:=by simp
 have G0:=zh g0;clear g0;have G1:=zh g1;clear g1;have G2:=zh g2;clear g2 h;have HT0:=zh hT0;clear hT0;have HBOX:=zh hbox;clear hbox
 go_enter Tryz.func36,Tryz.ntmps36
 go_upto_region 1 with (fail)
 generalize (w.alloc (.cells #[.slice A0 n0 c0,.slice A1 n1 c1,.slice A2 n2 c2,.int .i64 b.next] 28))=W1 at *;generalize b.next=nx at *;go_wp2_with fail
 go_loopw [2] (fun i wr=>∃k:Nat,k≤n0∧i=.int .i64 k∧Hid (BU (fun g=>S g∧g<w.heap.size) W1 wr)∧Hid (C9 W1 wr A0 (k* 4) (n0* 4))∧Hid (C9 W1 wr A1 0 (n1* 4))∧Hid (C9 W1 wr A2 0 (n2* 2))) (fun i _=>n0 - (intOf i).toNat)
 case atStart=>exact⟨0,Nat.zero_le _,rfl,zh (BU.refl _ _),zh C9.refl,zh C9.refl,zh C9.refl⟩
 case round=>
  obtain⟨k,hk,rfl,HT,Gl,vr,uE⟩:=hrel
  rename World=>wo
  have hrow:wo.heap[w.heap.size]?=some (.cells #[.slice A0 n0 c0,.slice A1 n1 c1,.slice A2 n2 c2,.int .i64 nx] 28 (0,0)):=(HT.out.block w.heap.size hz (fun h=>absurd h.2 (Nat.lt_irrefl _))).trans HBOX.out;have p0:=(cell_of_row wo w.heap.size 0 _ _ _ hrow).trans (show _=some (Value.slice A0 n0 c0) from rfl);have mb:=zh hrow;clear hrow;by_cases hlt:k<n0
  ·obtain⟨bb,off,A3,n3,c3,eA,hS1,hbl1,_,_,_,hsl,hc0,hc1,hc2,hc3,hf0,hf1,hf2,hf3⟩:=G0.out.Bu hlt;subst eA;have u0:wo.cell? ⟨bb,off+k* 4,none⟩=_:=(Gl.out bb off rfl (k* 4) (by omega) (by omega)).trans hc0;have v0:wo.frozen? ⟨bb,off+k* 4,none⟩=false:=((HT.out.cell _ (by rw[hc0];rfl)).2).trans hf0;have u1:wo.cell? ⟨bb,off+k* 4+1,none⟩=_:=(Gl.out bb off rfl (k* 4+1) (by omega) (by omega)).trans hc1;have v1:wo.frozen? ⟨bb,off+k* 4+1,none⟩=false:=((HT.out.cell _ (by rw[hc1];rfl)).2).trans hf1;have u2:wo.cell? ⟨bb,off+k* 4+2,none⟩=_:=(Gl.out bb off rfl (k* 4+2) (by omega) (by omega)).trans hc2;have v2:wo.frozen? ⟨bb,off+k* 4+2,none⟩=false:=((HT.out.cell _ (by rw[hc2];rfl)).2).trans hf2;have u3:wo.cell? ⟨bb,off+k* 4+3,none⟩=_:=(Gl.out bb off rfl (k* 4+3) (by omega) (by omega)).trans hc3;have v3:wo.frozen? ⟨bb,off+k* 4+3,none⟩=false:=((HT.out.cell _ (by rw[hc3];rfl)).2).trans hf3;clear hc0 hf0 hc1 hf1 hc2 hf2 hc3 hf3;have hbl:bb<wo.heap.size:=Nat.lt_of_lt_of_le hbl1 HT.out.size;have Hn:=zh hS1;clear hS1;have mZ:=zh hsl;clear hsl
   have uL:Hid (∀g,(0<n3∧qd A3=some g)→g≠bb∧(0<n1→∀b0 pu,A1=some ⟨b0,pu,none⟩→g≠b0)∧(0<n2→∀b0 pu,A2=some ⟨b0,pu,none⟩→g≠b0)∧S g∧g<w.heap.size):=zh (fun g hg=>by
    obtain⟨bi,oi,e,hSi,_,_⟩:=mZ.out.2.2.2 hg.1;have pC:=e;subst e;have:g=bi:=by have:=hg.2;injection this with this;exact this.symm
    subst this;refine⟨xS mZ.out G0.out hg.1 (by omega) (by decide),?_,?_,hSi⟩
    ·intro hn b0 pu e0;subst e0;exact xS mZ.out G1.out hg.1 hn (by decide)
    intro hn b0 pu e0;subst e0
    exact xS mZ.out G2.out hg.1 hn (by decide))
   have GU:=XA (mZ.out.wr2.Eu HT.out) (c:=c3) (Nat.le_trans mZ.out.le mZ.out.cap);go_wp2_with fail
   refine GU.mono ?_;clear GU;rintro e w5 ⟨⟨v,rfl⟩,hT5⟩;have s0:=(World.cell?_of_block (a:=⟨bb,off+k* 4,none⟩) (hT5.block bb hbl (fun h=>(uL.out _ h).1 rfl))).trans u0;have t0:w5.frozen? ⟨bb,off+k* 4,none⟩=false:=((hT5.cell _ (by rw[u0];rfl)).2).trans v0;have s1:=(World.cell?_of_block (a:=⟨bb,off+k* 4+1,none⟩) (hT5.block bb hbl (fun h=>(uL.out _ h).1 rfl))).trans u1;have t1:w5.frozen? ⟨bb,off+k* 4+1,none⟩=false:=((hT5.cell _ (by rw[u1];rfl)).2).trans v1;have s2:=(World.cell?_of_block (a:=⟨bb,off+k* 4+2,none⟩) (hT5.block bb hbl (fun h=>(uL.out _ h).1 rfl))).trans u2;have t2:w5.frozen? ⟨bb,off+k* 4+2,none⟩=false:=((hT5.cell _ (by rw[u2];rfl)).2).trans v2;have s3:=(World.cell?_of_block (a:=⟨bb,off+k* 4+3,none⟩) (hT5.block bb hbl (fun h=>(uL.out _ h).1 rfl))).trans u3;have t3:w5.frozen? ⟨bb,off+k* 4+3,none⟩=false:=((hT5.cell _ (by rw[u3];rfl)).2).trans v3;clear u0 v0 u1 v1 u2 v2 u3 v3;have hzo:w.heap.size<wo.heap.size:=Nat.lt_of_lt_of_le hz HT.out.size;have vU:=(hT5.block w.heap.size hzo (fun h=>absurd (uL.out _ h).2.2.2.2 (Nat.lt_irrefl _))).trans mb.out;have p5:=(cell_of_row w5 w.heap.size 0 _ _ _ vU).trans (show _=some (Value.slice (some ⟨bb,off,none⟩) n0 c0) from rfl);clear vU p0;have Hb:=zh hT5;clear hT5;have HTN:Hid (BU (fun g=>S g∧g<w.heap.size) W1 (Silo.Bi bb (off+k* 4) [.int .i64 (-9),.int .i64 0,.int .i64 0,.slice none 0 0] w5)):=zh (BU.Bi Hn.out _ _ _ (HT.out.trans (Hb.out.mono (fun g _ h=>(uL.out g h).2.2.2))))
   have HSN0:Hid (C9 W1 (Silo.Bi bb (off+k* 4) [.int .i64 (-9),.int .i64 0,.int .i64 0,.slice none 0 0] w5) (some ⟨bb,off,none⟩) ((k+1)* 4) (n0* 4)):=zh (Gl.out.step Hb.out (fun b0 pu e0 _=>by
    injection e0 with e0;injection e0 with e1 e2 _;subst e1;subst e2
    exact⟨hbl,fun h=>(uL.out _ h).1 rfl,.inr (fun j hj=>.inr (by simp only[List.length_cons,List.length_nil];omega))⟩) (by omega))
   have HSN1:Hid (C9 W1 (Silo.Bi bb (off+k* 4) [.int .i64 (-9),.int .i64 0,.int .i64 0,.slice none 0 0] w5) A1 0 (n1* 4)):=zh (vr.out.step Hb.out (fun b0 pu e0 hn=>by
    subst e0;have gx:=G1.out.2.2.2 (by omega);obtain⟨b9,o9,e9,_,hl9,_⟩:=gx;injection e9 with e9;injection e9 with e1 _ _;subst e1
    exact⟨Nat.lt_of_lt_of_le hl9 HT.out.size,fun h=>(uL.out _ h).2.1 (by omega) b0 pu rfl rfl,.inl (xS G1.out G0.out (by omega) (by omega) (by decide))⟩) (Nat.le_refl _))
   have GV:Hid (C9 W1 (Silo.Bi bb (off+k* 4) [.int .i64 (-9),.int .i64 0,.int .i64 0,.slice none 0 0] w5) A2 0 (n2* 2)):=zh (uE.out.step Hb.out (fun b0 pu e0 hn=>by
    subst e0;have gx:=G2.out.2.2.2 (by omega);obtain⟨b9,o9,e9,_,hl9,_⟩:=gx;injection e9 with e9;injection e9 with e1 _ _;subst e1
    exact⟨Nat.lt_of_lt_of_le hl9 HT.out.size,fun h=>(uL.out _ h).2.2.1 (by omega) b0 pu rfl rfl,.inl (xS G2.out G0.out (by omega) (by omega) (by decide))⟩) (Nat.le_refl _))
   clear HT Gl vr uE Hb uL mZ;go_wp2
   go_roundw
   case rel=>exact⟨k+1,by omega,by go_num,HTN,HSN0,HSN1,GV⟩
   case measure=>simp[intOf];omega
  obtain rfl:n0=k:=by omega
  clear hlt hk;clear Gl;have p1:=(cell_of_row wo w.heap.size 1 _ _ _ mb.out).trans (show _=some (Value.slice A1 n1 c1) from rfl);clear mb;go_wp2_with fail
  go_loopw [3] (fun i wr=>∃k:Nat,k≤n1∧i=.int .i64 k∧Hid (BU (fun g=>S g∧g<w.heap.size) W1 wr)∧Hid (C9 W1 wr A1 (k* 4) (n1* 4))∧Hid (C9 W1 wr A2 0 (n2* 2))) (fun i _=>n1 - (intOf i).toNat)
  case atStart=>exact⟨0,Nat.zero_le _,rfl,HT,vr,uE⟩
  case round=>
   clear HT vr uE;obtain⟨k,hk,rfl,HT,vr,uE⟩:=hrel
   rename World=>wo
   have hrow:wo.heap[w.heap.size]?=some (.cells #[.slice A0 n0 c0,.slice A1 n1 c1,.slice A2 n2 c2,.int .i64 nx] 28 (0,0)):=(HT.out.block w.heap.size hz (fun h=>absurd h.2 (Nat.lt_irrefl _))).trans HBOX.out;have p1:=(cell_of_row wo w.heap.size 1 _ _ _ hrow).trans (show _=some (Value.slice A1 n1 c1) from rfl);have mb:=zh hrow;clear hrow;by_cases hlt:k<n1
   ·obtain⟨bb,off,A3,n3,c3,eA,hS1,hbl1,_,_,hsl,hc0,hc1,hc2,hc3,hf0,hf1,hf2,hf3⟩:=G1.out.BP hlt;subst eA;have u0:wo.cell? ⟨bb,off+k* 4,none⟩=_:=(vr.out bb off rfl (k* 4) (by omega) (by omega)).trans hc0;have v0:wo.frozen? ⟨bb,off+k* 4,none⟩=false:=((HT.out.cell _ (by rw[hc0];rfl)).2).trans hf0;have u1:wo.cell? ⟨bb,off+k* 4+1,none⟩=_:=(vr.out bb off rfl (k* 4+1) (by omega) (by omega)).trans hc1;have v1:wo.frozen? ⟨bb,off+k* 4+1,none⟩=false:=((HT.out.cell _ (by rw[hc1];rfl)).2).trans hf1;have u2:wo.cell? ⟨bb,off+k* 4+2,none⟩=_:=(vr.out bb off rfl (k* 4+2) (by omega) (by omega)).trans hc2;have v2:wo.frozen? ⟨bb,off+k* 4+2,none⟩=false:=((HT.out.cell _ (by rw[hc2];rfl)).2).trans hf2;have u3:wo.cell? ⟨bb,off+k* 4+3,none⟩=_:=(vr.out bb off rfl (k* 4+3) (by omega) (by omega)).trans hc3;have v3:wo.frozen? ⟨bb,off+k* 4+3,none⟩=false:=((HT.out.cell _ (by rw[hc3];rfl)).2).trans hf3;clear hc0 hf0 hc1 hf1 hc2 hf2 hc3 hf3;have hbl:bb<wo.heap.size:=Nat.lt_of_lt_of_le hbl1 HT.out.size;have Hn:=zh hS1;clear hS1;have mZ:=zh hsl;clear hsl
    have uL:Hid (∀g,(0<n3∧qd A3=some g)→g≠bb∧(0<n2→∀b0 pu,A2=some ⟨b0,pu,none⟩→g≠b0)∧S g∧g<w.heap.size):=zh (fun g hg=>by
     obtain⟨bi,oi,e,hSi,_,_⟩:=mZ.out.2.2.2 hg.1;have pC:=e;subst e;have:g=bi:=by have:=hg.2;injection this with this;exact this.symm
     subst this;refine⟨xS mZ.out G1.out hg.1 (by omega) (by decide),?_,hSi⟩;intro hn b0 pu e0;subst e0
     exact xS mZ.out G2.out hg.1 hn (by decide))
    have GU:=Jt (mZ.out.wr.Eu HT.out) (c:=c3) (Nat.le_trans mZ.out.le mZ.out.cap);go_wp2_with fail
    refine GU.mono ?_;clear GU;rintro e w5 ⟨⟨v,rfl⟩,hT5⟩;have s0:=(World.cell?_of_block (a:=⟨bb,off+k* 4,none⟩) (hT5.block bb hbl (fun h=>(uL.out _ h).1 rfl))).trans u0;have t0:w5.frozen? ⟨bb,off+k* 4,none⟩=false:=((hT5.cell _ (by rw[u0];rfl)).2).trans v0;have s1:=(World.cell?_of_block (a:=⟨bb,off+k* 4+1,none⟩) (hT5.block bb hbl (fun h=>(uL.out _ h).1 rfl))).trans u1;have t1:w5.frozen? ⟨bb,off+k* 4+1,none⟩=false:=((hT5.cell _ (by rw[u1];rfl)).2).trans v1;have s2:=(World.cell?_of_block (a:=⟨bb,off+k* 4+2,none⟩) (hT5.block bb hbl (fun h=>(uL.out _ h).1 rfl))).trans u2;have t2:w5.frozen? ⟨bb,off+k* 4+2,none⟩=false:=((hT5.cell _ (by rw[u2];rfl)).2).trans v2;have s3:=(World.cell?_of_block (a:=⟨bb,off+k* 4+3,none⟩) (hT5.block bb hbl (fun h=>(uL.out _ h).1 rfl))).trans u3;have t3:w5.frozen? ⟨bb,off+k* 4+3,none⟩=false:=((hT5.cell _ (by rw[u3];rfl)).2).trans v3;clear u0 v0 u1 v1 u2 v2 u3 v3;have hzo:w.heap.size<wo.heap.size:=Nat.lt_of_lt_of_le hz HT.out.size;have vU:=(hT5.block w.heap.size hzo (fun h=>absurd (uL.out _ h).2.2.2 (Nat.lt_irrefl _))).trans mb.out;have p5:=(cell_of_row w5 w.heap.size 1 _ _ _ vU).trans (show _=some (Value.slice (some ⟨bb,off,none⟩) n1 c1) from rfl);clear vU p1;have Hb:=zh hT5;clear hT5;have HTN:Hid (BU (fun g=>S g∧g<w.heap.size) W1 (Silo.Bi bb (off+k* 4) [.string ⟨#[]⟩,.int .i64 (-9),.bool false,.slice none 0 0] w5)):=zh (BU.Bi Hn.out _ _ _ (HT.out.trans (Hb.out.mono (fun g _ h=>(uL.out g h).2.2))))
    have HSN1:Hid (C9 W1 (Silo.Bi bb (off+k* 4) [.string ⟨#[]⟩,.int .i64 (-9),.bool false,.slice none 0 0] w5) (some ⟨bb,off,none⟩) ((k+1)* 4) (n1* 4)):=zh (vr.out.step Hb.out (fun b0 pu e0 _=>by
     injection e0 with e0;injection e0 with e1 e2 _;subst e1;subst e2
     exact⟨hbl,fun h=>(uL.out _ h).1 rfl,.inr (fun j hj=>.inr (by simp only[List.length_cons,List.length_nil];omega))⟩) (by omega))
    have GV:Hid (C9 W1 (Silo.Bi bb (off+k* 4) [.string ⟨#[]⟩,.int .i64 (-9),.bool false,.slice none 0 0] w5) A2 0 (n2* 2)):=zh (uE.out.step Hb.out (fun b0 pu e0 hn=>by
     subst e0;have gx:=G2.out.2.2.2 (by omega);obtain⟨b9,o9,e9,_,hl9,_⟩:=gx;injection e9 with e9;injection e9 with e1 _ _;subst e1
     exact⟨Nat.lt_of_lt_of_le hl9 HT.out.size,fun h=>(uL.out _ h).2.1 (by omega) b0 pu rfl rfl,.inl (xS G2.out G1.out (by omega) (by omega) (by decide))⟩) (Nat.le_refl _))
    clear HT vr uE Hb uL mZ;go_wp2
    go_roundw
    case rel=>exact⟨k+1,by omega,by go_num,HTN,HSN1,GV⟩
    case measure=>simp[intOf];omega
   obtain rfl:n1=k:=by omega
   clear hlt hk;clear vr;have p2:=(cell_of_row wo w.heap.size 2 _ _ _ mb.out).trans (show _=some (Value.slice A2 n2 c2) from rfl);clear mb;go_wp2_with fail
   go_loopw [4] (fun i wr=>∃k:Nat,k≤n2∧i=.int .i64 k∧Hid (BU (fun g=>S g∧g<w.heap.size) W1 wr)∧Hid (C9 W1 wr A2 (k* 2) (n2* 2))) (fun i _=>n2 - (intOf i).toNat)
   case atStart=>exact⟨0,Nat.zero_le _,rfl,HT,uE⟩
   case round=>
    clear HT uE;obtain⟨k,hk,rfl,HT,uE⟩:=hrel
    rename World=>wo
    have hrow:wo.heap[w.heap.size]?=some (.cells #[.slice A0 n0 c0,.slice A1 n1 c1,.slice A2 n2 c2,.int .i64 nx] 28 (0,0)):=(HT.out.block w.heap.size hz (fun h=>absurd h.2 (Nat.lt_irrefl _))).trans HBOX.out;have p2:=(cell_of_row wo w.heap.size 2 _ _ _ hrow).trans (show _=some (Value.slice A2 n2 c2) from rfl);have mb:=zh hrow;clear hrow;by_cases hlt:k<n2
    ·obtain⟨bb,off,eA,hS1,hbl1,_,_,hc0,hc1,hf0,hf1⟩:=G2.out.Cc hlt;subst eA;have u0:wo.cell? ⟨bb,off+k* 2,none⟩=_:=(uE.out bb off rfl (k* 2) (by omega) (by omega)).trans hc0;have v0:wo.frozen? ⟨bb,off+k* 2,none⟩=false:=((HT.out.cell _ (by rw[hc0];rfl)).2).trans hf0;have u1:wo.cell? ⟨bb,off+k* 2+1,none⟩=_:=(uE.out bb off rfl (k* 2+1) (by omega) (by omega)).trans hc1;have v1:wo.frozen? ⟨bb,off+k* 2+1,none⟩=false:=((HT.out.cell _ (by rw[hc1];rfl)).2).trans hf1;clear hc0 hf0 hc1 hf1;have hbl:bb<wo.heap.size:=Nat.lt_of_lt_of_le hbl1 HT.out.size;have Hn:=zh hS1;clear hS1;have HTN:Hid (BU (fun g=>S g∧g<w.heap.size) W1 (Silo.Bi bb (off+k* 2) [.string ⟨#[]⟩,.string ⟨#[]⟩] wo)):=zh (BU.Bi Hn.out _ _ _ (HT.out))
     have GV:Hid (C9 W1 (Silo.Bi bb (off+k* 2) [.string ⟨#[]⟩,.string ⟨#[]⟩] wo) (some ⟨bb,off,none⟩) ((k+1)* 2) (n2* 2)):=zh (uE.out.step (BU.refl (fun _=>False) wo) (fun b0 pu e0 _=>by
      injection e0 with e0;injection e0 with e1 e2 _;subst e1;subst e2
      exact⟨hbl,fun h=>h,.inr (fun j hj=>.inr (by simp only[List.length_cons,List.length_nil];omega))⟩) (by omega))
     clear HT uE;go_wp2
     go_roundw
     case rel=>exact⟨k+1,by omega,by go_num,HTN,GV⟩
     case measure=>simp[intOf];omega
    obtain rfl:n2=k:=by omega
    clear hlt hk;clear uE;go_wp2
    refine bodyPost_end (results_none rfl _ _ _) rfl ?_;exact⟨⟨_,rfl⟩,HT0.out.trans (HT.out.mono (fun b _ h=>h))⟩
end Go.Proofs.YtipecejghioicaaGreat
set_option maxHeartbeats 4000000
set_option maxRecDepth 100000
namespace Go.Proofs.YtipecejghioicaaGreat
open Go.RowKit Go.Silo
def Zl (k:Int):ByteArray:=if k=1 then ⟨#[73,83]⟩ else if k=2 then ⟨#[73,76,83]⟩ else if k=3 then ⟨#[73]⟩ else if k=4 then ⟨#[73,68,76]⟩ else if k=5 then ⟨#[73,68,76]⟩ else if k=6 then ⟨#[68]⟩ else if k=7 then ⟨#[78,68]⟩ else if k=8 then ⟨#[78]⟩ else ⟨#[]⟩
theorem zR {w:World}{k:Int}(hk:1≤k∧k≤8):Calls Tryz.prog 64 #[.int .i64 k] w (Bf (.string (Zl k)) w):=by
 rcases (by omega:k=1∨k=2∨k=3∨k=4∨k=5∨k=6∨k=7∨k=8) with h|h|h|h|h|h|h|h<;>subst h
 ·go_enter Tryz.func64,Tryz.ntmps64
  go_wp2
  go_ret
  exact⟨by rfl,bz⟩
 ·go_enter Tryz.func64,Tryz.ntmps64
  go_wp2
  go_ret
  exact⟨by rfl,bz⟩
 ·go_enter Tryz.func64,Tryz.ntmps64
  go_wp2
  go_ret
  exact⟨by rfl,bz⟩
 ·go_enter Tryz.func64,Tryz.ntmps64
  go_wp2
  go_ret
  exact⟨by rfl,bz⟩
 ·go_enter Tryz.func64,Tryz.ntmps64
  go_wp2
  go_ret
  exact⟨by rfl,bz⟩
 ·go_enter Tryz.func64,Tryz.ntmps64
  go_wp2
  go_ret
  exact⟨by rfl,bz⟩
 ·go_enter Tryz.func64,Tryz.ntmps64
  go_wp2
  go_ret
  exact⟨by rfl,bz⟩
 go_enter Tryz.func64,Tryz.ntmps64
 go_wp2
 go_ret
 exact⟨by rfl,bz⟩
def qQ (s:ByteArray) (c:Nat):Bool:=(List.range s.size).any (fun i=>decide ((s.data.getD i 0).toNat=c))
theorem Kj {s:ByteArray}{k:Nat}(h:k<s.size):s.data.getD k 0=s[k]:=by
 have h2:k<s.data.size:=h;unfold Array.getD;rw[dif_pos h2];rfl
theorem Ju {s:ByteArray}{c k:Nat}(hk:k<s.size) (h:(s.data.getD k 0).toNat=c):qQ s c=true:=List.any_eq_true.2 ⟨k,List.mem_range.2 hk,decide_eq_true h⟩
theorem XB {s:ByteArray}{c:Nat}(h:∀j,j<s.size→(s.data.getD j 0).toNat≠c):qQ s c=false:=List.any_eq_false.2 (fun j hj=>by rw[decide_eq_false (h j (List.mem_range.1 hj))];decide)
theorem qk {w:World}{s:ByteArray}{c:Nat}(hs:s.size≤3):Calls Tryz.prog 65 #[.string s,.int .u8 c] w (Bf (.bool (qQ s c)) w):=by
 go_enter Tryz.func65,Tryz.ntmps65
 go_wp2
 go_loopw [5] (fun i wr=>∃k:Nat,k≤s.size∧i=.int .i64 k∧Below w.heap.size w wr∧Hid (∀j,j<k→(s.data.getD j 0).toNat≠c)) (fun i _=>s.size - (intOf i).toNat)
 case atStart=>exact⟨0,Nat.zero_le _,rfl,Below.refl _ _,zh (fun j hj=>by omega)⟩
 case round=>
  obtain⟨k,hk,rfl,hB,he⟩:=hrel;by_cases hlt:k<s.size
  ·have hge:=Kj hlt;by_cases hq:(s.data.getD k 0).toNat=c
   ·have HT:Hid (qQ s c=true):=zh (Ju hlt hq);have hb:((s[k].toNat:Int)==(c:Int))=true:=(by rw[hge] at hq;rw[hq];exact beq_self_eq_true _);clear hge hq;go_wp2
    go_ret
    exact⟨by rw[HT.out];rfl,hB⟩
   have HN:Hid (∀j,j<k+1→(s.data.getD j 0).toNat≠c):=zh (fun j hj=>by
    by_cases e:j=k
    ·rw[e];exact hq
    exact he.out j (by omega))
   have hb:((s[k].toNat:Int)==(c:Int))=false:=by
    rw[hge] at hq;rw[beq_eq_false_iff_ne];omega
   clear hge hq;go_wp2
   go_roundw
   case rel=>exact⟨k+1,by omega,by go_num,hB,HN⟩
   case measure=>simp[intOf];omega
  have HF:Hid (qQ s c=false):=zh (XB (fun j hj=>he.out j (by omega)));go_wp2
  go_ret
  exact⟨by rw[HF.out];rfl,hB⟩
end Go.Proofs.YtipecejghioicaaGreat
