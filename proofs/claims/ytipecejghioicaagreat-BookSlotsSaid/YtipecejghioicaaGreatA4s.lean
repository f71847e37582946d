/- Silolaw0.Slots spoils the slots' own memory, and no more. -/
import Derived.Test.YtipecejghioicaaGreatR2s
import Derived.Test.YtipecejghioicaaGreatP0s
set_option maxHeartbeats 4000000
set_option maxRecDepth 100000
namespace Go.Proofs.YtipecejghioicaaGreat
open Go.RowKit Go.Silo
theorem kC (w:World) (p:Addr) (v:Value) (q:Addr) (h:(w.cell? q).isSome=true):((w.setCell p v).cell? q).isSome=true:=by
 by_cases e:p=q
 ·subst e;rw[World.cell?_setCell_same' w p v h];rfl
 rw[World.cell?_setCell_other w p q v e];exact h
structure C8 (S:Nat→Prop) (w w':World):Prop where
 os:w'.os=w.os
 tape:w'.tape=w.tape
 output:w'.output=w.output
 size:w.heap.size≤w'.heap.size
 block:∀b,b<w.heap.size→¬S b→w'.heap[b]?=w.heap[b]?
 cell:∀p,(w.cell? p).isSome=true→(w'.cell? p).isSome=true∧w'.frozen? p=w.frozen? p
theorem C8.refl (S:Nat→Prop) (w:World):C8 S w w:=⟨rfl,rfl,rfl,Nat.le_refl _,fun _ _ _=>rfl,fun _ h=>⟨h,rfl⟩⟩
theorem C8.trans {S:Nat→Prop}{a b c:World}(h:C8 S a b) (k:C8 S b c):C8 S a c:=
 ⟨k.os.trans h.os,k.tape.trans h.tape,k.output.trans h.output,Nat.le_trans h.size k.size,fun i hi hn=>(k.block i (Nat.lt_of_lt_of_le hi h.size) hn).trans (h.block i hi hn),fun p hp=>⟨(k.cell p (h.cell p hp).1).1,((k.cell p (h.cell p hp).1).2).trans (h.cell p hp).2⟩⟩
theorem C8.mono {S S':Nat→Prop}{w w':World}(h:C8 S w w') (hS:∀b,b<w.heap.size→S b→S' b):C8 S' w w':=⟨h.os,h.tape,h.output,h.size,fun b hb hn=>h.block b hb (fun hs=>hn (hS b hb hs)),h.cell⟩
theorem C8.of_below {S:Nat→Prop}{w w':World}(h:Below w.heap.size w w'):C8 S w w':=⟨h.os,h.tape,h.output,h.size,fun b hb _=>h.block b hb,fun p hp=>by
 obtain⟨u,hu⟩:=Option.isSome_iff_exists.1 hp;have hl:=World.block_lt_of_cell? w p hu
 exact⟨by rw[h.cell hl];exact hp,h.frozen hl⟩⟩
theorem C8.setCell {S:Nat→Prop}{w w':World}(h:C8 S w w') {p:Addr}(hp:S p.block) (v:Value):C8 S w (w'.setCell p v):=
 h.trans ⟨rfl,rfl,rfl,by simp,fun b _ hn=>Below.heap_setCell w' p v b (fun e=>hn (by rw[e];exact hp)),fun q hq=>⟨kC _ _ _ _ hq,World.frozen?_setCell _ _ _ _⟩⟩
def Wr (w:World) (A:Option Addr) (n:Nat):Prop:=0<n→∃b off,A=some ⟨b,off,none⟩∧b<w.heap.size∧∀j,j<n→(w.cell? ⟨b,off+j,none⟩).isSome=true∧w.frozen? ⟨b,off+j,none⟩=false
theorem Wr.tame {S:Nat→Prop}{w w':World}{A:Option Addr}{n:Nat}(h:Wr w A n) (k:C8 S w w'):Wr w' A n:=fun hn=>by
 obtain⟨b,off,e,hl,hc⟩:=h hn;exact⟨b,off,e,Nat.lt_of_lt_of_le hl k.size,fun j hj=>⟨(k.cell _ (hc j hj).1).1,((k.cell _ (hc j hj).1).2).trans (hc j hj).2⟩⟩
theorem _root_.Go.Silo.Sl.wr {tg:Bool}{T:TypeId}{w:World}{S:Nat→Prop}{A:Option Addr}{n c:Nat}{xs:List Int}(h:Sl tg T Bd w S A n c xs):Wr w A n:=fun hn=>by
 obtain⟨b,off,e,_,hl,_,_,_⟩:=h.BD hn;refine⟨b,off,e,hl,fun j hj=>?_⟩;obtain⟨b',off',e',_,_,_,hc,hf⟩:=h.BD hj;rw[e] at e';injection e' with e';injection e' with e1 e2 _;subst e1;subst e2
 exact⟨by rw[hc];rfl,hf⟩
theorem Jk {w:World}{A:Option Addr}{n c:Nat}(h:Wr w A n) (hcap:n≤9223372036854775807):
  Calls Tryz.prog 55 #[.slice A n c] w (fun e w'=>(∃v,e=.returned v)∧C8 (fun b=>0<n∧qa A=some b) w w'):=by
 go_enter Tryz.func55,Tryz.ntmps55
 go_wp2
 go_loopw [2] (fun i wr=>∃k:Nat,k≤n∧i=.int .i64 k∧C8 (fun b=>0<n∧qa A=some b) w wr) (fun i _=>n - (intOf i).toNat)
 case atStart=>exact⟨0,Nat.zero_le _,rfl,C8.refl _ _⟩
 case round=>
  obtain⟨k,hk,rfl,hT⟩:=hrel;by_cases hlt:k<n
  ·obtain⟨b,off,rfl,hl,hc⟩:=(h.tame hT) (by omega);have hl':=hl;obtain⟨hc1,hc2⟩:=hc k hlt;obtain⟨u,hu⟩:=Option.isSome_iff_exists.1 hc1;have HT:=zh hT;clear hc hT hc1 h;go_wp2
   go_roundw
   case rel=>exact⟨k+1,by omega,by go_num,HT.out.setCell (p:=⟨b,off+k,none⟩) ⟨by omega,rfl⟩ _⟩
   case measure=>simp[intOf];omega
  go_wp2
  refine bodyPost_end (results_none rfl _ _ _) rfl ?_;exact⟨⟨_,rfl⟩,hT⟩
end Go.Proofs.YtipecejghioicaaGreat
namespace Go.Proofs.YtipecejghioicaaGreat
open Go.RowKit Go.Silo
theorem Zo {α β:Type}{T T':TypeId}{E:Enc α}{F:Enc β}{w:World}{S S':Nat→Prop}{b off n c b' off' n' c':Nat}{xs:List α}{ys:List β}(h:Sl true T E w S (some ⟨b,off,none⟩) n c xs) (h':Sl true T' F w S' (some ⟨b',off',none⟩) n' c' ys) (hn:0<n) (hn':0<n') (hT:T≠T'):b≠b':=by
 intro e;subst e;obtain⟨q,hq⟩:=h.Bv hn;obtain⟨q',hq'⟩:=h'.Bv hn';rw[hq] at hq';injection hq' with hq';injection hq' with hq' _
 exact hT hq'
theorem Kk {w:World}{S:Nat→Prop}{A0 A1:Option Addr}{n0 c0 n1 c1:Nat}{x:Bg}
  (h0:Sl true 4 Bn w S A0 n0 c0 x.live) (h1:Sl true 36 (Cg true 3 Bd) w S A1 n1 c1 x.free):
  Calls Tryz.prog 23 #[.agg #[.slice A0 n0 c0,.slice A1 n1 c1]] w (fun e w'=>(∃v,e=.returned v)∧C8 (fun b=>S b∧b<w.heap.size) w w'):=by
 have hcap0:n0≤9223372036854775807:=Nat.le_trans h0.le h0.cap;have hcap1:n1≤9223372036854775807:=Nat.le_trans h1.le h1.cap;have g0:=(h0.Bi).frame (Agree.alloc _ w (.cells #[.slice A0 n0 c0,.slice A1 n1 c1] 40)) (by simp);have g1:=(h1.Bi).frame (Agree.alloc _ w (.cells #[.slice A0 n0 c0,.slice A1 n1 c1] 40)) (by simp);have mF:=heap_alloc_new w (.cells #[.slice A0 n0 c0,.slice A1 n1 c1] 40);have hT0:C8 (fun b=>S b∧b<w.heap.size) w (w.alloc (.cells #[.slice A0 n0 c0,.slice A1 n1 c1] 40)):=.of_below ((Below.refl _ _).alloc (Nat.le_refl _) _);have hz:w.heap.size<(w.alloc (.cells #[.slice A0 n0 c0,.slice A1 n1 c1] 40)).heap.size:=by simp
 have G0:=zh g0;clear g0 h0;have G1:=zh g1;clear g1 h1;have HT0:=zh hT0;clear hT0;have vG:=zh mF;clear mF
 go_enter Tryz.func23,Tryz.ntmps23
 go_wp2_with fail
 generalize (w.alloc (.cells #[.slice A0 n0 c0,.slice A1 n1 c1] 40))=W1 at *
 go_loopw [2] (fun i wr=>∃k:Nat,k≤n1∧i=.int .i64 k∧C8 (fun b=>S b∧b<w.heap.size) W1 wr∧(∀b off,A1=some ⟨b,off,none⟩→∀j,k≤j→j<n1→wr.cell? ⟨b,off+j,none⟩=W1.cell? ⟨b,off+j,none⟩)∧
   (∀b off,A0=some ⟨b,off,none⟩→∀j,j<n0→wr.cell? ⟨b,off+j,none⟩=W1.cell? ⟨b,off+j,none⟩)) (fun i _=>n1 - (intOf i).toNat)
 case atStart=>exact⟨0,Nat.zero_le _,rfl,C8.refl _ _,fun _ _ _ _ _ _=>rfl,fun _ _ _ _ _=>rfl⟩
 case round=>
  obtain⟨k,hk,rfl,hT,hh,hb⟩:=hrel
  rename World=>wo
  have hrow:wo.heap[w.heap.size]?=some (.cells #[.slice A0 n0 c0,.slice A1 n1 c1] 40 (0,0)):=(hT.block w.heap.size hz (fun h=>absurd h.2 (Nat.lt_irrefl _))).trans vG.out;have p0:=(cell_of_row wo w.heap.size 0 _ _ _ hrow).trans (show _=some (Value.slice A0 n0 c0) from rfl);have p1:=(cell_of_row wo w.heap.size 1 _ _ _ hrow).trans (show _=some (Value.slice A1 n1 c1) from rfl);have gj:=zh hrow;clear hrow;have HT:=zh hT;clear hT;have HB:=zh hb;clear hb;by_cases hlt:k<n1
  ·obtain⟨b1,off1,A',n',c',rfl,hS1,hbl1,hsl,hc1,vd⟩:=G1.out.Di hlt;have u1:=(hh b1 off1 rfl k (Nat.le_refl _) hlt).trans hc1;have HH:=zh hh;clear hh;have pM:=zh hsl;clear hsl
   have hne:∀b,(0<n'∧qa A'=some b)→b≠b1∧(0<n0→∀b0 rJ,A0=some ⟨b0,rJ,none⟩→b≠b0)∧S b∧b<w.heap.size:=by
    intro b hb;obtain⟨bi,oi,e,hSi,_,_⟩:=pM.out.2.2.2 hb.1;have hA:=e;subst e;have:b=bi:=by have:=hb.2;injection this with this;exact this.symm
    subst this;refine⟨Zo pM.out G1.out hb.1 (by omega) (by decide),fun hn b0 rJ e0=>?_,hSi⟩;subst e0;exact Zo pM.out G0.out hb.1 hn (by decide)
   have hnum:=Jk (pM.out.wr.tame HT.out) (c:=c') (Nat.le_trans pM.out.le pM.out.cap);have G3:b1<wo.heap.size:=Nat.lt_of_lt_of_le hbl1 HT.out.size;have hzo:w.heap.size<wo.heap.size:=Nat.lt_of_lt_of_le hz HT.out.size;have HNE:=zh hne;clear hne;go_wp2_with fail
   refine hnum.mono ?_;clear hnum;rintro e w5 ⟨⟨v,rfl⟩,hT5⟩;have s1:=(World.cell?_of_block (a:=⟨b1,off1+k,none⟩) (hT5.block b1 G3 (fun h=>(HNE.out _ h).1 rfl))).trans u1;have nN:=(hT5.block w.heap.size hzo (fun h=>absurd (HNE.out _ h).2.2.2 (Nat.lt_irrefl _))).trans gj.out;have q1:=(cell_of_row w5 w.heap.size 1 _ _ _ nN).trans (show _=some (Value.slice (some ⟨b1,off1,none⟩) n1 c1) from rfl);have s2:w5.frozen? ⟨b1,off1+k,none⟩=false:=((hT5.cell _ (by rw[u1];rfl)).2).trans (((HT.out.cell _ (by rw[hc1];rfl)).2).trans vd);have HT5:=zh hT5;clear hT5;clear nN;go_wp2
   go_roundw
   case rel=>
    have hall:C8 (fun b=>S b∧b<w.heap.size) W1 w5:=HT.out.trans (HT5.out.mono (fun b _ h=>(HNE.out b h).2.2));refine⟨k+1,by omega,by go_num,hall.setCell (p:=⟨b1,off1+k,none⟩) hS1 _,fun b off e j hj hjn=>?_,fun b off e j hj=>?_⟩
    ·injection e with e;injection e with e1 e2 _;subst e1;subst e2
     rw[World.cell?_setCell_other _ _ _ _ (by simp<;>omega)];exact(World.cell?_of_block (a:=⟨b1,off1+j,none⟩) (HT5.out.block b1 G3 (fun h=>(HNE.out _ h).1 rfl))).trans (HH.out b1 off1 rfl j (by omega) hjn)
    have hbl0:b<wo.heap.size:=by
     obtain⟨b0,o0,e0,_,hl0,_⟩:=G0.out.2.2.2 (by omega);rw[e] at e0;injection e0 with e0;injection e0 with e1 _ _
     subst e1;exact Nat.lt_of_lt_of_le hl0 HT.out.size
    have hb01:b≠b1:=by
     have g:=G0.out;rw[e] at g;exact Zo g G1.out (by omega) (by omega) (by decide)
    rw[World.cell?_setCell_other _ _ _ _ (by intro h;injection h with h;exact hb01 h.symm)];exact(World.cell?_of_block (a:=⟨b,off+j,none⟩) (HT5.out.block b hbl0 (fun h=>(HNE.out _ h).2.1 (by omega) b off e rfl))).trans (HB.out b off e j hj)
   case measure=>simp[intOf];omega
  clear hh;go_wp2_with fail
  go_loopw [3] (fun i wr=>∃k:Nat,k≤n0∧i=.int .i64 k∧C8 (fun b=>S b∧b<w.heap.size) W1 wr∧(∀b off,A0=some ⟨b,off,none⟩→∀j,k≤j→j<n0→wr.cell? ⟨b,off+j,none⟩=W1.cell? ⟨b,off+j,none⟩)) (fun i _=>n0 - (intOf i).toNat)
  case atStart=>exact⟨0,Nat.zero_le _,rfl,HT.out,fun b off e j _ hj=>HB.out b off e j hj⟩
  case round=>
   rename World=>wv
   obtain⟨m,hm,rfl,hTv,hv⟩:=hrel;have G5:wv.heap[w.heap.size]?=some (.cells #[.slice A0 n0 c0,.slice A1 n1 c1] 40 (0,0)):=(hTv.block w.heap.size hz (fun h=>absurd h.2 (Nat.lt_irrefl _))).trans vG.out;have r0:=(cell_of_row wv w.heap.size 0 _ _ _ G5).trans (show _=some (Value.slice A0 n0 c0) from rfl);clear G5 p0;have HTV:=zh hTv;clear hTv;by_cases gZ:m<n0
   ·obtain⟨b0,rJ,rfl,hS0,hbl0,hc0,hf0⟩:=G0.out.Cm gZ;have u0:=(hv b0 rJ rfl m (Nat.le_refl _) gZ).trans hc0;have u2:wv.frozen? ⟨b0,rJ+m,none⟩=false:=((HTV.out.cell _ (by rw[hc0];rfl)).2).trans hf0;have HV:=zh hv;clear hv;go_wp2
    go_still_tail 10,(by kernel_rfl)
    go_wp2
    go_roundw
    case rel=>
     refine⟨m+1,by omega,by go_num,?_,fun b off e j hj hjn=>?_⟩
     ·exact(HTV.out.setCell (p:=⟨b0,rJ+m,none⟩) hS0 _).trans (.of_below ((Below.refl _ _).drew))
     injection e with e;injection e with e1 e2 _;subst e1;subst e2
     refine(show(World.setCell wv ⟨b0,rJ+m,none⟩ _).cell? _=_ from ?_);rw[World.cell?_setCell_other _ _ _ _ (by simp<;>omega)];exact HV.out b0 rJ rfl j (by omega) hjn
    case measure=>simp[intOf];omega
   go_wp2
   refine bodyPost_end (results_none rfl _ _ _) rfl ?_;exact⟨⟨_,rfl⟩,HT0.out.trans (HTV.out.mono (fun b _ h=>h))⟩
end Go.Proofs.YtipecejghioicaaGreat
