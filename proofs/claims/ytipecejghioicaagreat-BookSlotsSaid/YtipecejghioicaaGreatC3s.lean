/- Book.Left: the walk. -/
import Derived.Test.YtipecejghioicaaGreatC2s
import Derived.Test.YtipecejghioicaaGreatQ1s
import Derived.Test.YtipecejghioicaaGreatQ12s
import Derived.Test.YtipecejghioicaaGreatP0s
set_option maxHeartbeats 4000000
set_option maxRecDepth 100000
namespace Go.Proofs.YtipecejghioicaaGreat
open Go.RowKit Go.Silo
theorem km {ls:List (List Int)}{p:Slot}(h:¬(0≤p.disk∧p.disk<ls.length)):qk ls p=ls:=by unfold qk;rw[if_neg h]
theorem QV {ls:List (List Int)}{d:Nat}{a:Int}(hd:d<ls.length) (h:(ls.getD d []).contains a=false):qk ls ⟨(d:Int),a⟩=ls:=by
 have hm:a∉ls.getD d []:=fun hm=>by rw[List.contains_iff_mem.2 hm] at h;cases h
 unfold qk;rw[if_pos (by constructor<;>simp<;>omega)];show ls.set d ((ls.getD d []).erase a)=ls;rw[List.erase_of_not_mem hm,List.getD_eq_getElem?_getD,List.getElem?_eq_getElem hd];exact List.set_getElem_self hd
theorem ZD {ls:List (List Int)}{d:Nat}{a:Int}(hd:d<ls.length) (hr:(ls.getD d []).Pairwise (·<·)) (h:(ls.getD d []).contains a=true):qk ls ⟨(d:Int),a⟩=ls.set d (qN ((ls.getD d []).countP (·<a)) (ls.getD d [])):=by
 unfold qk;rw[if_pos (by constructor<;>simp<;>omega),ZC hr (List.contains_iff_mem.1 h)];rfl
theorem XN {ls:List (List Int)}{ps:List Slot}{j:Nat}(h:j<ps.length):(ps.take (j+1)).foldl qk ls=qk ((ps.take j).foldl qk ls) (ps.getD j default):=by
 rw[qA (d:=default) h,List.foldl_append];rfl
theorem ZE {ls:List (List Int)}{b:List Bb}{j:Nat}(h:j<b.length):qB ls (b.take (j+1))=(b.getD j default).place.foldl qk (qB ls (b.take j)):=by
 unfold qB;rw[qA (d:=default) h,List.foldl_append];rfl
theorem JX {w:World}{L:Nat}{A:Option Addr}{n c:Nat}{ys:List (List Int×Nat×Nat)}(h:Sl true 36 Dp w (fun b=>L≤b) A n c ys):Sl true 36 (Cg true 3 Bd) w (fun b=>L≤b) A n c (ys.map (·.1)):=by
 refine h.imp rfl (by simp) (fun(k:Nat) x z vs hx hz hR=>?_);rw[List.getElem?_map,hx] at hz;injection hz with hz;subst hz
 obtain⟨A',c',rfl,ho,hr,hs,hb⟩:=hR;refine⟨A',_,c',rfl,?_⟩;rcases Nat.eq_zero_or_pos x.1.length with h0|h0
 ·have e:x.1=[]:=List.eq_nil_of_length_eq_zero h0;show Sl true 3 Bd w _ A' x.1.length c' x.1;rw[e];exact Sl.BA ho.le.2
 obtain⟨g,hg,_⟩:=ho.form h0;have hr':=hr g (by rw[hg];rfl);have hf:=(ho.CE (S':=fun _=>False));exact(hf.sl (tg:=true)).mono (fun b hb' hlt=>hb'.elim (fun h=>h.elim) (fun h=>Nat.le_trans (hb x.2.1 (Nat.le_refl _) (by omega)) h))
def Es (V:World) (lo' hi':Nat) (Ad:Option Addr) (cd:Nat) (l':List Int) (b1 o1:Nat):List Value→World→Prop
 |[],w'=>w'=V.drew
 |[u],w'=>u=.slice Ad l'.length cd∧Silo.Be 3 Bd w' lo' (fun b=>lo'≤b∧b<hi') Ad l'.length cd l'∧V.drew.grownBy w' (qa Ad)
 |_,w'=>∃w6,Silo.Be 3 Bd w6 lo' (fun b=>lo'≤b∧b<hi') Ad l'.length cd l'∧V.drew.grownBy w6 (qa Ad)∧w'=w6.setCell ⟨b1,o1,none⟩ (.slice Ad l'.length cd)
noncomputable def Dq:Code:=((Tryz.f48.body.bind (qm 15)).getD .skip)
theorem EP {Q:Exit→Act→World→Prop}{σ:Act}{W3:World}{g g11 b1 o1 k c4 d pos lo' hi' cd:Nat}{Ad:Option Addr}{l:List Int}
  (HC:Hid (W3.cell? ⟨g,1,none⟩=some (.slice (some ⟨b1,o1,none⟩) k c4)∧W3.cell? ⟨b1,o1+d,none⟩=some (.slice Ad l.length cd)∧W3.cell? ⟨g11,0,none⟩=some (.int .i64 (d:Int))∧W3.frozen? ⟨b1,o1+d,none⟩=false))
  (HG:Hid (∀w6,W3.drew.grownBy w6 (qa Ad)→w6.cell? ⟨g,1,none⟩=some (.slice (some ⟨b1,o1,none⟩) k c4)∧w6.cell? ⟨b1,o1+d,none⟩=some (.slice Ad l.length cd)∧w6.cell? ⟨g11,0,none⟩=some (.int .i64 (d:Int))∧w6.frozen? ⟨b1,o1+d,none⟩=false))
  (HDEL:Hid (Calls Tryz.prog 82 #[.slice Ad l.length cd,.int .i64 (pos:Int),.int .i64 ((pos:Int)+1)] W3.drew (DI 3 Bd W3.drew lo' (fun b=>lo'≤b∧b<hi') Ad l.length cd l pos))) (hps:pos<l.length) (hl64:l.length≤64) (hdk:d<k)
  (hσ:σ.tmps.size=84) (s7:σ.eval (.tmp 7)=.pointer (some ⟨g,0,none⟩)) (s11:σ.eval (.tmp 11)=.pointer (some ⟨g11,0,none⟩)) (s12:σ.eval (.tmp 12)=.int .i64 (pos:Int))
  (hend:∀(v:Nat→Value) (w6:World),Silo.Be 3 Bd w6 lo' (fun b=>lo'≤b∧b<hi') Ad (qN pos l).length cd (qN pos l)→W3.drew.grownBy w6 (qa Ad)→Q .normal (qc σ (([66,67,68,69,70,71,72,73,74,75,76,77,78,79,80]:List Nat).map fun d=>(d,v d))) (w6.setCell ⟨b1,o1+d,none⟩ (.slice Ad (qN pos l).length cd))):
  Dq.wp Tryz.prog Q σ W3:=by
 have m8:=xI (i:=pos) (l:=l) hps
 have cells:∀us w6,us.length≤1→Es W3 lo' hi' Ad cd (qN pos l) b1 (o1+d) us w6→w6.cell? ⟨g,1,none⟩=some (.slice (some ⟨b1,o1,none⟩) k c4)∧w6.cell? ⟨b1,o1+d,none⟩=some (.slice Ad l.length cd)∧w6.cell? ⟨g11,0,none⟩=some (.int .i64 (d:Int))∧w6.frozen? ⟨b1,o1+d,none⟩=false:=by
  intro us w6 hl hW
  match us,hl,hW with
  |[],_,hW=>obtain rfl:w6=W3.drew:=hW;exact HC.out
  |[u],_,⟨_,_,hg⟩=>exact HG.out w6 hg
 have CELLS:=zh cells;clear cells;conv=>arg 2;whnf
 refine jo (by kernel_rfl) (by kernel_rfl) 84 hσ [66,67,68,69,70,71,72,73,74,75,76,77,78,79,80] [13,15] [(79,0)]
  [(66,.pointer (some ⟨g,1,none⟩)),(67,.slice (some ⟨b1,o1,none⟩) k c4),(68,.pointer (some ⟨g11,0,none⟩)),(69,.int .i64 (d:Int)),(70,.pointer (some ⟨g,1,none⟩)),(71,.slice (some ⟨b1,o1,none⟩) k c4),(72,.pointer (some ⟨g11,0,none⟩)),(73,.int .i64 (d:Int)),
   (74,.pointer (some ⟨b1,o1+d,none⟩)),(75,.slice Ad l.length cd),(76,.int .i64 (pos:Int)),(77,.int .i64 (pos:Int)),(78,.int .i64 ((pos:Int)+1)),(80,.pointer (some ⟨b1,o1+d,none⟩))]
  (fun _=>1) [[],[66],[],[68],[],[70],[],[72],[71,73],[74],[],[],[77],[75,76,78],[67,69],[80,79]] (Es W3 lo' hi' Ad cd (qN pos l) b1 (o1+d)) (by kernel_rfl) rfl ⟨?_,?_,?_,?_,?_,?_,?_,?_,?_,?_,?_,?_,?_,?_,?_,?_,trivial⟩ ?_
 ·(refine Br.rd rfl _ rfl (fun ρ us w6 ho ht hc hl hW=>?_);have e7:=zv (ho 7 rfl) (.pointer (some ⟨g,0,none⟩)) s7;simp only[execOp,e7];go_simp;try rfl)
 ·(refine Br.rd rfl _ rfl (fun ρ us w6 ho ht hc hl hW=>?_);have e66:=zv (ht 66 (by decide)) (.pointer (some ⟨g,1,none⟩)) rfl;obtain⟨y1,y2,y3,y4⟩:=CELLS.out us w6 hl hW;simp only[execOp,e66];go_simp;try rfl)
 ·(refine Br.rd rfl _ rfl (fun ρ us w6 ho ht hc hl hW=>?_);have e11:=zv (ho 11 rfl) (.pointer (some ⟨g11,0,none⟩)) s11;simp only[execOp,e11];go_simp;try rfl)
 ·(refine Br.rd rfl _ rfl (fun ρ us w6 ho ht hc hl hW=>?_);have e68:=zv (ht 68 (by decide)) (.pointer (some ⟨g11,0,none⟩)) rfl;obtain⟨y1,y2,y3,y4⟩:=CELLS.out us w6 hl hW;simp only[execOp,e68];go_simp;try rfl)
 ·(refine Br.rd rfl _ rfl (fun ρ us w6 ho ht hc hl hW=>?_);have e7:=zv (ho 7 rfl) (.pointer (some ⟨g,0,none⟩)) s7;simp only[execOp,e7];go_simp;try rfl)
 ·(refine Br.rd rfl _ rfl (fun ρ us w6 ho ht hc hl hW=>?_);have e70:=zv (ht 70 (by decide)) (.pointer (some ⟨g,1,none⟩)) rfl;obtain⟨y1,y2,y3,y4⟩:=CELLS.out us w6 hl hW;simp only[execOp,e70];go_simp;try rfl)
 ·(refine Br.rd rfl _ rfl (fun ρ us w6 ho ht hc hl hW=>?_);have e11:=zv (ho 11 rfl) (.pointer (some ⟨g11,0,none⟩)) s11;simp only[execOp,e11];go_simp;try rfl)
 ·(refine Br.rd rfl _ rfl (fun ρ us w6 ho ht hc hl hW=>?_);have e72:=zv (ht 72 (by decide)) (.pointer (some ⟨g11,0,none⟩)) rfl;obtain⟨y1,y2,y3,y4⟩:=CELLS.out us w6 hl hW;simp only[execOp,e72];go_simp;try rfl)
 ·(refine Br.rd rfl _ rfl (fun ρ us w6 ho ht hc hl hW=>?_);have e71:=zv (ht 71 (by decide)) (.slice (some ⟨b1,o1,none⟩) k c4) rfl;have e73:=zv (ht 73 (by decide)) (.int .i64 (d:Int)) rfl;simp only[execOp,e71,e73];go_simp;try rfl)
 ·(refine Br.rd rfl _ rfl (fun ρ us w6 ho ht hc hl hW=>?_);have e74:=zv (ht 74 (by decide)) (.pointer (some ⟨b1,o1+d,none⟩)) rfl;obtain⟨y1,y2,y3,y4⟩:=CELLS.out us w6 hl hW;simp only[execOp,e74];go_simp;try rfl)
 ·(refine Br.rd rfl _ rfl (fun ρ us w6 ho ht hc hl hW=>?_);have e12:=zv (ho 12 rfl) (.int .i64 (pos:Int)) s12;simp only[execOp,e12];go_simp;try rfl)
 ·(refine Br.rd rfl _ rfl (fun ρ us w6 ho ht hc hl hW=>?_);have e12:=zv (ho 12 rfl) (.int .i64 (pos:Int)) s12;simp only[execOp,e12];go_simp;try rfl)
 ·(refine Br.rd rfl _ rfl (fun ρ us w6 ho ht hc hl hW=>?_);have e77:=zv (ht 77 (by decide)) (.int .i64 (pos:Int)) rfl;have hwr:IntKind.i64.wrap ((pos:Int)+1)=(pos:Int)+1:=(by rw[IntKind.wrap_i64];omega);simp only[execOp,e77];go_simp;try rfl)
 ·refine Br.wr (k:=0) rfl (fun A us w6 ho ht hl hW K hK=>?_);obtain rfl:us=[]:=List.eq_nil_of_length_eq_zero hl;obtain rfl:w6=W3.drew:=hW;have e75:=zv (ht 75 (by decide)) (.slice Ad l.length cd) rfl;have e76:=zv (ht 76 (by decide)) (.int .i64 (pos:Int)) rfl;have e78:=(ht 78 (by decide)).trans (show _=(.int .i64 ((pos:Int)+1):Value) from rfl);refine qi rfl 82 #[.tmp 75,.tmp 76,.tmp 78] #[36,3,3] rfl Tryz.func82 (by kernel_rfl) (by kernel_rfl) #[.slice Ad l.length cd,.int .i64 (pos:Int),.int .i64 ((pos:Int)+1)] (by simp[e75,e76,e78];try first|done|rfl|exact⟨rfl,rfl⟩) (HDEL.out) ?_;rintro e w7 ⟨rfl,mt,pO⟩;rw[←m8] at mt⊢;exact⟨_,rfl,hK _ _ ⟨rfl,mt,pO⟩⟩
 ·(refine Br.rd rfl _ rfl (fun ρ us w6 ho ht hc hl hW=>?_);have e67:=zv (ht 67 (by decide)) (.slice (some ⟨b1,o1,none⟩) k c4) rfl;have e69:=zv (ht 69 (by decide)) (.int .i64 (d:Int)) rfl;simp only[execOp,e67,e69];go_simp;try rfl)
 ·refine Br.wr (k:=1) rfl (fun A us w6 ho ht hl hW K hK=>?_)
  match us,hl,hW with
  |[u],_,hW=>
  obtain⟨y1,y2,y3,y4⟩:=CELLS.out [u] w6 (by simp) hW;obtain⟨rfl,ho7,pO⟩:=hW;clear m8;have e80:=zv (ht 80 (by decide)) (.pointer (some ⟨b1,o1+d,none⟩)) rfl;have e79:=zv (ht 79 (by decide)) (.slice Ad (qN pos l).length cd) rfl;rw[if_pos (by simp[Region.wanted])];unfold Oper.wp;generalize A.eval=ρ at *;simp only[execOp,e80,e79];go_simp
  exact hK undef _ ⟨w6,ho7,pO,rfl⟩
 intro us w7 hl hW
 match us,hl,hW with
 |[u,v],_,hW=>
 obtain⟨w6,ho7,pO,rfl⟩:=hW;exact hend _ w6 ho7 pO
theorem EQ {tg tg0 tg1 tg2 tg3:Bool}{S S3:Nat→Prop}{w:World}{A0 A1 A2 A3:Option Addr}{n0 c0 n1 c1 n2 c2 n3 c3 m:Nat}{b:Book}{live:List Bool}
  (h:BG w S tg tg0 tg1 tg2 A0 n0 c0 A1 n1 c1 A2 n2 c2 b) (hl:Sl tg3 4 Bn w S3 A3 n3 c3 live) (hn:n3≤1000) (hm:m≤64):
  Calls Tryz.prog 48 #[.agg #[.slice A0 n0 c0,.slice A1 n1 c1,.slice A2 n2 c2,.int .i64 b.next],.slice A3 n3 c3,.int .i64 (m:Int)] w (Ed (kF true) w ⟨live,qB (List.replicate n3 (za m)) b.Ba⟩):=by
 obtain⟨i0,hi,hz0,hz1,hz2⟩:=info_parts Tryz.CQ;have HL:=zh hl.len;have mH:=zh h.st.len;have HN0:=Nat.le_trans h.st.le h.st.cap;have HST:=zh (fun W (hW:Below w.heap.size w W)=>h.st.Bi.all hW);have hcl:=ZV (hl.all (show Below w.heap.size w ((w.alloc (.cells #[.slice A0 n0 c0,.slice A1 n1 c1,.slice A2 n2 c2,.int .i64 b.next] 28)).alloc (.cells #[.slice none 0 0,.slice none 0 0] 40)) from bz)) (by omega);clear h hl
 go_enter Tryz.func48,Tryz.ntmps48
 go_wp2_with fail
 refine hcl.mono ?_;clear hcl;rintro e w1 ⟨A5,c5,rfl,hown5,gH⟩;have hRB:Hid (w1.heap[w.heap.size]?=some (.cells #[.slice A0 n0 c0,.slice A1 n1 c1,.slice A2 n2 c2,.int .i64 b.next] 28 (0,0))):=zh ((gH.block _ (by simp<;>omega)).trans (jF _ _ _ _));have yV:Hid (w1.heap[w.heap.size+1]?=some (.cells #[.slice none 0 0,.slice none 0 0] 40 (0,0))):=zh ((gH.block _ (by simp<;>omega)).trans (Qa _ _ _ _));have vv:w.heap.size+2≤w1.heap.size:=by have:=gH.size;simpa using this
 have vL:Hid (Below w.heap.size w w1):=zh (via (by exact((Below.refl _ w).alloc (Nat.le_refl _) _).alloc (by simp) _) gH (Nat.le_refl _))
 have HO5:Hid (Sl true 4 Bn w1 (fun q=>w.heap.size+2≤q) A5 live.length c5 live):=zh ((hown5.sl (tg:=true)).mono (fun q hq _=>by
  have h2:((w.alloc (.cells #[.slice A0 n0 c0,.slice A1 n1 c1,.slice A2 n2 c2,.int .i64 b.next] 28)).alloc (.cells #[.slice none 0 0,.slice none 0 0] 40)).heap.size=w.heap.size+2:=by simp
  rcases hq with hq|hq
  ·first|exact hq.elim|(have:_≤q:=hq;omega)
  show w.heap.size+2≤q;omega))
 clear hown5 gH;go_wp2_with fail
 go_loopw [19] (fun i wr=>∃k:Nat,∃A4 c4,∃ys:List (List Int×Nat×Nat),k≤n3∧i=.int .i64 k∧wr.heap[w1.heap.size]?=some (.cells #[.slice A5 live.length c5,.slice A4 k c4] 40 (0,0))∧
   Silo.Be 36 Dp wr (w1.heap.size+1) (fun b=>w1.heap.size+1≤b) A4 k c4 ys∧Cu wr.heap.size ys (List.replicate k (za m))∧Below w1.heap.size w1 wr∧w1.heap.size<wr.heap.size) (fun i _=>n3 - (intOf i).toNat)
 case atStart=>exact⟨0,none,0,[],Nat.zero_le _,rfl,heap_alloc_new _ _,by simpa using Silo.Be.BA,Cu.nil,bz,by simp⟩
 case round=>
  obtain⟨k,A4,c4,ys,hk,rfl,hrow,hown,hrows,hB,hsz⟩:=hrel;have uz:=zh hrows;clear hrows;by_cases hlt:k<n3
  ·have hk1:=zc 1 hrow (.slice A4 k c4) rfl;have hkf:=frozen_of_row wr w1.heap.size 1 _ _ hrow;have gj:=zh hrow;clear hrow;have HB:=zh hB;clear hB;have hab:=(hown.frame (Agree.drew _ _) (Nat.le_refl _)).above (fun b hb=>Nat.le_trans hsz hb);go_wp2_with fail
   go_region_law (first
    |(refine qi rfl 80 #[.tmp 23] #[3] rfl Tryz.func80 (by kernel_rfl) (by kernel_rfl) #[.int .i64 (m:Int)] (by simp[Act.eval,Act.put]) (All_c (n:=m) (by omega)) ?_;rintro e w5 ⟨A7,c7,rfl,mt,gh⟩;refine⟨_,rfl,?_⟩;have k51:=(gh.cell (p:=⟨w1.heap.size,1,none⟩) hsz).trans hk1;have z5:w1.heap.size<w5.heap.size:=(by have:=gh.size;first|omega|(simp at this;omega)))
    |(refine jz rfl (.tmp 22) (.tmp 25) 38 rfl i0 (.slice none 0 0) 24 Tryz.underlying38 hi hz0 hz1 hz2 rfl (by decide) (by simp[Act.eval]) (((hown.frame (Agree.drew _ _) (Nat.le_refl _)).all gh).frame (Agree.alloc _ _ _) (by simp)) _ 36 1 _ (za m,wr.heap.size,w5.heap.size) (by simp[Act.eval]) (heap_alloc_new _ _) (JI mt (by simp) (fun b hb=>hab b hb)) (by omega) (by omega) (by simp;omega) ?_
      intro A6 c6 w6 yX rQ hat6
      have hbl6:w6.heap[w1.heap.size]?=wr.heap[w1.heap.size]?:=by
       rw[rQ.block _ (by simp;omega) (fun e=>by have:=(hown.lt _ e.symm).1;omega),Below.heap_alloc _ _ _ z5];exact gh.block _ hsz
      have k61:=(World.cell?_of_block (a:=⟨w1.heap.size,1,none⟩) hbl6).trans hk1
      have k6f:=(World.frozen?_of_block (a:=⟨w1.heap.size,1,none⟩) hbl6).trans hkf))
   all_goals
    go_wp2
    go_roundw
    case rel=>
     have hB:=HB.out;have hs6:=rQ.size;simp only[World.size_alloc] at hs6;refine⟨k+1,A6,c6,ys++[(za m,wr.heap.size,w5.heap.size)],by omega,by go_num,ZB (hbl6.trans gj.out),?_,?_,?_,?_⟩
     ·exact yX.frame (Agree.setCell (by
       rintro(h|h)
       ·exact absurd h (by simp)
       have:=(yX.lt _ h.symm).1;exact absurd this (by simp)) _) (by simp)
     ·rw[List.replicate_succ',World.size_setCell];exact uz.out.snoc (Nat.le_refl _) (by have:=gh.size;simpa using this) (by omega)
     ·exact Below.setCell (((via hB.drew gh (Nat.le_refl _)).alloc (by omega) _).grown rQ (by simp;omega) (fun r hr=>by have:=(hown.lt r hr).1;omega)) (by simp) _
     rw[World.size_setCell];omega
    case measure=>simp[intOf];omega
  obtain rfl:k=n3:=by omega
  rw[HL.out] at hrow HO5;have gK:Hid (Below w.heap.size w wr):=zh (vL.out.trans (hB.mono (by omega)))
  have pu:Hid (LF (w.heap.size+2) w1.heap.size k A5 c5 A4 c4 live (qB (List.replicate k (za m)) (b.Ba.take 0)) wr):=zh ⟨hrow,HO5.out.all hB,ys,(hown.sl (tg:=true)).mono (fun q hq _=>by
   rcases hq with hq|hq
   ·have:w1.heap.size+1≤q:=hq;show w.heap.size+2≤q;omega
   show w.heap.size+2≤q;omega),uz.out.lists,uz.out.apart⟩
  have HFO:Hid (∀bs,BJ k (qB (List.replicate k (za m)) bs)):=zh (fun bs=>(BJ.new k m hm).of bs);generalize hLS:List.replicate k (za m)=LS at *;have HRB:=zh ((hB.block _ (by omega)).trans hRB.out);have HRR:=zh ((hB.block _ (by omega)).trans yV.out);clear hLS hRB yV hB hown hrow uz vL HO5 HL;generalize w1.heap.size=g at *;have r0:=zc 0 HRB.out (.slice A0 n0 c0) rfl;have zr:w.heap.size+2≤wr.heap.size:=by omega
  go_wp2_with fail
  clear r0
  go_loopw [32] (fun iv wz=>∃j:Nat,j≤n0∧iv=.int .i64 j∧Hid (LF (w.heap.size+2) g k A5 c5 A4 c4 live (qB LS (b.Ba.take j)) wz)∧Hid (Below (w.heap.size+2) wr wz)) (fun iv _=>n0 - (intOf iv).toNat)
  case atStart=>exact⟨0,Nat.zero_le _,rfl,pu,zh (Below.refl _ _)⟩
  case round=>
   rename World=>wo
   clear pu;obtain⟨j,hj,rfl,pu,HB⟩:=hrel;have uQ:Hid (Below w.heap.size w wo):=zh (gK.out.trans (HB.out.mono (by omega)));have zwo:w.heap.size+2≤wo.heap.size:=(by have:=HB.out.size;omega);by_cases gZ:j<n0
   ·obtain⟨bs,os,Ap,np,cp,eA,_,hbs,g1,g2,g3,hp3,u0,u1,u2,u3,_⟩:=(HST.out wo uQ.out).Bq gZ;subst eA;have uo:Hid (qB LS (b.Ba.take (j+1))=(b.Ba.getD j default).place.foldl qk (qB LS (b.Ba.take j))):=zh (ZE (by rw[mH.out];exact gZ));have HF1:=zh (HFO.out (b.Ba.take j));generalize b.Ba.getD j default=x at *;generalize qB LS (b.Ba.take j)=L1 at *;have hnp:np≤9223372036854775807:=Nat.le_trans hp3.le hp3.cap;have uv:=zh hp3.len;have pP:=zh hp3;clear hp3 g1 g2 g3
    go_upto_region 9 with (fail)
    have j6:Below wo.heap.size wo (wo.alloc (.cells #[.int .i64 x.id,.int .i64 x.len,.int .i64 x.gen,.slice Ap np cp] 86)):=(Below.refl _ _).alloc (Nat.le_refl _) _;have hrow:=heap_alloc_new wo (.cells #[.int .i64 x.id,.int .i64 x.len,.int .i64 x.gen,.slice Ap np cp] 86);have mF:wo.heap.size<(wo.alloc (.cells #[.int .i64 x.id,.int .i64 x.len,.int .i64 x.gen,.slice Ap np cp] 86)).heap.size:=(by simp);have HLF1:Hid (LF (w.heap.size+2) g k A5 c5 A4 c4 live ((x.place.take 0).foldl qk L1) _):=zh (pu.out.all j6);have gB:=zh (HB.out.trans (j6.mono (by omega)));have pB:=zh (pP.out.all j6);clear j6 u0 u1 u2 u3 pu HB pP;generalize (wo.alloc (.cells #[.int .i64 x.id,.int .i64 x.len,.int .i64 x.gen,.slice Ap np cp] 86))=w2 at *;generalize wo.heap.size=g9 at *;have y3:=zc 3 hrow (.slice Ap np cp) rfl;clear hrow;have HPW:=zh (fun W (hW:Below (w.heap.size+2) w2 W)=>pB.out.below hW (fun q hq _=>by have:=hq.2;omega));clear pB;have zw2:w.heap.size+2≤w2.heap.size:=(by omega);go_wp2_with fail
    clear y3
    go_loopw [39] (fun iv wz=>∃i:Nat,i≤np∧iv=.int .i64 i∧Hid (LF (w.heap.size+2) g k A5 c5 A4 c4 live ((x.place.take i).foldl qk L1) wz)∧Hid (Below (w.heap.size+2) w2 wz)) (fun iv _=>np - (intOf iv).toNat)
    case atStart=>exact⟨0,Nat.zero_le _,rfl,HLF1,zh (Below.refl _ _)⟩
    case round=>
     rename World=>wq
     clear HLF1;obtain⟨i,hi',rfl,pu,HB⟩:=hrel;have zq:w.heap.size+2≤wq.heap.size:=(by have:=HB.out.size;omega);by_cases vM:i<np
     ·obtain⟨bp,op,eB,_,hbp,gd,ga,v0,v1,_⟩:=(HPW.out wq HB.out).BX vM;subst eB;have yn:Hid ((x.place.take (i+1)).foldl qk L1=qk ((x.place.take i).foldl qk L1) (x.place.getD i default)):=zh (XN (by rw[uv.out];exact vM));have uu:=zh (HF1.out.fold (x.place.take i));generalize x.place.getD i default=p at *;generalize (x.place.take i).foldl qk L1=L2 at *;obtain⟨d,a⟩:=p;simp only at gd ga v0 v1
      go_upto_region 12 with (fail)
      have j6:Below wq.heap.size wq (wq.alloc (.cells #[.int .i64 d,.int .i64 a] 88)):=(Below.refl _ _).alloc (Nat.le_refl _) _;have hrow:=heap_alloc_new wq (.cells #[.int .i64 d,.int .i64 a] 88);have vN:wq.heap.size<(wq.alloc (.cells #[.int .i64 d,.int .i64 a] 88)).heap.size:=(by simp);have uJ:=zh (pu.out.all j6);have gu:=zh (HB.out.trans (j6.mono (by omega)));have zg:w.heap.size+2≤wq.heap.size:=zq;clear j6 v0 v1 pu HB;generalize (wq.alloc (.cells #[.int .i64 d,.int .i64 a] 88))=w3 at *;generalize wq.heap.size=g11 at *;have s0:=zc 0 hrow (.int .i64 d) rfl;have s1:=zc 1 hrow (.int .i64 a) rfl;have gj:=zh hrow;clear hrow;rcases (by omega:d<0∨(0≤d∧(k:Int)≤d)∨(0≤d∧d<k)) with h|⟨h,h'⟩|⟨h,h'⟩
      ·have HE:=zh (yn.out.trans (km (by rintro⟨h1,_⟩;simp only at h1;omega)));go_wp2
       exact⟨⟨i+1,by omega,by go_num,by rw[HE.out];exact uJ,gu⟩,by simp[intOf];omega⟩
      ·have HE:=zh (yn.out.trans (km (by rintro⟨_,h1⟩;rw[uu.out.len] at h1;simp only at h1;omega)));go_wp2
       exact⟨⟨i+1,by omega,by go_num,by rw[HE.out];exact uJ,gu⟩,by simp[intOf];omega⟩
      obtain⟨d,rfl⟩:=Int.eq_ofNat_of_zero_le h;have hd:d<k:=(by omega);obtain⟨b1,o1,Ad,cd,lo',hi'',eA4,hS1,hbl1,c1',f1',uC,vJ,hclose⟩:=uJ.out.get hd;subst eA4;have gY:=uJ.out.box;have zg7:g<w3.heap.size:=(zl gY);have q1:=zc 1 gY (.slice (some ⟨b1,o1,none⟩) k c4) rfl;have m8:d<L2.length:=(by rw[uu.out.len];exact hd);have hpw:=uu.out.rise _ (zR (d:=[]) m8);have hl64:=uu.out.most _ (zR (d:=[]) m8);have vO:=zh (fun hc=>yn.out.trans (QV (a:=a) m8 hc));have HIN:=zh (fun hc=>yn.out.trans (ZD (a:=a) m8 hpw hc))
      have yG:Hid (∀X,Calls Tryz.prog 81 #[.slice Ad (L2.getD d []).length cd,.int .i64 a] (w3.ext X) (Bf (.tuple #[.int .i64 ((L2.getD d []).countP (·<a):Nat),.bool ((L2.getD d []).contains a)]) (w3.ext X))):=zh (fun X=>
       (kZ (((uC.sl (tg:=true)).all (qx w3 X))) (by omega) (hpw.imp (fun h=>by omega))).mono (by
        rintro e w5 ⟨rfl,q,rfl⟩
        exact⟨rfl,below_drewN (Below.refl _ _) _⟩))
      have yi:=zh (fun(hc:(L2.getD d []).contains a=true)=>XL (List.contains_iff_mem.1 hc));clear yn uu m8 hpw;generalize hpos:(L2.getD d []).countP (·<a)=pos at *;generalize hthe:(L2.getD d []).contains a=the at *;generalize hll:L2.getD d []=l at *;clear hpos hthe hll;have HOD:=zh uC;clear uC;have nJ:=zh hclose;clear hclose;have HLOR:=zh vJ;clear vJ;have ut:Hid ((∃q,w3.shape? g11=some (88,q))∧∃q,w3.shape? g=some (40,q)):=zh ⟨⟨_,qf gj.out⟩,⟨_,qf gY⟩⟩;have Q1:=zh q1;have S0:=zh s0;have C1:=zh c1';have F1:=zh f1';clear gY
      go_upto_region 13 with (fail)
      have gI:=qX w3;refine qG (by kernel_rfl) (by kernel_rfl) ?_
      repeat (go_big_quiet_step ((go_at_call 81;exact Bf.ext (yG.out _))))
      refine wpQuiet_nil ?_;rintro _ ⟨X,rfl⟩;have pQ:=qx w3 X;have gG:=zh (gu.out.trans (pQ.mono (by omega)));have s0':=(gI X g11 0 vN).trans s0;have q1':=(gI X g 1 zg7).trans q1;have vP:=(gI X b1 (o1+d) hbl1).trans c1';have vQ:=(pQ.frozen (p:=⟨b1,o1+d,none⟩) hbl1).trans f1';have zx:=pQ.size;clear s0 s1 q1 c1' f1' gI yG gj
      cases the with
      |false=>
       have HE:=zh (vO.out rfl);have HLF3:=zh (uJ.out.all pQ);clear pQ;go_wp2
       exact⟨⟨i+1,by omega,by go_num,by rw[HE.out];exact HLF3,gG⟩,by simp[intOf];omega⟩
      |true=>
       have HE:=zh (HIN.out rfl);have hps:=yi.out rfl;have HDEL:=zh (Xf (i:=pos) ((HOD.out.all pQ).frame (Agree.drew _ _) (Nat.le_refl _)) hps (by omega));have HCL3:=zh (fun w6 (hg:(w3.ext X).drew.grownBy w6 (qa Ad))=>nJ.out (w3.ext X).drew w6 pQ.drew hg);have z11:g11<(w3.ext X).heap.size:=(by omega);have zgg:g<(w3.ext X).heap.size:=(by omega);have zb1:b1<(w3.ext X).heap.size:=(by omega);clear pQ nJ HOD uJ;generalize w3.ext X=W3 at *
       go_upto_region 15 with (fail)
       refine EP (lo':=lo') (hi':=hi'') (pos:=pos) (l:=l) (zh ⟨q1',vP,s0',vQ⟩) (zh (fun w6 hg=>by
        obtain⟨ht,⟨q,hq⟩,_⟩:=HCL3.out w6 hg;obtain⟨⟨q2,hq2⟩,q3,pz⟩:=ut.out;have e1:=ht g _ _ (by decide) pz;have e2:=ht b1 _ _ (by decide) hq;have e3:=ht g11 _ _ (by decide) hq2
        exact⟨(World.cell?_of_block (a:=⟨g,1,none⟩) e1).trans Q1.out,(World.cell?_of_block (a:=⟨b1,o1+d,none⟩) e2).trans C1.out,(World.cell?_of_block (a:=⟨g11,0,none⟩) e3).trans S0.out,(World.frozen?_of_block (a:=⟨b1,o1+d,none⟩) e2).trans F1.out⟩)) HDEL hps hl64 hd rfl rfl rfl rfl ?_
       intro v w6 ho7 pO;obtain⟨_,_,hfin⟩:=HCL3.out w6 pO;obtain⟨vd,hf2⟩:=hfin _ ho7;have HF1':=zh vd;clear vd;have HF2':=zh (gu.out.trans hf2);clear hf2;clear hfin ho7 pO q1' vP s0' vQ;simp only[qc,BR,BS,BU,BV,Act.put,BO,BP,BQ];generalize w6.setCell ⟨b1,o1+d,none⟩ (.slice Ad (qN pos l).length cd)=w8 at *;go_wp2
       exact⟨⟨i+1,by omega,by go_num,by rw[HE.out];exact HF1',HF2'⟩,by simp[intOf];omega⟩
     obtain rfl:i=np:=by omega
     have HE:Hid (qB LS (b.Ba.take (j+1))=(x.place.take i).foldl qk L1):=zh (by rw[uo.out,List.take_of_length_le (by rw[uv.out];exact Nat.le_refl _)]);go_wp2
     exact⟨⟨j+1,by omega,by go_num,by rw[HE.out];exact pu,zh (gB.out.trans HB.out)⟩,by simp[intOf];omega⟩
   obtain rfl:j=n0:=by omega
   have HE:Hid (qB LS (b.Ba.take j)=qB LS b.Ba):=zh (by rw[List.take_of_length_le (by rw[mH.out];exact Nat.le_refl _)]);rw[HE.out] at pu;have hbz:=pu.out.box;have zg:g<wo.heap.size:=(zl hbz);have x0:=zc 0 hbz (.slice A5 k c5) rfl;have x1:=zc 1 hbz (.slice A4 k c4) rfl;have mZ:=(HB.out.block _ (by omega)).trans HRR.out;have t0:=zc 0 mZ (.slice none 0 0) rfl;have t1:=zc 1 mZ (.slice none 0 0) rfl;have t2:=frozen_of_row wo (w.heap.size+1) 0 _ _ mZ;have t3:=frozen_of_row wo (w.heap.size+1) 1 _ _ mZ;clear hbz mZ;go_wp2
   refine bodyPost_ret (v:=.agg #[.slice A5 k c5,.slice A4 k c4]) (by simp[results,Tryz.results48,go_sem, *];done) rfl ?_;obtain⟨_,hlv,ys',hys,rP,_⟩:=pu.out;have hkk:Bj (fun q=>w.heap.size+2≤q) wo ((wo.setCell ⟨w.heap.size+1,0,none⟩ (.slice A5 k c5)).setCell ⟨w.heap.size+1,1,none⟩ (.slice A4 k c4)):=(by repeat' (first|(with_reducible exact Bj.refl _ _)|(with_reducible refine Bj.alloc ?_ _)|(with_reducible refine Bj.drew ?_)|(with_reducible refine Bj.drewN ?_ _)|(with_reducible refine Bj.setCell ?_ ?_ _)|(refine Bj.call ?_ (by with_reducible assumption))|(with_reducible refine Bj.ext ?_ _)|(simp;done)|(simp;omega)|omega))
   have hfr:Sl true 36 (Cg true 3 Bd) wo (fun q=>w.heap.size+2≤q) A4 k c4 (qB LS b.Ba):=by
    rw[←rP];exact JX hys
   exact⟨_,rfl,⟨_,_,_,_,_,_,rfl,trivial,(hlv.keep hkk).mono (fun q hq _=>by have:w.heap.size+2≤q:=hq;show w.heap.size≤q;omega),(hfr.keep hkk).mono (fun q hq _=>by have:w.heap.size+2≤q:=hq;show w.heap.size≤q;omega)⟩,(uQ.out.setCell (by simp) _).setCell (by simp) _⟩
end Go.Proofs.YtipecejghioicaaGreat
