/- Book.Left: what a book leaves free. -/
import Derived.Test.YtipecejghioicaaGreatY12s
import Derived.Test.YtipecejghioicaaGreatT8s
import Derived.Test.YtipecejghioicaaGreatA1s
import Derived.Test.YtipecejghioicaaGreatP0s
import Derived.Test.YtipecejghioicaaGreatQ10s
import Derived.Deep.Cut
set_option maxHeartbeats 4000000
set_option maxRecDepth 100000
namespace Go.Proofs.YtipecejghioicaaGreat
open Go.RowKit Go.Silo
theorem Xf {w:World}{base:Nat}{S:Nat→Prop}{A:Option Addr}{n c i:Nat}{l:List Int}(h:Be 3 Bd w base S A n c l) (hi:i<n) (hn:n≤1000000):
  Calls Tryz.prog 82 #[.slice A n c,.int .i64 (i:Int),.int .i64 ((i:Int)+1)] w (DI 3 Bd w base S A n c l i):=by
 obtain⟨i0,nG,hz0,hz1,hz2⟩:=info_parts Tryz.BZ;have mixed:Tryz.prog.follows .mixedOrders=true:=by kernel_rfl
 obtain⟨g,cur,eA,hgb,hgl,hh,hnc,hcm,hcs,hR,hl⟩:=h.row (.inl (by omega));subst eA;have uI:c≤9223372036854775807:=h.le.2;have hcs:cur.size=c* 1:=hcs;have hR:Reads Bd w (fun b=>S b∧some b≠some g) (cur.toList.take (n* 1)) l:=hR;obtain⟨m,rfl⟩:∃m,n=m+1:=⟨n - 1,by omega⟩;have hN:(m+1)* 1≤c* 1:=Nat.mul_le_mul_right _ hnc;have yh:i* 1+1≤(m+1)* 1:=by have:=Nat.mul_le_mul_right 1 (show i+1≤m+1 by omega);omega
 obtain⟨news,hnw⟩:∃news,news=(cur.toList.take ((m+1)* 1)).drop (i* 1+1):=⟨_,rfl⟩;have hnl:news.length=(m - i)* 1:=by rw[hnw,List.length_drop,List.length_take,Array.length_toList,Nat.min_eq_left (by omega),Nat.sub_mul];omega
 obtain⟨e1,e2,e3⟩:=jh (L:=cur.toList) (Z:=[.int .i64 0]) (a:=i* 1) (z:=1) (N:=(m+1)* 1) rfl yh (by rw[Array.length_toList];omega);rw[←hnw] at e1 e2 e3;rw[show(m+1)* 1 - 1=m* 1 by omega] at e1 e3;obtain⟨c1,hc1⟩:∃c1,c1=cur.toList.take (i* 1)++news++cur.toList.drop (i* 1+news.length):=⟨_,rfl⟩;rw[←hc1] at e1 e2 e3;obtain⟨c2,hc2⟩:∃c2,c2=c1.take (m* 1)++[.int .i64 0]++c1.drop (m* 1+([.int .i64 0]:List Value).length):=⟨_,rfl⟩;rw[←hc2] at e1 e3
 obtain⟨A',hA',hsrc⟩:∃A':Addr,(if c=i+1 then some (⟨g,0,none⟩:Addr) else some ⟨g,(i+1)* 1,none⟩)=some A'∧Hid (∀t u,news[t]?=some u→w.drew.cell? (A'.add t)=some u):=by
  by_cases hce:c=i+1
  ·refine⟨⟨g,0,none⟩,by simp[hce],zh (fun t u hu=>?_)⟩;have h0:news.length=0:=(by rw[hnl,show m - i=0 by omega,Nat.zero_mul]);rw[List.length_eq_zero_iff.1 h0] at hu;simp at hu
  refine⟨⟨g,(i+1)* 1,none⟩,by simp[hce],zh (fun t u hu=>?_)⟩;rw[Addr.add_lit,show(i+1)* 1=i* 1+1 by omega];have ht:t<(m - i)* 1:=by have:=(List.getElem?_eq_some_iff.1 hu).1;omega
  rw[hnw,List.getElem?_drop,List.getElem?_take_of_lt (by rw[Nat.sub_mul] at ht;omega)] at hu;exact(cell_of_row w.drew g _ _ _ _ hh).trans (by simpa using hu)
 have uU:Hid (news.length=(m - i)* 1):=zh hnl;have yj:Hid (∀u∈news,u.oneCell'=true):=zh (fun u hu=>hR.cells u (List.mem_of_mem_drop (by rw[←hnw];exact hu)))
 have uV:Hid (∀t,t<news.length→(w.drew.cell? ⟨g,0+i* 1+t,none⟩).isSome=true∧w.drew.frozen? ⟨g,0+i* 1+t,none⟩=false):=zh (fun t ht=>by
  have h1:t<(m - i)* 1:=by omega
  refine⟨?_,frozen_of_row w.drew g _ _ _ hh⟩
  rw[cell_of_row w.drew g _ _ _ _ hh,Array.getElem?_eq_getElem (by rw[Nat.sub_mul] at h1;omega)];rfl)
 obtain⟨W1,hW1⟩:∃W1,W1=w.drew.setCells g (0+i* 1) news:=⟨_,rfl⟩
 have m7:W1.heap[g]?=some (.cells c1.toArray 3 (0,0)):=by
  rw[hW1,hc1,Nat.zero_add];exact zJ news (i* 1) cur w.drew hh (by rw[hnl,Nat.sub_mul];omega)
 have hcl:∀ty cc,(Builtin.clear_ #[36] ty #[.slice (some ⟨g,m* 1,none⟩) 1 cc]).run Tryz.prog W1=.ok (.tuple #[]) (W1.setRow g c2.toArray):=fun ty cc=>by
  have:=zX (P:=Tryz.prog) W1 36 3 ty (.int .i64 0) [.int .i64 0] Tryz.underlying36 Tryz.zeroValue3 (by first|rfl|decide|(simp[Builtin.zeroCells,Value.cells];done)|(simp[Builtin.zeroCells,Value.cells];rfl)|kernel_rfl) (by simp[Value.oneCell']) g (m* 1) cc c1.toArray 3 m7 (by rw[List.size_toArray,e2,Array.length_toList];show m* 1+1≤cur.size;omega);rw[hc2];exact this
 obtain⟨W2,hW2⟩:∃W2,W2=W1.setRow g c2.toArray:=⟨_,rfl⟩;rw[←hW2] at hcl;have pA:W2.heap[g]?=some (.cells c2.toArray 3 (0,0)):=by rw[hW2];exact setRow_heap _ g _ _ 3 (0,0) m7
 have hg1:w.grownBy W1 (some g):=by
  rw[hW1];obtain⟨a,b,c,d,e⟩:=zD (g:=g) news (0+i* 1) w.drew;exact⟨a,b,c,d,e⟩
 have hgr:w.grownBy W2 (some g):=⟨by rw[hW2];exact hg1.os,by rw[hW2];exact hg1.tape,by rw[hW2];exact hg1.output,by rw[hW2,setRow_size];exact hg1.size,fun k hk hne=>by
  rw[hW2];refine(setRow_other _ g k _ (fun e=>hne (by rw[e]))).trans ?_
  rw[hW1];exact qV (fun e=>hne (by rw[e])) _ _ _⟩
 have HOWN:Hid (Be 3 Bd W2 base S (some ⟨g,0,none⟩) m c (qN i l)):=zh (by
  refine Be.Cc hgb pA (by omega) hcm (by rw[List.size_toArray];exact e3.trans (by rw[Array.length_toList];exact hcs)) ?_ (by rw[xI (by omega)];omega);have h1:=(hR.take (i:=i) (by omega)).append (hR.drop (i:=i+1))
  have e4:c2.toArray.toList.take (m* Bd.sz)=(cur.toList.take ((m+1)* 1)).take (i* 1)++(cur.toList.take ((m+1)* 1)).drop ((i+1)* 1):=by
   rw[show(i+1)* 1=i* 1+1 by omega,←hnw];exact e1
  rw[e4]
  exact h1.frame (Agree.grown hgr (fun b hb=>hb.2)) hgr.size)
 have pN:=zh hgr;have HW:=zh hW1;have hic:i≤c:=by omega
 have hjc:i+1≤c:=by omega
 have hmc:m≤c:=by omega
 have hw1:IntKind.i64.wrap ((i:Int)+1)=(i:Int)+1:=by rw[IntKind.wrap_i64];omega
 have hb1:(0:Int)≤(i:Int)+1:=by omega
 have htn:((i:Int)+1).toNat=i+1:=by omega
 have hne:¬((i:Int)=(i:Int)+1):=by omega
 have him:i+(m - i)=m:=by omega
 have hmm:m+1 - (i+1)=m - i:=by omega
 have hsub:m+1 - m=1:=by omega
 have him2:(i:Int)≤(m:Int):=by omega
 simp only[Nat.mul_one] at hA' hcl;clear hW1 hW2 hgr hg1 m7 pA e1 e2 e3 hc1 hc2 hnw hnl hR hcs hh hcm h hl
 go_enter Tryz.func82,Tryz.ntmps82
 go_wp2_with fail
 go_region_law_o (refine step_append_room rfl (.tmp 22) (.tmp 25) 36 rfl 3 i0 1 Tryz.underlying36 nG hz1 g 0 i c (by simp[Act.eval,Act.put]) A' (m - i) (c - (i+1)) news (by simp[Act.eval,Act.put]) uU.out hsrc.out yj.out (by omega) uV.out ?_;rw[←HW.out])
 go_wp2
 go_ret
 exact⟨rfl,HOWN.out,pN.out⟩
theorem ZC {l:List Int}{a:Int}(h:l.Pairwise (·<·)) (ha:a∈l):qN (l.countP (·<a)) l=l.erase a:=by
 induction l with
 |nil=>cases ha
 |cons x r ih=>
  rw[List.pairwise_cons] at h;by_cases hx:x=a
  ·subst hx;have h0:r.countP (·<x)=0:=List.countP_eq_zero.2 (fun y hy=>by have:=h.1 y hy;simp;omega);rw[List.countP_cons,h0,List.erase_cons_head];simp[qN]
  have hr:a∈r:=by rcases List.mem_cons.1 ha with e|e;exact absurd e.symm hx;exact e
  have hlt:=h.1 a hr;rw[List.countP_cons,if_pos (by simpa using hlt),List.erase_cons_tail (by simpa using hx),←ih h.2 hr];simp[qN]
theorem XL {l:List Int}{a:Int}(ha:a∈l):l.countP (·<a)<l.length:=by
 induction l with
 |nil=>cases ha
 |cons x r ih=>
  rw[List.countP_cons,List.length_cons];rcases List.mem_cons.1 ha with e|e
  ·subst e;have:=List.countP_le_length (p:=(·<a)) (l:=r);simp;omega
  have:=ih e
  split<;>omega
def qk (ls:List (List Int)) (p:Slot):List (List Int):=if 0≤p.disk∧p.disk<ls.length then ls.set p.disk.toNat ((ls.getD p.disk.toNat []).erase p.pos) else ls
def qB (ls:List (List Int)) (b:List Bb):List (List Int):=b.foldl (fun ls y=>y.place.foldl qk ls) ls
theorem QU (ls p):(qk ls p).length=ls.length:=by unfold qk;split<;>simp
structure BJ (n:Nat) (ls:List (List Int)):Prop where
 len:ls.length=n
 rise:∀l∈ls,l.Pairwise (·<·)
 most:∀l∈ls,l.length≤64
theorem BJ.step {n:Nat}{ls:List (List Int)}(h:BJ n ls) (p:Slot):BJ n (qk ls p):=by
 refine⟨by rw[QU];exact h.len,?_,?_⟩<;>
 ·intro l hl;unfold qk at hl
  split at hl
  ·rename_i hd
   rcases List.mem_or_eq_of_mem_set hl with hl|rfl
   ·first|exact h.rise l hl|exact h.most l hl
   have hm:ls.getD p.disk.toNat []∈ls:=by rw[List.getD_eq_getElem?_getD,List.getElem?_eq_getElem (by omega)];exact List.getElem_mem _
   first|exact(h.rise _ hm).sublist List.erase_sublist|exact Nat.le_trans (List.erase_sublist.length_le) (h.most _ hm)
  first|exact h.rise l hl|exact h.most l hl
theorem XM (n:Nat):(za n).Pairwise (·<·):=by
 unfold za
 first|exact List.pairwise_map.2 (List.pairwise_lt_range.imp (fun h=>by omega))|skip
theorem BJ.new (d n:Nat) (hn:n≤64):BJ d (List.replicate d (za n)):=
 ⟨by simp,fun l hl=>by rw[List.eq_of_mem_replicate hl];exact XM n,fun l hl=>by rw[List.eq_of_mem_replicate hl,xH];exact hn⟩
end Go.Proofs.YtipecejghioicaaGreat
set_option maxHeartbeats 1000000
namespace Go.Proofs.YtipecejghioicaaGreat
open Go.RowKit Go.Silo
theorem BJ.fold {n:Nat}{ls:List (List Int)}(h:BJ n ls) (ps:List Slot):BJ n (ps.foldl qk ls):=by
 induction ps generalizing ls with
 |nil=>exact h
 |cons p r ih=>exact ih (h.step p)
theorem BJ.of {n:Nat}{ls:List (List Int)}(h:BJ n ls) (b:List Bb):BJ n (qB ls b):=by
 unfold qB
 induction b generalizing ls with
 |nil=>exact h
 |cons p r ih=>exact ih (h.fold p.place)
structure LF (lo g n:Nat) (A5:Option Addr) (c5:Nat) (A4:Option Addr) (c4:Nat) (live:List Bool) (ls:List (List Int)) (V:World):Prop where
 box:V.heap[g]?=some (.cells #[.slice A5 n c5,.slice A4 n c4] 40 (0,0))
 lv:Sl true 4 Bn V (fun b=>lo≤b) A5 n c5 live
 ys:∃ys:List (List Int×Nat×Nat),Sl true 36 Dp V (fun b=>lo≤b) A4 n c4 ys∧ys.map (·.1)=ls∧ys.Pairwise (fun a b=>a.2.2≤b.2.1)
theorem LF.all {lo g n:Nat}{A5:Option Addr}{c5:Nat}{A4:Option Addr}{c4:Nat}{live:List Bool}{ls:List (List Int)}{V V':World}(h:LF lo g n A5 c5 A4 c4 live ls V) (hb:Below V.heap.size V V'):LF lo g n A5 c5 A4 c4 live ls V':=by
 obtain⟨ys,h1,h2,h3⟩:=h.ys;exact⟨zb hb h.box,h.lv.all hb,ys,h1.all hb,h2,h3⟩
theorem LF.get {lo g n:Nat}{A5:Option Addr}{c5:Nat}{A4:Option Addr}{c4:Nat}{live:List Bool}{ls:List (List Int)}{V:World}(h:LF lo g n A5 c5 A4 c4 live ls V) {d:Nat}(hd:d<n):
  ∃b1 o1 Ad cd lo' hi',A4=some ⟨b1,o1,none⟩∧lo≤b1∧b1<V.heap.size∧V.cell? ⟨b1,o1+d,none⟩=some (.slice Ad (ls.getD d []).length cd)∧V.frozen? ⟨b1,o1+d,none⟩=false∧
   Silo.Be 3 Bd V lo' (fun b=>lo'≤b∧b<hi') Ad (ls.getD d []).length cd (ls.getD d [])∧(∀r,qa Ad=some r→lo≤r)∧
   (∀W w6,Below V.heap.size V W→W.grownBy w6 (qa Ad)→(∀b T q,T≠3→V.shape? b=some (T,q)→w6.heap[b]?=V.heap[b]?)∧(∃q,V.shape? b1=some (36,q))∧
    ∀l',Silo.Be 3 Bd w6 lo' (fun b=>lo'≤b∧b<hi') Ad l'.length cd l'→LF lo g n A5 c5 A4 c4 live (ls.set d l') (w6.setCell ⟨b1,o1+d,none⟩ (.slice Ad l'.length cd))∧Below lo V (w6.setCell ⟨b1,o1+d,none⟩ (.slice Ad l'.length cd))):=by
 obtain⟨mF,hlv,ys,h1,h2,h3⟩:=h;subst h2;have rP:=h1.len;obtain⟨yd,hyd⟩:∃yd,ys[d]?=some yd:=⟨_,List.getElem?_eq_getElem (by omega)⟩;obtain⟨b1,o1,v1,rfl,hS1,hbl1,⟨Ad,cd,hv1,uC,hrd,hhi,hSd⟩,hc1,vd⟩:=h1.at1 QT hd hyd;injection hv1 with hv1;subst hv1
 obtain⟨l,lo',hi'⟩:=yd;simp only at uC hrd hhi hSd hc1;have hget:(ys.map (·.1)).getD d []=l:=by rw[List.getD_eq_getElem?_getD,List.getElem?_map,hyd];rfl
 rw[hget];have vJ:∀r,qa Ad=some r→lo≤r:=fun r hr=>hSd r (hrd r hr).1 (hrd r hr).2;refine⟨b1,o1,Ad,cd,lo',hi',rfl,hS1,hbl1,hc1,vd,uC,vJ,fun W w6 hW hg=>?_⟩;have hs6:V.heap.size≤w6.heap.size:=Nat.le_trans hW.size hg.size
 have hblk:∀p,qa Ad=some p→∃cur,V.heap[p]?=some (.cells cur 3 (0,0)):=fun p hp=>by
  cases Ad with
  |none=>cases hp
  |some q=>injection hp with hp;subst hp;exact uC.CG rfl
 have hsame:∀b,b<V.heap.size→some b≠qa Ad→w6.heap[b]?=V.heap[b]?:=fun b hb hne=>(hg.block b (Nat.lt_of_lt_of_le hb hW.size) hne).trans (hW.block b hb)
 have hty:∀b T q,T≠3→V.shape? b=some (T,q)→w6.heap[b]?=V.heap[b]?:=fun b T q hT hq=>by
  have hb:b<V.heap.size:=by
   rcases Nat.lt_or_ge b V.heap.size with h|h
   ·exact h
   unfold World.shape? at hq;rw[Array.getElem?_eq_none h] at hq
   cases hq
  refine hsame b hb (fun e=>?_);obtain⟨cur,hc⟩:=hblk b e.symm;rw[qf hc] at hq;injection hq with hq;injection hq with hq _
  exact hT hq.symm
 obtain⟨q,hq⟩:=Sl.Bv h1 (by omega);have gQ:=hty b1 _ q (by decide) hq;refine⟨hty,⟨q,hq⟩,fun l' ho'=>?_⟩
 have vK:∀p,qa Ad=some p→p≠b1:=fun p hp e=>by
  subst e;obtain⟨cur,hc⟩:=hblk p hp;rw[qf hc] at hq;injection hq with hq;injection hq with hq _
  exact absurd hq (by decide)
 have ym:=qf mF
 have hgb:g≠b1:=fun e=>by
  subst e;rw[ym] at hq;injection hq with hq;injection hq with hq _
  exact absurd hq (by decide)
 have hodl:ys.length=n:=rP;refine⟨⟨(Below.heap_setCell w6 _ _ _ hgb).trans ((hty g _ _ (by decide) ym).trans mF),?_,ys.set d (l',lo',hi'),?_,?_,?_⟩,?_⟩
 ·have hlive:=(hlv.Ch (T:=3) (zH _) (by decide) (w':=w6) (fun b hb hlt hnt=>hsame b hlt (fun e=>by
   obtain⟨cur,hc⟩:=hblk b e.symm
   exact hnt _ (qf hc))) hs6)
  exact((Bw.refl (fun b=>lo≤b) _ w6).setCell (p:=⟨b1,o1+d,none⟩) hS1 (by rw[qU gQ];exact hq) (.slice Ad l'.length cd)).sl (zH _) (by decide) hlive
 ·refine h1.redo (F:=Dp) (S':=fun b=>lo≤b) (zs:=ys.set d (l',lo',hi')) (nv:=.slice Ad l'.length cd) QT QT hd gQ hs6 hS1 (by rw[List.length_set];exact rP) (z:=(l',lo',hi')) (by rw[List.getElem?_set_self (by omega)]) ⟨Ad,cd,rfl,?_,hrd,by rw[World.size_setCell];show hi'≤_;omega,hSd⟩ ?_
  ·refine((ho'.CE (S':=fun _=>False)).frame (fun b hb _=>?_) (by simp)).CE;have hb:=hb.elim (fun h=>h.elim) id;exact Below.heap_setCell w6 _ _ _ (vK b hb.symm)
  intro k y z v hkd hy hz hR;rw[List.getElem?_set_ne (Ne.symm hkd),hy] at hz;injection hz with hz;subst hz
  obtain⟨A',c',hv',hoy,hr',hs',hb'⟩:=hR;injection hv' with hv';subst hv'
  refine⟨A',c',rfl,?_,hr',by rw[World.size_setCell];omega,hb'⟩;refine((hoy.CE (S':=fun _=>False)).frame (fun b hb hlt=>?_) (by simp;omega)).CE;have hb:=hb.elim (fun h=>h.elim) id;have hrg:=hr' b hb.symm
  have hgb2:b≠b1:=by
   intro e;subst e
   cases A' with
   |none=>cases hb
   |some p=>
    have hp:b=p.block:=(by injection hb);subst hp;obtain⟨cur,hgc⟩:=hoy.CG rfl;rw[qf hgc] at hq;injection hq with hq;injection hq with hq _
    exact absurd hq (by decide)
  refine(Below.heap_setCell w6 _ _ _ hgb2).trans (hsame b hlt (fun e=>?_));have h1:=hrd b e.symm;obtain⟨hk1,ek⟩:=List.getElem?_eq_some_iff.1 hy;obtain⟨hd1,ed⟩:=List.getElem?_eq_some_iff.1 hyd;have hp:=List.pairwise_iff_getElem.1 h3;rcases Nat.lt_or_gt_of_ne hkd with h|h
  ·have:=hp k d hk1 hd1 h;rw[ek,ed] at this;simp only at this h1;omega
  have:=hp d k hd1 hk1 h;rw[ek,ed] at this;simp only at this h1;omega
 ·rw[List.map_set]
 ·have hp:=List.pairwise_iff_getElem.1 h3;rw[List.pairwise_iff_getElem];intro i j hi hj hij;simp only[List.length_set] at hi hj;have hh:=hp i j hi hj hij;obtain⟨hd1,ed⟩:=List.getElem?_eq_some_iff.1 hyd;simp only[List.getElem_set];by_cases e1:d=i
  ·subst e1;rw[if_pos rfl,if_neg (by omega)];rw[ed] at hh;exact hh
  rw[if_neg e1];by_cases e2:d=j
  ·subst e2;rw[if_pos rfl];rw[ed] at hh;exact hh
  rw[if_neg e2];exact hh
 exact(((hW.mono (by omega)).grown hg (by have:=hW.size;omega) vJ).setCell (show lo≤(⟨b1,o1+d,none⟩:Addr).block from hS1) _)
end Go.Proofs.YtipecejghioicaaGreat
