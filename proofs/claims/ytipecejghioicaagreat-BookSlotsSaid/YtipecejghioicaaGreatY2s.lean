/- Slices.Insert at rows of structures of one's own. -/
import Derived.Test.YtipecejghioicaaGreatY1s
import Derived.Test.YtipecejghioicaaGreatS1s
import Derived.Shelf.Spec.SlicesInsert
import Derived.Lib.AppendZerosOnto
import Derived.Test.YtipecejghioicaaGreatP0s
set_option maxHeartbeats 4000000
set_option maxRecDepth 100000
namespace Go.Silo
open Go Go.RowKit
def xj {α:Type}(i:Nat) (x:α) (l:List α):List α:=l.take i++([x]++l.drop i)
theorem xk {α:Type}{i:Nat}{x:α}{l:List α}(h:i≤l.length):(xj i x l).length=l.length+1:=by simp[xj];omega
theorem zT {α:Type}{x:α}{l:List α}:xj l.length x l=l++[x]:=by simp[xj]
def EM {α:Type}(T:TypeId) (E:Enc α) (w:World) (base:Nat) (S:Nat→Prop) (A:Option Addr) (l:List α) (i:Nat) (x:α) (e:Ending) (w':World):Prop:=
 ∃A' c',e=.returned (.slice A' (l.length+1) c')∧Be T E w' base S A' (l.length+1) c' (xj i x l)∧w.grownBy w' (qa A)∧(qa A'=qa A∨qa A'=some w.heap.size)
theorem jU {L vs:List Value}{a z N:Nat}(hv:vs.length=z) (ha:a≤N) (hN:N+z≤L.length):
  ((((L.take (a+z)++(L.take N).drop a++L.drop (a+z+((L.take N).drop a).length)).take a++vs++(L.take (a+z)++(L.take N).drop a++L.drop (a+z+((L.take N).drop a).length)).drop (a+vs.length))).take (N+z))=(L.take N).take a++(vs++(L.take N).drop a)∧
  ((L.take (a+z)++(L.take N).drop a++L.drop (a+z+((L.take N).drop a).length)).take a++vs++(L.take (a+z)++(L.take N).drop a++L.drop (a+z+((L.take N).drop a).length)).drop (a+vs.length)).length=L.length∧
  (L.take (a+z)++(L.take N).drop a++L.drop (a+z+((L.take N).drop a).length)).length=L.length:=by
 have h1:((L.take N).drop a).length=N - a:=by rw[List.length_drop,List.length_take,Nat.min_eq_left (by omega)]
 have h2:(L.take (a+z)).length=a+z:=by rw[List.length_take,Nat.min_eq_left (by omega)]
 have e1:(L.take (a+z)++(L.take N).drop a++L.drop (a+z+((L.take N).drop a).length)).take a=(L.take N).take a:=by
  rw[List.append_assoc,List.take_append_of_le_length (by omega),List.take_take,List.take_take,Nat.min_eq_left (by omega),Nat.min_eq_left (by omega)]
 have e2:(L.take (a+z)++(L.take N).drop a++L.drop (a+z+((L.take N).drop a).length)).drop (a+vs.length)=(L.take N).drop a++L.drop (a+z+((L.take N).drop a).length):=by
  rw[hv,List.append_assoc];exact List.drop_left' h2
 rw[e1,e2];have h3:((L.take N).take a).length=a:=by rw[List.length_take,List.length_take];omega
 refine⟨?_,?_,?_⟩
 ·rw[←List.append_assoc,List.take_append_of_le_length (by simp only[List.length_append,h3,h1,hv];omega),List.take_of_length_le (by simp only[List.length_append,h3,h1,hv];omega),List.append_assoc]
 ·simp only[List.length_append,h3,h1,hv,List.length_drop];omega
 simp only[List.length_append,h2,h1,List.length_drop];omega
theorem xD {L Z vs:List Value}{a z N G:Nat}(hv:vs.length=z) (ha:a≤N) (hN:L.length=N) (hZ:Z.length=G - a) (hG:N+z≤G):
  (((L.take a++Z).take a++vs++(L.take a++Z).drop (a+vs.length)).take (a+z)++L.drop a++((L.take a++Z).take a++vs++(L.take a++Z).drop (a+vs.length)).drop (a+z+(L.drop a).length)).take (N+z)=L.take a++(vs++L.drop a)∧
  ((L.take a++Z).take a++vs++(L.take a++Z).drop (a+vs.length)).length=G∧
  (((L.take a++Z).take a++vs++(L.take a++Z).drop (a+vs.length)).take (a+z)++L.drop a++((L.take a++Z).take a++vs++(L.take a++Z).drop (a+vs.length)).drop (a+z+(L.drop a).length)).length=G:=by
 have h0:(L.take a).length=a:=by rw[List.length_take];omega
 have e0:(L.take a++Z).take a=L.take a:=by rw[List.take_append_of_le_length (by omega),List.take_take,Nat.min_self]
 rw[e0];have h1:(L.take a++vs).length=a+z:=by rw[List.length_append,h0,hv]
 have e1:(L.take a++vs++(L.take a++Z).drop (a+vs.length)).take (a+z)=L.take a++vs:=List.take_left' h1;rw[e1];have h2:(L.drop a).length=N - a:=by rw[List.length_drop,hN]
 have h3:((L.take a++Z).drop (a+vs.length)).length=G - (a+z):=by rw[List.length_drop,List.length_append,h0,hZ,hv];omega
 refine⟨?_,?_,?_⟩
 ·rw[List.take_append_of_le_length (by simp only[List.length_append,h0,h2,hv];omega),List.take_of_length_le (by simp only[List.length_append,h0,h2,hv];omega),List.append_assoc]
 ·rw[List.length_append,h1,h3];omega
 rw[List.length_append,List.length_append,h1,h2,List.length_drop,List.length_append,h1,h3];omega
end Go.Silo
namespace Go.Proofs.YtipecejghioicaaGreat
open Go.RowKit Go.Silo
theorem Qq {tg:Bool}{w:World}{base:Nat}{S:Nat→Prop}{A:Option Addr}{n c i vb:Nat}{l:List Bb}{x:Bb}{vs:List Value}(h:Be 86 (qe tg) w base S A n c l) (hi:i≤n) (hn:n≤1000000) (hbase:base≤w.heap.size)
  (hv:w.heap[vb]?=some (.cells vs.toArray 86 (0,0))) (hx:(qe tg).R w (fun b=>S b∧some b≠qa A) vs x) (hvA:some vb≠qa A):
  Calls Tryz.prog 122 #[.slice A n c,.int .i64 (i:Int),.slice (some ⟨vb,0,none⟩) 1 1] w (EM 86 (qe tg) w base S A l i x):=by
 have hl:=h.len;have hle:=h.le;obtain⟨i0,nG,hz0,hz1,hz2⟩:=info_parts Tryz.Cj;have hvl:vs.length=4:=(qe tg).len hx;have uy:=(qe tg).one hx;by_cases hend:i=n
 ·subst hend;have hNC:=zh hle;have HH:=zh h;clear h hl;rcases Nat.eq_zero_or_pos i with e|e
  ·subst e
   cases A with
   |none=>
    go_enter Tryz.func122,Tryz.ntmps122
    go_wp2_with (at_builtin;refine qq rfl _ _ 24 rfl i0 (.agg #[.int .i64 0,.int .i64 0,.int .i64 0,.slice none 0 0]) 48 Tryz.underlying24 nG hz0 hz1 hz2 rfl (show 0<4 by decide) rfl HH.out vb 86 1 vs x rfl hv hx (by omega) (by omega) hbase ?_)
    all_goals
     intro A9 c9 w9 hown hg hat;go_wp2
     go_ret
     exact⟨A9,c9,by rw[HH.out.len];rfl,by rw[show xj 0 x l=l++[x] by have:=zT (x:=x) (l:=l);rwa [HH.out.len] at this,HH.out.len];exact hown,hg,hat⟩
   |some ad=>
    go_enter Tryz.func122,Tryz.ntmps122
    go_wp2_with (at_builtin;refine qq rfl _ _ 24 rfl i0 (.agg #[.int .i64 0,.int .i64 0,.int .i64 0,.slice none 0 0]) 48 Tryz.underlying24 nG hz0 hz1 hz2 rfl (show 0<4 by decide) rfl HH.out vb 86 1 vs x rfl hv hx (by omega) (by omega) hbase ?_)
    all_goals
     intro A9 c9 w9 hown hg hat;go_wp2
     go_ret
     exact⟨A9,c9,by rw[HH.out.len];rfl,by rw[show xj 0 x l=l++[x] by have:=zT (x:=x) (l:=l);rwa [HH.out.len] at this,HH.out.len];exact hown,hg,hat⟩
  obtain⟨g,eA,_,_⟩:=HH.out.form e;subst eA
  go_enter Tryz.func122,Tryz.ntmps122
  go_wp2_with (at_builtin;refine qq rfl _ _ 24 rfl i0 (.agg #[.int .i64 0,.int .i64 0,.int .i64 0,.slice none 0 0]) 48 Tryz.underlying24 nG hz0 hz1 hz2 rfl (show 0<4 by decide) rfl HH.out vb 86 1 vs x rfl hv hx (by omega) (by omega) hbase ?_)
  all_goals
   intro A9 c9 w9 hown hg hat;go_wp2
   go_ret
   exact⟨A9,c9,by rw[HH.out.len];rfl,by rw[show xj i x l=l++[x] by have:=zT (x:=x) (l:=l);rwa [HH.out.len] at this,HH.out.len];exact hown,hg,hat⟩
 obtain⟨g,cur,eA,hgb,hgl,hh,hnc,hcm,hcs,hR,_⟩:=h.row (.inl (by omega));subst eA;have hcs:cur.size=c* 4:=hcs;have hR:Reads (qe tg) w (fun b=>S b∧some b≠some g) (cur.toList.take (n* 4)) l:=hR;have yU:vb≠g:=fun e=>hvA (by rw[e];rfl);have uI:c≤9223372036854775807:=hle.2;have hN:n* 4≤c* 4:=Nat.mul_le_mul_right _ hnc;have hsz:(Tryz.prog.info? 86).map (·.size)=some 4:=by rw[nG];simp[hz1]
 have vv:¬((1:Int)=0):=by decide
 have mixed:Tryz.prog.follows .mixedOrders=true:=by kernel_rfl
 have hw1:IntKind.i64.wrap ((i:Int)+1)=(i:Int)+1:=by rw[IntKind.wrap_i64];omega
 have hb1:(0:Int)≤(i:Int)+1:=by omega
 have htn:((i:Int)+1).toNat=i+1:=by omega
 have hb3:(i:Int)≤(n:Int)+1:=by omega
 have hb3':(i:Int)≤(n:Int):=by omega
 have hine:¬((i:Int)=(n:Int)):=by omega
 have hin:i<n:=by omega
 have gM:∀(W:World),W.heap[vb]?=w.heap[vb]?→∀j v,vs[j]?=some v→W.cell? ((⟨vb,0,none⟩:Addr).add j)=some v:=fun W hW j v hj=>by
  rw[Addr.add_lit];exact(cell_of_row W vb _ _ _ _ (hW.trans hv)).trans (by simpa using hj)
 have hcells:=hR.cells;have hcl:(cur.toList.take (n* 4)).length=n* 4:=by rw[List.length_take,Array.length_toList];omega
 have m8:((cur.toList.take (n* 4)).drop (i* 4)).length=(n - i)* 4:=by rw[List.length_drop,hcl,Nat.sub_mul]
 have gq:∀(W:World),W.heap[g]?=w.heap[g]?→∀j v,((cur.toList.take (n* 4)).drop (i* 4))[j]?=some v→W.cell? ((⟨g,i* 4,none⟩:Addr).add j)=some v:=fun W hW j v hj=>by
  rw[Addr.add_lit];have uR:j<(n - i)* 4:=by have:=(List.getElem?_eq_some_iff.1 hj).1;omega
  rw[List.getElem?_drop,List.getElem?_take_of_lt (by omega)] at hj;exact(cell_of_row W g _ _ _ _ (hW.trans hh)).trans (by simpa using hj)
 by_cases hroom:n+1≤c
 ·have hov:∀lb cb o,(callFunc 139 #[.slice (some ⟨vb,0,none⟩) 1 1,.slice (some ⟨g,o,none⟩) lb cb]).run Tryz.prog w=.ok (.value (.bool false)) w:=fun lb cb o=>by
   rw[run_callFunc_extern Tryz.func139 (by kernel_rfl) (by kernel_rfl) (by kernel_rfl) (e:=Extern.SlicesOverlaps.overlaps #[24,24] #[4]) (by kernel_rfl),
    Lib.run_overlaps_apart w 24 4 86 Tryz.underlying24 4 Tryz.sizeOf86 ⟨vb,0,none⟩ ⟨g,o,none⟩ 1 1 lb cb yU 86 86 4 (c* 4) (by rw[qf hv];simp[hvl]) (by rw[qf hh,hcs]) (by omega) (frozen_of_row w vb _ _ _ hv) (frozen_of_row w vb _ _ _ hv)]
   rfl
  obtain⟨cells,hcd⟩:∃cells,cells=(cur.toList.take (n* 4)).drop (i* 4):=⟨_,rfl⟩;rw[←hcd] at m8 gq;obtain⟨e1,e2,e3⟩:=jU (L:=cur.toList) (vs:=vs) (a:=i* 4) (z:=4) (N:=n* 4) hvl (Nat.mul_le_mul_right _ hi) (by rw[Array.length_toList];have:=Nat.mul_le_mul_right 4 hroom;omega);rw[←hcd] at e1 e2 e3;obtain⟨c1,hc1⟩:∃c1,c1=(cur.toList.take (i* 4+4)++cells++cur.toList.drop (i* 4+4+cells.length)):=⟨_,rfl⟩;rw[←hc1] at e1 e2 e3;have hfit:n* 4+4≤c* 4:=by have:=Nat.mul_le_mul_right 4 hroom;omega
  have yh:i* 4+(n - i)* 4=n* 4:=by rw[←Nat.add_mul];congr 1;omega
  have ru:∀ty dc sc,(Builtin.copy_ #[24,24] ty #[.slice (some ⟨g,(i+1)* 4,none⟩) (n - i) dc,.slice (some ⟨g,i* 4,none⟩) (n+1 - i) sc]).run Tryz.prog w.drew=.ok (goInt (Nat.min (n+1 - i) (n - i):Nat)) (w.drew.setRow g c1.toArray):=fun ty dc sc=>by
   rw[show(i+1)* 4=i* 4+4 by omega,hc1];refine qC w.drew 24 24 ty 86 4 g (i* 4+4) _ dc ⟨g,i* 4,none⟩ _ sc cur 86 cells Tryz.underlying24 hsz hh ?_ (gq w.drew rfl) ?_ (fun v hv=>hcells v (List.mem_of_mem_drop (by rw[←hcd];exact hv)))
   ·rw[m8];congr 1;simp only[Nat.min_def];split<;>omega
   rw[m8];omega
  obtain⟨W1,hW1⟩:∃W1,W1=w.drew.setRow g c1.toArray:=⟨_,rfl⟩;rw[←hW1] at ru;have m7:W1.heap[g]?=some (.cells c1.toArray 86 (0,0)):=by rw[hW1];exact setRow_heap _ g cur _ 86 (0,0) hh
  have hv1:W1.heap[vb]?=w.heap[vb]?:=by rw[hW1];exact setRow_other _ g vb _ yU
  obtain⟨c2,hc2⟩:∃c2,c2=(c1.take (i* 4)++vs++c1.drop (i* 4+vs.length)):=⟨_,rfl⟩;rw[←hc2] at e1 e2
  have rx:∀ty dc,(Builtin.copy_ #[24,24] ty #[.slice (some ⟨g,i* 4,none⟩) (n+1 - i) dc,.slice (some ⟨vb,0,none⟩) 1 1]).run Tryz.prog W1=.ok (goInt (Nat.min 1 (n+1 - i):Nat)) (W1.setRow g c2.toArray):=fun ty dc=>by
   have:=qC (P:=Tryz.prog) W1 24 24 ty 86 4 g (i* 4) (n+1 - i) dc ⟨vb,0,none⟩ 1 1 c1.toArray 86 vs Tryz.underlying24 hsz m7 (by rw[hvl];simp only[Nat.min_def];split<;>omega) (gM W1 hv1) (by rw[hvl,List.size_toArray,e3,Array.length_toList,hcs];have:=Nat.mul_le_mul_right 4 hi;omega) uy;rw[hc2];exact this
  obtain⟨W2,hW2⟩:∃W2,W2=W1.setRow g c2.toArray:=⟨_,rfl⟩;rw[←hW2] at rx;have pA:W2.heap[g]?=some (.cells c2.toArray 86 (0,0)):=by rw[hW2];exact setRow_heap _ g _ _ 86 (0,0) m7
  have hgr:w.grownBy W2 (some g):=by
   rw[hW2,hW1];exact⟨rfl,rfl,rfl,by simp,fun k _ hk=>(setRow_other _ g k _ (fun e=>hk (by rw[e]))).trans (setRow_other _ g k _ (fun e=>hk (by rw[e])))⟩
  have HOWN:Hid (Be 86 (qe tg) W2 base S (some ⟨g,0,none⟩) (n+1) c (xj i x l)):=zh (by
   refine Be.Cc hgb pA hroom hcm (by rw[List.size_toArray,e2,Array.length_toList];exact hcs) ?_ (by rw[xk (by omega),hl]);have hA:Agree (fun b=>S b∧some b≠some g) w W2:=Agree.grown hgr (fun b hb=>hb.2);have h1:=(hR.take (i:=i) (by omega)).append ((Reads.one hx).append (hR.drop (i:=i)))
   have e4:c2.toArray.toList.take ((n+1)* (qe tg).sz)=(cur.toList.take (n* 4)).take (i* 4)++(vs++(cur.toList.take (n* 4)).drop (i* 4)):=by
    rw[show(n+1)* (qe tg).sz=n* 4+4 from Nat.succ_mul n 4,←hcd];exact e1
   rw[e4]
   exact h1.frame hA hgr.size)
  have pN:=zh hgr;have hi1:¬(c=i+1):=by omega
  have vw:i≤n+1:=by omega
  have hi2:¬(c=i):=by omega
  have ry:=zh hl;clear hW1 hW2 hgr m7 pA e1 e2 e3 hc1 hc2 hcd m8 gq hcells hcl hR hcs hh hcm h hv1 hl hx hvl uy gM
  go_enter Tryz.func122,Tryz.ntmps122
  go_wp2_with (simp only[hov])
  go_region_law_o (refine step_copy_runI rfl _ _ 24 24 rfl _ _ (by simp[Act.eval,Act.put]) (by simp[Act.eval,Act.put]) (ru _ _ _) ?_)
  go_wp2_with (at_builtin;refine wpList_copy_runI _ rfl _ _ 24 24 rfl _ _ rfl rfl (rx _ _) ?_)
  go_ret
  exact⟨some ⟨g,0,none⟩,c,by rw[ry.out];rfl,by rw[ry.out];exact HOWN.out,pN.out,.inl rfl⟩
 obtain⟨cells,hcd⟩:∃cells,cells=cur.toList.take (n* 4):=⟨_,rfl⟩;rw[←hcd] at m8 gq hcells hcl hR;have hcz:c<n+1:=by omega
 have hbig:(n+1)* 48≤140737488355328:=by omega
 have hold:(Builtin.firstCells i0.size i (.slice (some ⟨g,0,none⟩) i c)).run Tryz.prog w.drew=.ok (cells.take (i* 4)).toArray w.drew:=by
  rw[hz1]
  exact run_firstCells_some w.drew 4 i ⟨g,0,none⟩ i c (cells.take (i* 4)) (by rw[List.length_take,hcl];have:=Nat.mul_le_mul_right 4 hi;omega) (fun j v hj=>by
   rw[Addr.add_lit,Nat.zero_add];rw[List.getElem?_take] at hj
   split at hj
   ·rw[hcd,List.getElem?_take] at hj
    split at hj
    ·exact(cell_of_row w.drew g _ _ _ _ hh).trans (by simpa using hj)
    cases hj
   cases hj)
 have hkk:(n:Int)+1 - (i:Int)=((n+1 - i:Nat):Int):=by omega
 have hik:i+(n+1 - i)=n+1:=by omega
 obtain⟨G,hG⟩:∃G,G=grownCap w (n+1) c 86:=⟨_,rfl⟩;have rz:n+1≤G:=by rw[hG];exact grownCap_ge w _ _ _
 have vz:G≤maxLen:=by rw[hG];exact grownCap_le_maxLen w (n+1) c 86 (by unfold maxLen;omega)
 have hG63:G≤9223372036854775807:=by unfold maxLen at vz;omega
 obtain⟨Z,hZ⟩:∃Z,Z=(Builtin.zeroCells (.agg #[.int .i64 0,.int .i64 0,.int .i64 0,.slice none 0 0]:Value).cells (n+1 - i)).toList++(Builtin.zeroCells (.agg #[.int .i64 0,.int .i64 0,.int .i64 0,.slice none 0 0]:Value).cells (G - (n+1))).toList:=⟨_,rfl⟩;have hzc:(.agg #[.int .i64 0,.int .i64 0,.int .i64 0,.slice none 0 0]:Value).cells.size=4:=rfl
 have vA:Z.length=G* 4 - i* 4:=by
  rw[hZ,List.length_append,Array.length_toList,Array.length_toList,size_zeroCells,size_zeroCells,hzc];omega
 have vB:∀ty,(Builtin.append_ #[24,3] ty #[.slice (some ⟨g,0,none⟩) i c,.int .i64 ((n:Int)+1 - (i:Int))]).run Tryz.prog w=
   .ok (.slice (some ⟨w.heap.size,0,none⟩) (n+1) G) (w.drew.alloc (.cells (cells.take (i* 4)++Z).toArray 86)):=fun ty=>by
  have h:=Lib.run_append_grow_zeros w 24 3 ty 86 i0 _ .i64 .i64 Tryz.underlying24 Tryz.underlying3 nG hz0 (some ⟨g,0,none⟩) i c (cells.take (i* 4)) hold (n+1 - i) (by omega) (by omega) (by omega) (by omega) (by rw[hz2];omega) (by rw[hz2,hik];exact growslice_fits hcz hbig);rw[hik,←hG] at h;rw[hkk,h,hZ]
  congr 3
  simp
 obtain⟨e1,e2,e3⟩:=xD (L:=cells) (Z:=Z) (vs:=vs) (a:=i* 4) (z:=4) (N:=n* 4) (G:=G* 4) hvl (Nat.mul_le_mul_right _ hi) hcl vA (by have:=Nat.mul_le_mul_right 4 rz;omega);obtain⟨c0,hc0⟩:∃c0,c0=cells.take (i* 4)++Z:=⟨_,rfl⟩;rw[←hc0] at vB e1 e2 e3;have rA:c0.length=G* 4:=by rw[hc0,List.length_append,List.length_take,hcl,vA];have:=Nat.mul_le_mul_right 4 hi;have:=Nat.mul_le_mul_right 4 rz;omega
 obtain⟨c1,hc1⟩:∃c1,c1=c0.take (i* 4)++vs++c0.drop (i* 4+vs.length):=⟨_,rfl⟩;rw[←hc1] at e1 e2 e3;obtain⟨c2,hc2⟩:∃c2,c2=c1.take (i* 4+4)++cells.drop (i* 4)++c1.drop (i* 4+4+(cells.drop (i* 4)).length):=⟨_,rfl⟩;rw[←hc2] at e1 e3;have hgw:=hgl;have hvw:vb<w.heap.size:=(zl hv);obtain⟨W1,hW1⟩:∃W1,W1=w.drew.alloc (.cells c0.toArray 86):=⟨_,rfl⟩;have m7:W1.heap[w.heap.size]?=some (.cells c0.toArray 86 (0,0)):=by rw[hW1];exact heap_alloc_new w.drew _
 have hg1:W1.heap[g]?=w.heap[g]?:=by rw[hW1];exact Below.heap_alloc w.drew _ _ hgl
 have hv1:W1.heap[vb]?=w.heap[vb]?:=by rw[hW1];exact Below.heap_alloc w.drew _ _ hvw
 have vC:∀(W:World),W.heap=W1.heap→∀ty dc,(Builtin.copy_ #[24,24] ty #[.slice (some ⟨w.heap.size,i* 4,none⟩) (n+1 - i) dc,.slice (some ⟨vb,0,none⟩) 1 1]).run Tryz.prog W=.ok (goInt (Nat.min 1 (n+1 - i):Nat)) (W.setRow w.heap.size c1.toArray):=fun W hW ty dc=>by
  have:=qC (P:=Tryz.prog) W 24 24 ty 86 4 w.heap.size (i* 4) (n+1 - i) dc ⟨vb,0,none⟩ 1 1 c0.toArray 86 vs Tryz.underlying24 hsz (by rw[hW];exact m7) (by rw[hvl];simp only[Nat.min_def];split<;>omega) (gM W (by rw[hW];exact hv1)) (by rw[hvl,List.size_toArray,rA];have:=Nat.mul_le_mul_right 4 hi;have:=Nat.mul_le_mul_right 4 rz;omega) uy;rw[hc1];exact this
 have vD:∀(W:World),W.heap=(W1.setRow w.heap.size c1.toArray).heap→∀ty dc sc,(Builtin.copy_ #[24,24] ty #[.slice (some ⟨w.heap.size,(i+1)* 4,none⟩) (n - i) dc,.slice (some ⟨g,i* 4,none⟩) (n - i) sc]).run Tryz.prog W=.ok (goInt (Nat.min (n - i) (n - i):Nat)) (W.setRow w.heap.size c2.toArray):=fun W hW ty dc sc=>by
  have hrow:W.heap[w.heap.size]?=some (.cells c1.toArray 86 (0,0)):=by rw[hW];exact setRow_heap _ _ _ _ 86 (0,0) m7
  have hrg:W.heap[g]?=w.heap[g]?:=by rw[hW];exact(setRow_other _ _ g _ (by omega)).trans hg1
  rw[show(i+1)* 4=i* 4+4 by omega,hc2];refine qC (P:=Tryz.prog) W 24 24 ty 86 4 w.heap.size (i* 4+4) _ dc ⟨g,i* 4,none⟩ _ sc c1.toArray 86 (cells.drop (i* 4)) Tryz.underlying24 hsz hrow ?_ (gq W hrg) ?_ (fun v hv=>hcells v (List.mem_of_mem_drop hv))
  ·rw[m8];congr 1;simp only[Nat.min_def];split<;>omega
  rw[m8,List.size_toArray,e2];have:=Nat.mul_le_mul_right 4 rz;rw[Nat.sub_mul];have:=Nat.mul_le_mul_right 4 hi;omega
 have mJ:Hid (∀W:World,W.heap=((W1.setRow w.heap.size c1.toArray).setRow w.heap.size c2.toArray).heap→W.os=w.os→W.tape=w.tape→W.output=w.output→Be 86 (qe tg) W base S (some ⟨w.heap.size,0,none⟩) (n+1) G (xj i x l)∧w.grownBy W (some g)):=zh (fun W hW ho ht hu=>by
  have hgr:w.grownBy W (some g):=⟨ho,ht,hu,by rw[hW,setRow_size,setRow_size,hW1];simp,fun k hk _=>by rw[hW,setRow_other _ _ k _ (by omega),setRow_other _ _ k _ (by omega),hW1];exact Below.heap_alloc w.drew _ _ hk⟩;refine⟨?_,hgr⟩;have hrow:W.heap[w.heap.size]?=some (.cells c2.toArray 86 (0,0)):=by rw[hW];exact setRow_heap _ _ _ _ 86 (0,0) (setRow_heap _ _ _ _ 86 (0,0) m7)
  refine Be.Cc hbase hrow rz vz (by rw[List.size_toArray];exact e3) ?_ (by rw[xk (by omega),hl]);have hA:Agree (fun b=>S b∧some b≠some g) w W:=Agree.grown hgr (fun b hb=>hb.2);have h1:=(hR.take (i:=i) (by omega)).append ((Reads.one hx).append (hR.drop (i:=i)))
  have e4:c2.toArray.toList.take ((n+1)* (qe tg).sz)=cells.take (i* 4)++(vs++cells.drop (i* 4)):=by
   rw[show(n+1)* (qe tg).sz=n* 4+4 from Nat.succ_mul n 4];exact e1
  rw[e4]
  exact(h1.mono (S':=fun b=>(S b∧some b≠some g)∧some b≠some w.heap.size) (fun b hb hlt=>⟨hb,fun e=>by injection e with e;omega⟩) |>.frame (hA.mono fun b hb _=>hb.1) hgr.size).mono (fun b hb _=>⟨hb.1.1,hb.2⟩))
 subst hW1;have hE:((w.alloc (.cells c0.toArray 86)).drew).heap=(w.drew.alloc (.cells c0.toArray 86)).heap:=rfl;have hF:(((w.alloc (.cells c0.toArray 86)).drew.setRow w.heap.size c1.toArray).drew).heap=((w.drew.alloc (.cells c0.toArray 86)).setRow w.heap.size c1.toArray).heap:=rfl;have hi1:¬(G=i+1):=by omega
 have vw:i≤n+1:=by omega
 have hi2:¬(G=i):=by omega
 have hi3:¬(c=i):=by omega
 have hcz2:(c:Int)<(n:Int)+1:=by omega
 have ry:=zh hl;clear m7 hg1 hv1 e1 e2 e3 hc0 rA hc1 hc2 hcd hZ vA hG hkk hik hold m8 gq hcells hcl hR hcs hh hcm h hl hx hvl uy gM vz
 go_enter Tryz.func122,Tryz.ntmps122
 go_wp2_with (first
  |(at_builtin;refine Lib.wpList_append_run _ rfl _ _ _ _ rfl _ _ rfl rfl _ _ (vB _) ?_)
  |(at_builtin;refine wpList_copy_runI _ rfl _ _ 24 24 rfl _ _ rfl rfl (vC _ hE _ _) ?_))
 go_region_law_o (refine step_copy_runI rfl _ _ 24 24 rfl (.slice (some ⟨w.heap.size,(i+1)* 4,none⟩) (n - i) (G - (i+1))) (.slice (some ⟨g,i* 4,none⟩) (n - i) (c - i)) (by simp[Act.eval,Act.put]) (by simp[Act.eval,Act.put]) (vD _ hF 3 (G - (i+1)) (c - i)) ?_)
 go_wp2
 go_ret
 obtain⟨q1,q2⟩:=mJ.out (((w.alloc (.cells c0.toArray 86)).drew.setRow w.heap.size c1.toArray).drew.setRow w.heap.size c2.toArray) rfl rfl rfl rfl;exact⟨some ⟨w.heap.size,0,none⟩,G,by rw[ry.out];rfl,by rw[ry.out];exact q1,q2,.inr rfl⟩
theorem QR {tg:Bool}{w:World}{base:Nat}{S:Nat→Prop}{A:Option Addr}{n c i vb:Nat}{l:List Entry}{x:Entry}{vs:List Value}(h:Be 90 (ql tg) w base S A n c l) (hi:i≤n) (hn:n≤1000000) (hbase:base≤w.heap.size)
  (hv:w.heap[vb]?=some (.cells vs.toArray 90 (0,0))) (hx:(ql tg).R w (fun b=>S b∧some b≠qa A) vs x) (hvA:some vb≠qa A):
  Calls Tryz.prog 126 #[.slice A n c,.int .i64 (i:Int),.slice (some ⟨vb,0,none⟩) 1 1] w (EM 90 (ql tg) w base S A l i x):=by
 have hl:=h.len;have hle:=h.le;obtain⟨i0,nG,hz0,hz1,hz2⟩:=info_parts Tryz.Cs;have hvl:vs.length=4:=(ql tg).len hx;have uy:=(ql tg).one hx;by_cases hend:i=n
 ·subst hend;have hNC:=zh hle;have HH:=zh h;clear h hl;rcases Nat.eq_zero_or_pos i with e|e
  ·subst e
   cases A with
   |none=>
    go_enter Tryz.func126,Tryz.ntmps126
    go_wp2_with (at_builtin;refine qq rfl _ _ 25 rfl i0 (.agg #[.string ByteArray.empty,.int .i64 0,.bool false,.slice none 0 0]) 56 Tryz.underlying25 nG hz0 hz1 hz2 rfl (show 0<4 by decide) rfl HH.out vb 90 1 vs x rfl hv hx (by omega) (by omega) hbase ?_)
    all_goals
     intro A9 c9 w9 hown hg hat;go_wp2
     go_ret
     exact⟨A9,c9,by rw[HH.out.len];rfl,by rw[show xj 0 x l=l++[x] by have:=zT (x:=x) (l:=l);rwa [HH.out.len] at this,HH.out.len];exact hown,hg,hat⟩
   |some ad=>
    go_enter Tryz.func126,Tryz.ntmps126
    go_wp2_with (at_builtin;refine qq rfl _ _ 25 rfl i0 (.agg #[.string ByteArray.empty,.int .i64 0,.bool false,.slice none 0 0]) 56 Tryz.underlying25 nG hz0 hz1 hz2 rfl (show 0<4 by decide) rfl HH.out vb 90 1 vs x rfl hv hx (by omega) (by omega) hbase ?_)
    all_goals
     intro A9 c9 w9 hown hg hat;go_wp2
     go_ret
     exact⟨A9,c9,by rw[HH.out.len];rfl,by rw[show xj 0 x l=l++[x] by have:=zT (x:=x) (l:=l);rwa [HH.out.len] at this,HH.out.len];exact hown,hg,hat⟩
  obtain⟨g,eA,_,_⟩:=HH.out.form e;subst eA
  go_enter Tryz.func126,Tryz.ntmps126
  go_wp2_with (at_builtin;refine qq rfl _ _ 25 rfl i0 (.agg #[.string ByteArray.empty,.int .i64 0,.bool false,.slice none 0 0]) 56 Tryz.underlying25 nG hz0 hz1 hz2 rfl (show 0<4 by decide) rfl HH.out vb 90 1 vs x rfl hv hx (by omega) (by omega) hbase ?_)
  all_goals
   intro A9 c9 w9 hown hg hat;go_wp2
   go_ret
   exact⟨A9,c9,by rw[HH.out.len];rfl,by rw[show xj i x l=l++[x] by have:=zT (x:=x) (l:=l);rwa [HH.out.len] at this,HH.out.len];exact hown,hg,hat⟩
 obtain⟨g,cur,eA,hgb,hgl,hh,hnc,hcm,hcs,hR,_⟩:=h.row (.inl (by omega));subst eA;have hcs:cur.size=c* 4:=hcs;have hR:Reads (ql tg) w (fun b=>S b∧some b≠some g) (cur.toList.take (n* 4)) l:=hR;have yU:vb≠g:=fun e=>hvA (by rw[e];rfl);have uI:c≤9223372036854775807:=hle.2;have hN:n* 4≤c* 4:=Nat.mul_le_mul_right _ hnc;have hsz:(Tryz.prog.info? 90).map (·.size)=some 4:=by rw[nG];simp[hz1]
 have vv:¬((1:Int)=0):=by decide
 have mixed:Tryz.prog.follows .mixedOrders=true:=by kernel_rfl
 have hw1:IntKind.i64.wrap ((i:Int)+1)=(i:Int)+1:=by rw[IntKind.wrap_i64];omega
 have hb1:(0:Int)≤(i:Int)+1:=by omega
 have htn:((i:Int)+1).toNat=i+1:=by omega
 have hb3:(i:Int)≤(n:Int)+1:=by omega
 have hb3':(i:Int)≤(n:Int):=by omega
 have hine:¬((i:Int)=(n:Int)):=by omega
 have hin:i<n:=by omega
 have gM:∀(W:World),W.heap[vb]?=w.heap[vb]?→∀j v,vs[j]?=some v→W.cell? ((⟨vb,0,none⟩:Addr).add j)=some v:=fun W hW j v hj=>by
  rw[Addr.add_lit];exact(cell_of_row W vb _ _ _ _ (hW.trans hv)).trans (by simpa using hj)
 have hcells:=hR.cells;have hcl:(cur.toList.take (n* 4)).length=n* 4:=by rw[List.length_take,Array.length_toList];omega
 have m8:((cur.toList.take (n* 4)).drop (i* 4)).length=(n - i)* 4:=by rw[List.length_drop,hcl,Nat.sub_mul]
 have gq:∀(W:World),W.heap[g]?=w.heap[g]?→∀j v,((cur.toList.take (n* 4)).drop (i* 4))[j]?=some v→W.cell? ((⟨g,i* 4,none⟩:Addr).add j)=some v:=fun W hW j v hj=>by
  rw[Addr.add_lit];have uR:j<(n - i)* 4:=by have:=(List.getElem?_eq_some_iff.1 hj).1;omega
  rw[List.getElem?_drop,List.getElem?_take_of_lt (by omega)] at hj;exact(cell_of_row W g _ _ _ _ (hW.trans hh)).trans (by simpa using hj)
 by_cases hroom:n+1≤c
 ·have hov:∀lb cb o,(callFunc 141 #[.slice (some ⟨vb,0,none⟩) 1 1,.slice (some ⟨g,o,none⟩) lb cb]).run Tryz.prog w=.ok (.value (.bool false)) w:=fun lb cb o=>by
   rw[run_callFunc_extern Tryz.func141 (by kernel_rfl) (by kernel_rfl) (by kernel_rfl) (e:=Extern.SlicesOverlaps.overlaps #[25,25] #[4]) (by kernel_rfl),
    Lib.run_overlaps_apart w 25 4 90 Tryz.underlying25 4 Tryz.sizeOf90 ⟨vb,0,none⟩ ⟨g,o,none⟩ 1 1 lb cb yU 90 90 4 (c* 4) (by rw[qf hv];simp[hvl]) (by rw[qf hh,hcs]) (by omega) (frozen_of_row w vb _ _ _ hv) (frozen_of_row w vb _ _ _ hv)]
   rfl
  obtain⟨cells,hcd⟩:∃cells,cells=(cur.toList.take (n* 4)).drop (i* 4):=⟨_,rfl⟩;rw[←hcd] at m8 gq;obtain⟨e1,e2,e3⟩:=jU (L:=cur.toList) (vs:=vs) (a:=i* 4) (z:=4) (N:=n* 4) hvl (Nat.mul_le_mul_right _ hi) (by rw[Array.length_toList];have:=Nat.mul_le_mul_right 4 hroom;omega);rw[←hcd] at e1 e2 e3;obtain⟨c1,hc1⟩:∃c1,c1=(cur.toList.take (i* 4+4)++cells++cur.toList.drop (i* 4+4+cells.length)):=⟨_,rfl⟩;rw[←hc1] at e1 e2 e3;have hfit:n* 4+4≤c* 4:=by have:=Nat.mul_le_mul_right 4 hroom;omega
  have yh:i* 4+(n - i)* 4=n* 4:=by rw[←Nat.add_mul];congr 1;omega
  have ru:∀ty dc sc,(Builtin.copy_ #[25,25] ty #[.slice (some ⟨g,(i+1)* 4,none⟩) (n - i) dc,.slice (some ⟨g,i* 4,none⟩) (n+1 - i) sc]).run Tryz.prog w.drew=.ok (goInt (Nat.min (n+1 - i) (n - i):Nat)) (w.drew.setRow g c1.toArray):=fun ty dc sc=>by
   rw[show(i+1)* 4=i* 4+4 by omega,hc1];refine qC w.drew 25 25 ty 90 4 g (i* 4+4) _ dc ⟨g,i* 4,none⟩ _ sc cur 90 cells Tryz.underlying25 hsz hh ?_ (gq w.drew rfl) ?_ (fun v hv=>hcells v (List.mem_of_mem_drop (by rw[←hcd];exact hv)))
   ·rw[m8];congr 1;simp only[Nat.min_def];split<;>omega
   rw[m8];omega
  obtain⟨W1,hW1⟩:∃W1,W1=w.drew.setRow g c1.toArray:=⟨_,rfl⟩;rw[←hW1] at ru;have m7:W1.heap[g]?=some (.cells c1.toArray 90 (0,0)):=by rw[hW1];exact setRow_heap _ g cur _ 90 (0,0) hh
  have hv1:W1.heap[vb]?=w.heap[vb]?:=by rw[hW1];exact setRow_other _ g vb _ yU
  obtain⟨c2,hc2⟩:∃c2,c2=(c1.take (i* 4)++vs++c1.drop (i* 4+vs.length)):=⟨_,rfl⟩;rw[←hc2] at e1 e2
  have rx:∀ty dc,(Builtin.copy_ #[25,25] ty #[.slice (some ⟨g,i* 4,none⟩) (n+1 - i) dc,.slice (some ⟨vb,0,none⟩) 1 1]).run Tryz.prog W1=.ok (goInt (Nat.min 1 (n+1 - i):Nat)) (W1.setRow g c2.toArray):=fun ty dc=>by
   have:=qC (P:=Tryz.prog) W1 25 25 ty 90 4 g (i* 4) (n+1 - i) dc ⟨vb,0,none⟩ 1 1 c1.toArray 90 vs Tryz.underlying25 hsz m7 (by rw[hvl];simp only[Nat.min_def];split<;>omega) (gM W1 hv1) (by rw[hvl,List.size_toArray,e3,Array.length_toList,hcs];have:=Nat.mul_le_mul_right 4 hi;omega) uy;rw[hc2];exact this
  obtain⟨W2,hW2⟩:∃W2,W2=W1.setRow g c2.toArray:=⟨_,rfl⟩;rw[←hW2] at rx;have pA:W2.heap[g]?=some (.cells c2.toArray 90 (0,0)):=by rw[hW2];exact setRow_heap _ g _ _ 90 (0,0) m7
  have hgr:w.grownBy W2 (some g):=by
   rw[hW2,hW1];exact⟨rfl,rfl,rfl,by simp,fun k _ hk=>(setRow_other _ g k _ (fun e=>hk (by rw[e]))).trans (setRow_other _ g k _ (fun e=>hk (by rw[e])))⟩
  have HOWN:Hid (Be 90 (ql tg) W2 base S (some ⟨g,0,none⟩) (n+1) c (xj i x l)):=zh (by
   refine Be.Cc hgb pA hroom hcm (by rw[List.size_toArray,e2,Array.length_toList];exact hcs) ?_ (by rw[xk (by omega),hl]);have hA:Agree (fun b=>S b∧some b≠some g) w W2:=Agree.grown hgr (fun b hb=>hb.2);have h1:=(hR.take (i:=i) (by omega)).append ((Reads.one hx).append (hR.drop (i:=i)))
   have e4:c2.toArray.toList.take ((n+1)* (ql tg).sz)=(cur.toList.take (n* 4)).take (i* 4)++(vs++(cur.toList.take (n* 4)).drop (i* 4)):=by
    rw[show(n+1)* (ql tg).sz=n* 4+4 from Nat.succ_mul n 4,←hcd];exact e1
   rw[e4]
   exact h1.frame hA hgr.size)
  have pN:=zh hgr;have hi1:¬(c=i+1):=by omega
  have vw:i≤n+1:=by omega
  have hi2:¬(c=i):=by omega
  have ry:=zh hl;clear hW1 hW2 hgr m7 pA e1 e2 e3 hc1 hc2 hcd m8 gq hcells hcl hR hcs hh hcm h hv1 hl hx hvl uy gM
  go_enter Tryz.func126,Tryz.ntmps126
  go_wp2_with (simp only[hov])
  go_region_law_o (refine step_copy_runI rfl _ _ 25 25 rfl _ _ (by simp[Act.eval,Act.put]) (by simp[Act.eval,Act.put]) (ru _ _ _) ?_)
  go_wp2_with (at_builtin;refine wpList_copy_runI _ rfl _ _ 25 25 rfl _ _ rfl rfl (rx _ _) ?_)
  go_ret
  exact⟨some ⟨g,0,none⟩,c,by rw[ry.out];rfl,by rw[ry.out];exact HOWN.out,pN.out,.inl rfl⟩
 obtain⟨cells,hcd⟩:∃cells,cells=cur.toList.take (n* 4):=⟨_,rfl⟩;rw[←hcd] at m8 gq hcells hcl hR;have hcz:c<n+1:=by omega
 have hbig:(n+1)* 56≤140737488355328:=by omega
 have hold:(Builtin.firstCells i0.size i (.slice (some ⟨g,0,none⟩) i c)).run Tryz.prog w.drew=.ok (cells.take (i* 4)).toArray w.drew:=by
  rw[hz1]
  exact run_firstCells_some w.drew 4 i ⟨g,0,none⟩ i c (cells.take (i* 4)) (by rw[List.length_take,hcl];have:=Nat.mul_le_mul_right 4 hi;omega) (fun j v hj=>by
   rw[Addr.add_lit,Nat.zero_add];rw[List.getElem?_take] at hj
   split at hj
   ·rw[hcd,List.getElem?_take] at hj
    split at hj
    ·exact(cell_of_row w.drew g _ _ _ _ hh).trans (by simpa using hj)
    cases hj
   cases hj)
 have hkk:(n:Int)+1 - (i:Int)=((n+1 - i:Nat):Int):=by omega
 have hik:i+(n+1 - i)=n+1:=by omega
 obtain⟨G,hG⟩:∃G,G=grownCap w (n+1) c 90:=⟨_,rfl⟩;have rz:n+1≤G:=by rw[hG];exact grownCap_ge w _ _ _
 have vz:G≤maxLen:=by rw[hG];exact grownCap_le_maxLen w (n+1) c 90 (by unfold maxLen;omega)
 have hG63:G≤9223372036854775807:=by unfold maxLen at vz;omega
 obtain⟨Z,hZ⟩:∃Z,Z=(Builtin.zeroCells (.agg #[.string ByteArray.empty,.int .i64 0,.bool false,.slice none 0 0]:Value).cells (n+1 - i)).toList++(Builtin.zeroCells (.agg #[.string ByteArray.empty,.int .i64 0,.bool false,.slice none 0 0]:Value).cells (G - (n+1))).toList:=⟨_,rfl⟩;have hzc:(.agg #[.string ByteArray.empty,.int .i64 0,.bool false,.slice none 0 0]:Value).cells.size=4:=rfl
 have vA:Z.length=G* 4 - i* 4:=by
  rw[hZ,List.length_append,Array.length_toList,Array.length_toList,size_zeroCells,size_zeroCells,hzc];omega
 have vB:∀ty,(Builtin.append_ #[25,3] ty #[.slice (some ⟨g,0,none⟩) i c,.int .i64 ((n:Int)+1 - (i:Int))]).run Tryz.prog w=
   .ok (.slice (some ⟨w.heap.size,0,none⟩) (n+1) G) (w.drew.alloc (.cells (cells.take (i* 4)++Z).toArray 90)):=fun ty=>by
  have h:=Lib.run_append_grow_zeros w 25 3 ty 90 i0 _ .i64 .i64 Tryz.underlying25 Tryz.underlying3 nG hz0 (some ⟨g,0,none⟩) i c (cells.take (i* 4)) hold (n+1 - i) (by omega) (by omega) (by omega) (by omega) (by rw[hz2];omega) (by rw[hz2,hik];exact growslice_fits hcz hbig);rw[hik,←hG] at h;rw[hkk,h,hZ]
  congr 3
  simp
 obtain⟨e1,e2,e3⟩:=xD (L:=cells) (Z:=Z) (vs:=vs) (a:=i* 4) (z:=4) (N:=n* 4) (G:=G* 4) hvl (Nat.mul_le_mul_right _ hi) hcl vA (by have:=Nat.mul_le_mul_right 4 rz;omega);obtain⟨c0,hc0⟩:∃c0,c0=cells.take (i* 4)++Z:=⟨_,rfl⟩;rw[←hc0] at vB e1 e2 e3;have rA:c0.length=G* 4:=by rw[hc0,List.length_append,List.length_take,hcl,vA];have:=Nat.mul_le_mul_right 4 hi;have:=Nat.mul_le_mul_right 4 rz;omega
 obtain⟨c1,hc1⟩:∃c1,c1=c0.take (i* 4)++vs++c0.drop (i* 4+vs.length):=⟨_,rfl⟩;rw[←hc1] at e1 e2 e3;obtain⟨c2,hc2⟩:∃c2,c2=c1.take (i* 4+4)++cells.drop (i* 4)++c1.drop (i* 4+4+(cells.drop (i* 4)).length):=⟨_,rfl⟩;rw[←hc2] at e1 e3;have hgw:=hgl;have hvw:vb<w.heap.size:=(zl hv);obtain⟨W1,hW1⟩:∃W1,W1=w.drew.alloc (.cells c0.toArray 90):=⟨_,rfl⟩;have m7:W1.heap[w.heap.size]?=some (.cells c0.toArray 90 (0,0)):=by rw[hW1];exact heap_alloc_new w.drew _
 have hg1:W1.heap[g]?=w.heap[g]?:=by rw[hW1];exact Below.heap_alloc w.drew _ _ hgl
 have hv1:W1.heap[vb]?=w.heap[vb]?:=by rw[hW1];exact Below.heap_alloc w.drew _ _ hvw
 have vC:∀(W:World),W.heap=W1.heap→∀ty dc,(Builtin.copy_ #[25,25] ty #[.slice (some ⟨w.heap.size,i* 4,none⟩) (n+1 - i) dc,.slice (some ⟨vb,0,none⟩) 1 1]).run Tryz.prog W=.ok (goInt (Nat.min 1 (n+1 - i):Nat)) (W.setRow w.heap.size c1.toArray):=fun W hW ty dc=>by
  have:=qC (P:=Tryz.prog) W 25 25 ty 90 4 w.heap.size (i* 4) (n+1 - i) dc ⟨vb,0,none⟩ 1 1 c0.toArray 90 vs Tryz.underlying25 hsz (by rw[hW];exact m7) (by rw[hvl];simp only[Nat.min_def];split<;>omega) (gM W (by rw[hW];exact hv1)) (by rw[hvl,List.size_toArray,rA];have:=Nat.mul_le_mul_right 4 hi;have:=Nat.mul_le_mul_right 4 rz;omega) uy;rw[hc1];exact this
 have vD:∀(W:World),W.heap=(W1.setRow w.heap.size c1.toArray).heap→∀ty dc sc,(Builtin.copy_ #[25,25] ty #[.slice (some ⟨w.heap.size,(i+1)* 4,none⟩) (n - i) dc,.slice (some ⟨g,i* 4,none⟩) (n - i) sc]).run Tryz.prog W=.ok (goInt (Nat.min (n - i) (n - i):Nat)) (W.setRow w.heap.size c2.toArray):=fun W hW ty dc sc=>by
  have hrow:W.heap[w.heap.size]?=some (.cells c1.toArray 90 (0,0)):=by rw[hW];exact setRow_heap _ _ _ _ 90 (0,0) m7
  have hrg:W.heap[g]?=w.heap[g]?:=by rw[hW];exact(setRow_other _ _ g _ (by omega)).trans hg1
  rw[show(i+1)* 4=i* 4+4 by omega,hc2];refine qC (P:=Tryz.prog) W 25 25 ty 90 4 w.heap.size (i* 4+4) _ dc ⟨g,i* 4,none⟩ _ sc c1.toArray 90 (cells.drop (i* 4)) Tryz.underlying25 hsz hrow ?_ (gq W hrg) ?_ (fun v hv=>hcells v (List.mem_of_mem_drop hv))
  ·rw[m8];congr 1;simp only[Nat.min_def];split<;>omega
  rw[m8,List.size_toArray,e2];have:=Nat.mul_le_mul_right 4 rz;rw[Nat.sub_mul];have:=Nat.mul_le_mul_right 4 hi;omega
 have mJ:Hid (∀W:World,W.heap=((W1.setRow w.heap.size c1.toArray).setRow w.heap.size c2.toArray).heap→W.os=w.os→W.tape=w.tape→W.output=w.output→Be 90 (ql tg) W base S (some ⟨w.heap.size,0,none⟩) (n+1) G (xj i x l)∧w.grownBy W (some g)):=zh (fun W hW ho ht hu=>by
  have hgr:w.grownBy W (some g):=⟨ho,ht,hu,by rw[hW,setRow_size,setRow_size,hW1];simp,fun k hk _=>by rw[hW,setRow_other _ _ k _ (by omega),setRow_other _ _ k _ (by omega),hW1];exact Below.heap_alloc w.drew _ _ hk⟩;refine⟨?_,hgr⟩;have hrow:W.heap[w.heap.size]?=some (.cells c2.toArray 90 (0,0)):=by rw[hW];exact setRow_heap _ _ _ _ 90 (0,0) (setRow_heap _ _ _ _ 90 (0,0) m7)
  refine Be.Cc hbase hrow rz vz (by rw[List.size_toArray];exact e3) ?_ (by rw[xk (by omega),hl]);have hA:Agree (fun b=>S b∧some b≠some g) w W:=Agree.grown hgr (fun b hb=>hb.2);have h1:=(hR.take (i:=i) (by omega)).append ((Reads.one hx).append (hR.drop (i:=i)))
  have e4:c2.toArray.toList.take ((n+1)* (ql tg).sz)=cells.take (i* 4)++(vs++cells.drop (i* 4)):=by
   rw[show(n+1)* (ql tg).sz=n* 4+4 from Nat.succ_mul n 4];exact e1
  rw[e4]
  exact(h1.mono (S':=fun b=>(S b∧some b≠some g)∧some b≠some w.heap.size) (fun b hb hlt=>⟨hb,fun e=>by injection e with e;omega⟩) |>.frame (hA.mono fun b hb _=>hb.1) hgr.size).mono (fun b hb _=>⟨hb.1.1,hb.2⟩))
 subst hW1;have hE:((w.alloc (.cells c0.toArray 90)).drew).heap=(w.drew.alloc (.cells c0.toArray 90)).heap:=rfl;have hF:(((w.alloc (.cells c0.toArray 90)).drew.setRow w.heap.size c1.toArray).drew).heap=((w.drew.alloc (.cells c0.toArray 90)).setRow w.heap.size c1.toArray).heap:=rfl;have hi1:¬(G=i+1):=by omega
 have vw:i≤n+1:=by omega
 have hi2:¬(G=i):=by omega
 have hi3:¬(c=i):=by omega
 have hcz2:(c:Int)<(n:Int)+1:=by omega
 have ry:=zh hl;clear m7 hg1 hv1 e1 e2 e3 hc0 rA hc1 hc2 hcd hZ vA hG hkk hik hold m8 gq hcells hcl hR hcs hh hcm h hl hx hvl uy gM vz
 go_enter Tryz.func126,Tryz.ntmps126
 go_wp2_with (first
  |(at_builtin;refine Lib.wpList_append_run _ rfl _ _ _ _ rfl _ _ rfl rfl _ _ (vB _) ?_)
  |(at_builtin;refine wpList_copy_runI _ rfl _ _ 25 25 rfl _ _ rfl rfl (vC _ hE _ _) ?_))
 go_region_law_o (refine step_copy_runI rfl _ _ 25 25 rfl (.slice (some ⟨w.heap.size,(i+1)* 4,none⟩) (n - i) (G - (i+1))) (.slice (some ⟨g,i* 4,none⟩) (n - i) (c - i)) (by simp[Act.eval,Act.put]) (by simp[Act.eval,Act.put]) (vD _ hF 3 (G - (i+1)) (c - i)) ?_)
 go_wp2
 go_ret
 obtain⟨q1,q2⟩:=mJ.out (((w.alloc (.cells c0.toArray 90)).drew.setRow w.heap.size c1.toArray).drew.setRow w.heap.size c2.toArray) rfl rfl rfl rfl;exact⟨some ⟨w.heap.size,0,none⟩,G,by rw[ry.out];rfl,by rw[ry.out];exact q1,q2,.inr rfl⟩
theorem Xc {w:World}{base:Nat}{S:Nat→Prop}{A:Option Addr}{n c i vb:Nat}{l:List Tag}{x:Tag}{vs:List Value}(h:Be 94 Bz w base S A n c l) (hi:i≤n) (hn:n≤1000000) (hbase:base≤w.heap.size)
  (hv:w.heap[vb]?=some (.cells vs.toArray 94 (0,0))) (hx:Bz.R w (fun b=>S b∧some b≠qa A) vs x) (hvA:some vb≠qa A):
  Calls Tryz.prog 129 #[.slice A n c,.int .i64 (i:Int),.slice (some ⟨vb,0,none⟩) 1 1] w (EM 94 Bz w base S A l i x):=by
 have hl:=h.len;have hle:=h.le;obtain⟨i0,nG,hz0,hz1,hz2⟩:=info_parts Tryz.CB;have hvl:vs.length=2:=Bz.len hx;have uy:=Bz.one hx;by_cases hend:i=n
 ·subst hend;have hNC:=zh hle;have HH:=zh h;clear h hl;rcases Nat.eq_zero_or_pos i with e|e
  ·subst e
   cases A with
   |none=>
    go_enter Tryz.func129,Tryz.ntmps129
    go_wp2_with (at_builtin;refine qq rfl _ _ 26 rfl i0 (.agg #[.string ByteArray.empty,.string ByteArray.empty]) 32 Tryz.underlying26 nG hz0 hz1 hz2 rfl (show 0<2 by decide) rfl HH.out vb 94 1 vs x rfl hv hx (by omega) (by omega) hbase ?_)
    all_goals
     intro A9 c9 w9 hown hg hat;go_wp2
     go_ret
     exact⟨A9,c9,by rw[HH.out.len];rfl,by rw[show xj 0 x l=l++[x] by have:=zT (x:=x) (l:=l);rwa [HH.out.len] at this,HH.out.len];exact hown,hg,hat⟩
   |some ad=>
    go_enter Tryz.func129,Tryz.ntmps129
    go_wp2_with (at_builtin;refine qq rfl _ _ 26 rfl i0 (.agg #[.string ByteArray.empty,.string ByteArray.empty]) 32 Tryz.underlying26 nG hz0 hz1 hz2 rfl (show 0<2 by decide) rfl HH.out vb 94 1 vs x rfl hv hx (by omega) (by omega) hbase ?_)
    all_goals
     intro A9 c9 w9 hown hg hat;go_wp2
     go_ret
     exact⟨A9,c9,by rw[HH.out.len];rfl,by rw[show xj 0 x l=l++[x] by have:=zT (x:=x) (l:=l);rwa [HH.out.len] at this,HH.out.len];exact hown,hg,hat⟩
  obtain⟨g,eA,_,_⟩:=HH.out.form e;subst eA
  go_enter Tryz.func129,Tryz.ntmps129
  go_wp2_with (at_builtin;refine qq rfl _ _ 26 rfl i0 (.agg #[.string ByteArray.empty,.string ByteArray.empty]) 32 Tryz.underlying26 nG hz0 hz1 hz2 rfl (show 0<2 by decide) rfl HH.out vb 94 1 vs x rfl hv hx (by omega) (by omega) hbase ?_)
  all_goals
   intro A9 c9 w9 hown hg hat;go_wp2
   go_ret
   exact⟨A9,c9,by rw[HH.out.len];rfl,by rw[show xj i x l=l++[x] by have:=zT (x:=x) (l:=l);rwa [HH.out.len] at this,HH.out.len];exact hown,hg,hat⟩
 obtain⟨g,cur,eA,hgb,hgl,hh,hnc,hcm,hcs,hR,_⟩:=h.row (.inl (by omega));subst eA;have hcs:cur.size=c* 2:=hcs;have hR:Reads Bz w (fun b=>S b∧some b≠some g) (cur.toList.take (n* 2)) l:=hR;have yU:vb≠g:=fun e=>hvA (by rw[e];rfl);have uI:c≤9223372036854775807:=hle.2;have hN:n* 2≤c* 2:=Nat.mul_le_mul_right _ hnc;have hsz:(Tryz.prog.info? 94).map (·.size)=some 2:=by rw[nG];simp[hz1]
 have vv:¬((1:Int)=0):=by decide
 have mixed:Tryz.prog.follows .mixedOrders=true:=by kernel_rfl
 have hw1:IntKind.i64.wrap ((i:Int)+1)=(i:Int)+1:=by rw[IntKind.wrap_i64];omega
 have hb1:(0:Int)≤(i:Int)+1:=by omega
 have htn:((i:Int)+1).toNat=i+1:=by omega
 have hb3:(i:Int)≤(n:Int)+1:=by omega
 have hb3':(i:Int)≤(n:Int):=by omega
 have hine:¬((i:Int)=(n:Int)):=by omega
 have hin:i<n:=by omega
 have gM:∀(W:World),W.heap[vb]?=w.heap[vb]?→∀j v,vs[j]?=some v→W.cell? ((⟨vb,0,none⟩:Addr).add j)=some v:=fun W hW j v hj=>by
  rw[Addr.add_lit];exact(cell_of_row W vb _ _ _ _ (hW.trans hv)).trans (by simpa using hj)
 have hcells:=hR.cells;have hcl:(cur.toList.take (n* 2)).length=n* 2:=by rw[List.length_take,Array.length_toList];omega
 have m8:((cur.toList.take (n* 2)).drop (i* 2)).length=(n - i)* 2:=by rw[List.length_drop,hcl,Nat.sub_mul]
 have gq:∀(W:World),W.heap[g]?=w.heap[g]?→∀j v,((cur.toList.take (n* 2)).drop (i* 2))[j]?=some v→W.cell? ((⟨g,i* 2,none⟩:Addr).add j)=some v:=fun W hW j v hj=>by
  rw[Addr.add_lit];have uR:j<(n - i)* 2:=by have:=(List.getElem?_eq_some_iff.1 hj).1;omega
  rw[List.getElem?_drop,List.getElem?_take_of_lt (by omega)] at hj;exact(cell_of_row W g _ _ _ _ (hW.trans hh)).trans (by simpa using hj)
 by_cases hroom:n+1≤c
 ·have hov:∀lb cb o,(callFunc 144 #[.slice (some ⟨vb,0,none⟩) 1 1,.slice (some ⟨g,o,none⟩) lb cb]).run Tryz.prog w=.ok (.value (.bool false)) w:=fun lb cb o=>by
   rw[run_callFunc_extern Tryz.func144 (by kernel_rfl) (by kernel_rfl) (by kernel_rfl) (e:=Extern.SlicesOverlaps.overlaps #[26,26] #[4]) (by kernel_rfl),
    Lib.run_overlaps_apart w 26 4 94 Tryz.underlying26 2 Tryz.sizeOf94 ⟨vb,0,none⟩ ⟨g,o,none⟩ 1 1 lb cb yU 94 94 2 (c* 2) (by rw[qf hv];simp[hvl]) (by rw[qf hh,hcs]) (by omega) (frozen_of_row w vb _ _ _ hv) (frozen_of_row w vb _ _ _ hv)]
   rfl
  obtain⟨cells,hcd⟩:∃cells,cells=(cur.toList.take (n* 2)).drop (i* 2):=⟨_,rfl⟩;rw[←hcd] at m8 gq;obtain⟨e1,e2,e3⟩:=jU (L:=cur.toList) (vs:=vs) (a:=i* 2) (z:=2) (N:=n* 2) hvl (Nat.mul_le_mul_right _ hi) (by rw[Array.length_toList];have:=Nat.mul_le_mul_right 2 hroom;omega);rw[←hcd] at e1 e2 e3;obtain⟨c1,hc1⟩:∃c1,c1=(cur.toList.take (i* 2+2)++cells++cur.toList.drop (i* 2+2+cells.length)):=⟨_,rfl⟩;rw[←hc1] at e1 e2 e3;have hfit:n* 2+2≤c* 2:=by have:=Nat.mul_le_mul_right 2 hroom;omega
  have yh:i* 2+(n - i)* 2=n* 2:=by rw[←Nat.add_mul];congr 1;omega
  have ru:∀ty dc sc,(Builtin.copy_ #[26,26] ty #[.slice (some ⟨g,(i+1)* 2,none⟩) (n - i) dc,.slice (some ⟨g,i* 2,none⟩) (n+1 - i) sc]).run Tryz.prog w.drew=.ok (goInt (Nat.min (n+1 - i) (n - i):Nat)) (w.drew.setRow g c1.toArray):=fun ty dc sc=>by
   rw[show(i+1)* 2=i* 2+2 by omega,hc1];refine qC w.drew 26 26 ty 94 2 g (i* 2+2) _ dc ⟨g,i* 2,none⟩ _ sc cur 94 cells Tryz.underlying26 hsz hh ?_ (gq w.drew rfl) ?_ (fun v hv=>hcells v (List.mem_of_mem_drop (by rw[←hcd];exact hv)))
   ·rw[m8];congr 1;simp only[Nat.min_def];split<;>omega
   rw[m8];omega
  obtain⟨W1,hW1⟩:∃W1,W1=w.drew.setRow g c1.toArray:=⟨_,rfl⟩;rw[←hW1] at ru;have m7:W1.heap[g]?=some (.cells c1.toArray 94 (0,0)):=by rw[hW1];exact setRow_heap _ g cur _ 94 (0,0) hh
  have hv1:W1.heap[vb]?=w.heap[vb]?:=by rw[hW1];exact setRow_other _ g vb _ yU
  obtain⟨c2,hc2⟩:∃c2,c2=(c1.take (i* 2)++vs++c1.drop (i* 2+vs.length)):=⟨_,rfl⟩;rw[←hc2] at e1 e2
  have rx:∀ty dc,(Builtin.copy_ #[26,26] ty #[.slice (some ⟨g,i* 2,none⟩) (n+1 - i) dc,.slice (some ⟨vb,0,none⟩) 1 1]).run Tryz.prog W1=.ok (goInt (Nat.min 1 (n+1 - i):Nat)) (W1.setRow g c2.toArray):=fun ty dc=>by
   have:=qC (P:=Tryz.prog) W1 26 26 ty 94 2 g (i* 2) (n+1 - i) dc ⟨vb,0,none⟩ 1 1 c1.toArray 94 vs Tryz.underlying26 hsz m7 (by rw[hvl];simp only[Nat.min_def];split<;>omega) (gM W1 hv1) (by rw[hvl,List.size_toArray,e3,Array.length_toList,hcs];have:=Nat.mul_le_mul_right 2 hi;omega) uy;rw[hc2];exact this
  obtain⟨W2,hW2⟩:∃W2,W2=W1.setRow g c2.toArray:=⟨_,rfl⟩;rw[←hW2] at rx;have pA:W2.heap[g]?=some (.cells c2.toArray 94 (0,0)):=by rw[hW2];exact setRow_heap _ g _ _ 94 (0,0) m7
  have hgr:w.grownBy W2 (some g):=by
   rw[hW2,hW1];exact⟨rfl,rfl,rfl,by simp,fun k _ hk=>(setRow_other _ g k _ (fun e=>hk (by rw[e]))).trans (setRow_other _ g k _ (fun e=>hk (by rw[e])))⟩
  have HOWN:Hid (Be 94 Bz W2 base S (some ⟨g,0,none⟩) (n+1) c (xj i x l)):=zh (by
   refine Be.Cc hgb pA hroom hcm (by rw[List.size_toArray,e2,Array.length_toList];exact hcs) ?_ (by rw[xk (by omega),hl]);have hA:Agree (fun b=>S b∧some b≠some g) w W2:=Agree.grown hgr (fun b hb=>hb.2);have h1:=(hR.take (i:=i) (by omega)).append ((Reads.one hx).append (hR.drop (i:=i)))
   have e4:c2.toArray.toList.take ((n+1)* Bz.sz)=(cur.toList.take (n* 2)).take (i* 2)++(vs++(cur.toList.take (n* 2)).drop (i* 2)):=by
    rw[show(n+1)* Bz.sz=n* 2+2 from Nat.succ_mul n 2,←hcd];exact e1
   rw[e4]
   exact h1.frame hA hgr.size)
  have pN:=zh hgr;have hi1:¬(c=i+1):=by omega
  have vw:i≤n+1:=by omega
  have hi2:¬(c=i):=by omega
  have ry:=zh hl;clear hW1 hW2 hgr m7 pA e1 e2 e3 hc1 hc2 hcd m8 gq hcells hcl hR hcs hh hcm h hv1 hl hx hvl uy gM
  go_enter Tryz.func129,Tryz.ntmps129
  go_wp2_with (simp only[hov])
  go_region_law_o (refine step_copy_runI rfl _ _ 26 26 rfl _ _ (by simp[Act.eval,Act.put]) (by simp[Act.eval,Act.put]) (ru _ _ _) ?_)
  go_wp2_with (at_builtin;refine wpList_copy_runI _ rfl _ _ 26 26 rfl _ _ rfl rfl (rx _ _) ?_)
  go_ret
  exact⟨some ⟨g,0,none⟩,c,by rw[ry.out];rfl,by rw[ry.out];exact HOWN.out,pN.out,.inl rfl⟩
 obtain⟨cells,hcd⟩:∃cells,cells=cur.toList.take (n* 2):=⟨_,rfl⟩;rw[←hcd] at m8 gq hcells hcl hR;have hcz:c<n+1:=by omega
 have hbig:(n+1)* 32≤140737488355328:=by omega
 have hold:(Builtin.firstCells i0.size i (.slice (some ⟨g,0,none⟩) i c)).run Tryz.prog w.drew=.ok (cells.take (i* 2)).toArray w.drew:=by
  rw[hz1]
  exact run_firstCells_some w.drew 2 i ⟨g,0,none⟩ i c (cells.take (i* 2)) (by rw[List.length_take,hcl];have:=Nat.mul_le_mul_right 2 hi;omega) (fun j v hj=>by
   rw[Addr.add_lit,Nat.zero_add];rw[List.getElem?_take] at hj
   split at hj
   ·rw[hcd,List.getElem?_take] at hj
    split at hj
    ·exact(cell_of_row w.drew g _ _ _ _ hh).trans (by simpa using hj)
    cases hj
   cases hj)
 have hkk:(n:Int)+1 - (i:Int)=((n+1 - i:Nat):Int):=by omega
 have hik:i+(n+1 - i)=n+1:=by omega
 obtain⟨G,hG⟩:∃G,G=grownCap w (n+1) c 94:=⟨_,rfl⟩;have rz:n+1≤G:=by rw[hG];exact grownCap_ge w _ _ _
 have vz:G≤maxLen:=by rw[hG];exact grownCap_le_maxLen w (n+1) c 94 (by unfold maxLen;omega)
 have hG63:G≤9223372036854775807:=by unfold maxLen at vz;omega
 obtain⟨Z,hZ⟩:∃Z,Z=(Builtin.zeroCells (.agg #[.string ByteArray.empty,.string ByteArray.empty]:Value).cells (n+1 - i)).toList++(Builtin.zeroCells (.agg #[.string ByteArray.empty,.string ByteArray.empty]:Value).cells (G - (n+1))).toList:=⟨_,rfl⟩;have hzc:(.agg #[.string ByteArray.empty,.string ByteArray.empty]:Value).cells.size=2:=rfl
 have vA:Z.length=G* 2 - i* 2:=by
  rw[hZ,List.length_append,Array.length_toList,Array.length_toList,size_zeroCells,size_zeroCells,hzc];omega
 have vB:∀ty,(Builtin.append_ #[26,3] ty #[.slice (some ⟨g,0,none⟩) i c,.int .i64 ((n:Int)+1 - (i:Int))]).run Tryz.prog w=
   .ok (.slice (some ⟨w.heap.size,0,none⟩) (n+1) G) (w.drew.alloc (.cells (cells.take (i* 2)++Z).toArray 94)):=fun ty=>by
  have h:=Lib.run_append_grow_zeros w 26 3 ty 94 i0 _ .i64 .i64 Tryz.underlying26 Tryz.underlying3 nG hz0 (some ⟨g,0,none⟩) i c (cells.take (i* 2)) hold (n+1 - i) (by omega) (by omega) (by omega) (by omega) (by rw[hz2];omega) (by rw[hz2,hik];exact growslice_fits hcz hbig);rw[hik,←hG] at h;rw[hkk,h,hZ]
  congr 3
  simp
 obtain⟨e1,e2,e3⟩:=xD (L:=cells) (Z:=Z) (vs:=vs) (a:=i* 2) (z:=2) (N:=n* 2) (G:=G* 2) hvl (Nat.mul_le_mul_right _ hi) hcl vA (by have:=Nat.mul_le_mul_right 2 rz;omega);obtain⟨c0,hc0⟩:∃c0,c0=cells.take (i* 2)++Z:=⟨_,rfl⟩;rw[←hc0] at vB e1 e2 e3;have rA:c0.length=G* 2:=by rw[hc0,List.length_append,List.length_take,hcl,vA];have:=Nat.mul_le_mul_right 2 hi;have:=Nat.mul_le_mul_right 2 rz;omega
 obtain⟨c1,hc1⟩:∃c1,c1=c0.take (i* 2)++vs++c0.drop (i* 2+vs.length):=⟨_,rfl⟩;rw[←hc1] at e1 e2 e3;obtain⟨c2,hc2⟩:∃c2,c2=c1.take (i* 2+2)++cells.drop (i* 2)++c1.drop (i* 2+2+(cells.drop (i* 2)).length):=⟨_,rfl⟩;rw[←hc2] at e1 e3;have hgw:=hgl;have hvw:vb<w.heap.size:=(zl hv);obtain⟨W1,hW1⟩:∃W1,W1=w.drew.alloc (.cells c0.toArray 94):=⟨_,rfl⟩;have m7:W1.heap[w.heap.size]?=some (.cells c0.toArray 94 (0,0)):=by rw[hW1];exact heap_alloc_new w.drew _
 have hg1:W1.heap[g]?=w.heap[g]?:=by rw[hW1];exact Below.heap_alloc w.drew _ _ hgl
 have hv1:W1.heap[vb]?=w.heap[vb]?:=by rw[hW1];exact Below.heap_alloc w.drew _ _ hvw
 have vC:∀(W:World),W.heap=W1.heap→∀ty dc,(Builtin.copy_ #[26,26] ty #[.slice (some ⟨w.heap.size,i* 2,none⟩) (n+1 - i) dc,.slice (some ⟨vb,0,none⟩) 1 1]).run Tryz.prog W=.ok (goInt (Nat.min 1 (n+1 - i):Nat)) (W.setRow w.heap.size c1.toArray):=fun W hW ty dc=>by
  have:=qC (P:=Tryz.prog) W 26 26 ty 94 2 w.heap.size (i* 2) (n+1 - i) dc ⟨vb,0,none⟩ 1 1 c0.toArray 94 vs Tryz.underlying26 hsz (by rw[hW];exact m7) (by rw[hvl];simp only[Nat.min_def];split<;>omega) (gM W (by rw[hW];exact hv1)) (by rw[hvl,List.size_toArray,rA];have:=Nat.mul_le_mul_right 2 hi;have:=Nat.mul_le_mul_right 2 rz;omega) uy;rw[hc1];exact this
 have vD:∀(W:World),W.heap=(W1.setRow w.heap.size c1.toArray).heap→∀ty dc sc,(Builtin.copy_ #[26,26] ty #[.slice (some ⟨w.heap.size,(i+1)* 2,none⟩) (n - i) dc,.slice (some ⟨g,i* 2,none⟩) (n - i) sc]).run Tryz.prog W=.ok (goInt (Nat.min (n - i) (n - i):Nat)) (W.setRow w.heap.size c2.toArray):=fun W hW ty dc sc=>by
  have hrow:W.heap[w.heap.size]?=some (.cells c1.toArray 94 (0,0)):=by rw[hW];exact setRow_heap _ _ _ _ 94 (0,0) m7
  have hrg:W.heap[g]?=w.heap[g]?:=by rw[hW];exact(setRow_other _ _ g _ (by omega)).trans hg1
  rw[show(i+1)* 2=i* 2+2 by omega,hc2];refine qC (P:=Tryz.prog) W 26 26 ty 94 2 w.heap.size (i* 2+2) _ dc ⟨g,i* 2,none⟩ _ sc c1.toArray 94 (cells.drop (i* 2)) Tryz.underlying26 hsz hrow ?_ (gq W hrg) ?_ (fun v hv=>hcells v (List.mem_of_mem_drop hv))
  ·rw[m8];congr 1;simp only[Nat.min_def];split<;>omega
  rw[m8,List.size_toArray,e2];have:=Nat.mul_le_mul_right 2 rz;rw[Nat.sub_mul];have:=Nat.mul_le_mul_right 2 hi;omega
 have mJ:Hid (∀W:World,W.heap=((W1.setRow w.heap.size c1.toArray).setRow w.heap.size c2.toArray).heap→W.os=w.os→W.tape=w.tape→W.output=w.output→Be 94 Bz W base S (some ⟨w.heap.size,0,none⟩) (n+1) G (xj i x l)∧w.grownBy W (some g)):=zh (fun W hW ho ht hu=>by
  have hgr:w.grownBy W (some g):=⟨ho,ht,hu,by rw[hW,setRow_size,setRow_size,hW1];simp,fun k hk _=>by rw[hW,setRow_other _ _ k _ (by omega),setRow_other _ _ k _ (by omega),hW1];exact Below.heap_alloc w.drew _ _ hk⟩;refine⟨?_,hgr⟩;have hrow:W.heap[w.heap.size]?=some (.cells c2.toArray 94 (0,0)):=by rw[hW];exact setRow_heap _ _ _ _ 94 (0,0) (setRow_heap _ _ _ _ 94 (0,0) m7)
  refine Be.Cc hbase hrow rz vz (by rw[List.size_toArray];exact e3) ?_ (by rw[xk (by omega),hl]);have hA:Agree (fun b=>S b∧some b≠some g) w W:=Agree.grown hgr (fun b hb=>hb.2);have h1:=(hR.take (i:=i) (by omega)).append ((Reads.one hx).append (hR.drop (i:=i)))
  have e4:c2.toArray.toList.take ((n+1)* Bz.sz)=cells.take (i* 2)++(vs++cells.drop (i* 2)):=by
   rw[show(n+1)* Bz.sz=n* 2+2 from Nat.succ_mul n 2];exact e1
  rw[e4]
  exact(h1.mono (S':=fun b=>(S b∧some b≠some g)∧some b≠some w.heap.size) (fun b hb hlt=>⟨hb,fun e=>by injection e with e;omega⟩) |>.frame (hA.mono fun b hb _=>hb.1) hgr.size).mono (fun b hb _=>⟨hb.1.1,hb.2⟩))
 subst hW1;have hE:((w.alloc (.cells c0.toArray 94)).drew).heap=(w.drew.alloc (.cells c0.toArray 94)).heap:=rfl;have hF:(((w.alloc (.cells c0.toArray 94)).drew.setRow w.heap.size c1.toArray).drew).heap=((w.drew.alloc (.cells c0.toArray 94)).setRow w.heap.size c1.toArray).heap:=rfl;have hi1:¬(G=i+1):=by omega
 have vw:i≤n+1:=by omega
 have hi2:¬(G=i):=by omega
 have hi3:¬(c=i):=by omega
 have hcz2:(c:Int)<(n:Int)+1:=by omega
 have ry:=zh hl;clear m7 hg1 hv1 e1 e2 e3 hc0 rA hc1 hc2 hcd hZ vA hG hkk hik hold m8 gq hcells hcl hR hcs hh hcm h hl hx hvl uy gM vz
 go_enter Tryz.func129,Tryz.ntmps129
 go_wp2_with (first
  |(at_builtin;refine Lib.wpList_append_run _ rfl _ _ _ _ rfl _ _ rfl rfl _ _ (vB _) ?_)
  |(at_builtin;refine wpList_copy_runI _ rfl _ _ 26 26 rfl _ _ rfl rfl (vC _ hE _ _) ?_))
 go_region_law_o (refine step_copy_runI rfl _ _ 26 26 rfl (.slice (some ⟨w.heap.size,(i+1)* 2,none⟩) (n - i) (G - (i+1))) (.slice (some ⟨g,i* 2,none⟩) (n - i) (c - i)) (by simp[Act.eval,Act.put]) (by simp[Act.eval,Act.put]) (vD _ hF 3 (G - (i+1)) (c - i)) ?_)
 go_wp2
 go_ret
 obtain⟨q1,q2⟩:=mJ.out (((w.alloc (.cells c0.toArray 94)).drew.setRow w.heap.size c1.toArray).drew.setRow w.heap.size c2.toArray) rfl rfl rfl rfl;exact⟨some ⟨w.heap.size,0,none⟩,G,by rw[ry.out];rfl,by rw[ry.out];exact q1,q2,.inr rfl⟩
end Go.Proofs.YtipecejghioicaaGreat
