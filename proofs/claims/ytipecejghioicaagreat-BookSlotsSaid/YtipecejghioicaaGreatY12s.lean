/- Slices.Delete of one element at rows of structures of one's own. -/
import Derived.Test.YtipecejghioicaaGreatY4s
import Derived.Deep.RegionLaw
import Derived.Lib.SliceRun
import Derived.Test.YtipecejghioicaaGreatP0s
set_option maxHeartbeats 4000000
set_option maxRecDepth 100000
namespace Go.Silo
open Go Go.RowKit
theorem zX {P:Program}(w:World) (t e ty:TypeId) (z:Value) (vs:List Value) (ht:P.underlying t=some (.slice e)) (hv:∀w,(zeroValue e).run P w=.ok z w) (hz:(Builtin.zeroCells z.cells 1).toList=vs) (h1:∀v∈vs,v.oneCell'=true)
  (g o c:Nat) (cur:Array Value) (T:TypeId) (hg:w.heap[g]?=some (.cells cur T (0,0))) (hfit:o+vs.length≤cur.size):
  (Builtin.clear_ #[t] ty #[.slice (some ⟨g,o,none⟩) 1 c]).run P w=.ok (.tuple #[]) (w.setRow g (cur.toList.take o++vs++cur.toList.drop (o+vs.length)).toArray):=by
 have hst:=run_storeCells_at P g o T vs 0 cur w hg (by simpa using hfit) h1;simp[Builtin.clear_,run_underlying ht,hv,hz,hst]
def qN {α:Type}(i:Nat) (l:List α):List α:=l.take i++l.drop (i+1)
theorem xI {α:Type}{i:Nat}{l:List α}(h:i<l.length):(qN i l).length=l.length - 1:=by simp[qN];omega
def DI {α:Type}(T:TypeId) (E:Enc α) (w:World) (base:Nat) (S:Nat→Prop) (A:Option Addr) (n c:Nat) (l:List α) (i:Nat) (e:Ending) (w':World):Prop:=
 e=.returned (.slice A (n - 1) c)∧Be T E w' base S A (n - 1) c (qN i l)∧w.grownBy w' (qa A)
theorem jh {L Z:List Value}{a z N:Nat}(hz:Z.length=z) (ha:a+z≤N) (hN:N≤L.length):
  ((L.take a++(L.take N).drop (a+z)++L.drop (a+((L.take N).drop (a+z)).length)).take (N - z)++Z++(L.take a++(L.take N).drop (a+z)++L.drop (a+((L.take N).drop (a+z)).length)).drop (N - z+Z.length)).take (N - z)=(L.take N).take a++(L.take N).drop (a+z)∧
  (L.take a++(L.take N).drop (a+z)++L.drop (a+((L.take N).drop (a+z)).length)).length=L.length∧
  ((L.take a++(L.take N).drop (a+z)++L.drop (a+((L.take N).drop (a+z)).length)).take (N - z)++Z++(L.take a++(L.take N).drop (a+z)++L.drop (a+((L.take N).drop (a+z)).length)).drop (N - z+Z.length)).length=L.length:=by
 have h1:((L.take N).drop (a+z)).length=N - (a+z):=by rw[List.length_drop,List.length_take,Nat.min_eq_left hN]
 have h2:(L.take a).length=a:=by rw[List.length_take,Nat.min_eq_left (by omega)]
 have h3:(L.take a++(L.take N).drop (a+z)).length=N - z:=by rw[List.length_append,h1,h2];omega
 have h4:(L.take a++(L.take N).drop (a+z)++L.drop (a+((L.take N).drop (a+z)).length)).length=L.length:=by rw[List.length_append,h3,List.length_drop,h1];omega
 have e1:(L.take a++(L.take N).drop (a+z)++L.drop (a+((L.take N).drop (a+z)).length)).take (N - z)=L.take a++(L.take N).drop (a+z):=List.take_left' h3;refine⟨?_,h4,?_⟩
 ·rw[e1,List.append_assoc,List.take_left' h3,List.take_take,Nat.min_eq_left (by omega)]
 have hX:∀X:List Value,X.length=L.length→(X.take (N - z)++Z++X.drop (N - z+Z.length)).length=L.length:=fun X hX=>by simp only[List.length_append,List.length_take,List.length_drop,hX,hz];omega
 exact hX _ h4
end Go.Silo
namespace Go.Proofs.YtipecejghioicaaGreat
open Go.RowKit Go.Silo
theorem Qr {tg:Bool}{w:World}{base:Nat}{S:Nat→Prop}{A:Option Addr}{n c i:Nat}{l:List Bb}(h:Be 86 (qe tg) w base S A n c l) (hi:i<n) (hn:n≤1000000):
  Calls Tryz.prog 123 #[.slice A n c,.int .i64 (i:Int),.int .i64 ((i:Int)+1)] w (DI 86 (qe tg) w base S A n c l i):=by
 obtain⟨i0,nG,hz0,hz1,hz2⟩:=info_parts Tryz.Cj;have mixed:Tryz.prog.follows .mixedOrders=true:=by kernel_rfl
 obtain⟨g,cur,eA,hgb,hgl,hh,hnc,hcm,hcs,hR,hl⟩:=h.row (.inl (by omega));subst eA;have uI:c≤9223372036854775807:=h.le.2;have hcs:cur.size=c* 4:=hcs;have hR:Reads (qe tg) w (fun b=>S b∧some b≠some g) (cur.toList.take (n* 4)) l:=hR;obtain⟨m,rfl⟩:∃m,n=m+1:=⟨n - 1,by omega⟩;have hN:(m+1)* 4≤c* 4:=Nat.mul_le_mul_right _ hnc;have yh:i* 4+4≤(m+1)* 4:=by have:=Nat.mul_le_mul_right 4 (show i+1≤m+1 by omega);omega
 obtain⟨news,hnw⟩:∃news,news=(cur.toList.take ((m+1)* 4)).drop (i* 4+4):=⟨_,rfl⟩;have hnl:news.length=(m - i)* 4:=by rw[hnw,List.length_drop,List.length_take,Array.length_toList,Nat.min_eq_left (by omega),Nat.sub_mul];omega
 obtain⟨e1,e2,e3⟩:=jh (L:=cur.toList) (Z:=[.int .i64 0,.int .i64 0,.int .i64 0,.slice none 0 0]) (a:=i* 4) (z:=4) (N:=(m+1)* 4) rfl yh (by rw[Array.length_toList];omega);rw[←hnw] at e1 e2 e3;rw[show(m+1)* 4 - 4=m* 4 by omega] at e1 e3;obtain⟨c1,hc1⟩:∃c1,c1=cur.toList.take (i* 4)++news++cur.toList.drop (i* 4+news.length):=⟨_,rfl⟩;rw[←hc1] at e1 e2 e3;obtain⟨c2,hc2⟩:∃c2,c2=c1.take (m* 4)++[.int .i64 0,.int .i64 0,.int .i64 0,.slice none 0 0]++c1.drop (m* 4+([.int .i64 0,.int .i64 0,.int .i64 0,.slice none 0 0]:List Value).length):=⟨_,rfl⟩;rw[←hc2] at e1 e3
 obtain⟨A',hA',hsrc⟩:∃A':Addr,(if c=i+1 then some (⟨g,0,none⟩:Addr) else some ⟨g,(i+1)* 4,none⟩)=some A'∧Hid (∀t u,news[t]?=some u→w.drew.cell? (A'.add t)=some u):=by
  by_cases hce:c=i+1
  ·refine⟨⟨g,0,none⟩,by simp[hce],zh (fun t u hu=>?_)⟩;have h0:news.length=0:=(by rw[hnl,show m - i=0 by omega,Nat.zero_mul]);rw[List.length_eq_zero_iff.1 h0] at hu;simp at hu
  refine⟨⟨g,(i+1)* 4,none⟩,by simp[hce],zh (fun t u hu=>?_)⟩;rw[Addr.add_lit,show(i+1)* 4=i* 4+4 by omega];have ht:t<(m - i)* 4:=by have:=(List.getElem?_eq_some_iff.1 hu).1;omega
  rw[hnw,List.getElem?_drop,List.getElem?_take_of_lt (by rw[Nat.sub_mul] at ht;omega)] at hu;exact(cell_of_row w.drew g _ _ _ _ hh).trans (by simpa using hu)
 have uU:Hid (news.length=(m - i)* 4):=zh hnl;have yj:Hid (∀u∈news,u.oneCell'=true):=zh (fun u hu=>hR.cells u (List.mem_of_mem_drop (by rw[←hnw];exact hu)))
 have uV:Hid (∀t,t<news.length→(w.drew.cell? ⟨g,0+i* 4+t,none⟩).isSome=true∧w.drew.frozen? ⟨g,0+i* 4+t,none⟩=false):=zh (fun t ht=>by
  have h1:t<(m - i)* 4:=by omega
  refine⟨?_,frozen_of_row w.drew g _ _ _ hh⟩
  rw[cell_of_row w.drew g _ _ _ _ hh,Array.getElem?_eq_getElem (by rw[Nat.sub_mul] at h1;omega)];rfl)
 obtain⟨W1,hW1⟩:∃W1,W1=w.drew.setCells g (0+i* 4) news:=⟨_,rfl⟩
 have m7:W1.heap[g]?=some (.cells c1.toArray 86 (0,0)):=by
  rw[hW1,hc1,Nat.zero_add];exact zJ news (i* 4) cur w.drew hh (by rw[hnl,Nat.sub_mul];omega)
 have hcl:∀ty cc,(Builtin.clear_ #[24] ty #[.slice (some ⟨g,m* 4,none⟩) 1 cc]).run Tryz.prog W1=.ok (.tuple #[]) (W1.setRow g c2.toArray):=fun ty cc=>by
  have:=zX (P:=Tryz.prog) W1 24 86 ty (.agg #[.int .i64 0,.int .i64 0,.int .i64 0,.slice none 0 0]) [.int .i64 0,.int .i64 0,.int .i64 0,.slice none 0 0] Tryz.underlying24 Tryz.zeroValue86 (by first|rfl|decide|(simp[Builtin.zeroCells,Value.cells];done)|(simp[Builtin.zeroCells,Value.cells];rfl)|kernel_rfl) (by simp[Value.oneCell']) g (m* 4) cc c1.toArray 86 m7 (by rw[List.size_toArray,e2,Array.length_toList];show m* 4+4≤cur.size;omega);rw[hc2];exact this
 obtain⟨W2,hW2⟩:∃W2,W2=W1.setRow g c2.toArray:=⟨_,rfl⟩;rw[←hW2] at hcl;have pA:W2.heap[g]?=some (.cells c2.toArray 86 (0,0)):=by rw[hW2];exact setRow_heap _ g _ _ 86 (0,0) m7
 have hg1:w.grownBy W1 (some g):=by
  rw[hW1];obtain⟨a,b,c,d,e⟩:=zD (g:=g) news (0+i* 4) w.drew;exact⟨a,b,c,d,e⟩
 have hgr:w.grownBy W2 (some g):=⟨by rw[hW2];exact hg1.os,by rw[hW2];exact hg1.tape,by rw[hW2];exact hg1.output,by rw[hW2,setRow_size];exact hg1.size,fun k hk hne=>by
  rw[hW2];refine(setRow_other _ g k _ (fun e=>hne (by rw[e]))).trans ?_
  rw[hW1];exact qV (fun e=>hne (by rw[e])) _ _ _⟩
 have HOWN:Hid (Be 86 (qe tg) W2 base S (some ⟨g,0,none⟩) m c (qN i l)):=zh (by
  refine Be.Cc hgb pA (by omega) hcm (by rw[List.size_toArray];exact e3.trans (by rw[Array.length_toList];exact hcs)) ?_ (by rw[xI (by omega)];omega);have h1:=(hR.take (i:=i) (by omega)).append (hR.drop (i:=i+1))
  have e4:c2.toArray.toList.take (m* (qe tg).sz)=(cur.toList.take ((m+1)* 4)).take (i* 4)++(cur.toList.take ((m+1)* 4)).drop ((i+1)* 4):=by
   rw[show(i+1)* 4=i* 4+4 by omega,←hnw];exact e1
  rw[e4]
  exact h1.frame (Agree.grown hgr (fun b hb=>hb.2)) hgr.size)
 have pN:=zh hgr;have HW:=zh hW1;have hic:i≤c:=by omega
 have hjc:i+1≤c:=by omega
 have hmc:m≤c:=by omega
 have hw1:IntKind.i64.wrap ((i:Int)+1)=(i:Int)+1:=by rw[IntKind.wrap_i64];omega
 have hb1:(0:Int)≤(i:Int)+1:=by omega
 have htn:((i:Int)+1).toNat=i+1:=by omega
 have hne:¬((i:Int)=(i:Int)+1):=by omega
 have him:i+(m - i)=m:=by omega
 have hmm:m+1 - (i+1)=m - i:=by omega
 have hsub:m+1 - m=1:=by omega
 have him2:(i:Int)≤(m:Int):=by omega
 clear hW1 hW2 hgr hg1 m7 pA e1 e2 e3 hc1 hc2 hnw hnl hR hcs hh hcm h hl
 go_enter Tryz.func123,Tryz.ntmps123
 go_wp2_with fail
 go_region_law_o (refine step_append_room rfl (.tmp 22) (.tmp 25) 24 rfl 86 i0 4 Tryz.underlying24 nG hz1 g 0 i c (by simp[Act.eval,Act.put]) A' (m - i) (c - (i+1)) news (by simp[Act.eval,Act.put]) uU.out hsrc.out yj.out (by omega) uV.out ?_;rw[←HW.out])
 go_wp2
 go_ret
 exact⟨rfl,HOWN.out,pN.out⟩
theorem QS {tg:Bool}{w:World}{base:Nat}{S:Nat→Prop}{A:Option Addr}{n c i:Nat}{l:List Entry}(h:Be 90 (ql tg) w base S A n c l) (hi:i<n) (hn:n≤1000000):
  Calls Tryz.prog 127 #[.slice A n c,.int .i64 (i:Int),.int .i64 ((i:Int)+1)] w (DI 90 (ql tg) w base S A n c l i):=by
 obtain⟨i0,nG,hz0,hz1,hz2⟩:=info_parts Tryz.Cs;have mixed:Tryz.prog.follows .mixedOrders=true:=by kernel_rfl
 obtain⟨g,cur,eA,hgb,hgl,hh,hnc,hcm,hcs,hR,hl⟩:=h.row (.inl (by omega));subst eA;have uI:c≤9223372036854775807:=h.le.2;have hcs:cur.size=c* 4:=hcs;have hR:Reads (ql tg) w (fun b=>S b∧some b≠some g) (cur.toList.take (n* 4)) l:=hR;obtain⟨m,rfl⟩:∃m,n=m+1:=⟨n - 1,by omega⟩;have hN:(m+1)* 4≤c* 4:=Nat.mul_le_mul_right _ hnc;have yh:i* 4+4≤(m+1)* 4:=by have:=Nat.mul_le_mul_right 4 (show i+1≤m+1 by omega);omega
 obtain⟨news,hnw⟩:∃news,news=(cur.toList.take ((m+1)* 4)).drop (i* 4+4):=⟨_,rfl⟩;have hnl:news.length=(m - i)* 4:=by rw[hnw,List.length_drop,List.length_take,Array.length_toList,Nat.min_eq_left (by omega),Nat.sub_mul];omega
 obtain⟨e1,e2,e3⟩:=jh (L:=cur.toList) (Z:=[.string ByteArray.empty,.int .i64 0,.bool false,.slice none 0 0]) (a:=i* 4) (z:=4) (N:=(m+1)* 4) rfl yh (by rw[Array.length_toList];omega);rw[←hnw] at e1 e2 e3;rw[show(m+1)* 4 - 4=m* 4 by omega] at e1 e3;obtain⟨c1,hc1⟩:∃c1,c1=cur.toList.take (i* 4)++news++cur.toList.drop (i* 4+news.length):=⟨_,rfl⟩;rw[←hc1] at e1 e2 e3;obtain⟨c2,hc2⟩:∃c2,c2=c1.take (m* 4)++[.string ByteArray.empty,.int .i64 0,.bool false,.slice none 0 0]++c1.drop (m* 4+([.string ByteArray.empty,.int .i64 0,.bool false,.slice none 0 0]:List Value).length):=⟨_,rfl⟩;rw[←hc2] at e1 e3
 obtain⟨A',hA',hsrc⟩:∃A':Addr,(if c=i+1 then some (⟨g,0,none⟩:Addr) else some ⟨g,(i+1)* 4,none⟩)=some A'∧Hid (∀t u,news[t]?=some u→w.drew.cell? (A'.add t)=some u):=by
  by_cases hce:c=i+1
  ·refine⟨⟨g,0,none⟩,by simp[hce],zh (fun t u hu=>?_)⟩;have h0:news.length=0:=(by rw[hnl,show m - i=0 by omega,Nat.zero_mul]);rw[List.length_eq_zero_iff.1 h0] at hu;simp at hu
  refine⟨⟨g,(i+1)* 4,none⟩,by simp[hce],zh (fun t u hu=>?_)⟩;rw[Addr.add_lit,show(i+1)* 4=i* 4+4 by omega];have ht:t<(m - i)* 4:=by have:=(List.getElem?_eq_some_iff.1 hu).1;omega
  rw[hnw,List.getElem?_drop,List.getElem?_take_of_lt (by rw[Nat.sub_mul] at ht;omega)] at hu;exact(cell_of_row w.drew g _ _ _ _ hh).trans (by simpa using hu)
 have uU:Hid (news.length=(m - i)* 4):=zh hnl;have yj:Hid (∀u∈news,u.oneCell'=true):=zh (fun u hu=>hR.cells u (List.mem_of_mem_drop (by rw[←hnw];exact hu)))
 have uV:Hid (∀t,t<news.length→(w.drew.cell? ⟨g,0+i* 4+t,none⟩).isSome=true∧w.drew.frozen? ⟨g,0+i* 4+t,none⟩=false):=zh (fun t ht=>by
  have h1:t<(m - i)* 4:=by omega
  refine⟨?_,frozen_of_row w.drew g _ _ _ hh⟩
  rw[cell_of_row w.drew g _ _ _ _ hh,Array.getElem?_eq_getElem (by rw[Nat.sub_mul] at h1;omega)];rfl)
 obtain⟨W1,hW1⟩:∃W1,W1=w.drew.setCells g (0+i* 4) news:=⟨_,rfl⟩
 have m7:W1.heap[g]?=some (.cells c1.toArray 90 (0,0)):=by
  rw[hW1,hc1,Nat.zero_add];exact zJ news (i* 4) cur w.drew hh (by rw[hnl,Nat.sub_mul];omega)
 have hcl:∀ty cc,(Builtin.clear_ #[25] ty #[.slice (some ⟨g,m* 4,none⟩) 1 cc]).run Tryz.prog W1=.ok (.tuple #[]) (W1.setRow g c2.toArray):=fun ty cc=>by
  have:=zX (P:=Tryz.prog) W1 25 90 ty (.agg #[.string ByteArray.empty,.int .i64 0,.bool false,.slice none 0 0]) [.string ByteArray.empty,.int .i64 0,.bool false,.slice none 0 0] Tryz.underlying25 Tryz.zeroValue90 (by first|rfl|decide|(simp[Builtin.zeroCells,Value.cells];done)|(simp[Builtin.zeroCells,Value.cells];rfl)|kernel_rfl) (by simp[Value.oneCell']) g (m* 4) cc c1.toArray 90 m7 (by rw[List.size_toArray,e2,Array.length_toList];show m* 4+4≤cur.size;omega);rw[hc2];exact this
 obtain⟨W2,hW2⟩:∃W2,W2=W1.setRow g c2.toArray:=⟨_,rfl⟩;rw[←hW2] at hcl;have pA:W2.heap[g]?=some (.cells c2.toArray 90 (0,0)):=by rw[hW2];exact setRow_heap _ g _ _ 90 (0,0) m7
 have hg1:w.grownBy W1 (some g):=by
  rw[hW1];obtain⟨a,b,c,d,e⟩:=zD (g:=g) news (0+i* 4) w.drew;exact⟨a,b,c,d,e⟩
 have hgr:w.grownBy W2 (some g):=⟨by rw[hW2];exact hg1.os,by rw[hW2];exact hg1.tape,by rw[hW2];exact hg1.output,by rw[hW2,setRow_size];exact hg1.size,fun k hk hne=>by
  rw[hW2];refine(setRow_other _ g k _ (fun e=>hne (by rw[e]))).trans ?_
  rw[hW1];exact qV (fun e=>hne (by rw[e])) _ _ _⟩
 have HOWN:Hid (Be 90 (ql tg) W2 base S (some ⟨g,0,none⟩) m c (qN i l)):=zh (by
  refine Be.Cc hgb pA (by omega) hcm (by rw[List.size_toArray];exact e3.trans (by rw[Array.length_toList];exact hcs)) ?_ (by rw[xI (by omega)];omega);have h1:=(hR.take (i:=i) (by omega)).append (hR.drop (i:=i+1))
  have e4:c2.toArray.toList.take (m* (ql tg).sz)=(cur.toList.take ((m+1)* 4)).take (i* 4)++(cur.toList.take ((m+1)* 4)).drop ((i+1)* 4):=by
   rw[show(i+1)* 4=i* 4+4 by omega,←hnw];exact e1
  rw[e4]
  exact h1.frame (Agree.grown hgr (fun b hb=>hb.2)) hgr.size)
 have pN:=zh hgr;have HW:=zh hW1;have hic:i≤c:=by omega
 have hjc:i+1≤c:=by omega
 have hmc:m≤c:=by omega
 have hw1:IntKind.i64.wrap ((i:Int)+1)=(i:Int)+1:=by rw[IntKind.wrap_i64];omega
 have hb1:(0:Int)≤(i:Int)+1:=by omega
 have htn:((i:Int)+1).toNat=i+1:=by omega
 have hne:¬((i:Int)=(i:Int)+1):=by omega
 have him:i+(m - i)=m:=by omega
 have hmm:m+1 - (i+1)=m - i:=by omega
 have hsub:m+1 - m=1:=by omega
 have him2:(i:Int)≤(m:Int):=by omega
 clear hW1 hW2 hgr hg1 m7 pA e1 e2 e3 hc1 hc2 hnw hnl hR hcs hh hcm h hl
 go_enter Tryz.func127,Tryz.ntmps127
 go_wp2_with fail
 go_region_law_o (refine step_append_room rfl (.tmp 22) (.tmp 25) 25 rfl 90 i0 4 Tryz.underlying25 nG hz1 g 0 i c (by simp[Act.eval,Act.put]) A' (m - i) (c - (i+1)) news (by simp[Act.eval,Act.put]) uU.out hsrc.out yj.out (by omega) uV.out ?_;rw[←HW.out])
 go_wp2
 go_ret
 exact⟨rfl,HOWN.out,pN.out⟩
theorem Xe {w:World}{base:Nat}{S:Nat→Prop}{A:Option Addr}{n c i:Nat}{l:List Tag}(h:Be 94 Bz w base S A n c l) (hi:i<n) (hn:n≤1000000):
  Calls Tryz.prog 130 #[.slice A n c,.int .i64 (i:Int),.int .i64 ((i:Int)+1)] w (DI 94 Bz w base S A n c l i):=by
 obtain⟨i0,nG,hz0,hz1,hz2⟩:=info_parts Tryz.CB;have mixed:Tryz.prog.follows .mixedOrders=true:=by kernel_rfl
 obtain⟨g,cur,eA,hgb,hgl,hh,hnc,hcm,hcs,hR,hl⟩:=h.row (.inl (by omega));subst eA;have uI:c≤9223372036854775807:=h.le.2;have hcs:cur.size=c* 2:=hcs;have hR:Reads Bz w (fun b=>S b∧some b≠some g) (cur.toList.take (n* 2)) l:=hR;obtain⟨m,rfl⟩:∃m,n=m+1:=⟨n - 1,by omega⟩;have hN:(m+1)* 2≤c* 2:=Nat.mul_le_mul_right _ hnc;have yh:i* 2+2≤(m+1)* 2:=by have:=Nat.mul_le_mul_right 2 (show i+1≤m+1 by omega);omega
 obtain⟨news,hnw⟩:∃news,news=(cur.toList.take ((m+1)* 2)).drop (i* 2+2):=⟨_,rfl⟩;have hnl:news.length=(m - i)* 2:=by rw[hnw,List.length_drop,List.length_take,Array.length_toList,Nat.min_eq_left (by omega),Nat.sub_mul];omega
 obtain⟨e1,e2,e3⟩:=jh (L:=cur.toList) (Z:=[.string ByteArray.empty,.string ByteArray.empty]) (a:=i* 2) (z:=2) (N:=(m+1)* 2) rfl yh (by rw[Array.length_toList];omega);rw[←hnw] at e1 e2 e3;rw[show(m+1)* 2 - 2=m* 2 by omega] at e1 e3;obtain⟨c1,hc1⟩:∃c1,c1=cur.toList.take (i* 2)++news++cur.toList.drop (i* 2+news.length):=⟨_,rfl⟩;rw[←hc1] at e1 e2 e3;obtain⟨c2,hc2⟩:∃c2,c2=c1.take (m* 2)++[.string ByteArray.empty,.string ByteArray.empty]++c1.drop (m* 2+([.string ByteArray.empty,.string ByteArray.empty]:List Value).length):=⟨_,rfl⟩;rw[←hc2] at e1 e3
 obtain⟨A',hA',hsrc⟩:∃A':Addr,(if c=i+1 then some (⟨g,0,none⟩:Addr) else some ⟨g,(i+1)* 2,none⟩)=some A'∧Hid (∀t u,news[t]?=some u→w.drew.cell? (A'.add t)=some u):=by
  by_cases hce:c=i+1
  ·refine⟨⟨g,0,none⟩,by simp[hce],zh (fun t u hu=>?_)⟩;have h0:news.length=0:=(by rw[hnl,show m - i=0 by omega,Nat.zero_mul]);rw[List.length_eq_zero_iff.1 h0] at hu;simp at hu
  refine⟨⟨g,(i+1)* 2,none⟩,by simp[hce],zh (fun t u hu=>?_)⟩;rw[Addr.add_lit,show(i+1)* 2=i* 2+2 by omega];have ht:t<(m - i)* 2:=by have:=(List.getElem?_eq_some_iff.1 hu).1;omega
  rw[hnw,List.getElem?_drop,List.getElem?_take_of_lt (by rw[Nat.sub_mul] at ht;omega)] at hu;exact(cell_of_row w.drew g _ _ _ _ hh).trans (by simpa using hu)
 have uU:Hid (news.length=(m - i)* 2):=zh hnl;have yj:Hid (∀u∈news,u.oneCell'=true):=zh (fun u hu=>hR.cells u (List.mem_of_mem_drop (by rw[←hnw];exact hu)))
 have uV:Hid (∀t,t<news.length→(w.drew.cell? ⟨g,0+i* 2+t,none⟩).isSome=true∧w.drew.frozen? ⟨g,0+i* 2+t,none⟩=false):=zh (fun t ht=>by
  have h1:t<(m - i)* 2:=by omega
  refine⟨?_,frozen_of_row w.drew g _ _ _ hh⟩
  rw[cell_of_row w.drew g _ _ _ _ hh,Array.getElem?_eq_getElem (by rw[Nat.sub_mul] at h1;omega)];rfl)
 obtain⟨W1,hW1⟩:∃W1,W1=w.drew.setCells g (0+i* 2) news:=⟨_,rfl⟩
 have m7:W1.heap[g]?=some (.cells c1.toArray 94 (0,0)):=by
  rw[hW1,hc1,Nat.zero_add];exact zJ news (i* 2) cur w.drew hh (by rw[hnl,Nat.sub_mul];omega)
 have hcl:∀ty cc,(Builtin.clear_ #[26] ty #[.slice (some ⟨g,m* 2,none⟩) 1 cc]).run Tryz.prog W1=.ok (.tuple #[]) (W1.setRow g c2.toArray):=fun ty cc=>by
  have:=zX (P:=Tryz.prog) W1 26 94 ty (.agg #[.string ByteArray.empty,.string ByteArray.empty]) [.string ByteArray.empty,.string ByteArray.empty] Tryz.underlying26 Tryz.zeroValue94 (by first|rfl|decide|(simp[Builtin.zeroCells,Value.cells];done)|(simp[Builtin.zeroCells,Value.cells];rfl)|kernel_rfl) (by simp[Value.oneCell']) g (m* 2) cc c1.toArray 94 m7 (by rw[List.size_toArray,e2,Array.length_toList];show m* 2+2≤cur.size;omega);rw[hc2];exact this
 obtain⟨W2,hW2⟩:∃W2,W2=W1.setRow g c2.toArray:=⟨_,rfl⟩;rw[←hW2] at hcl;have pA:W2.heap[g]?=some (.cells c2.toArray 94 (0,0)):=by rw[hW2];exact setRow_heap _ g _ _ 94 (0,0) m7
 have hg1:w.grownBy W1 (some g):=by
  rw[hW1];obtain⟨a,b,c,d,e⟩:=zD (g:=g) news (0+i* 2) w.drew;exact⟨a,b,c,d,e⟩
 have hgr:w.grownBy W2 (some g):=⟨by rw[hW2];exact hg1.os,by rw[hW2];exact hg1.tape,by rw[hW2];exact hg1.output,by rw[hW2,setRow_size];exact hg1.size,fun k hk hne=>by
  rw[hW2];refine(setRow_other _ g k _ (fun e=>hne (by rw[e]))).trans ?_
  rw[hW1];exact qV (fun e=>hne (by rw[e])) _ _ _⟩
 have HOWN:Hid (Be 94 Bz W2 base S (some ⟨g,0,none⟩) m c (qN i l)):=zh (by
  refine Be.Cc hgb pA (by omega) hcm (by rw[List.size_toArray];exact e3.trans (by rw[Array.length_toList];exact hcs)) ?_ (by rw[xI (by omega)];omega);have h1:=(hR.take (i:=i) (by omega)).append (hR.drop (i:=i+1))
  have e4:c2.toArray.toList.take (m* Bz.sz)=(cur.toList.take ((m+1)* 2)).take (i* 2)++(cur.toList.take ((m+1)* 2)).drop ((i+1)* 2):=by
   rw[show(i+1)* 2=i* 2+2 by omega,←hnw];exact e1
  rw[e4]
  exact h1.frame (Agree.grown hgr (fun b hb=>hb.2)) hgr.size)
 have pN:=zh hgr;have HW:=zh hW1;have hic:i≤c:=by omega
 have hjc:i+1≤c:=by omega
 have hmc:m≤c:=by omega
 have hw1:IntKind.i64.wrap ((i:Int)+1)=(i:Int)+1:=by rw[IntKind.wrap_i64];omega
 have hb1:(0:Int)≤(i:Int)+1:=by omega
 have htn:((i:Int)+1).toNat=i+1:=by omega
 have hne:¬((i:Int)=(i:Int)+1):=by omega
 have him:i+(m - i)=m:=by omega
 have hmm:m+1 - (i+1)=m - i:=by omega
 have hsub:m+1 - m=1:=by omega
 have him2:(i:Int)≤(m:Int):=by omega
 clear hW1 hW2 hgr hg1 m7 pA e1 e2 e3 hc1 hc2 hnw hnl hR hcs hh hcm h hl
 go_enter Tryz.func130,Tryz.ntmps130
 go_wp2_with fail
 go_region_law_o (refine step_append_room rfl (.tmp 22) (.tmp 25) 26 rfl 94 i0 2 Tryz.underlying26 nG hz1 g 0 i c (by simp[Act.eval,Act.put]) A' (m - i) (c - (i+1)) news (by simp[Act.eval,Act.put]) uU.out hsrc.out yj.out (by omega) uV.out ?_;rw[←HW.out])
 go_wp2
 go_ret
 exact⟨rfl,HOWN.out,pN.out⟩
end Go.Proofs.YtipecejghioicaaGreat
