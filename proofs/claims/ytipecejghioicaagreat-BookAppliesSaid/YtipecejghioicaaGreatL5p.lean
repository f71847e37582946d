/- How silolaw16's scripts and silolaw17's asks read; no list is longer than the reach. -/
import Derived.Test.YtipecejghioicaaGreatJ3p
import Derived.Test.YtipecejghioicaaGreatJ4p
import Derived.Test.YtipecejghioicaaGreatJ5p
import Derived.Test.YtipecejghioicaaGreatJ6p
import Derived.Test.YtipecejghioicaaGreatDatap
import Derived.Deep.Slices
import Derived.ProofKit
import Derived.Carry
import Derived.Below
import Derived.ChangeSame
import Derived.Test.YtipecejghioicaaGreatProg
import Derived.SizedLaws
set_option maxHeartbeats 4000000
set_option maxRecDepth 100000
namespace Go.Proofs.YtipecejghioicaaGreat
open Go.RowKit Go.Silo
theorem jy {tg:Bool}{S:Nat→Prop}{w:World}{A4 A5:Option Addr}{n4 c4 n5 c5:Nat}{r:Bb}(hl:Sl tg 3 qD w S A4 n4 c4 r.list) (hs:Sl tg 88 qp w S A5 n5 c5 r.slots):
  Calls Tryz.prog 31 #[.agg #[.int .i64 r.kind,.int .i64 r.id,.string r.name,.string r.digest,.slice A4 n4 c4,.slice A5 n5 c5]] w (Bf (.bool (qy r)) w):=by
 obtain⟨k,id,nm,dg,li,sl⟩:=r;simp only at hl hs⊢;by_cases hk:1≤k∧k≤8
 ·rcases (by omega:k=1∨k=2∨k=3∨k=4∨k=5∨k=6∨k=7∨k=8) with h|h|h|h|h|h|h|h<;>subst h
  ·exact Jv hl hs
  ·exact Jw hl hs
  ·exact Jx hl hs
  ·exact Jy hl hs
  ·exact Jz hl hs
  ·exact JA hl hs
  ·exact JB hl hs
  exact JC hl hs
 have HE:Hid (qy ⟨k,id,nm,dg,li,sl⟩=false):=zh (by unfold qy;rw[decide_eq_false hk];rfl);generalize qy ⟨k,id,nm,dg,li,sl⟩=R at *;clear hl hs
 go_enter Tryz.func31,Tryz.ntmps31
 have nL:=heap_alloc_new w (.cells #[.int .i64 k,.int .i64 id,.string nm,.string dg,.slice A4 n4 c4,.slice A5 n5 c5] 61);have b0:=zc 0 nL (.int .i64 k) rfl;have hlt:w.heap.size<(w.alloc (.cells #[.int .i64 k,.int .i64 id,.string nm,.string dg,.slice A4 n4 c4,.slice A5 n5 c5] 61)).heap.size:=by simp
 clear nL;go_wp2_with fail
 refine(Bj (n:=k) (l:=1) (m:=8)).mono ?_;rw[decide_eq_false hk];rintro e w1 ⟨rfl,hb1⟩;have gV:=zh (show Below w.heap.size w w1 from bz);clear hb1;clear b0 hk hlt;go_wp2
 go_ret
 exact⟨by rw[HE.out];rfl,gV.out⟩
end Go.Proofs.YtipecejghioicaaGreat
set_option maxRecDepth 100000
namespace Go.Silo
open Go.RowKit Go.ChangeShapes Go.WideShapes Go.Deep
def CP {α:Type}(P:Program) (E:Enc α) (t:TypeId):Prop:=
 ∀(H:Type) (enc:TypeId×Value→H) (w:World) (fuel:Nat) (cs:List Value) (x:DataW H×List MemPlace),
  DataW.trod enc P w 0 (fun _=>true) true fuel t cs=some x→w.noneFrozen x.2→∃a,E.R w (fun b=>b<w.heap.size) cs a
theorem kP {w:World}{p q:List MemPlace}(h:w.noneFrozen (p++q)):w.noneFrozen p:=fun b o hm=>h b o (List.mem_append_left _ hm)
theorem ky {w:World}{p q:List MemPlace}(h:w.noneFrozen (p++q)):w.noneFrozen q:=fun b o hm=>h b o (List.mem_append_right _ hm)
theorem zj {P:Program}{t:TypeId}(ht:P.underlying t=some (.int .i64)):CP P qD t:=by
 intro H enc w fuel cs x h _;obtain⟨n,rfl,_,hw⟩:=DataW.trod_int ht h;refine⟨n,rfl,?_⟩;simp[Lit.wf,IntKind.min,IntKind.max,IntKind.signed,IntKind.bits] at hw;exact⟨by omega,by omega⟩
theorem Qu {P:Program}{t:TypeId}(ht:P.underlying t=some .bool):CP P Cf t:=by
 intro H enc w fuel cs x h _;obtain⟨b,rfl,_⟩:=DataW.trod_bool ht h;exact⟨b,rfl,trivial⟩
theorem XO {α:Type}{p:Nat→α→Prop}:∀n:Nat,(∀i,i<n→∃x,p i x)→∃xs:List α,xs.length=n∧∀k x,xs[k]?=some x→p k x
 |0,_=>⟨[],rfl,fun k x h=>by simp at h⟩
 |n+1,h=>by
  obtain⟨xs,hl,hx⟩:=XO n (fun i hi=>h i (by omega));obtain⟨y,hy⟩:=h n (by omega);refine⟨xs++[y],by simp[hl],fun k x hk=>?_⟩;rcases Nat.lt_or_ge k n with hk'|hk'
  ·rw[List.getElem?_append_left (by omega)] at hk;exact hx k x hk
  rw[List.getElem?_append_right (by omega),hl] at hk
  have:k - n=0:=by
   rcases Nat.eq_zero_or_pos (k - n) with h0|h0
   ·exact h0
   rw[List.getElem?_eq_none (by simp;omega)] at hk;cases hk
  rw[this] at hk;injection hk with hk
  subst hk;rw[show k=n by omega];exact hy
end Go.Silo
namespace Go.Proofs.YtipecejghioicaaGreat
open Go.RowKit Go.ChangeShapes Go.WideShapes Go.Deep Go.Silo
theorem Dm:CP Tryz.prog qp 88:=by
 intro H enc w fuel cs x h hfz;obtain⟨y0,y1,n,rfl,hl,h0,h1⟩:=trod_struct2 Tryz.underlying88 h;have hc:Tryz.prog.cellsOf 88=2:=by kernel_rfl
 have hi:Tryz.prog.cellsOf 3=1:=by kernel_rfl
 rw[hc] at hl
 match cs,hl with
 |[c0,c1],_=>
 simp only[hi] at h0 h1;obtain⟨a0,e0,i0⟩:=zj Tryz.underlying3 H enc w n _ _ h0 (kP hfz);obtain⟨a1,e1,i1⟩:=zj Tryz.underlying3 H enc w n _ _ h1 (ky hfz);simp at e0 e1;subst e0 e1;exact⟨⟨a0,a1⟩,rfl,i0,i1⟩
theorem law_post {H:Type}{enc:TypeId×Value→H}{P:Program}{f:Func}{s:ChangeSpec}{W W':World}{args:Array Value}{v:Value}{ds gs:List (DataW H)}{before pa pv:List MemPlace}
  (hW:DataW.Whole enc P f.params.toList s.vars false W args.toList ds gs before) (hres:DataW.TrodAll enc P W' W.heap.size (fun _=>false) false f.resultTypes.toList (v.resultList f.resultTypes.size) (s.fn H (ds++gs)).results [])
  (hargs:DataW.TrodAll enc P W' 0 (fun b=>decide (b<W.heap.size)) true f.params.toList args.toList (s.fn H (ds++gs)).args pa) (hvars:DataW.TrodVars enc P W' (fun b=>decide (b<W.heap.size)) s.vars (s.fn H (ds++gs)).vars pv)
  (hb:Below W.heap.size W W'):s.post enc P f false true false false W args v W':=
 ⟨ds,gs,before,[],pa,pv,hW,hres,hargs,hvars,hb.frame _,fun h=>by cases h⟩
end Go.Proofs.YtipecejghioicaaGreat
namespace Go.Silo
open Go.RowKit Go.ChangeShapes Go.WideShapes Go.Deep
def zN {α:Type}(P:Program) (E:Enc α) (t:TypeId) (B:α→Prop):Prop:=
 ∀(H:Type) (enc:TypeId×Value→H) (w:World) (fuel:Nat) (cs:List Value) (x:DataW H×List MemPlace),
  DataW.trod enc P w 0 (fun _=>true) true fuel t cs=some x→w.noneFrozen x.2→(∀n∈x.1.weights P t,n≤reachBytes)→∃a,E.R w (fun b=>b<w.heap.size) cs a∧B a
theorem CP.any {α:Type}{P:Program}{E:Enc α}{t:TypeId}(h:CP P E t):zN P E t (fun _=>True):=by
 intro H enc w fuel cs x h1 h2 _;obtain⟨a,ha⟩:=h H enc w fuel cs x h1 h2;exact⟨a,ha,trivial⟩
theorem jz {H:Type}{P:Program}{e:TypeId}{d:DataW H}:∀{ds:List (DataW H)},d∈ds→∀n∈d.weights P e,n∈DataW.weightsAll P e ds
 |[],h=>by cases h
 |d0::ds,h=>by
  intro n hn;unfold DataW.weightsAll;rcases List.mem_cons.1 h with rfl|h
  ·exact List.mem_append_left _ hn
  exact List.mem_append_right _ (jz h n hn)
theorem zG {α:Type}{P:Program}{E:Enc α}{t e T:TypeId}{B:α→Prop}(ht:P.underlying t=some (.slice e)) (hc:P.cellsOf e=E.sz) (hpos:0<E.sz) (K:Nat) (hbytes:P.bytesOf e=K) (hE:zN P E e B):
  zN P (Dj false T E) t (fun xs=>xs.length* K≤reachBytes∧∀y∈xs,B y):=by
 intro H enc w fuel cs x h hfz hw;rcases open_slice ht h with ⟨rfl,rfl⟩|⟨a,len,cap,m,n,D,Pl,rfl,_,hl,hm,hmm,rfl,hi⟩
 ·exact⟨[],⟨none,0,0,rfl,Sl.Bz (by omega)⟩,by simp,fun y hy=>by cases hy⟩
 simp only[if_true] at hmm;subst hmm;rw[hc] at hi hfz;simp only[DataW.weights,ht,hbytes] at hw
 have hlen:len* K≤reachBytes:=by
  have h1:=hw _ (List.mem_cons_self ..);simp only[List.length_map,List.length_range] at h1;exact Nat.le_trans (Nat.mul_le_mul_right _ (by omega)) h1
 have hel:∀i,i<len→∃y,B y∧∃vs,E.R w (fun b=>b<w.heap.size) vs y∧w.cells? 0 (a.add (i* E.sz)) E.sz=some vs:=by
  intro i hil;obtain⟨cs',h1,h2⟩:=hi i (by omega)
  obtain⟨y,hy,hB⟩:=hE H enc w n cs' _ h2 (fun b o hm'=>hfz b o (List.mem_append_right _ (List.mem_flatMap.2 ⟨i,List.mem_range.2 (by omega),hm'⟩)))
   (fun k hk=>hw k (List.mem_cons_of_mem _ (List.mem_append_left _ (jz (List.mem_map.2 ⟨i,List.mem_range.2 hil,rfl⟩) k hk))))
  exact⟨y,hB,cs',hy,h1⟩
 obtain⟨xs,hxl,hx⟩:=XO len hel;refine⟨xs,⟨some a,len,_,rfl,hxl,hl,hm,fun h0=>?_⟩,by rw[hxl];exact hlen,fun y hy=>?_⟩
 ·obtain⟨_,vs0,hv0,hc0⟩:=hx 0 _ (List.getElem?_eq_getElem (by omega));obtain⟨_,hl0,hat0⟩:=World.cells?_some hc0
  have yK:w.cell? a=some (vs0[0]'(by omega)):=by
   have:=hat0 0 hpos;rw[Nat.zero_mul] at this;rw[List.getElem?_eq_getElem (by omega)] at this;simpa[Addr.add] using this
  obtain⟨ab,ao,asp⟩:=a;obtain rfl:asp=none:=World.cell?_spot yK;refine⟨ab,ao,rfl,World.block_lt_of_cell? w _ yK,World.block_lt_of_cell? w _ yK,(fun h=>by cases h),fun k y hk=>?_⟩;obtain⟨_,vs,hv,hck⟩:=hx k y hk;have hkl:k<len:=by have:=(List.getElem?_eq_some_iff.1 hk).1;omega
  obtain⟨_,hlv,hat⟩:=World.cells?_some hck;refine⟨vs,hv,fun j v hj=>?_⟩;have hjl:j<E.sz:=by have:=(List.getElem?_eq_some_iff.1 hj).1;omega
  have hadd:∀m,(⟨ab,ao,none⟩:Addr).add m=⟨ab,ao+m,none⟩:=by
   intro m;unfold Addr.add
   split
   ·rename_i h;rw[h];rfl
   rfl
  have h1:=hat j hjl;rw[Go.Deep.add_add,hadd,hj,←Nat.add_assoc] at h1;refine⟨h1,hfz ab _ (List.mem_append_left _ ?_)⟩;unfold MemPlace.row;refine List.mem_map.2 ⟨k* E.sz+j,List.mem_range.2 ?_,by simp[Nat.add_assoc]⟩;have h2:(k+1)* E.sz≤m* E.sz:=Nat.mul_le_mul_right _ (by omega);rw[Nat.succ_mul] at h2;omega
 obtain⟨k,hk⟩:=List.mem_iff_getElem?.1 hy;exact(hx k y hk).1
end Go.Silo
namespace Go.Proofs.YtipecejghioicaaGreat
open Go.RowKit Go.ChangeShapes Go.WideShapes Go.Deep Go.Silo
theorem kH:zN Tryz.prog (Dj false 3 qD) 36 (fun xs=>xs.length* 8≤reachBytes∧∀y∈xs,True):=zG Tryz.underlying36 (by kernel_rfl) (by decide) 8 (by kernel_rfl) (zj Tryz.underlying3).any
theorem Zm:zN Tryz.prog (Dj false 4 Cf) 30 (fun xs=>xs.length* 1≤reachBytes∧∀y∈xs,True):=zG Tryz.underlying30 (by kernel_rfl) (by decide) 1 (by kernel_rfl) (Qu Tryz.underlying4).any
end Go.Proofs.YtipecejghioicaaGreat
set_option maxRecDepth 100000
namespace Go.Proofs.YtipecejghioicaaGreat
open Go.RowKit Go.ChangeShapes Go.WideShapes Go.Deep Go.Silo
theorem Zn:zN Tryz.prog EM 23 (fun _=>True):=by
 intro H enc w fuel cs x h hfz hw;obtain⟨xs,n,_,rfl,hl,hlen,hf⟩:=DataW.trod_struct Tryz.underlying23 h;have hc:Tryz.prog.cellsOf 23=3:=by kernel_rfl
 rw[hc] at hl;have hs0:Tryz.prog.cellsOf 3=1:=by kernel_rfl
 match cs,hl with
 |[c0,c1,c2],_=>
 match xs,hlen with
 |[y0,y1,y2],_=>
 have h0:DataW.trod enc Tryz.prog w 0 (fun _=>true) true n 3 (([c0,c1,c2].drop 0).take (Tryz.prog.cellsOf 3))=some y0:=hf 0 _ rfl;rw[hs0] at h0;have h1:DataW.trod enc Tryz.prog w 0 (fun _=>true) true n 3 (([c0,c1,c2].drop 1).take (Tryz.prog.cellsOf 3))=some y1:=hf 1 _ rfl;rw[hs0] at h1;have h2:DataW.trod enc Tryz.prog w 0 (fun _=>true) true n 3 (([c0,c1,c2].drop 2).take (Tryz.prog.cellsOf 3))=some y2:=hf 2 _ rfl;rw[hs0] at h2;have hz:∀y∈[y0,y1,y2],w.noneFrozen y.2:=fun y hy b o hm=>hfz b o (List.mem_flatMap.2 ⟨y,hy,hm⟩);simp only[DataW.weights,Tryz.underlying23] at hw;obtain⟨a0,e0,i0⟩:=zj Tryz.underlying3 H enc w n _ _ h0 (hz _ (by simp));obtain⟨a1,e1,i1⟩:=zj Tryz.underlying3 H enc w n _ _ h1 (hz _ (by simp));obtain⟨a2,e2,i2⟩:=zj Tryz.underlying3 H enc w n _ _ h2 (hz _ (by simp));simp at e0 e1 e2;subst e0 e1 e2;exact⟨⟨a0,a1,a2⟩,⟨rfl,i0,i1,i2⟩,trivial⟩
theorem jK:zN Tryz.prog (Dj false 88 qp) 59 (fun xs=>xs.length* 16≤reachBytes∧∀y∈xs,True):=zG Tryz.underlying59 (by kernel_rfl) (by decide) 16 (by kernel_rfl) Dm.any
def kV (x:Bc):Prop:=x.place.length* 16≤reachBytes
theorem QG:zN Tryz.prog (qc false) 86 kV:=by
 intro H enc w fuel cs x h hfz hw;obtain⟨xs,n,_,rfl,hl,hlen,hf⟩:=DataW.trod_struct Tryz.underlying86 h;have hc:Tryz.prog.cellsOf 86=4:=by kernel_rfl
 rw[hc] at hl;have hs0:Tryz.prog.cellsOf 3=1:=by kernel_rfl
 have hs1:Tryz.prog.cellsOf 59=1:=by kernel_rfl
 match cs,hl with
 |[c0,c1,c2,c3],_=>
 match xs,hlen with
 |[y0,y1,y2,y3],_=>
 have h0:DataW.trod enc Tryz.prog w 0 (fun _=>true) true n 3 (([c0,c1,c2,c3].drop 0).take (Tryz.prog.cellsOf 3))=some y0:=hf 0 _ rfl;rw[hs0] at h0;have h1:DataW.trod enc Tryz.prog w 0 (fun _=>true) true n 3 (([c0,c1,c2,c3].drop 1).take (Tryz.prog.cellsOf 3))=some y1:=hf 1 _ rfl;rw[hs0] at h1;have h2:DataW.trod enc Tryz.prog w 0 (fun _=>true) true n 3 (([c0,c1,c2,c3].drop 2).take (Tryz.prog.cellsOf 3))=some y2:=hf 2 _ rfl;rw[hs0] at h2;have h3:DataW.trod enc Tryz.prog w 0 (fun _=>true) true n 59 (([c0,c1,c2,c3].drop 3).take (Tryz.prog.cellsOf 59))=some y3:=hf 3 _ rfl;rw[hs1] at h3;have hz:∀y∈[y0,y1,y2,y3],w.noneFrozen y.2:=fun y hy b o hm=>hfz b o (List.mem_flatMap.2 ⟨y,hy,hm⟩);simp only[DataW.weights,Tryz.underlying86] at hw;obtain⟨a0,e0,i0⟩:=zj Tryz.underlying3 H enc w n _ _ h0 (hz _ (by simp));obtain⟨a1,e1,i1⟩:=zj Tryz.underlying3 H enc w n _ _ h1 (hz _ (by simp));obtain⟨a2,e2,i2⟩:=zj Tryz.underlying3 H enc w n _ _ h2 (hz _ (by simp));obtain⟨a3,⟨A3,n3,k3,e3,i3⟩,j3⟩:=jK H enc w n _ _ h3 (hz _ (by simp)) (fun k hk=>hw k (DataW.weights_mem_each (j:=3) (t:=59) (d:=y3.1) rfl rfl k hk));simp at e0 e1 e2 e3;subst e0 e1 e2 e3;exact⟨⟨a0,a1,a2,a3⟩,⟨A3,n3,k3,rfl,⟨i0,i1,i2⟩,i3⟩,j3.1⟩
theorem Qv:zN Tryz.prog (Dj false 86 (qc false)) 24 (fun xs=>xs.length* 48≤reachBytes∧∀y∈xs,kV y):=zG Tryz.underlying24 (by kernel_rfl) (by decide) 48 (by kernel_rfl) QG
structure AskP where
 s:List Shape
 x:List Bc
 y:BQ
 g:List Bool
 n:List Dk
end Go.Proofs.YtipecejghioicaaGreat
set_option maxRecDepth 100000
namespace Go.Silo
open Go.RowKit Go.ChangeShapes Go.WideShapes Go.Deep
def QH (x:ByteArray):Prop:=x.size≤reachBytes
theorem xM {P:Program}{t:TypeId}(ht:P.underlying t=some .string):zN P strE t QH:=by
 intro H enc w fuel cs x h _ hw;obtain⟨s,rfl,rfl,h3⟩:=DataW.trod_string ht h;refine⟨s,⟨rfl,h3⟩,?_⟩;have:=hw s.data.toList.length (by simp[DataW.weights]);simpa[QH] using this
end Go.Silo
namespace Go.Proofs.YtipecejghioicaaGreat
open Go.RowKit Go.ChangeShapes Go.WideShapes Go.Deep Go.Silo
def Zo (x:Entry):Prop:=QH x.digest∧x.list.length* 8≤reachBytes
def Ev (x:Tag):Prop:=QH x.name∧QH x.digest
def kk (x:Bb):Prop:=QH x.name∧QH x.digest∧x.list.length* 8≤reachBytes∧x.slots.length* 16≤reachBytes
def XP (x:Book):Prop:=(x.Ba.length* 48≤reachBytes∧∀y∈x.Ba,kV y)∧(x.things.length* 56≤reachBytes∧∀y∈x.things,Zo y)∧(x.tags.length* 32≤reachBytes∧∀y∈x.tags,Ev y)
theorem Zp:zN Tryz.prog (qj false) 90 Zo:=by
 intro H enc w fuel cs x h hfz hw;obtain⟨xs,n,_,rfl,hl,hlen,hf⟩:=DataW.trod_struct Tryz.underlying90 h;have hc:Tryz.prog.cellsOf 90=4:=by kernel_rfl
 rw[hc] at hl;have hs0:Tryz.prog.cellsOf 9=1:=by kernel_rfl
 have hs1:Tryz.prog.cellsOf 3=1:=by kernel_rfl
 have hs2:Tryz.prog.cellsOf 4=1:=by kernel_rfl
 have hs3:Tryz.prog.cellsOf 36=1:=by kernel_rfl
 match cs,hl with
 |[c0,c1,c2,c3],_=>
 match xs,hlen with
 |[y0,y1,y2,y3],_=>
 have h0:DataW.trod enc Tryz.prog w 0 (fun _=>true) true n 9 (([c0,c1,c2,c3].drop 0).take (Tryz.prog.cellsOf 9))=some y0:=hf 0 _ rfl;rw[hs0] at h0;have h1:DataW.trod enc Tryz.prog w 0 (fun _=>true) true n 3 (([c0,c1,c2,c3].drop 1).take (Tryz.prog.cellsOf 3))=some y1:=hf 1 _ rfl;rw[hs1] at h1;have h2:DataW.trod enc Tryz.prog w 0 (fun _=>true) true n 4 (([c0,c1,c2,c3].drop 2).take (Tryz.prog.cellsOf 4))=some y2:=hf 2 _ rfl;rw[hs2] at h2;have h3:DataW.trod enc Tryz.prog w 0 (fun _=>true) true n 36 (([c0,c1,c2,c3].drop 3).take (Tryz.prog.cellsOf 36))=some y3:=hf 3 _ rfl;rw[hs3] at h3;have hz:∀y∈[y0,y1,y2,y3],w.noneFrozen y.2:=fun y hy b o hm=>hfz b o (List.mem_flatMap.2 ⟨y,hy,hm⟩);simp only[DataW.weights,Tryz.underlying90] at hw;obtain⟨a0,⟨e0,i0⟩,j0⟩:=(xM Tryz.underlying9) H enc w n _ _ h0 (hz _ (by simp)) (fun k hk=>hw k (DataW.weights_mem_each (j:=0) (t:=9) (d:=y0.1) rfl rfl k hk));obtain⟨a1,e1,i1⟩:=zj Tryz.underlying3 H enc w n _ _ h1 (hz _ (by simp));obtain⟨a2,e2,_⟩:=Qu Tryz.underlying4 H enc w n _ _ h2 (hz _ (by simp));obtain⟨a3,⟨A3,n3,k3,e3,i3⟩,j3⟩:=kH H enc w n _ _ h3 (hz _ (by simp)) (fun k hk=>hw k (DataW.weights_mem_each (j:=3) (t:=36) (d:=y3.1) rfl rfl k hk));simp at e0 e1 e2 e3;subst e0 e1 e2 e3;exact⟨⟨a0,a1,a2,a3⟩,⟨A3,n3,k3,rfl,⟨i0,i1⟩,i3⟩,⟨j0,j3.1⟩⟩
theorem Qw:zN Tryz.prog (Dj false 90 (qj false)) 25 (fun xs=>xs.length* 56≤reachBytes∧∀y∈xs,Zo y):=zG Tryz.underlying25 (by kernel_rfl) (by decide) 56 (by kernel_rfl) Zp
theorem XC:zN Tryz.prog Bv 94 Ev:=by
 intro H enc w fuel cs x h hfz hw;obtain⟨xs,n,_,rfl,hl,hlen,hf⟩:=DataW.trod_struct Tryz.underlying94 h;have hc:Tryz.prog.cellsOf 94=2:=by kernel_rfl
 rw[hc] at hl;have hs0:Tryz.prog.cellsOf 9=1:=by kernel_rfl
 match cs,hl with
 |[c0,c1],_=>
 match xs,hlen with
 |[y0,y1],_=>
 have h0:DataW.trod enc Tryz.prog w 0 (fun _=>true) true n 9 (([c0,c1].drop 0).take (Tryz.prog.cellsOf 9))=some y0:=hf 0 _ rfl;rw[hs0] at h0;have h1:DataW.trod enc Tryz.prog w 0 (fun _=>true) true n 9 (([c0,c1].drop 1).take (Tryz.prog.cellsOf 9))=some y1:=hf 1 _ rfl;rw[hs0] at h1;have hz:∀y∈[y0,y1],w.noneFrozen y.2:=fun y hy b o hm=>hfz b o (List.mem_flatMap.2 ⟨y,hy,hm⟩);simp only[DataW.weights,Tryz.underlying94] at hw;obtain⟨a0,⟨e0,i0⟩,j0⟩:=(xM Tryz.underlying9) H enc w n _ _ h0 (hz _ (by simp)) (fun k hk=>hw k (DataW.weights_mem_each (j:=0) (t:=9) (d:=y0.1) rfl rfl k hk));obtain⟨a1,⟨e1,i1⟩,j1⟩:=(xM Tryz.underlying9) H enc w n _ _ h1 (hz _ (by simp)) (fun k hk=>hw k (DataW.weights_mem_each (j:=1) (t:=9) (d:=y1.1) rfl rfl k hk));simp at e0 e1;subst e0 e1;exact⟨⟨a0,a1⟩,⟨rfl,i0,i1⟩,⟨j0,j1⟩⟩
theorem ZV:zN Tryz.prog (Dj false 94 Bv) 26 (fun xs=>xs.length* 32≤reachBytes∧∀y∈xs,Ev y):=zG Tryz.underlying26 (by kernel_rfl) (by decide) 32 (by kernel_rfl) XC
theorem QI:zN Tryz.prog (zX false) 61 kk:=by
 intro H enc w fuel cs x h hfz hw;obtain⟨xs,n,_,rfl,hl,hlen,hf⟩:=DataW.trod_struct Tryz.underlying61 h;have hc:Tryz.prog.cellsOf 61=6:=by kernel_rfl
 rw[hc] at hl;have hs0:Tryz.prog.cellsOf 3=1:=by kernel_rfl
 have hs1:Tryz.prog.cellsOf 9=1:=by kernel_rfl
 have hs2:Tryz.prog.cellsOf 36=1:=by kernel_rfl
 have hs3:Tryz.prog.cellsOf 59=1:=by kernel_rfl
 match cs,hl with
 |[c0,c1,c2,c3,c4,c5],_=>
 match xs,hlen with
 |[y0,y1,y2,y3,y4,y5],_=>
 have h0:DataW.trod enc Tryz.prog w 0 (fun _=>true) true n 3 (([c0,c1,c2,c3,c4,c5].drop 0).take (Tryz.prog.cellsOf 3))=some y0:=hf 0 _ rfl;rw[hs0] at h0;have h1:DataW.trod enc Tryz.prog w 0 (fun _=>true) true n 3 (([c0,c1,c2,c3,c4,c5].drop 1).take (Tryz.prog.cellsOf 3))=some y1:=hf 1 _ rfl;rw[hs0] at h1;have h2:DataW.trod enc Tryz.prog w 0 (fun _=>true) true n 9 (([c0,c1,c2,c3,c4,c5].drop 2).take (Tryz.prog.cellsOf 9))=some y2:=hf 2 _ rfl;rw[hs1] at h2;have h3:DataW.trod enc Tryz.prog w 0 (fun _=>true) true n 9 (([c0,c1,c2,c3,c4,c5].drop 3).take (Tryz.prog.cellsOf 9))=some y3:=hf 3 _ rfl;rw[hs1] at h3;have h4:DataW.trod enc Tryz.prog w 0 (fun _=>true) true n 36 (([c0,c1,c2,c3,c4,c5].drop 4).take (Tryz.prog.cellsOf 36))=some y4:=hf 4 _ rfl;rw[hs2] at h4;have h5:DataW.trod enc Tryz.prog w 0 (fun _=>true) true n 59 (([c0,c1,c2,c3,c4,c5].drop 5).take (Tryz.prog.cellsOf 59))=some y5:=hf 5 _ rfl;rw[hs3] at h5;have hz:∀y∈[y0,y1,y2,y3,y4,y5],w.noneFrozen y.2:=fun y hy b o hm=>hfz b o (List.mem_flatMap.2 ⟨y,hy,hm⟩);simp only[DataW.weights,Tryz.underlying61] at hw;obtain⟨a0,e0,i0⟩:=zj Tryz.underlying3 H enc w n _ _ h0 (hz _ (by simp));obtain⟨a1,e1,i1⟩:=zj Tryz.underlying3 H enc w n _ _ h1 (hz _ (by simp));obtain⟨a2,⟨e2,i2⟩,j2⟩:=(xM Tryz.underlying9) H enc w n _ _ h2 (hz _ (by simp)) (fun k hk=>hw k (DataW.weights_mem_each (j:=2) (t:=9) (d:=y2.1) rfl rfl k hk));obtain⟨a3,⟨e3,i3⟩,j3⟩:=(xM Tryz.underlying9) H enc w n _ _ h3 (hz _ (by simp)) (fun k hk=>hw k (DataW.weights_mem_each (j:=3) (t:=9) (d:=y3.1) rfl rfl k hk));obtain⟨a4,⟨A4,n4,k4,e4,i4⟩,j4⟩:=kH H enc w n _ _ h4 (hz _ (by simp)) (fun k hk=>hw k (DataW.weights_mem_each (j:=4) (t:=36) (d:=y4.1) rfl rfl k hk));obtain⟨a5,⟨A5,n5,k5,e5,i5⟩,j5⟩:=jK H enc w n _ _ h5 (hz _ (by simp)) (fun k hk=>hw k (DataW.weights_mem_each (j:=5) (t:=59) (d:=y5.1) rfl rfl k hk));simp at e0 e1 e2 e3 e4 e5;subst e0 e1 e2 e3 e4 e5;exact⟨⟨a0,a1,a2,a3,a4,a5⟩,⟨A4,n4,k4,A5,n5,k5,rfl,⟨i0,i1,i2,i3⟩,i4,i5⟩,⟨j2,j3,j4.1,j5.1⟩⟩
theorem Qx:zN Tryz.prog (Dj false 61 (zX false)) 29 (fun xs=>xs.length* 96≤reachBytes∧∀y∈xs,kk y):=zG Tryz.underlying29 (by kernel_rfl) (by decide) 96 (by kernel_rfl) QI
theorem ZW:zN Tryz.prog (JH false) 28 XP:=by
 intro H enc w fuel cs x h hfz hw;obtain⟨xs,n,_,rfl,hl,hlen,hf⟩:=DataW.trod_struct Tryz.underlying28 h;have hc:Tryz.prog.cellsOf 28=4:=by kernel_rfl
 rw[hc] at hl;have hs0:Tryz.prog.cellsOf 24=1:=by kernel_rfl
 have hs1:Tryz.prog.cellsOf 25=1:=by kernel_rfl
 have hs2:Tryz.prog.cellsOf 26=1:=by kernel_rfl
 have hs3:Tryz.prog.cellsOf 3=1:=by kernel_rfl
 match cs,hl with
 |[c0,c1,c2,c3],_=>
 match xs,hlen with
 |[y0,y1,y2,y3],_=>
 have h0:DataW.trod enc Tryz.prog w 0 (fun _=>true) true n 24 (([c0,c1,c2,c3].drop 0).take (Tryz.prog.cellsOf 24))=some y0:=hf 0 _ rfl;rw[hs0] at h0;have h1:DataW.trod enc Tryz.prog w 0 (fun _=>true) true n 25 (([c0,c1,c2,c3].drop 1).take (Tryz.prog.cellsOf 25))=some y1:=hf 1 _ rfl;rw[hs1] at h1;have h2:DataW.trod enc Tryz.prog w 0 (fun _=>true) true n 26 (([c0,c1,c2,c3].drop 2).take (Tryz.prog.cellsOf 26))=some y2:=hf 2 _ rfl;rw[hs2] at h2;have h3:DataW.trod enc Tryz.prog w 0 (fun _=>true) true n 3 (([c0,c1,c2,c3].drop 3).take (Tryz.prog.cellsOf 3))=some y3:=hf 3 _ rfl;rw[hs3] at h3;have hz:∀y∈[y0,y1,y2,y3],w.noneFrozen y.2:=fun y hy b o hm=>hfz b o (List.mem_flatMap.2 ⟨y,hy,hm⟩);simp only[DataW.weights,Tryz.underlying28] at hw;obtain⟨a0,⟨A0,n0,k0,e0,i0⟩,j0⟩:=Qv H enc w n _ _ h0 (hz _ (by simp)) (fun k hk=>hw k (DataW.weights_mem_each (j:=0) (t:=24) (d:=y0.1) rfl rfl k hk));obtain⟨a1,⟨A1,n1,k1,e1,i1⟩,j1⟩:=Qw H enc w n _ _ h1 (hz _ (by simp)) (fun k hk=>hw k (DataW.weights_mem_each (j:=1) (t:=25) (d:=y1.1) rfl rfl k hk));obtain⟨a2,⟨A2,n2,k2,e2,i2⟩,j2⟩:=ZV H enc w n _ _ h2 (hz _ (by simp)) (fun k hk=>hw k (DataW.weights_mem_each (j:=2) (t:=26) (d:=y2.1) rfl rfl k hk));obtain⟨a3,e3,i3⟩:=zj Tryz.underlying3 H enc w n _ _ h3 (hz _ (by simp));simp at e0 e1 e2 e3;subst e0 e1 e2 e3;exact⟨⟨a0,a1,a2,a3⟩,⟨A0,n0,k0,A1,n1,k1,A2,n2,k2,rfl,i3,i0,i1,i2⟩,⟨j0,j1,j2⟩⟩
structure xo where
 s:Shape
 b:Book
 l:List Bb
 live:List Bool
 n:Int
def jd (p:xo):Prop:=XP p.b∧(p.l.length* 96≤reachBytes∧∀y∈p.l,kk y)∧p.live.length≤reachBytes
def ZX (tg:Bool):Enc xo where
 sz:=10
 R w S vs x:=∃A0 n0 c0 A1 n1 c1 A2 n2 c2 A3 n3 c3 A4 n4 c4,vs=[.int .i64 x.s.K,.int .i64 x.s.M,.int .i64 x.s.size,.slice A0 n0 c0,.slice A1 n1 c1,.slice A2 n2 c2,.int .i64 x.b.next,.slice A3 n3 c3,.slice A4 n4 c4,.int .i64 x.n]∧(Bn x.s.K∧Bn x.s.M∧Bn x.s.size)∧(Bn x.b.next∧Bn x.n)∧
  (Sl tg 86 (qc tg) w S A0 n0 c0 x.b.Ba∧Sl tg 90 (qj tg) w S A1 n1 c1 x.b.things∧Sl tg 94 Bv w S A2 n2 c2 x.b.tags)∧Sl tg 61 (zX tg) w S A3 n3 c3 x.l∧Sl tg 4 Cf w S A4 n4 c4 x.live
 len h:=by obtain⟨_,_,_,_,_,_,_,_,_,_,_,_,_,_,_,rfl,_⟩:=h;rfl
 one h:=by obtain⟨_,_,_,_,_,_,_,_,_,_,_,_,_,_,_,rfl,_⟩:=h;simp[Value.oneCell']
 mono hS h:=by obtain⟨_,_,_,_,_,_,_,_,_,_,_,_,_,_,_,rfl,h1,h2,⟨q0,q1,q2⟩,q3,q4⟩:=h;exact⟨_,_,_,_,_,_,_,_,_,_,_,_,_,_,_,rfl,h1,h2,⟨q0.mono hS,q1.mono hS,q2.mono hS⟩,q3.mono hS,q4.mono hS⟩
 frame hA hs h:=by obtain⟨_,_,_,_,_,_,_,_,_,_,_,_,_,_,_,rfl,h1,h2,⟨q0,q1,q2⟩,q3,q4⟩:=h;exact⟨_,_,_,_,_,_,_,_,_,_,_,_,_,_,_,rfl,h1,h2,⟨q0.frame hA hs,q1.frame hA hs,q2.frame hA hs⟩,q3.frame hA hs,q4.frame hA hs⟩
theorem QJ:zN Tryz.prog (ZX false) 32 jd:=by
 intro H enc w fuel cs x h hfz hw;obtain⟨xs,n,_,rfl,hl,hlen,hf⟩:=DataW.trod_struct Tryz.underlying32 h;have hc:Tryz.prog.cellsOf 32=10:=by kernel_rfl
 rw[hc] at hl;have hs0:Tryz.prog.cellsOf 23=3:=by kernel_rfl
 have hs1:Tryz.prog.cellsOf 28=4:=by kernel_rfl
 have hs2:Tryz.prog.cellsOf 29=1:=by kernel_rfl
 have hs3:Tryz.prog.cellsOf 30=1:=by kernel_rfl
 have hs4:Tryz.prog.cellsOf 3=1:=by kernel_rfl
 match cs,hl with
 |[c0,c1,c2,c3,c4,c5,c6,c7,c8,c9],_=>
 match xs,hlen with
 |[y0,y1,y2,y3,y4],_=>
 have h0:DataW.trod enc Tryz.prog w 0 (fun _=>true) true n 23 (([c0,c1,c2,c3,c4,c5,c6,c7,c8,c9].drop 0).take (Tryz.prog.cellsOf 23))=some y0:=hf 0 _ rfl;rw[hs0] at h0;have h1:DataW.trod enc Tryz.prog w 0 (fun _=>true) true n 28 (([c0,c1,c2,c3,c4,c5,c6,c7,c8,c9].drop 3).take (Tryz.prog.cellsOf 28))=some y1:=hf 1 _ rfl;rw[hs1] at h1;have h2:DataW.trod enc Tryz.prog w 0 (fun _=>true) true n 29 (([c0,c1,c2,c3,c4,c5,c6,c7,c8,c9].drop 7).take (Tryz.prog.cellsOf 29))=some y2:=hf 2 _ rfl;rw[hs2] at h2;have h3:DataW.trod enc Tryz.prog w 0 (fun _=>true) true n 30 (([c0,c1,c2,c3,c4,c5,c6,c7,c8,c9].drop 8).take (Tryz.prog.cellsOf 30))=some y3:=hf 3 _ rfl;rw[hs3] at h3;have h4:DataW.trod enc Tryz.prog w 0 (fun _=>true) true n 3 (([c0,c1,c2,c3,c4,c5,c6,c7,c8,c9].drop 9).take (Tryz.prog.cellsOf 3))=some y4:=hf 4 _ rfl;rw[hs4] at h4;have hz:∀y∈[y0,y1,y2,y3,y4],w.noneFrozen y.2:=fun y hy b o hm=>hfz b o (List.mem_flatMap.2 ⟨y,hy,hm⟩);simp only[DataW.weights,Tryz.underlying32] at hw;obtain⟨a0,⟨e0,i0⟩,j0⟩:=Zn H enc w n _ _ h0 (hz _ (by simp)) (fun k hk=>hw k (DataW.weights_mem_each (j:=0) (t:=23) (d:=y0.1) rfl rfl k hk));obtain⟨a1,⟨A0,n0,k0,A1,n1,k1,A2,n2,k2,e1,i1,r0,r1,r2⟩,j1⟩:=ZW H enc w n _ _ h1 (hz _ (by simp)) (fun k hk=>hw k (DataW.weights_mem_each (j:=1) (t:=28) (d:=y1.1) rfl rfl k hk));obtain⟨a2,⟨A2',n2',k2',e2,i2⟩,j2⟩:=Qx H enc w n _ _ h2 (hz _ (by simp)) (fun k hk=>hw k (DataW.weights_mem_each (j:=2) (t:=29) (d:=y2.1) rfl rfl k hk));obtain⟨a3,⟨A3,n3,k3,e3,i3⟩,j3⟩:=Zm H enc w n _ _ h3 (hz _ (by simp)) (fun k hk=>hw k (DataW.weights_mem_each (j:=3) (t:=30) (d:=y3.1) rfl rfl k hk));obtain⟨a4,e4,i4⟩:=zj Tryz.underlying3 H enc w n _ _ h4 (hz _ (by simp));simp at e0 e1 e2 e3 e4;obtain⟨e0',e0'',e0'''⟩:=e0;obtain⟨e1',e1'',e1''',e1''''⟩:=e1;subst e0' e0'' e0''' e1' e1'' e1''' e1'''' e2 e3 e4;exact⟨⟨a0,a1,a2,a3,a4⟩,⟨A0,n0,k0,A1,n1,k1,A2,n2,k2,A2',n2',k2',A3,n3,k3,rfl,i0,⟨i1,i4⟩,⟨r0,r1,r2⟩,i2,i3⟩,⟨j1,j2,by rw[←Nat.mul_one a3.length];exact j3.1⟩⟩
theorem open_script16 {H:Type}{enc:TypeId×Value→H}{w:World}{v:Value}{d:DataW H}{p:List MemPlace}{r:Reach}{b0:Nat}(hv:Value.okWide Tryz.prog w r b0 32 v) (h:DataW.Trod enc Tryz.prog w 0 (fun _=>true) true 32 v d p) (hfz:w.noneFrozen p)
  (hw:∀k∈d.weights Tryz.prog 32,k≤reachBytes):
  ∃vs,∃q:xo,v=.agg (List.toArray vs)∧(ZX false).R w (fun b=>b<w.heap.size) vs q∧jd q:=by
 obtain⟨cs,rfl,hsz⟩:=okWide_struct Tryz.underlying32 hv;obtain⟨fuel,hf0⟩:=h;obtain⟨q,hR,hQ⟩:=QJ H enc w fuel cs.toList _ hf0 hfz hw;exact⟨cs.toList,q,by rw[Array.toArray_toList],hR,hQ⟩
end Go.Proofs.YtipecejghioicaaGreat
