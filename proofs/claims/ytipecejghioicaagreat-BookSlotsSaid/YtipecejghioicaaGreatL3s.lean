/- How silolaw15's asks read; no list is longer than the reach. -/
import Derived.Test.YtipecejghioicaaGreatY24s
import Derived.Test.YtipecejghioicaaGreatY8s
import Derived.Test.YtipecejghioicaaGreatQ10s
import Derived.Test.YtipecejghioicaaGreatR2s
import Derived.Deep.CutRange
import Derived.Deep.Light
import Derived.Test.YtipecejghioicaaGreatP0s
import Derived.Test.YtipecejghioicaaGreatDatas
import Derived.Deep.Slices
import Derived.ProofKit
import Derived.Carry
import Derived.Below
import Derived.ChangeSame
import Derived.Test.YtipecejghioicaaGreatProg
import Derived.SizedLaws
namespace Go.Proofs.YtipecejghioicaaGreat
open Go.RowKit Go.Silo
theorem Zh {w:World}{e:Int}:Calls Tryz.prog 20 #[.int .i64 e] w (Bf (.int .i64 e) w):=by
 go_enter Tryz.func20,Tryz.ntmps20
 go_wp2
 go_ret
 exact⟨rfl,bz⟩
end Go.Proofs.YtipecejghioicaaGreat
set_option maxHeartbeats 8000000
set_option maxRecDepth 100000
namespace Go.Silo
open Go Go.RowKit
end Go.Silo
namespace Go.Proofs.YtipecejghioicaaGreat
open Go.RowKit Go.Silo
theorem Dv {w:World}:Calls Tryz.prog 56 #[] w (Bf (.agg #[.int .i64 2,.int .i64 1,.int .i64 4]) w):=by
 go_enter Tryz.func56,Tryz.ntmps56
 go_wp2
 refine bodyPost_ret (v:=.agg #[.int .i64 2,.int .i64 1,.int .i64 4]) (by simp[results,Tryz.results56,go_sem, *];done) rfl ?_;exact⟨rfl,bz⟩
def Ey:Bt:=⟨2,3,⟨#[]⟩,⟨#[]⟩,[5,0],[(⟨0,0⟩:Slot),⟨1,0⟩,⟨2,0⟩]⟩
theorem ZN:xF ⟨2,1,4⟩ ⟨[],[],[],0⟩ Ey=(⟨[⟨3,5,0,[(⟨0,0⟩:Slot),⟨1,0⟩,⟨2,0⟩]⟩],[],[],4⟩,0):=by decide
theorem Dw {w:World}:Calls Tryz.prog 27 #[] w (Bf (.bool true) w):=by
 go_enter Tryz.func27,Tryz.ntmps27
 go_wp2_with fail
 refine Dv.mono ?_;rintro e w1 ⟨rfl,hb1⟩;have gB:=zh hb1;clear hb1;go_wp2_with fail
 have hi:=(Silo.Be.lit (E:=Bd) (w:=w1) (S:=fun q=>True) (T:=3) (base:=0) [.int .i64 5,.int .i64 0] [5,0] 2 (Nat.zero_le _) (by decide) rfl rfl (fun k y hy=>by
  match k,hy with
  |0,hy=>injection hy with hy;subst hy;exact⟨rfl,by unfold Bo;decide⟩
  |1,hy=>injection hy with hy;subst hy;exact⟨rfl,by unfold Bo;decide⟩)).sl (tg:=true)
 have hs:=(Silo.Be.lit (E:=qz) (w:=(w1.alloc (.cells #[.int .i64 5,.int .i64 0] 3))) (S:=fun q=>True) (T:=88) (base:=0) [.int .i64 0,.int .i64 0,.int .i64 1,.int .i64 0,.int .i64 2,.int .i64 0] [(⟨0,0⟩:Slot),⟨1,0⟩,⟨2,0⟩] 3 (Nat.zero_le _) (by decide) rfl rfl (fun k y hy=>by
  match k,hy with
  |0,hy=>injection hy with hy;subst hy;exact⟨rfl,by unfold Bo;decide,by unfold Bo;decide⟩
  |1,hy=>injection hy with hy;subst hy;exact⟨rfl,by unfold Bo;decide,by unfold Bo;decide⟩
  |2,hy=>injection hy with hy;subst hy;exact⟨rfl,by unfold Bo;decide,by unfold Bo;decide⟩)).sl (tg:=true)
 have hi2:=hi.all (w':=((w1.alloc (.cells #[.int .i64 5,.int .i64 0] 3)).alloc (.cells #[.int .i64 0,.int .i64 0,.int .i64 1,.int .i64 0,.int .i64 2,.int .i64 0] 88))) ((Below.refl _ _).alloc (Nat.le_refl _) _);have p8:Below w1.heap.size w1 ((w1.alloc (.cells #[.int .i64 5,.int .i64 0] 3)).alloc (.cells #[.int .i64 0,.int .i64 0,.int .i64 1,.int .i64 0,.int .i64 2,.int .i64 0] 88)):=bz;rw[World.size_alloc] at hs;generalize ((w1.alloc (.cells #[.int .i64 5,.int .i64 0] 3)).alloc (.cells #[.int .i64 0,.int .i64 0,.int .i64 1,.int .i64 0,.int .i64 2,.int .i64 0] 88))=w2 at *;have gu:=zt gB p8;clear p8 hi;have hcl:=Kj (w:=w2) (tg:=true) (tg0:=true) (tg1:=true) (tg2:=true) (S:=fun _=>False) (A0:=none) (n0:=0) (c0:=0) (A1:=none) (n1:=0) (c1:=0) (A2:=none) (n2:=0) (c2:=0) (s:=⟨2,1,4⟩) (b:=⟨[],[],[],0⟩) (r:=Ey) ⟨by unfold Bo;decide,by unfold Bo;decide,by unfold Bo;decide⟩ ⟨by decide,by decide,by decide⟩ ⟨Sl.BA (by decide),Sl.BA (by decide),Sl.BA (by decide),by unfold Bo;decide⟩ ⟨QI,QI⟩ (hi2.mono (S':=fun _=>True) (fun _ _ _=>trivial)) (hs.mono (S':=fun _=>True) (fun _ _ _=>trivial));rw[ZN] at hcl;refine hcl.mono ?_;clear hcl hi2 hs;rintro e w3 ⟨D0,m0',d0,D1,m1,d1,D2,m2,d2,rfl,hbr,hb3⟩;have hlen:m0'=1:=hbr.st.len.symm;subst hlen;have gG:=zt gu hb3;clear hb3 hbr
 go_upto_region 2 with (fail)
 have hx:=heap_alloc_new w3 (.cells #[.slice D0 1 d0,.slice D1 m1 d1,.slice D2 m2 d2,.int .i64 4] 28);have hal:Below w3.heap.size w3 (w3.alloc (.cells #[.slice D0 1 d0,.slice D1 m1 d1,.slice D2 m2 d2,.int .i64 4] 28)):=bz;have hlt:w3.heap.size<(w3.alloc (.cells #[.slice D0 1 d0,.slice D1 m1 d1,.slice D2 m2 d2,.int .i64 4] 28)).heap.size:=by simp
 generalize (w3.alloc (.cells #[.slice D0 1 d0,.slice D1 m1 d1,.slice D2 m2 d2,.int .i64 4] 28))=w4 at *;have HX:=zh hx;clear hx;have gv:Hid (Below w.heap.size w w4):=zt gG hal;clear hal;generalize w3.heap.size=g at *;go_wp2_with fail
 refine(Zh (e:=0)).mono ?_;rintro e w5 ⟨rfl,gH⟩;have hx:=(gH.block g hlt).trans HX.out;have x0:=zc 0 hx (.slice D0 1 d0) rfl;have x3:=zc 3 hx (.int .i64 4) rfl;have mi:=zt gv gH;clear gH hx;go_wp2
 go_ret
 exact⟨by rfl,mi.out⟩
end Go.Proofs.YtipecejghioicaaGreat
set_option maxRecDepth 100000
namespace Go.Silo
open Go.RowKit Go.ChangeShapes Go.WideShapes Go.Deep
def CJ {α:Type}(P:Program) (E:Enc α) (t:TypeId):Prop:=
 ∀(H:Type) (enc:TypeId×Value→H) (w:World) (fuel:Nat) (cs:List Value) (x:DataW H×List MemPlace),
  DataW.trod enc P w 0 (fun _=>true) true fuel t cs=some x→w.noneFrozen x.2→∃a,E.R w (fun b=>b<w.heap.size) cs a
theorem kA {w:World}{p q:List MemPlace}(h:w.noneFrozen (p++q)):w.noneFrozen p:=fun b o hm=>h b o (List.mem_append_left _ hm)
theorem ka {w:World}{p q:List MemPlace}(h:w.noneFrozen (p++q)):w.noneFrozen q:=fun b o hm=>h b o (List.mem_append_right _ hm)
theorem qS {P:Program}{t:TypeId}(ht:P.underlying t=some (.int .i64)):CJ P Bd t:=by
 intro H enc w fuel cs x h _;obtain⟨n,rfl,_,hw⟩:=DataW.trod_int ht h;refine⟨n,rfl,?_⟩;simp[Lit.wf,IntKind.min,IntKind.max,IntKind.signed,IntKind.bits] at hw;exact⟨by omega,by omega⟩
theorem Qi {P:Program}{t:TypeId}(ht:P.underlying t=some .bool):CJ P Bn t:=by
 intro H enc w fuel cs x h _;obtain⟨b,rfl,_⟩:=DataW.trod_bool ht h;exact⟨b,rfl,trivial⟩
theorem Xz {α:Type}{p:Nat→α→Prop}:∀n:Nat,(∀i,i<n→∃x,p i x)→∃xs:List α,xs.length=n∧∀k x,xs[k]?=some x→p k x
 |0,_=>⟨[],rfl,fun k x h=>by simp at h⟩
 |n+1,h=>by
  obtain⟨xs,hl,hx⟩:=Xz n (fun i hi=>h i (by omega));obtain⟨y,hy⟩:=h n (by omega);refine⟨xs++[y],by simp[hl],fun k x hk=>?_⟩;rcases Nat.lt_or_ge k n with hk'|hk'
  ·rw[List.getElem?_append_left (by omega)] at hk;exact hx k x hk
  rw[List.getElem?_append_right (by omega),hl] at hk
  have:k - n=0:=by
   rcases Nat.eq_zero_or_pos (k - n) with h0|h0
   ·exact h0
   rw[List.getElem?_eq_none (by simp;omega)] at hk;cases hk
  rw[this] at hk;injection hk with hk
  subst hk;rw[show k=n by omega];exact hy
end Go.Silo
namespace Go.Proofs.YtipecejghioicaaGreat
open Go.RowKit Go.ChangeShapes Go.WideShapes Go.Deep Go.Silo
theorem Dh:CJ Tryz.prog qz 88:=by
 intro H enc w fuel cs x h hfz;obtain⟨y0,y1,n,rfl,hl,h0,h1⟩:=trod_struct2 Tryz.underlying88 h;have hc:Tryz.prog.cellsOf 88=2:=by kernel_rfl
 have hi:Tryz.prog.cellsOf 3=1:=by kernel_rfl
 rw[hc] at hl
 match cs,hl with
 |[c0,c1],_=>
 simp only[hi] at h0 h1;obtain⟨a0,e0,i0⟩:=qS Tryz.underlying3 H enc w n _ _ h0 (kA hfz);obtain⟨a1,e1,i1⟩:=qS Tryz.underlying3 H enc w n _ _ h1 (ka hfz);simp at e0 e1;subst e0 e1;exact⟨⟨a0,a1⟩,rfl,i0,i1⟩
theorem law_post {H:Type}{enc:TypeId×Value→H}{P:Program}{f:Func}{s:ChangeSpec}{W W':World}{args:Array Value}{v:Value}{ds gs:List (DataW H)}{before pa pv:List MemPlace}
  (hW:DataW.Whole enc P f.params.toList s.vars false W args.toList ds gs before) (hres:DataW.TrodAll enc P W' W.heap.size (fun _=>false) false f.resultTypes.toList (v.resultList f.resultTypes.size) (s.fn H (ds++gs)).results [])
  (hargs:DataW.TrodAll enc P W' 0 (fun b=>decide (b<W.heap.size)) true f.params.toList args.toList (s.fn H (ds++gs)).args pa) (hvars:DataW.TrodVars enc P W' (fun b=>decide (b<W.heap.size)) s.vars (s.fn H (ds++gs)).vars pv)
  (hb:Below W.heap.size W W'):s.post enc P f false true false false W args v W':=
 ⟨ds,gs,before,[],pa,pv,hW,hres,hargs,hvars,hb.frame _,fun h=>by cases h⟩
end Go.Proofs.YtipecejghioicaaGreat
namespace Go.Silo
open Go.RowKit Go.ChangeShapes Go.WideShapes Go.Deep
def zA {α:Type}(P:Program) (E:Enc α) (t:TypeId) (B:α→Prop):Prop:=
 ∀(H:Type) (enc:TypeId×Value→H) (w:World) (fuel:Nat) (cs:List Value) (x:DataW H×List MemPlace),
  DataW.trod enc P w 0 (fun _=>true) true fuel t cs=some x→w.noneFrozen x.2→(∀n∈x.1.weights P t,n≤reachBytes)→∃a,E.R w (fun b=>b<w.heap.size) cs a∧B a
theorem CJ.any {α:Type}{P:Program}{E:Enc α}{t:TypeId}(h:CJ P E t):zA P E t (fun _=>True):=by
 intro H enc w fuel cs x h1 h2 _;obtain⟨a,ha⟩:=h H enc w fuel cs x h1 h2;exact⟨a,ha,trivial⟩
theorem je {H:Type}{P:Program}{e:TypeId}{d:DataW H}:∀{ds:List (DataW H)},d∈ds→∀n∈d.weights P e,n∈DataW.weightsAll P e ds
 |[],h=>by cases h
 |d0::ds,h=>by
  intro n hn;unfold DataW.weightsAll;rcases List.mem_cons.1 h with rfl|h
  ·exact List.mem_append_left _ hn
  exact List.mem_append_right _ (je h n hn)
theorem zk {α:Type}{P:Program}{E:Enc α}{t e T:TypeId}{B:α→Prop}(ht:P.underlying t=some (.slice e)) (hc:P.cellsOf e=E.sz) (hpos:0<E.sz) (K:Nat) (hbytes:P.bytesOf e=K) (hE:zA P E e B):
  zA P (Cg false T E) t (fun xs=>xs.length* K≤reachBytes∧∀y∈xs,B y):=by
 intro H enc w fuel cs x h hfz hw;rcases open_slice ht h with ⟨rfl,rfl⟩|⟨a,len,cap,m,n,D,Pl,rfl,_,hl,hm,hmm,rfl,hi⟩
 ·exact⟨[],⟨none,0,0,rfl,Sl.BA (by omega)⟩,by simp,fun y hy=>by cases hy⟩
 simp only[if_true] at hmm;subst hmm;rw[hc] at hi hfz;simp only[DataW.weights,ht,hbytes] at hw
 have hlen:len* K≤reachBytes:=by
  have h1:=hw _ (List.mem_cons_self ..);simp only[List.length_map,List.length_range] at h1;exact Nat.le_trans (Nat.mul_le_mul_right _ (by omega)) h1
 have hel:∀i,i<len→∃y,B y∧∃vs,E.R w (fun b=>b<w.heap.size) vs y∧w.cells? 0 (a.add (i* E.sz)) E.sz=some vs:=by
  intro i hil;obtain⟨cs',h1,h2⟩:=hi i (by omega)
  obtain⟨y,hy,hB⟩:=hE H enc w n cs' _ h2 (fun b o hm'=>hfz b o (List.mem_append_right _ (List.mem_flatMap.2 ⟨i,List.mem_range.2 (by omega),hm'⟩)))
   (fun k hk=>hw k (List.mem_cons_of_mem _ (List.mem_append_left _ (je (List.mem_map.2 ⟨i,List.mem_range.2 hil,rfl⟩) k hk))))
  exact⟨y,hB,cs',hy,h1⟩
 obtain⟨xs,hxl,hx⟩:=Xz len hel;refine⟨xs,⟨some a,len,_,rfl,hxl,hl,hm,fun h0=>?_⟩,by rw[hxl];exact hlen,fun y hy=>?_⟩
 ·obtain⟨_,vs0,hv0,hc0⟩:=hx 0 _ (List.getElem?_eq_getElem (by omega));obtain⟨_,hl0,hat0⟩:=World.cells?_some hc0
  have un:w.cell? a=some (vs0[0]'(by omega)):=by
   have:=hat0 0 hpos;rw[Nat.zero_mul] at this;rw[List.getElem?_eq_getElem (by omega)] at this;simpa[Addr.add] using this
  obtain⟨ab,ao,asp⟩:=a;obtain rfl:asp=none:=World.cell?_spot un;refine⟨ab,ao,rfl,World.block_lt_of_cell? w _ un,World.block_lt_of_cell? w _ un,(fun h=>by cases h),fun k y hk=>?_⟩;obtain⟨_,vs,hv,hck⟩:=hx k y hk;have hkl:k<len:=by have:=(List.getElem?_eq_some_iff.1 hk).1;omega
  obtain⟨_,hlv,hat⟩:=World.cells?_some hck;refine⟨vs,hv,fun j v hj=>?_⟩;have hjl:j<E.sz:=by have:=(List.getElem?_eq_some_iff.1 hj).1;omega
  have hadd:∀m,(⟨ab,ao,none⟩:Addr).add m=⟨ab,ao+m,none⟩:=by
   intro m;unfold Addr.add
   split
   ·rename_i h;rw[h];rfl
   rfl
  have h1:=hat j hjl;rw[Go.Deep.add_add,hadd,hj,←Nat.add_assoc] at h1;refine⟨h1,hfz ab _ (List.mem_append_left _ ?_)⟩;unfold MemPlace.row;refine List.mem_map.2 ⟨k* E.sz+j,List.mem_range.2 ?_,by simp[Nat.add_assoc]⟩;have h2:(k+1)* E.sz≤m* E.sz:=Nat.mul_le_mul_right _ (by omega);rw[Nat.succ_mul] at h2;omega
 obtain⟨k,hk⟩:=List.mem_iff_getElem?.1 hy;exact(hx k y hk).1
end Go.Silo
namespace Go.Proofs.YtipecejghioicaaGreat
open Go.RowKit Go.ChangeShapes Go.WideShapes Go.Deep Go.Silo
theorem ks:zA Tryz.prog (Cg false 3 Bd) 36 (fun xs=>xs.length* 8≤reachBytes∧∀y∈xs,True):=zk Tryz.underlying36 (by kernel_rfl) (by decide) 8 (by kernel_rfl) (qS Tryz.underlying3).any
theorem Zi:zA Tryz.prog (Cg false 4 Bn) 30 (fun xs=>xs.length* 1≤reachBytes∧∀y∈xs,True):=zk Tryz.underlying30 (by kernel_rfl) (by decide) 1 (by kernel_rfl) (Qi Tryz.underlying4).any
end Go.Proofs.YtipecejghioicaaGreat
set_option maxRecDepth 100000
namespace Go.Proofs.YtipecejghioicaaGreat
open Go.RowKit Go.ChangeShapes Go.WideShapes Go.Deep Go.Silo
theorem Zj:zA Tryz.prog EC 23 (fun _=>True):=by
 intro H enc w fuel cs x h hfz hw;obtain⟨xs,n,_,rfl,hl,hlen,hf⟩:=DataW.trod_struct Tryz.underlying23 h;have hc:Tryz.prog.cellsOf 23=3:=by kernel_rfl
 rw[hc] at hl;have hs0:Tryz.prog.cellsOf 3=1:=by kernel_rfl
 match cs,hl with
 |[c0,c1,c2],_=>
 match xs,hlen with
 |[y0,y1,y2],_=>
 have h0:DataW.trod enc Tryz.prog w 0 (fun _=>true) true n 3 (([c0,c1,c2].drop 0).take (Tryz.prog.cellsOf 3))=some y0:=hf 0 _ rfl;rw[hs0] at h0;have h1:DataW.trod enc Tryz.prog w 0 (fun _=>true) true n 3 (([c0,c1,c2].drop 1).take (Tryz.prog.cellsOf 3))=some y1:=hf 1 _ rfl;rw[hs0] at h1;have h2:DataW.trod enc Tryz.prog w 0 (fun _=>true) true n 3 (([c0,c1,c2].drop 2).take (Tryz.prog.cellsOf 3))=some y2:=hf 2 _ rfl;rw[hs0] at h2;have hz:∀y∈[y0,y1,y2],w.noneFrozen y.2:=fun y hy b o hm=>hfz b o (List.mem_flatMap.2 ⟨y,hy,hm⟩);simp only[DataW.weights,Tryz.underlying23] at hw;obtain⟨a0,e0,i0⟩:=qS Tryz.underlying3 H enc w n _ _ h0 (hz _ (by simp));obtain⟨a1,e1,i1⟩:=qS Tryz.underlying3 H enc w n _ _ h1 (hz _ (by simp));obtain⟨a2,e2,i2⟩:=qS Tryz.underlying3 H enc w n _ _ h2 (hz _ (by simp));simp at e0 e1 e2;subst e0 e1 e2;exact⟨⟨a0,a1,a2⟩,⟨rfl,i0,i1,i2⟩,trivial⟩
theorem jm:zA Tryz.prog (Cg false 88 qz) 59 (fun xs=>xs.length* 16≤reachBytes∧∀y∈xs,True):=zk Tryz.underlying59 (by kernel_rfl) (by decide) 16 (by kernel_rfl) Dh.any
def kH (x:Bb):Prop:=x.place.length* 16≤reachBytes
theorem Qx:zA Tryz.prog (qe false) 86 kH:=by
 intro H enc w fuel cs x h hfz hw;obtain⟨xs,n,_,rfl,hl,hlen,hf⟩:=DataW.trod_struct Tryz.underlying86 h;have hc:Tryz.prog.cellsOf 86=4:=by kernel_rfl
 rw[hc] at hl;have hs0:Tryz.prog.cellsOf 3=1:=by kernel_rfl
 have hs1:Tryz.prog.cellsOf 59=1:=by kernel_rfl
 match cs,hl with
 |[c0,c1,c2,c3],_=>
 match xs,hlen with
 |[y0,y1,y2,y3],_=>
 have h0:DataW.trod enc Tryz.prog w 0 (fun _=>true) true n 3 (([c0,c1,c2,c3].drop 0).take (Tryz.prog.cellsOf 3))=some y0:=hf 0 _ rfl;rw[hs0] at h0;have h1:DataW.trod enc Tryz.prog w 0 (fun _=>true) true n 3 (([c0,c1,c2,c3].drop 1).take (Tryz.prog.cellsOf 3))=some y1:=hf 1 _ rfl;rw[hs0] at h1;have h2:DataW.trod enc Tryz.prog w 0 (fun _=>true) true n 3 (([c0,c1,c2,c3].drop 2).take (Tryz.prog.cellsOf 3))=some y2:=hf 2 _ rfl;rw[hs0] at h2;have h3:DataW.trod enc Tryz.prog w 0 (fun _=>true) true n 59 (([c0,c1,c2,c3].drop 3).take (Tryz.prog.cellsOf 59))=some y3:=hf 3 _ rfl;rw[hs1] at h3;have hz:∀y∈[y0,y1,y2,y3],w.noneFrozen y.2:=fun y hy b o hm=>hfz b o (List.mem_flatMap.2 ⟨y,hy,hm⟩);simp only[DataW.weights,Tryz.underlying86] at hw;obtain⟨a0,e0,i0⟩:=qS Tryz.underlying3 H enc w n _ _ h0 (hz _ (by simp));obtain⟨a1,e1,i1⟩:=qS Tryz.underlying3 H enc w n _ _ h1 (hz _ (by simp));obtain⟨a2,e2,i2⟩:=qS Tryz.underlying3 H enc w n _ _ h2 (hz _ (by simp));obtain⟨a3,⟨A3,n3,k3,e3,i3⟩,j3⟩:=jm H enc w n _ _ h3 (hz _ (by simp)) (fun k hk=>hw k (DataW.weights_mem_each (j:=3) (t:=59) (d:=y3.1) rfl rfl k hk));simp at e0 e1 e2 e3;subst e0 e1 e2 e3;exact⟨⟨a0,a1,a2,a3⟩,⟨A3,n3,k3,rfl,⟨i0,i1,i2⟩,i3⟩,j3.1⟩
theorem Qj:zA Tryz.prog (Cg false 86 (qe false)) 24 (fun xs=>xs.length* 48≤reachBytes∧∀y∈xs,kH y):=zk Tryz.underlying24 (by kernel_rfl) (by decide) 48 (by kernel_rfl) Qx
structure AskP where
 s:List Shape
 x:List Bb
 y:Bg
 g:List Bool
 n:List Dc
end Go.Proofs.YtipecejghioicaaGreat
