/- How silolaw16's scripts and silolaw17's asks read; no list is longer than the reach. -/
import Derived.Test.YtipecejghioicaaGreatL3s
import Derived.Test.YtipecejghioicaaGreatP0s
set_option maxRecDepth 100000
namespace Go.Silo
open Go.RowKit Go.ChangeShapes Go.WideShapes Go.Deep
def Qy (x:ByteArray):Prop:=x.size≤reachBytes
theorem xm {P:Program}{t:TypeId}(ht:P.underlying t=some .string):zA P strE t Qy:=by
 intro H enc w fuel cs x h _ hw;obtain⟨s,rfl,rfl,h3⟩:=DataW.trod_string ht h;refine⟨s,⟨rfl,h3⟩,?_⟩;have:=hw s.data.toList.length (by simp[DataW.weights]);simpa[Qy] using this
end Go.Silo
namespace Go.Proofs.YtipecejghioicaaGreat
open Go.RowKit Go.ChangeShapes Go.WideShapes Go.Deep Go.Silo
def Zk (x:Entry):Prop:=Qy x.digest∧x.list.length* 8≤reachBytes
def Eo (x:Tag):Prop:=Qy x.name∧Qy x.digest
def jL (x:Bt):Prop:=Qy x.name∧Qy x.digest∧x.list.length* 8≤reachBytes∧x.slots.length* 16≤reachBytes
def XA (x:Book):Prop:=(x.Ba.length* 48≤reachBytes∧∀y∈x.Ba,kH y)∧(x.things.length* 56≤reachBytes∧∀y∈x.things,Zk y)∧(x.tags.length* 32≤reachBytes∧∀y∈x.tags,Eo y)
theorem Zl:zA Tryz.prog (ql false) 90 Zk:=by
 intro H enc w fuel cs x h hfz hw;obtain⟨xs,n,_,rfl,hl,hlen,hf⟩:=DataW.trod_struct Tryz.underlying90 h;have hc:Tryz.prog.cellsOf 90=4:=by kernel_rfl
 rw[hc] at hl;have hs0:Tryz.prog.cellsOf 9=1:=by kernel_rfl
 have hs1:Tryz.prog.cellsOf 3=1:=by kernel_rfl
 have hs2:Tryz.prog.cellsOf 4=1:=by kernel_rfl
 have hs3:Tryz.prog.cellsOf 36=1:=by kernel_rfl
 match cs,hl with
 |[c0,c1,c2,c3],_=>
 match xs,hlen with
 |[y0,y1,y2,y3],_=>
 have h0:DataW.trod enc Tryz.prog w 0 (fun _=>true) true n 9 (([c0,c1,c2,c3].drop 0).take (Tryz.prog.cellsOf 9))=some y0:=hf 0 _ rfl;rw[hs0] at h0;have h1:DataW.trod enc Tryz.prog w 0 (fun _=>true) true n 3 (([c0,c1,c2,c3].drop 1).take (Tryz.prog.cellsOf 3))=some y1:=hf 1 _ rfl;rw[hs1] at h1;have h2:DataW.trod enc Tryz.prog w 0 (fun _=>true) true n 4 (([c0,c1,c2,c3].drop 2).take (Tryz.prog.cellsOf 4))=some y2:=hf 2 _ rfl;rw[hs2] at h2;have h3:DataW.trod enc Tryz.prog w 0 (fun _=>true) true n 36 (([c0,c1,c2,c3].drop 3).take (Tryz.prog.cellsOf 36))=some y3:=hf 3 _ rfl;rw[hs3] at h3;have hz:∀y∈[y0,y1,y2,y3],w.noneFrozen y.2:=fun y hy b o hm=>hfz b o (List.mem_flatMap.2 ⟨y,hy,hm⟩);simp only[DataW.weights,Tryz.underlying90] at hw;obtain⟨a0,⟨e0,i0⟩,j0⟩:=(xm Tryz.underlying9) H enc w n _ _ h0 (hz _ (by simp)) (fun k hk=>hw k (DataW.weights_mem_each (j:=0) (t:=9) (d:=y0.1) rfl rfl k hk));obtain⟨a1,e1,i1⟩:=qS Tryz.underlying3 H enc w n _ _ h1 (hz _ (by simp));obtain⟨a2,e2,_⟩:=Qi Tryz.underlying4 H enc w n _ _ h2 (hz _ (by simp));obtain⟨a3,⟨A3,n3,k3,e3,i3⟩,j3⟩:=ks H enc w n _ _ h3 (hz _ (by simp)) (fun k hk=>hw k (DataW.weights_mem_each (j:=3) (t:=36) (d:=y3.1) rfl rfl k hk));simp at e0 e1 e2 e3;subst e0 e1 e2 e3;exact⟨⟨a0,a1,a2,a3⟩,⟨A3,n3,k3,rfl,⟨i0,i1⟩,i3⟩,⟨j0,j3.1⟩⟩
theorem Qk:zA Tryz.prog (Cg false 90 (ql false)) 25 (fun xs=>xs.length* 56≤reachBytes∧∀y∈xs,Zk y):=zk Tryz.underlying25 (by kernel_rfl) (by decide) 56 (by kernel_rfl) Zl
theorem Xq:zA Tryz.prog Bz 94 Eo:=by
 intro H enc w fuel cs x h hfz hw;obtain⟨xs,n,_,rfl,hl,hlen,hf⟩:=DataW.trod_struct Tryz.underlying94 h;have hc:Tryz.prog.cellsOf 94=2:=by kernel_rfl
 rw[hc] at hl;have hs0:Tryz.prog.cellsOf 9=1:=by kernel_rfl
 match cs,hl with
 |[c0,c1],_=>
 match xs,hlen with
 |[y0,y1],_=>
 have h0:DataW.trod enc Tryz.prog w 0 (fun _=>true) true n 9 (([c0,c1].drop 0).take (Tryz.prog.cellsOf 9))=some y0:=hf 0 _ rfl;rw[hs0] at h0;have h1:DataW.trod enc Tryz.prog w 0 (fun _=>true) true n 9 (([c0,c1].drop 1).take (Tryz.prog.cellsOf 9))=some y1:=hf 1 _ rfl;rw[hs0] at h1;have hz:∀y∈[y0,y1],w.noneFrozen y.2:=fun y hy b o hm=>hfz b o (List.mem_flatMap.2 ⟨y,hy,hm⟩);simp only[DataW.weights,Tryz.underlying94] at hw;obtain⟨a0,⟨e0,i0⟩,j0⟩:=(xm Tryz.underlying9) H enc w n _ _ h0 (hz _ (by simp)) (fun k hk=>hw k (DataW.weights_mem_each (j:=0) (t:=9) (d:=y0.1) rfl rfl k hk));obtain⟨a1,⟨e1,i1⟩,j1⟩:=(xm Tryz.underlying9) H enc w n _ _ h1 (hz _ (by simp)) (fun k hk=>hw k (DataW.weights_mem_each (j:=1) (t:=9) (d:=y1.1) rfl rfl k hk));simp at e0 e1;subst e0 e1;exact⟨⟨a0,a1⟩,⟨rfl,i0,i1⟩,⟨j0,j1⟩⟩
theorem ZO:zA Tryz.prog (Cg false 94 Bz) 26 (fun xs=>xs.length* 32≤reachBytes∧∀y∈xs,Eo y):=zk Tryz.underlying26 (by kernel_rfl) (by decide) 32 (by kernel_rfl) Xq
theorem Qz:zA Tryz.prog (xn false) 61 jL:=by
 intro H enc w fuel cs x h hfz hw;obtain⟨xs,n,_,rfl,hl,hlen,hf⟩:=DataW.trod_struct Tryz.underlying61 h;have hc:Tryz.prog.cellsOf 61=6:=by kernel_rfl
 rw[hc] at hl;have hs0:Tryz.prog.cellsOf 3=1:=by kernel_rfl
 have hs1:Tryz.prog.cellsOf 9=1:=by kernel_rfl
 have hs2:Tryz.prog.cellsOf 36=1:=by kernel_rfl
 have hs3:Tryz.prog.cellsOf 59=1:=by kernel_rfl
 match cs,hl with
 |[c0,c1,c2,c3,c4,c5],_=>
 match xs,hlen with
 |[y0,y1,y2,y3,y4,y5],_=>
 have h0:DataW.trod enc Tryz.prog w 0 (fun _=>true) true n 3 (([c0,c1,c2,c3,c4,c5].drop 0).take (Tryz.prog.cellsOf 3))=some y0:=hf 0 _ rfl;rw[hs0] at h0;have h1:DataW.trod enc Tryz.prog w 0 (fun _=>true) true n 3 (([c0,c1,c2,c3,c4,c5].drop 1).take (Tryz.prog.cellsOf 3))=some y1:=hf 1 _ rfl;rw[hs0] at h1;have h2:DataW.trod enc Tryz.prog w 0 (fun _=>true) true n 9 (([c0,c1,c2,c3,c4,c5].drop 2).take (Tryz.prog.cellsOf 9))=some y2:=hf 2 _ rfl;rw[hs1] at h2;have h3:DataW.trod enc Tryz.prog w 0 (fun _=>true) true n 9 (([c0,c1,c2,c3,c4,c5].drop 3).take (Tryz.prog.cellsOf 9))=some y3:=hf 3 _ rfl;rw[hs1] at h3;have h4:DataW.trod enc Tryz.prog w 0 (fun _=>true) true n 36 (([c0,c1,c2,c3,c4,c5].drop 4).take (Tryz.prog.cellsOf 36))=some y4:=hf 4 _ rfl;rw[hs2] at h4;have h5:DataW.trod enc Tryz.prog w 0 (fun _=>true) true n 59 (([c0,c1,c2,c3,c4,c5].drop 5).take (Tryz.prog.cellsOf 59))=some y5:=hf 5 _ rfl;rw[hs3] at h5;have hz:∀y∈[y0,y1,y2,y3,y4,y5],w.noneFrozen y.2:=fun y hy b o hm=>hfz b o (List.mem_flatMap.2 ⟨y,hy,hm⟩);simp only[DataW.weights,Tryz.underlying61] at hw;obtain⟨a0,e0,i0⟩:=qS Tryz.underlying3 H enc w n _ _ h0 (hz _ (by simp));obtain⟨a1,e1,i1⟩:=qS Tryz.underlying3 H enc w n _ _ h1 (hz _ (by simp));obtain⟨a2,⟨e2,i2⟩,j2⟩:=(xm Tryz.underlying9) H enc w n _ _ h2 (hz _ (by simp)) (fun k hk=>hw k (DataW.weights_mem_each (j:=2) (t:=9) (d:=y2.1) rfl rfl k hk));obtain⟨a3,⟨e3,i3⟩,j3⟩:=(xm Tryz.underlying9) H enc w n _ _ h3 (hz _ (by simp)) (fun k hk=>hw k (DataW.weights_mem_each (j:=3) (t:=9) (d:=y3.1) rfl rfl k hk));obtain⟨a4,⟨A4,n4,k4,e4,i4⟩,j4⟩:=ks H enc w n _ _ h4 (hz _ (by simp)) (fun k hk=>hw k (DataW.weights_mem_each (j:=4) (t:=36) (d:=y4.1) rfl rfl k hk));obtain⟨a5,⟨A5,n5,k5,e5,i5⟩,j5⟩:=jm H enc w n _ _ h5 (hz _ (by simp)) (fun k hk=>hw k (DataW.weights_mem_each (j:=5) (t:=59) (d:=y5.1) rfl rfl k hk));simp at e0 e1 e2 e3 e4 e5;subst e0 e1 e2 e3 e4 e5;exact⟨⟨a0,a1,a2,a3,a4,a5⟩,⟨A4,n4,k4,A5,n5,k5,rfl,⟨i0,i1,i2,i3⟩,i4,i5⟩,⟨j2,j3,j4.1,j5.1⟩⟩
theorem Ql:zA Tryz.prog (Cg false 61 (xn false)) 29 (fun xs=>xs.length* 96≤reachBytes∧∀y∈xs,jL y):=zk Tryz.underlying29 (by kernel_rfl) (by decide) 96 (by kernel_rfl) Qz
theorem ZP:zA Tryz.prog (bookE false) 28 XA:=by
 intro H enc w fuel cs x h hfz hw;obtain⟨xs,n,_,rfl,hl,hlen,hf⟩:=DataW.trod_struct Tryz.underlying28 h;have hc:Tryz.prog.cellsOf 28=4:=by kernel_rfl
 rw[hc] at hl;have hs0:Tryz.prog.cellsOf 24=1:=by kernel_rfl
 have hs1:Tryz.prog.cellsOf 25=1:=by kernel_rfl
 have hs2:Tryz.prog.cellsOf 26=1:=by kernel_rfl
 have hs3:Tryz.prog.cellsOf 3=1:=by kernel_rfl
 match cs,hl with
 |[c0,c1,c2,c3],_=>
 match xs,hlen with
 |[y0,y1,y2,y3],_=>
 have h0:DataW.trod enc Tryz.prog w 0 (fun _=>true) true n 24 (([c0,c1,c2,c3].drop 0).take (Tryz.prog.cellsOf 24))=some y0:=hf 0 _ rfl;rw[hs0] at h0;have h1:DataW.trod enc Tryz.prog w 0 (fun _=>true) true n 25 (([c0,c1,c2,c3].drop 1).take (Tryz.prog.cellsOf 25))=some y1:=hf 1 _ rfl;rw[hs1] at h1;have h2:DataW.trod enc Tryz.prog w 0 (fun _=>true) true n 26 (([c0,c1,c2,c3].drop 2).take (Tryz.prog.cellsOf 26))=some y2:=hf 2 _ rfl;rw[hs2] at h2;have h3:DataW.trod enc Tryz.prog w 0 (fun _=>true) true n 3 (([c0,c1,c2,c3].drop 3).take (Tryz.prog.cellsOf 3))=some y3:=hf 3 _ rfl;rw[hs3] at h3;have hz:∀y∈[y0,y1,y2,y3],w.noneFrozen y.2:=fun y hy b o hm=>hfz b o (List.mem_flatMap.2 ⟨y,hy,hm⟩);simp only[DataW.weights,Tryz.underlying28] at hw;obtain⟨a0,⟨A0,n0,k0,e0,i0⟩,j0⟩:=Qj H enc w n _ _ h0 (hz _ (by simp)) (fun k hk=>hw k (DataW.weights_mem_each (j:=0) (t:=24) (d:=y0.1) rfl rfl k hk));obtain⟨a1,⟨A1,n1,k1,e1,i1⟩,j1⟩:=Qk H enc w n _ _ h1 (hz _ (by simp)) (fun k hk=>hw k (DataW.weights_mem_each (j:=1) (t:=25) (d:=y1.1) rfl rfl k hk));obtain⟨a2,⟨A2,n2,k2,e2,i2⟩,j2⟩:=ZO H enc w n _ _ h2 (hz _ (by simp)) (fun k hk=>hw k (DataW.weights_mem_each (j:=2) (t:=26) (d:=y2.1) rfl rfl k hk));obtain⟨a3,e3,i3⟩:=qS Tryz.underlying3 H enc w n _ _ h3 (hz _ (by simp));simp at e0 e1 e2 e3;subst e0 e1 e2 e3;exact⟨⟨a0,a1,a2,a3⟩,⟨A0,n0,k0,A1,n1,k1,A2,n2,k2,rfl,i3,i0,i1,i2⟩,⟨j0,j1,j2⟩⟩
structure xy where
 s:Shape
 b:Book
 l:List Bt
 live:List Bool
 n:Int
def jM (p:xy):Prop:=XA p.b∧(p.l.length* 96≤reachBytes∧∀y∈p.l,jL y)∧p.live.length≤reachBytes
def ZQ (tg:Bool):Enc xy where
 sz:=10
 R w S vs x:=∃A0 n0 c0 A1 n1 c1 A2 n2 c2 A3 n3 c3 A4 n4 c4,vs=[.int .i64 x.s.K,.int .i64 x.s.M,.int .i64 x.s.size,.slice A0 n0 c0,.slice A1 n1 c1,.slice A2 n2 c2,.int .i64 x.b.next,.slice A3 n3 c3,.slice A4 n4 c4,.int .i64 x.n]∧(Bo x.s.K∧Bo x.s.M∧Bo x.s.size)∧(Bo x.b.next∧Bo x.n)∧
  (Sl tg 86 (qe tg) w S A0 n0 c0 x.b.Ba∧Sl tg 90 (ql tg) w S A1 n1 c1 x.b.things∧Sl tg 94 Bz w S A2 n2 c2 x.b.tags)∧Sl tg 61 (xn tg) w S A3 n3 c3 x.l∧Sl tg 4 Bn w S A4 n4 c4 x.live
 len h:=by obtain⟨_,_,_,_,_,_,_,_,_,_,_,_,_,_,_,rfl,_⟩:=h;rfl
 one h:=by obtain⟨_,_,_,_,_,_,_,_,_,_,_,_,_,_,_,rfl,_⟩:=h;simp[Value.oneCell']
 mono hS h:=by obtain⟨_,_,_,_,_,_,_,_,_,_,_,_,_,_,_,rfl,h1,h2,⟨q0,q1,q2⟩,q3,q4⟩:=h;exact⟨_,_,_,_,_,_,_,_,_,_,_,_,_,_,_,rfl,h1,h2,⟨q0.mono hS,q1.mono hS,q2.mono hS⟩,q3.mono hS,q4.mono hS⟩
 frame hA hs h:=by obtain⟨_,_,_,_,_,_,_,_,_,_,_,_,_,_,_,rfl,h1,h2,⟨q0,q1,q2⟩,q3,q4⟩:=h;exact⟨_,_,_,_,_,_,_,_,_,_,_,_,_,_,_,rfl,h1,h2,⟨q0.frame hA hs,q1.frame hA hs,q2.frame hA hs⟩,q3.frame hA hs,q4.frame hA hs⟩
theorem QA:zA Tryz.prog (ZQ false) 32 jM:=by
 intro H enc w fuel cs x h hfz hw;obtain⟨xs,n,_,rfl,hl,hlen,hf⟩:=DataW.trod_struct Tryz.underlying32 h;have hc:Tryz.prog.cellsOf 32=10:=by kernel_rfl
 rw[hc] at hl;have hs0:Tryz.prog.cellsOf 23=3:=by kernel_rfl
 have hs1:Tryz.prog.cellsOf 28=4:=by kernel_rfl
 have hs2:Tryz.prog.cellsOf 29=1:=by kernel_rfl
 have hs3:Tryz.prog.cellsOf 30=1:=by kernel_rfl
 have hs4:Tryz.prog.cellsOf 3=1:=by kernel_rfl
 match cs,hl with
 |[c0,c1,c2,c3,c4,c5,c6,c7,c8,c9],_=>
 match xs,hlen with
 |[y0,y1,y2,y3,y4],_=>
 have h0:DataW.trod enc Tryz.prog w 0 (fun _=>true) true n 23 (([c0,c1,c2,c3,c4,c5,c6,c7,c8,c9].drop 0).take (Tryz.prog.cellsOf 23))=some y0:=hf 0 _ rfl;rw[hs0] at h0;have h1:DataW.trod enc Tryz.prog w 0 (fun _=>true) true n 28 (([c0,c1,c2,c3,c4,c5,c6,c7,c8,c9].drop 3).take (Tryz.prog.cellsOf 28))=some y1:=hf 1 _ rfl;rw[hs1] at h1;have h2:DataW.trod enc Tryz.prog w 0 (fun _=>true) true n 29 (([c0,c1,c2,c3,c4,c5,c6,c7,c8,c9].drop 7).take (Tryz.prog.cellsOf 29))=some y2:=hf 2 _ rfl;rw[hs2] at h2;have h3:DataW.trod enc Tryz.prog w 0 (fun _=>true) true n 30 (([c0,c1,c2,c3,c4,c5,c6,c7,c8,c9].drop 8).take (Tryz.prog.cellsOf 30))=some y3:=hf 3 _ rfl;rw[hs3] at h3;have h4:DataW.trod enc Tryz.prog w 0 (fun _=>true) true n 3 (([c0,c1,c2,c3,c4,c5,c6,c7,c8,c9].drop 9).take (Tryz.prog.cellsOf 3))=some y4:=hf 4 _ rfl;rw[hs4] at h4;have hz:∀y∈[y0,y1,y2,y3,y4],w.noneFrozen y.2:=fun y hy b o hm=>hfz b o (List.mem_flatMap.2 ⟨y,hy,hm⟩);simp only[DataW.weights,Tryz.underlying32] at hw;obtain⟨a0,⟨e0,i0⟩,j0⟩:=Zj H enc w n _ _ h0 (hz _ (by simp)) (fun k hk=>hw k (DataW.weights_mem_each (j:=0) (t:=23) (d:=y0.1) rfl rfl k hk));obtain⟨a1,⟨A0,n0,k0,A1,n1,k1,A2,n2,k2,e1,i1,r0,r1,r2⟩,j1⟩:=ZP H enc w n _ _ h1 (hz _ (by simp)) (fun k hk=>hw k (DataW.weights_mem_each (j:=1) (t:=28) (d:=y1.1) rfl rfl k hk));obtain⟨a2,⟨A2',n2',k2',e2,i2⟩,j2⟩:=Ql H enc w n _ _ h2 (hz _ (by simp)) (fun k hk=>hw k (DataW.weights_mem_each (j:=2) (t:=29) (d:=y2.1) rfl rfl k hk));obtain⟨a3,⟨A3,n3,k3,e3,i3⟩,j3⟩:=Zi H enc w n _ _ h3 (hz _ (by simp)) (fun k hk=>hw k (DataW.weights_mem_each (j:=3) (t:=30) (d:=y3.1) rfl rfl k hk));obtain⟨a4,e4,i4⟩:=qS Tryz.underlying3 H enc w n _ _ h4 (hz _ (by simp));simp at e0 e1 e2 e3 e4;obtain⟨e0',e0'',e0'''⟩:=e0;obtain⟨e1',e1'',e1''',e1''''⟩:=e1;subst e0' e0'' e0''' e1' e1'' e1''' e1'''' e2 e3 e4;exact⟨⟨a0,a1,a2,a3,a4⟩,⟨A0,n0,k0,A1,n1,k1,A2,n2,k2,A2',n2',k2',A3,n3,k3,rfl,i0,⟨i1,i4⟩,⟨r0,r1,r2⟩,i2,i3⟩,⟨j1,j2,by rw[←Nat.mul_one a3.length];exact j3.1⟩⟩
theorem open_script16 {H:Type}{enc:TypeId×Value→H}{w:World}{v:Value}{d:DataW H}{p:List MemPlace}{r:Reach}{b0:Nat}(hv:Value.okWide Tryz.prog w r b0 32 v) (h:DataW.Trod enc Tryz.prog w 0 (fun _=>true) true 32 v d p) (hfz:w.noneFrozen p)
  (hw:∀k∈d.weights Tryz.prog 32,k≤reachBytes):
  ∃vs,∃q:xy,v=.agg (List.toArray vs)∧(ZQ false).R w (fun b=>b<w.heap.size) vs q∧jM q:=by
 obtain⟨cs,rfl,hsz⟩:=okWide_struct Tryz.underlying32 hv;obtain⟨fuel,hf0⟩:=h;obtain⟨q,hR,hQ⟩:=QA H enc w fuel cs.toList _ hf0 hfz hw;exact⟨cs.toList,q,by rw[Array.toArray_toList],hR,hQ⟩
end Go.Proofs.YtipecejghioicaaGreat
