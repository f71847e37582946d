import Derived.Test.YtipecejghioicaaGreatL3v
set_option maxRecDepth 100000
set_option maxHeartbeats 8000000
namespace Go.Silo
open Go.RowKit Go.ChangeShapes Go.WideShapes Go.Deep
def ZD (x:ByteArray):Prop:=x.size≤reachBytes
theorem jc {P:Program}{t:TypeId}(ht:P.underlying t=some .string):zR P strE t ZD:=by
 intro H enc w fuel cs x h _ hw;obtain⟨s,rfl,rfl,h3⟩:=DataW.trod_string ht h;refine⟨s,⟨rfl,h3⟩,?_⟩;have:=hw s.data.toList.length (by simp[DataW.weights]);simpa[ZD] using this
end Go.Silo
namespace Go.Proofs.YtipecejghioicaaGreat
open Go.RowKit Go.ChangeShapes Go.WideShapes Go.Deep Go.Silo
def Xj (x:Entry):Prop:=ZD x.digest∧x.list.length* 8≤reachBytes
def EW (x:Tag):Prop:=ZD x.name∧ZD x.digest
def kT (x:Bc):Prop:=ZD x.name∧ZD x.digest∧x.list.length* 8≤reachBytes∧x.slots.length* 16≤reachBytes
def Kc (x:Book):Prop:=(x.Ba.length* 48≤reachBytes∧∀y∈x.Ba,QI y)∧(x.things.length* 56≤reachBytes∧∀y∈x.things,Xj y)∧(x.tags.length* 32≤reachBytes∧∀y∈x.tags,EW y)
theorem Xk:zR Tryz.prog (qj false) 90 Xj:=by
 intro H enc w fuel cs x h hfz hw;obtain⟨xs,n,_,rfl,hl,hlen,hf⟩:=DataW.trod_struct Tryz.underlying90 h;have hc:Tryz.prog.cellsOf 90=4:=by kernel_rfl
 rw[hc] at hl;have hs0:Tryz.prog.cellsOf 9=1:=by kernel_rfl
 have hs1:Tryz.prog.cellsOf 3=1:=by kernel_rfl
 have hs2:Tryz.prog.cellsOf 4=1:=by kernel_rfl
 have hs3:Tryz.prog.cellsOf 36=1:=by kernel_rfl
 match cs,hl with
 |[c0,c1,c2,c3],_=>
 match xs,hlen with
 |[y0,y1,y2,y3],_=>
 have h0:DataW.trod enc Tryz.prog w 0 (fun _=>true) true n 9 (([c0,c1,c2,c3].drop 0).take (Tryz.prog.cellsOf 9))=some y0:=hf 0 _ rfl;rw[hs0] at h0;have h1:DataW.trod enc Tryz.prog w 0 (fun _=>true) true n 3 (([c0,c1,c2,c3].drop 1).take (Tryz.prog.cellsOf 3))=some y1:=hf 1 _ rfl;rw[hs1] at h1;have h2:DataW.trod enc Tryz.prog w 0 (fun _=>true) true n 4 (([c0,c1,c2,c3].drop 2).take (Tryz.prog.cellsOf 4))=some y2:=hf 2 _ rfl;rw[hs2] at h2;have h3:DataW.trod enc Tryz.prog w 0 (fun _=>true) true n 36 (([c0,c1,c2,c3].drop 3).take (Tryz.prog.cellsOf 36))=some y3:=hf 3 _ rfl;rw[hs3] at h3;have hz:∀y∈[y0,y1,y2,y3],w.noneFrozen y.2:=fun y hy b o hm=>hfz b o (List.mem_flatMap.2 ⟨y,hy,hm⟩);simp only[DataW.weights,Tryz.underlying90] at hw;obtain⟨a0,⟨e0,i0⟩,j0⟩:=(jc Tryz.underlying9) H enc w n _ _ h0 (hz _ (by simp)) (fun k hk=>hw k (DataW.weights_mem_each (j:=0) (t:=9) (d:=y0.1) rfl rfl k hk));obtain⟨a1,e1,i1⟩:=zi Tryz.underlying3 H enc w n _ _ h1 (hz _ (by simp));obtain⟨a2,e2,_⟩:=Zo Tryz.underlying4 H enc w n _ _ h2 (hz _ (by simp));obtain⟨a3,⟨A3,n3,k3,e3,i3⟩,j3⟩:=Qs H enc w n _ _ h3 (hz _ (by simp)) (fun k hk=>hw k (DataW.weights_mem_each (j:=3) (t:=36) (d:=y3.1) rfl rfl k hk));simp at e0 e1 e2 e3;subst e0 e1 e2 e3;exact⟨⟨a0,a1,a2,a3⟩,⟨A3,n3,k3,rfl,⟨i0,i1⟩,i3⟩,⟨j0,j3.1⟩⟩
theorem Zq:zR Tryz.prog (Dm false 90 (qj false)) 25 (fun xs=>xs.length* 56≤reachBytes∧∀y∈xs,Xj y):=zI Tryz.underlying25 (by kernel_rfl) (by decide) 56 (by kernel_rfl) Xk
theorem JG:zR Tryz.prog Bu 94 EW:=by
 intro H enc w fuel cs x h hfz hw;obtain⟨xs,n,_,rfl,hl,hlen,hf⟩:=DataW.trod_struct Tryz.underlying94 h;have hc:Tryz.prog.cellsOf 94=2:=by kernel_rfl
 rw[hc] at hl;have hs0:Tryz.prog.cellsOf 9=1:=by kernel_rfl
 match cs,hl with
 |[c0,c1],_=>
 match xs,hlen with
 |[y0,y1],_=>
 have h0:DataW.trod enc Tryz.prog w 0 (fun _=>true) true n 9 (([c0,c1].drop 0).take (Tryz.prog.cellsOf 9))=some y0:=hf 0 _ rfl;rw[hs0] at h0;have h1:DataW.trod enc Tryz.prog w 0 (fun _=>true) true n 9 (([c0,c1].drop 1).take (Tryz.prog.cellsOf 9))=some y1:=hf 1 _ rfl;rw[hs0] at h1;have hz:∀y∈[y0,y1],w.noneFrozen y.2:=fun y hy b o hm=>hfz b o (List.mem_flatMap.2 ⟨y,hy,hm⟩);simp only[DataW.weights,Tryz.underlying94] at hw;obtain⟨a0,⟨e0,i0⟩,j0⟩:=(jc Tryz.underlying9) H enc w n _ _ h0 (hz _ (by simp)) (fun k hk=>hw k (DataW.weights_mem_each (j:=0) (t:=9) (d:=y0.1) rfl rfl k hk));obtain⟨a1,⟨e1,i1⟩,j1⟩:=(jc Tryz.underlying9) H enc w n _ _ h1 (hz _ (by simp)) (fun k hk=>hw k (DataW.weights_mem_each (j:=1) (t:=9) (d:=y1.1) rfl rfl k hk));simp at e0 e1;subst e0 e1;exact⟨⟨a0,a1⟩,⟨rfl,i0,i1⟩,⟨j0,j1⟩⟩
theorem XY:zR Tryz.prog (Dm false 94 Bu) 26 (fun xs=>xs.length* 32≤reachBytes∧∀y∈xs,EW y):=zI Tryz.underlying26 (by kernel_rfl) (by decide) 32 (by kernel_rfl) JG
theorem ZE:zR Tryz.prog (qi false) 61 kT:=by
 intro H enc w fuel cs x h hfz hw;obtain⟨xs,n,_,rfl,hl,hlen,hf⟩:=DataW.trod_struct Tryz.underlying61 h;have hc:Tryz.prog.cellsOf 61=6:=by kernel_rfl
 rw[hc] at hl;have hs0:Tryz.prog.cellsOf 3=1:=by kernel_rfl
 have hs1:Tryz.prog.cellsOf 9=1:=by kernel_rfl
 have hs2:Tryz.prog.cellsOf 36=1:=by kernel_rfl
 have hs3:Tryz.prog.cellsOf 59=1:=by kernel_rfl
 match cs,hl with
 |[c0,c1,c2,c3,c4,c5],_=>
 match xs,hlen with
 |[y0,y1,y2,y3,y4,y5],_=>
 have h0:DataW.trod enc Tryz.prog w 0 (fun _=>true) true n 3 (([c0,c1,c2,c3,c4,c5].drop 0).take (Tryz.prog.cellsOf 3))=some y0:=hf 0 _ rfl;rw[hs0] at h0;have h1:DataW.trod enc Tryz.prog w 0 (fun _=>true) true n 3 (([c0,c1,c2,c3,c4,c5].drop 1).take (Tryz.prog.cellsOf 3))=some y1:=hf 1 _ rfl;rw[hs0] at h1;have h2:DataW.trod enc Tryz.prog w 0 (fun _=>true) true n 9 (([c0,c1,c2,c3,c4,c5].drop 2).take (Tryz.prog.cellsOf 9))=some y2:=hf 2 _ rfl;rw[hs1] at h2;have h3:DataW.trod enc Tryz.prog w 0 (fun _=>true) true n 9 (([c0,c1,c2,c3,c4,c5].drop 3).take (Tryz.prog.cellsOf 9))=some y3:=hf 3 _ rfl;rw[hs1] at h3;have h4:DataW.trod enc Tryz.prog w 0 (fun _=>true) true n 36 (([c0,c1,c2,c3,c4,c5].drop 4).take (Tryz.prog.cellsOf 36))=some y4:=hf 4 _ rfl;rw[hs2] at h4;have h5:DataW.trod enc Tryz.prog w 0 (fun _=>true) true n 59 (([c0,c1,c2,c3,c4,c5].drop 5).take (Tryz.prog.cellsOf 59))=some y5:=hf 5 _ rfl;rw[hs3] at h5;have hz:∀y∈[y0,y1,y2,y3,y4,y5],w.noneFrozen y.2:=fun y hy b o hm=>hfz b o (List.mem_flatMap.2 ⟨y,hy,hm⟩);simp only[DataW.weights,Tryz.underlying61] at hw;obtain⟨a0,e0,i0⟩:=zi Tryz.underlying3 H enc w n _ _ h0 (hz _ (by simp));obtain⟨a1,e1,i1⟩:=zi Tryz.underlying3 H enc w n _ _ h1 (hz _ (by simp));obtain⟨a2,⟨e2,i2⟩,j2⟩:=(jc Tryz.underlying9) H enc w n _ _ h2 (hz _ (by simp)) (fun k hk=>hw k (DataW.weights_mem_each (j:=2) (t:=9) (d:=y2.1) rfl rfl k hk));obtain⟨a3,⟨e3,i3⟩,j3⟩:=(jc Tryz.underlying9) H enc w n _ _ h3 (hz _ (by simp)) (fun k hk=>hw k (DataW.weights_mem_each (j:=3) (t:=9) (d:=y3.1) rfl rfl k hk));obtain⟨a4,⟨A4,n4,k4,e4,i4⟩,j4⟩:=Qs H enc w n _ _ h4 (hz _ (by simp)) (fun k hk=>hw k (DataW.weights_mem_each (j:=4) (t:=36) (d:=y4.1) rfl rfl k hk));obtain⟨a5,⟨A5,n5,k5,e5,i5⟩,j5⟩:=ko H enc w n _ _ h5 (hz _ (by simp)) (fun k hk=>hw k (DataW.weights_mem_each (j:=5) (t:=59) (d:=y5.1) rfl rfl k hk));simp at e0 e1 e2 e3 e4 e5;subst e0 e1 e2 e3 e4 e5;exact⟨⟨a0,a1,a2,a3,a4,a5⟩,⟨A4,n4,k4,A5,n5,k5,rfl,⟨i0,i1,i2,i3⟩,i4,i5⟩,⟨j2,j3,j4.1,j5.1⟩⟩
theorem Zr:zR Tryz.prog (Dm false 61 (qi false)) 29 (fun xs=>xs.length* 96≤reachBytes∧∀y∈xs,kT y):=zI Tryz.underlying29 (by kernel_rfl) (by decide) 96 (by kernel_rfl) ZE
theorem XZ:zR Tryz.prog (KM false) 28 Kc:=by
 intro H enc w fuel cs x h hfz hw;obtain⟨xs,n,_,rfl,hl,hlen,hf⟩:=DataW.trod_struct Tryz.underlying28 h;have hc:Tryz.prog.cellsOf 28=4:=by kernel_rfl
 rw[hc] at hl;have hs0:Tryz.prog.cellsOf 24=1:=by kernel_rfl
 have hs1:Tryz.prog.cellsOf 25=1:=by kernel_rfl
 have hs2:Tryz.prog.cellsOf 26=1:=by kernel_rfl
 have hs3:Tryz.prog.cellsOf 3=1:=by kernel_rfl
 match cs,hl with
 |[c0,c1,c2,c3],_=>
 match xs,hlen with
 |[y0,y1,y2,y3],_=>
 have h0:DataW.trod enc Tryz.prog w 0 (fun _=>true) true n 24 (([c0,c1,c2,c3].drop 0).take (Tryz.prog.cellsOf 24))=some y0:=hf 0 _ rfl;rw[hs0] at h0;have h1:DataW.trod enc Tryz.prog w 0 (fun _=>true) true n 25 (([c0,c1,c2,c3].drop 1).take (Tryz.prog.cellsOf 25))=some y1:=hf 1 _ rfl;rw[hs1] at h1;have h2:DataW.trod enc Tryz.prog w 0 (fun _=>true) true n 26 (([c0,c1,c2,c3].drop 2).take (Tryz.prog.cellsOf 26))=some y2:=hf 2 _ rfl;rw[hs2] at h2;have h3:DataW.trod enc Tryz.prog w 0 (fun _=>true) true n 3 (([c0,c1,c2,c3].drop 3).take (Tryz.prog.cellsOf 3))=some y3:=hf 3 _ rfl;rw[hs3] at h3;have hz:∀y∈[y0,y1,y2,y3],w.noneFrozen y.2:=fun y hy b o hm=>hfz b o (List.mem_flatMap.2 ⟨y,hy,hm⟩);simp only[DataW.weights,Tryz.underlying28] at hw;obtain⟨a0,⟨A0,n0,k0,e0,i0⟩,j0⟩:=Zp H enc w n _ _ h0 (hz _ (by simp)) (fun k hk=>hw k (DataW.weights_mem_each (j:=0) (t:=24) (d:=y0.1) rfl rfl k hk));obtain⟨a1,⟨A1,n1,k1,e1,i1⟩,j1⟩:=Zq H enc w n _ _ h1 (hz _ (by simp)) (fun k hk=>hw k (DataW.weights_mem_each (j:=1) (t:=25) (d:=y1.1) rfl rfl k hk));obtain⟨a2,⟨A2,n2,k2,e2,i2⟩,j2⟩:=XY H enc w n _ _ h2 (hz _ (by simp)) (fun k hk=>hw k (DataW.weights_mem_each (j:=2) (t:=26) (d:=y2.1) rfl rfl k hk));obtain⟨a3,e3,i3⟩:=zi Tryz.underlying3 H enc w n _ _ h3 (hz _ (by simp));simp at e0 e1 e2 e3;subst e0 e1 e2 e3;exact⟨⟨a0,a1,a2,a3⟩,⟨A0,n0,k0,A1,n1,k1,A2,n2,k2,rfl,i3,i0,i1,i2⟩,⟨j0,j1,j2⟩⟩
structure zn where
 s:Shape
 b:Book
 l:List Bc
 live:List Bool
 n:Int
def zB (p:zn):Prop:=Kc p.b∧(p.l.length* 96≤reachBytes∧∀y∈p.l,kT y)∧p.live.length≤reachBytes
def Ja (tg:Bool):Enc zn where
 sz:=10
 R w S vs x:=∃A0 n0 c0 A1 n1 c1 A2 n2 c2 A3 n3 c3 A4 n4 c4,vs=[.int .i64 x.s.K,.int .i64 x.s.M,.int .i64 x.s.size,.slice A0 n0 c0,.slice A1 n1 c1,.slice A2 n2 c2,.int .i64 x.b.next,.slice A3 n3 c3,.slice A4 n4 c4,.int .i64 x.n]∧(Bg x.s.K∧Bg x.s.M∧Bg x.s.size)∧(Bg x.b.next∧Bg x.n)∧
  (Sl tg 86 (qc tg) w S A0 n0 c0 x.b.Ba∧Sl tg 90 (qj tg) w S A1 n1 c1 x.b.things∧Sl tg 94 Bu w S A2 n2 c2 x.b.tags)∧Sl tg 61 (qi tg) w S A3 n3 c3 x.l∧Sl tg 4 BU w S A4 n4 c4 x.live
 len h:=by obtain⟨_,_,_,_,_,_,_,_,_,_,_,_,_,_,_,rfl,_⟩:=h;rfl
 one h:=by obtain⟨_,_,_,_,_,_,_,_,_,_,_,_,_,_,_,rfl,_⟩:=h;simp[Value.oneCell']
 mono hS h:=by obtain⟨_,_,_,_,_,_,_,_,_,_,_,_,_,_,_,rfl,h1,h2,⟨q0,q1,q2⟩,q3,q4⟩:=h;exact⟨_,_,_,_,_,_,_,_,_,_,_,_,_,_,_,rfl,h1,h2,⟨q0.mono hS,q1.mono hS,q2.mono hS⟩,q3.mono hS,q4.mono hS⟩
 frame hA hs h:=by obtain⟨_,_,_,_,_,_,_,_,_,_,_,_,_,_,_,rfl,h1,h2,⟨q0,q1,q2⟩,q3,q4⟩:=h;exact⟨_,_,_,_,_,_,_,_,_,_,_,_,_,_,_,rfl,h1,h2,⟨q0.frame hA hs,q1.frame hA hs,q2.frame hA hs⟩,q3.frame hA hs,q4.frame hA hs⟩
theorem ZF:zR Tryz.prog (Ja false) 32 zB:=by
 intro H enc w fuel cs x h hfz hw;obtain⟨xs,n,_,rfl,hl,hlen,hf⟩:=DataW.trod_struct Tryz.underlying32 h;have hc:Tryz.prog.cellsOf 32=10:=by kernel_rfl
 rw[hc] at hl;have hs0:Tryz.prog.cellsOf 23=3:=by kernel_rfl
 have hs1:Tryz.prog.cellsOf 28=4:=by kernel_rfl
 have hs2:Tryz.prog.cellsOf 29=1:=by kernel_rfl
 have hs3:Tryz.prog.cellsOf 30=1:=by kernel_rfl
 have hs4:Tryz.prog.cellsOf 3=1:=by kernel_rfl
 match cs,hl with
 |[c0,c1,c2,c3,c4,c5,c6,c7,c8,c9],_=>
 match xs,hlen with
 |[y0,y1,y2,y3,y4],_=>
 have h0:DataW.trod enc Tryz.prog w 0 (fun _=>true) true n 23 (([c0,c1,c2,c3,c4,c5,c6,c7,c8,c9].drop 0).take (Tryz.prog.cellsOf 23))=some y0:=hf 0 _ rfl;rw[hs0] at h0;have h1:DataW.trod enc Tryz.prog w 0 (fun _=>true) true n 28 (([c0,c1,c2,c3,c4,c5,c6,c7,c8,c9].drop 3).take (Tryz.prog.cellsOf 28))=some y1:=hf 1 _ rfl;rw[hs1] at h1;have h2:DataW.trod enc Tryz.prog w 0 (fun _=>true) true n 29 (([c0,c1,c2,c3,c4,c5,c6,c7,c8,c9].drop 7).take (Tryz.prog.cellsOf 29))=some y2:=hf 2 _ rfl;rw[hs2] at h2;have h3:DataW.trod enc Tryz.prog w 0 (fun _=>true) true n 30 (([c0,c1,c2,c3,c4,c5,c6,c7,c8,c9].drop 8).take (Tryz.prog.cellsOf 30))=some y3:=hf 3 _ rfl;rw[hs3] at h3;have h4:DataW.trod enc Tryz.prog w 0 (fun _=>true) true n 3 (([c0,c1,c2,c3,c4,c5,c6,c7,c8,c9].drop 9).take (Tryz.prog.cellsOf 3))=some y4:=hf 4 _ rfl;rw[hs4] at h4;have hz:∀y∈[y0,y1,y2,y3,y4],w.noneFrozen y.2:=fun y hy b o hm=>hfz b o (List.mem_flatMap.2 ⟨y,hy,hm⟩);simp only[DataW.weights,Tryz.underlying32] at hw;obtain⟨a0,⟨e0,i0⟩,j0⟩:=Xi H enc w n _ _ h0 (hz _ (by simp)) (fun k hk=>hw k (DataW.weights_mem_each (j:=0) (t:=23) (d:=y0.1) rfl rfl k hk));obtain⟨a1,⟨A0,n0,k0,A1,n1,k1,A2,n2,k2,e1,i1,r0,r1,r2⟩,j1⟩:=XZ H enc w n _ _ h1 (hz _ (by simp)) (fun k hk=>hw k (DataW.weights_mem_each (j:=1) (t:=28) (d:=y1.1) rfl rfl k hk));obtain⟨a2,⟨M0,n2',k2',e2,i2⟩,j2⟩:=Zr H enc w n _ _ h2 (hz _ (by simp)) (fun k hk=>hw k (DataW.weights_mem_each (j:=2) (t:=29) (d:=y2.1) rfl rfl k hk));obtain⟨a3,⟨A3,n3,k3,e3,i3⟩,j3⟩:=Xh H enc w n _ _ h3 (hz _ (by simp)) (fun k hk=>hw k (DataW.weights_mem_each (j:=3) (t:=30) (d:=y3.1) rfl rfl k hk));obtain⟨a4,e4,i4⟩:=zi Tryz.underlying3 H enc w n _ _ h4 (hz _ (by simp));simp at e0 e1 e2 e3 e4;obtain⟨e0',e0'',e0'''⟩:=e0;obtain⟨e1',e1'',e1''',e1''''⟩:=e1;subst e0' e0'' e0''' e1' e1'' e1''' e1'''' e2 e3 e4;exact⟨⟨a0,a1,a2,a3,a4⟩,⟨A0,n0,k0,A1,n1,k1,A2,n2,k2,M0,n2',k2',A3,n3,k3,rfl,i0,⟨i1,i4⟩,⟨r0,r1,r2⟩,i2,i3⟩,⟨j1,j2,by rw[←Nat.mul_one a3.length];exact j3.1⟩⟩
theorem open_script16 {H:Type}{enc:TypeId×Value→H}{w:World}{v:Value}{d:DataW H}{p:List MemPlace}{r:Reach}{b0:Nat}(hv:Value.okWide Tryz.prog w r b0 32 v) (h:DataW.Trod enc Tryz.prog w 0 (fun _=>true) true 32 v d p) (hfz:w.noneFrozen p)
  (hw:∀k∈d.weights Tryz.prog 32,k≤reachBytes):
  ∃vs,∃q:zn,v=.agg (List.toArray vs)∧(Ja false).R w (fun b=>b<w.heap.size) vs q∧zB q:=by
 obtain⟨cs,rfl,hsz⟩:=okWide_struct Tryz.underlying32 hv;obtain⟨fuel,hf0⟩:=h;obtain⟨q,hR,hQ⟩:=ZF H enc w fuel cs.toList _ hf0 hfz hw;exact⟨cs.toList,q,by rw[Array.toArray_toList],hR,hQ⟩
end Go.Proofs.YtipecejghioicaaGreat
namespace Go.Proofs.YtipecejghioicaaGreat
open Go.RowKit Go.Silo
def Fq (b:Book) (w:World) (e:Ending) (w':World):Prop:=
 ∃v:Int,e=.returned (.int .i64 v)∧Below w.heap.size w w'∧(v<1048576→(b.Ba.length:Int)+b.things.length+b.tags.length+(qg b.Ba b.Ba.length).length+(qp b.things b.things.length).length≤v)
theorem Xl {tg tg0 tg1 tg2:Bool}{S:Nat→Prop}{w:World}{A0 A1 A2:Option Addr}{n0 c0 n1 c1 n2 c2:Nat}{l:List Bb}{xs:List Entry}{gs:List Tag}{nx:Int}
  (hB:Kc ⟨l,xs,gs,nx⟩) (h0:Sl tg 86 (qc tg0) w S A0 n0 c0 l) (h1:Sl tg 90 (qj tg1) w S A1 n1 c1 xs) (h2:Sl tg2 94 Bu w S A2 n2 c2 gs):
  Calls Tryz.prog 45 #[.agg #[.slice A0 n0 c0,.slice A1 n1 c1,.slice A2 n2 c2,.int .i64 nx]] w (Fq ⟨l,xs,gs,nx⟩ w):=by
 have hr:reachBytes=140737488351232:=by decide
 obtain⟨⟨q1,q2⟩,⟨q3,q4⟩,⟨q5,q6⟩⟩:=hB;rw[hr] at q1 q3 q5;simp only at q1 q2 q3 q4 q5 q6;have nZ:=zh h0.len;have nY:=zh h1.len;have uv:=zh h2.len;have hn0:n0≤140737488351232:=by have:=nZ.out;omega
 have pu:n1≤140737488351232:=by have:=nY.out;omega
 have rO:n2≤140737488351232:=by have:=uv.out;omega
 have pE:=zh (fun(y:Bb) (hy:y∈l)=>(by have h:=q2 y hy;unfold QI at h;omega:y.place.length≤140737488351232));have gG:=zh (fun(y:Entry) (hy:y∈xs)=>(by have h:=q4 y hy;unfold Xj ZD at h;omega:y.digest.size≤140737488351232∧y.list.length≤140737488351232));have gM:=zh (fun(y:Tag) (hy:y∈gs)=>(by have h:=q6 y hy;unfold EW ZD at h;omega:y.name.size≤140737488351232∧y.digest.size≤140737488351232));clear q1 q2 q3 q4 q5 q6 hr;have hal:Below w.heap.size w (w.alloc (.cells #[.slice A0 n0 c0,.slice A1 n1 c1,.slice A2 n2 c2,.int .i64 nx] 28)):=bz
 have mL:(w.alloc (.cells #[.slice A0 n0 c0,.slice A1 n1 c1,.slice A2 n2 c2,.int .i64 nx] 28)).heap[w.heap.size]?=some (.cells #[.slice A0 n0 c0,.slice A1 n1 c1,.slice A2 n2 c2,.int .i64 nx] 28 (0,0)):=by
  have:=heap_alloc_new w (.cells #[.slice A0 n0 c0,.slice A1 n1 c1,.slice A2 n2 c2,.int .i64 nx] 28);simpa only[World.size_alloc] using this
 have hz:w.heap.size<(w.alloc (.cells #[.slice A0 n0 c0,.slice A1 n1 c1,.slice A2 n2 c2,.int .i64 nx] 28)).heap.size:=by simp
 have HS:=zh (fun W (hW:Below w.heap.size w W)=>h0.all hW);clear h0;have HT:=zh (fun W (hW:Below w.heap.size w W)=>h1.all hW);clear h1;have HG:=zh (fun W (hW:Below w.heap.size w W)=>h2.all hW);clear h2
 go_enter Tryz.func45,Tryz.ntmps45
 go_upto_region 1 with (fail)
 generalize (w.alloc (.cells #[.slice A0 n0 c0,.slice A1 n1 c1,.slice A2 n2 c2,.int .i64 nx] 28))=W0 at *;have gm:=zh (fun V (hV:Below W0.heap.size W0 V)=>hal.trans (hV.mono hal.size));clear hal;have ROW:=zh (fun V (hV:Below W0.heap.size W0 V)=>(show V.heap[w.heap.size]?=some (.cells #[.slice A0 n0 c0,.slice A1 n1 c1,.slice A2 n2 c2,.int .i64 nx] 28 (0,0)) from(hV.block _ (by omega)).trans mL));clear mL;have r0:=ROW.out W0 (Below.refl _ _);obtain⟨gW,j6,ma,-⟩:=qN r0;clear r0;obtain⟨v0,hv0⟩:∃v0:Int,v0=(n0:Int)+n1+n2:=⟨_,rfl⟩;have hv01:0≤v0:=by omega
 have hv02:v0≤500000000000000:=by omega
 have HV0:=zh hv0;clear hv0
 go_upto_region 2 with (fail)
 rw[←HV0.out];clear gW j6 ma
 go_upto_block 0 with (fail)
 go_cut [3] from 5 (fun s3 V=>∃v:Int,s3=.int .i64 v∧0≤v∧v≤500000000000000∧Hid (v<1048576→v0+(qg l l.length).length≤v)∧Hid (Below W0.heap.size W0 V))
 case first=>
  go_wp2_with fail
  go_loopw [3,4] (fun t i wr=>∃k:Nat,∃v:Int,k≤n0∧i=.int .i64 k∧t=.int .i64 v∧0≤v∧v≤500000000000000∧Hid (v0+(qg l k).length≤v)∧Hid (Below W0.heap.size W0 wr)) (fun _ i _=>n0 - (intOf i).toNat)
  case atStart=>exact⟨0,_,Nat.zero_le _,rfl,rfl,hv01,hv02,zh (by simp[qg]),zh (Below.refl _ _)⟩
  case round=>
   obtain⟨k,v,hk,rfl,rfl,hva,hvb,HV,HB⟩:=hrel;have r0:=ROW.out wr HB.out;have gW:=zc 0 r0 (.slice _ n0 c0) rfl;clear r0;by_cases hlt:k<n0
   ·by_cases hv:v<1048576
    ·obtain⟨b,off,A3,n3,c3,eA,_,hbl,j1,j2,j3,hpl,q0,q1,q2,q3,_⟩:=(HS.out _ (gm.out _ HB.out)).Br hlt;subst eA;have hkl:k<l.length:=by have:=nZ.out;omega
     have hn3:n3≤140737488351232:=by
      have:=pE.out _ (zV (d:=default) hkl);have:=hpl.len;omega
     have HVN:Hid (v0+(qg l (k+1)).length≤v+n3):=zh (by
      have h1:=HV.out;have h2:=hpl.len
      rw[xb hkl,List.length_append,h2];omega)
     clear hpl q0 q1 q2 j1 j2 j3;go_wp2
     exact⟨⟨k+1,_,by omega,by go_num,rfl,by omega,by omega,HVN,HB⟩,by simp[intOf];omega⟩
    go_wp2
    go_meet
    case rel=>exact⟨v,rfl,hva,hvb,zh (fun h=>absurd h (by omega)),HB⟩
   obtain rfl:n0=k:=by omega
   have HVE:Hid (v<1048576→v0+(qg l l.length).length≤v):=zh (fun _=>by rw[nZ.out];exact HV.out);go_wp2
   go_meet
   case rel=>exact⟨v,rfl,hva,hvb,HVE,HB⟩
 case rest=>
  rename World=>wc
  obtain⟨va,rfl,hva0,hva1,HVA,HBA⟩:=hcut
  go_upto_region 6 with (fail)
  go_upto_block 2 with (fail)
  go_cut [3] from 6 (fun s3 V=>∃v:Int,s3=.int .i64 v∧0≤v∧v≤500000000000000∧Hid (v<1048576→v0+(qg l l.length).length+(qp xs xs.length).length≤v)∧Hid (Below W0.heap.size W0 V))
  case first=>
   go_wp2_with fail
   go_loopw [3,5] (fun t i wr=>∃k:Nat,∃v:Int,k≤n1∧i=.int .i64 k∧t=.int .i64 v∧0≤v∧v≤500000000000000∧Hid (v<1048576→v0+(qg l l.length).length+(qp xs k).length≤v)∧Hid (Below W0.heap.size W0 wr)) (fun _ i _=>n1 - (intOf i).toNat)
   case atStart=>exact⟨0,_,Nat.zero_le _,rfl,rfl,hva0,hva1,zh (fun h=>by have:=HVA.out h;simp[qp];omega),HBA⟩
   case round=>
    obtain⟨k,v,hk,rfl,rfl,hva,hvb,HV,HB⟩:=hrel;have r0:=ROW.out wr HB.out;have j6:=zc 1 r0 (.slice _ n1 c1) rfl;clear r0;have hzr:=Nat.lt_of_lt_of_le hz HB.out.size;by_cases hlt:k<n1
    ·by_cases hv:v<1048576
     ·obtain⟨b,off,A3,n3,c3,eA,_,hbl,j1,j2,hpl,q0,q1,q2,q3,_⟩:=(HT.out _ (gm.out _ HB.out)).BH hlt;subst eA;have hkl:k<xs.length:=(by have:=nY.out;omega);have hbb:=gG.out _ (zV (d:=default) hkl);have hn3:n3≤140737488351232:=(by have:=hpl.len;omega);have hd3:=hbb.1
      have HVN:Hid (v+((xs.getD k default).digest.size:Int)+n3<1048576→v0+(qg l l.length).length+(qp xs (k+1)).length≤v+((xs.getD k default).digest.size:Int)+n3):=zh (fun _=>by
       have h1:=HV.out hv;have h2:=hpl.len
       rw[xw hkl,List.length_append,h2];omega)
      generalize (xs.getD k default).digest=dg at *;clear hpl q1 q2 j1 j2 hbb;go_wp2_with fail
      have px:=xh wr;refine qZ (by kernel_rfl) (by kernel_rfl) ?_
      repeat (go_big_quiet_step (fail))
      refine wpQuiet_nil ?_;rintro _ ⟨X,rfl⟩;have mO:=zh (HB.out.trans ((zr wr X).mono HB.out.size));clear px;generalize wr.ext X=w3 at *;clear j6 q0 q3;go_wp2
      exact⟨⟨k+1,_,by omega,by go_num,rfl,by omega,by omega,HVN,mO⟩,by simp[intOf];omega⟩
     go_wp2
     go_meet
     case rel=>exact⟨v,rfl,hva,hvb,zh (fun h=>absurd h (by omega)),HB⟩
    obtain rfl:n1=k:=by omega
    have HVE:Hid (v<1048576→v0+(qg l l.length).length+(qp xs xs.length).length≤v):=zh (fun h=>by rw[nY.out];exact HV.out h);go_wp2
    go_meet
    case rel=>exact⟨v,rfl,hva,hvb,HVE,HB⟩
  case rest=>
   rename World=>wd
   obtain⟨vb,rfl,hvb0,hvb1,HVB,Ge⟩:=hcut;go_wp2_with fail
   go_loopw [3,6] (fun t i wr=>∃k:Nat,∃v:Int,k≤n2∧i=.int .i64 k∧t=.int .i64 v∧0≤v∧v≤500000000000000∧Hid (v<1048576→v0+(qg l l.length).length+(qp xs xs.length).length≤v)∧Hid (Below W0.heap.size W0 wr)) (fun _ i _=>n2 - (intOf i).toNat)
   case atStart=>exact⟨0,_,Nat.zero_le _,rfl,rfl,hvb0,hvb1,HVB,Ge⟩
   case round=>
    obtain⟨k,v,hk,rfl,rfl,hva,hvb,HV,HB⟩:=hrel;have r0:=ROW.out wr HB.out;have ma:=zc 2 r0 (.slice _ n2 c2) rfl;clear r0;have hzr:=Nat.lt_of_lt_of_le hz HB.out.size
    have gh:Hid (v<1048576→(l.length:Int)+xs.length+gs.length+(qg l l.length).length+(qp xs xs.length).length≤v):=zh (fun h=>by
     have h1:=HV.out h;have h2:=HV0.out;rw[nZ.out,nY.out,uv.out] at *;omega)
    by_cases hlt:k<n2
    ·by_cases hv:v<1048576
     ·obtain⟨b,off,eA,_,hbl,j1,j2,q0,q1,_⟩:=(HG.out _ (gm.out _ HB.out)).Cc hlt;subst eA;have hkl:k<gs.length:=(by have:=uv.out;omega);obtain⟨hd3,hn3⟩:=gM.out _ (zV (d:=default) hkl)
      have HVN:Hid (v+((gs.getD k default).name.size:Int)+((gs.getD k default).digest.size:Int)<1048576→v0+(qg l l.length).length+(qp xs xs.length).length≤v+((gs.getD k default).name.size:Int)+((gs.getD k default).digest.size:Int)):=zh (fun _=>by
       have h1:=HV.out hv;omega)
      generalize (gs.getD k default).name=nm at *;generalize (gs.getD k default).digest=dg at *;clear j1 j2;go_wp2_with fail
      have px:=xh wr;refine qZ (by kernel_rfl) (by kernel_rfl) ?_
      repeat (go_big_quiet_step (fail))
      refine wpQuiet_nil ?_;rintro _ ⟨X,rfl⟩;have mO:=zh (HB.out.trans ((zr wr X).mono HB.out.size));clear px;generalize wr.ext X=w3 at *;clear ma q0 q1;go_wp2
      exact⟨⟨k+1,_,by omega,by go_num,rfl,by omega,by omega,HVN,mO⟩,by simp[intOf];omega⟩
     go_wp2
     go_ret
     exact⟨v,rfl,gm.out _ HB.out,fun h=>absurd h (by omega)⟩
    go_wp2
    go_ret
    exact⟨v,rfl,gm.out _ HB.out,gh.out⟩
theorem Xm {tg tg0 tg1 tg2:Bool}{S:Nat→Prop}{w:World}{A0 A1 A2:Option Addr}{n0 c0 n1 c1 n2 c2:Nat}{b:Book}(hB:Kc b) (h:Bl w S tg tg0 tg1 tg2 A0 n0 c0 A1 n1 c1 A2 n2 c2 b):
  Calls Tryz.prog 45 #[.agg #[.slice A0 n0 c0,.slice A1 n1 c1,.slice A2 n2 c2,.int .i64 b.next]] w (Fq b w):=Xl hB h.st h.th h.ta
def Qg (l:List Bc):Nat:=(l.map (fun r=>r.list.length+r.slots.length)).sum
theorem KF {l:List Bc}{k:Nat}(h:k<l.length):Qg (l.take (k+1))=Qg (l.take k)+((l.getD k default).list.length+(l.getD k default).slots.length):=by
 unfold Qg;rw[qE (d:=default) h,List.map_append,List.sum_append];simp
def RetRW (l:List Bc) (w:World) (e:Ending) (w':World):Prop:=
 ∃v:Int,e=.returned (.int .i64 v)∧Below w.heap.size w w'∧(v<1048576→(l.length:Int)+Qg l≤v)
theorem QB {tg tg0:Bool}{S:Nat→Prop}{w:World}{A:Option Addr}{n c:Nat}{l:List Bc}(hB:l.length* 96≤reachBytes∧∀y∈l,kT y) (h:Sl tg 61 (qi tg0) w S A n c l):
  Calls Tryz.prog 46 #[.slice A n c] w (RetRW l w):=by
 have hr:reachBytes=140737488351232:=by decide
 obtain⟨q1,q2⟩:=hB;rw[hr] at q1;have HL:=zh h.len;have hn:n≤140737488351232:=by have:=HL.out;omega
 have HB:=zh (fun(y:Bc) (hy:y∈l)=>(by have h:=q2 y hy;unfold kT ZD at h;omega:y.name.size≤140737488351232∧y.digest.size≤140737488351232∧y.list.length≤140737488351232∧y.slots.length≤140737488351232));clear q1 q2 hr
 go_enter Tryz.func46,Tryz.ntmps46
 go_wp2_with fail
 go_loopw [3,4] (fun t i wr=>∃k:Nat,∃v:Int,k≤n∧i=.int .i64 k∧t=.int .i64 v∧0≤v∧v≤600000000000000∧Hid (v<1048576→(n:Int)+Qg (l.take k)≤v)∧Hid (Below w.heap.size w wr)) (fun _ i _=>n - (intOf i).toNat)
 case atStart=>exact⟨0,_,Nat.zero_le _,rfl,rfl,by omega,by omega,zh (fun h=>by simp[Qg]),zh (Below.refl _ _)⟩
 case round=>
  obtain⟨k,v,hk,rfl,rfl,hva,hvb,HV,gT⟩:=hrel;by_cases hlt:k<n
  ·by_cases hv:v<1048576
   ·obtain⟨b,off,A4,n4,c4,A5,n5,c5,eA,_,hbl,j0,j1,j2,j3,hp4,hp5,q0,q1,q2,q3,q4,q5,_⟩:=(h.all gT.out).BQ hlt;subst eA;have hkl:k<l.length:=(by have:=HL.out;omega);obtain⟨hb1,hb2,hb3,hb4⟩:=HB.out _ (zV (d:=default) hkl);have hn4:n4≤140737488351232:=(by have:=hp4.len;omega);have hn5:n5≤140737488351232:=by have:=hp5.len;omega
    have HVN:Hid (v+((l.getD k default).name.size:Int)+((l.getD k default).digest.size:Int)+n4+n5<1048576→(n:Int)+Qg (l.take (k+1))≤v+((l.getD k default).name.size:Int)+((l.getD k default).digest.size:Int)+n4+n5):=zh (fun _=>by
     have h1:=HV.out hv;have h4:=hp4.len;have h5:=hp5.len
     rw[KF hkl,h4,h5];omega)
    generalize (l.getD k default).name=nm at *;generalize (l.getD k default).digest=dg at *;clear hp4 hp5 hb3 hb4 j0 j1 j2 j3 q0 q1;go_wp2_with fail
    have px:=xh wr;refine qZ (by kernel_rfl) (by kernel_rfl) ?_
    repeat (go_big_quiet_step (fail))
    refine wpQuiet_nil ?_;rintro _ ⟨X,rfl⟩;have mO:=zh (gT.out.trans ((zr wr X).mono gT.out.size));clear px q2 q3 q4 q5;generalize wr.ext X=w3 at *;go_wp2
    go_roundw
    case rel=>exact⟨k+1,_,by omega,by go_num,rfl,by omega,by omega,HVN,mO⟩
    case measure=>simp[intOf];omega
   go_wp2
   go_ret
   exact⟨v,rfl,gT.out,fun h=>absurd h (by omega)⟩
  obtain rfl:n=k:=by omega
  go_wp2
  go_ret
  exact⟨v,rfl,gT.out,fun h=>by have h1:=HV.out h;rw[List.take_of_length_le (by have:=HL.out;omega)] at h1;rw[HL.out];exact h1⟩
structure CW (q:zn):Prop where
 bk:q.b.Ba.length+q.b.things.length+q.b.tags.length+(qg q.b.Ba q.b.Ba.length).length+(qp q.b.things q.b.things.length).length≤2500
 rc:q.l.length+Qg q.l≤2500
 lv:q.live.length≤50
def JH (q:zn) (w:World) (e:Ending) (w':World):Prop:=∃v:Bool,e=.returned (.bool v)∧Below w.heap.size w w'∧(v=false→CW q)
theorem CW.few {q:zn}(h:CW q):Ea q.b:=⟨by have:=h.bk;omega,by have:=h.bk;omega,by have:=h.bk;omega⟩
theorem Qh {tg:Bool}{S:Nat→Prop}{w:World}{A0 A1 A2 A3 A4:Option Addr}{n0 c0 n1 c1 n2 c2 n3 c3 n4 c4:Nat}{q:zn}(hB:zB q) (hb:Bl w S tg tg tg tg A0 n0 c0 A1 n1 c1 A2 n2 c2 q.b) (hl:Sl tg 61 (qi tg) w S A3 n3 c3 q.l) (hv:Sl tg 4 BU w S A4 n4 c4 q.live):
  Calls Tryz.prog 11 #[.agg #[.int .i64 q.s.K,.int .i64 q.s.M,.int .i64 q.s.size,.slice A0 n0 c0,.slice A1 n1 c1,.slice A2 n2 c2,.int .i64 q.b.next,.slice A3 n3 c3,.slice A4 n4 c4,.int .i64 q.n]] w (JH q w):=by
 have gT:=zh (fun W (hW:Below w.heap.size w W)=>Xm (w:=W) hB.1 (hb.all hW));have HRW:=zh (fun W (hW:Below w.heap.size w W)=>QB (w:=W) hB.2.1 (hl.all hW));have HLV:=zh hv.len;clear hB hb hl hv;have hal:Below w.heap.size w (w.alloc (.cells #[.int .i64 q.s.K,.int .i64 q.s.M,.int .i64 q.s.size,.slice A0 n0 c0,.slice A1 n1 c1,.slice A2 n2 c2,.int .i64 q.b.next,.slice A3 n3 c3,.slice A4 n4 c4,.int .i64 q.n] 32)):=bz
 have mL:(w.alloc (.cells #[.int .i64 q.s.K,.int .i64 q.s.M,.int .i64 q.s.size,.slice A0 n0 c0,.slice A1 n1 c1,.slice A2 n2 c2,.int .i64 q.b.next,.slice A3 n3 c3,.slice A4 n4 c4,.int .i64 q.n] 32)).heap[w.heap.size]?=some (.cells #[.int .i64 q.s.K,.int .i64 q.s.M,.int .i64 q.s.size,.slice A0 n0 c0,.slice A1 n1 c1,.slice A2 n2 c2,.int .i64 q.b.next,.slice A3 n3 c3,.slice A4 n4 c4,.int .i64 q.n] 32 (0,0)):=by
  have:=heap_alloc_new w (.cells #[.int .i64 q.s.K,.int .i64 q.s.M,.int .i64 q.s.size,.slice A0 n0 c0,.slice A1 n1 c1,.slice A2 n2 c2,.int .i64 q.b.next,.slice A3 n3 c3,.slice A4 n4 c4,.int .i64 q.n] 32);simpa only[World.size_alloc] using this
 have hz:w.heap.size<(w.alloc (.cells #[.int .i64 q.s.K,.int .i64 q.s.M,.int .i64 q.s.size,.slice A0 n0 c0,.slice A1 n1 c1,.slice A2 n2 c2,.int .i64 q.b.next,.slice A3 n3 c3,.slice A4 n4 c4,.int .i64 q.n] 32)).heap.size:=by simp
 go_enter Tryz.func11,Tryz.ntmps11
 go_upto_region 1 with (fail)
 generalize (w.alloc (.cells #[.int .i64 q.s.K,.int .i64 q.s.M,.int .i64 q.s.size,.slice A0 n0 c0,.slice A1 n1 c1,.slice A2 n2 c2,.int .i64 q.b.next,.slice A3 n3 c3,.slice A4 n4 c4,.int .i64 q.n] 32))=W0 at *;have gm:=zh (fun V (hV:Below W0.heap.size W0 V)=>hal.trans (hV.mono hal.size));clear hal;have ROW:=zh (fun V (hV:Below W0.heap.size W0 V)=>(show V.heap[w.heap.size]?=some (.cells #[.int .i64 q.s.K,.int .i64 q.s.M,.int .i64 q.s.size,.slice A0 n0 c0,.slice A1 n1 c1,.slice A2 n2 c2,.int .i64 q.b.next,.slice A3 n3 c3,.slice A4 n4 c4,.int .i64 q.n] 32 (0,0)) from(hV.block _ (by omega)).trans mL));clear mL;have r0:=ROW.out W0 (Below.refl _ _);have n7:=zc 3 r0 (.slice _ n0 c0) rfl;have ru:=zc 4 r0 (.slice _ n1 c1) rfl;have rx:=zc 5 r0 (.slice _ n2 c2) rfl;have ry:=zc 6 r0 (.int .i64 q.b.next) rfl;clear r0;go_wp2_with fail
 refine(gT.out _ (gm.out _ (Below.refl _ _))).mono ?_;clear n7 ru rx ry;rintro e w1 ⟨v1,rfl,hb1,hv1⟩;have gG:=zh hb1;clear hb1;have HV1:=zh hv1;clear hv1;by_cases g1:2500<v1
 ·go_wp2
  go_ret
  exact⟨true,rfl,gm.out _ gG.out,fun h=>by cases h⟩
 have r0:=ROW.out w1 gG.out;have rM:=zc 7 r0 (.slice _ n3 c3) rfl;clear r0;go_wp2_with fail
 refine(HRW.out _ (gm.out _ gG.out)).mono ?_;clear rM;rintro e w2 ⟨v2,rfl,hb2,hv2⟩;have gM:=zt gG hb2;clear hb2;have HV2:=zh hv2;clear hv2;by_cases g2:2500<v2
 ·go_wp2
  go_ret
  exact⟨true,rfl,gm.out _ gM.out,fun h=>by cases h⟩
 have r0:=ROW.out w2 gM.out;have b08:=zc 8 r0 (.slice _ n4 c4) rfl;clear r0;by_cases g3:50<n4
 ·go_wp2
  go_ret
  exact⟨_,rfl,gm.out _ gM.out,fun h=>by simp at h;omega⟩
 go_wp2
 go_ret
 exact⟨_,rfl,gm.out _ gM.out,fun _=>⟨by have:=HV1.out (by omega);omega,by have:=HV2.out (by omega);omega,by have:=HLV.out;omega⟩⟩
end Go.Proofs.YtipecejghioicaaGreat
