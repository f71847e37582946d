import Derived.Test.YtipecejghioicaaGreatC13v
import Derived.Test.YtipecejghioicaaGreatA5v
set_option maxHeartbeats 8000000
set_option maxRecDepth 100000
namespace Go.Proofs.YtipecejghioicaaGreat
open Go.RowKit Go.Silo
def zM (ks:List Int) (l:List Bc):List Bc:=l.filter (fun r=>decide (r.kind∈ks))
theorem JM {ks:List Int}{l:List Bc}{k:Nat}(h:k<l.length):zM ks (l.take (k+1))=zM ks (l.take k)++(if (l.getD k default).kind∈ks then [l.getD k default] else []):=by
 unfold zM;rw[qE (d:=default) h,List.filter_append]
 congr 1
 generalize l.getD k default=x;by_cases hm:x.kind∈ks
 ·rw[if_pos hm];simp[hm]
 rw[if_neg hm];simp[hm]
theorem JN {l:List Int}{a:Int}(h:a∈l):∃p:Nat,ZU l a=(p:Int):=by
 unfold ZU
 cases hf:l.findIdx? (·==a) with
 |none=>have:=List.findIdx?_eq_none_iff.1 hf a h;simp at this
 |some q=>exact⟨q,rfl⟩
theorem KH {ks:List Int}{l:List Bc}{k:Nat}:(zM ks (l.take k)).length≤k:=by
 unfold zM;refine Nat.le_trans (List.length_filter_le _ _) ?_;rw[List.length_take];exact Nat.min_le_left _ _
def Dk (V:World) (lo base g5:Nat) (r:Bc) (vs:List Value) (l:List Bc):List Value→World→Prop
 |[],w'=>Below V.heap.size V w'
 |[u],w'=>∃g,u=.slice (some ⟨g,0,none⟩) 1 1∧w'.heap[g]?=some (.cells vs.toArray 61 (0,0))∧Below V.heap.size V w'
 |[_,u],w'=>∃A c,u=.slice A (l.length+1) c∧Silo.Bj 61 (qi false) w' base (fun q=>q<lo) A (l.length+1) c (l++[r])∧Below base V w'
 |_,w'=>∃w6 A c,Silo.Bj 61 (qi false) w6 base (fun q=>q<lo) A (l.length+1) c (l++[r])∧Below base V w6∧w'=w6.setCell ⟨g5,7,none⟩ (.slice A (l.length+1) c)
theorem Dk.below {V:World}{lo base g5:Nat}{r:Bc}{vs:List Value}{l:List Bc}(hb:base≤V.heap.size):∀{us:List Value}{w:World},us.length≤2→Dk V lo base g5 r vs l us w→Below base V w
 |[],_,_,h=>Below.mono h hb
 |[_],_,_,⟨_,_,_,h⟩=>h.mono hb
 |[_,_],_,_,⟨_,_,_,_,h⟩=>h
noncomputable def Ez:Code:=((Tryz.f10.body.bind (qe 7)).getD .skip)
theorem only7 {Q:Exit→Act→World→Prop}{σ:Act}{V:World}{lo base g2 g5 b9 o9 k n3 c3 c l4 k4 l5 k5:Nat}{A L4 L5:Option Addr}{r:Bc}{l:List Bc}
  (hlt:k<n3) (hlo:lo≤base) (HC:Hid (∀W,Below base V W→W.cell? ⟨g2,7,none⟩=some (.slice (some ⟨b9,o9,none⟩) n3 c3)∧W.cell? ⟨g5,7,none⟩=some (.slice A l.length c)∧W.frozen? ⟨g5,7,none⟩=false))
  (HE:Hid (∀W,Below base V W→W.cell? ⟨b9,o9+k* 6,none⟩=some (.int .i64 r.kind)∧W.cell? ⟨b9,o9+k* 6+1,none⟩=some (.int .i64 r.id)∧W.cell? ⟨b9,o9+k* 6+2,none⟩=some (.string r.name)∧W.cell? ⟨b9,o9+k* 6+3,none⟩=some (.string r.digest)∧W.cell? ⟨b9,o9+k* 6+4,none⟩=some (.slice L4 l4 k4)∧W.cell? ⟨b9,o9+k* 6+5,none⟩=some (.slice L5 l5 k5)))
  (HO:Hid (Silo.Bj 61 (qi false) V base (fun q=>q<lo) A l.length c l)) (hbs:base≤V.heap.size) (hl:l.length* 96≤140737488351232) (HK:Hid (Bg r.kind∧Bg r.id∧qG r.name∧qG r.digest))
  (H4:Hid (Sl false 3 Bo V (fun q=>q<lo) L4 l4 k4 r.list)) (H5:Hid (Sl false 88 qr V (fun q=>q<lo) L5 l5 k5 r.slots))
  (hσ:σ.tmps.size=41) (s2:σ.eval (.tmp 2)=.pointer (some ⟨g2,0,none⟩)) (s5:σ.eval (.tmp 5)=.pointer (some ⟨g5,0,none⟩)) (s6:σ.eval (.tmp 6)=.int .i64 (k:Int))
  (hend:∀(v:Nat→Value) (w6:World) (A':Option Addr) (c':Nat),Silo.Bj 61 (qi false) w6 base (fun q=>q<lo) A' (l.length+1) c' (l++[r])→Below base V w6→Q .normal (qb σ (([25,26,27,28,29,30,31,32,33,34]:List Nat).map fun d=>(d,v d))) (w6.setCell ⟨g5,7,none⟩ (.slice A' (l.length+1) c'))):
  Ez.wp Tryz.prog Q σ V:=by
 obtain⟨i0,nS,hz0,hz1,hz2⟩:=info_parts Tryz.BX;have cells:∀us w6,us.length≤2→Dk V lo base g5 r [.int .i64 r.kind,.int .i64 r.id,.string r.name,.string r.digest,.slice L4 l4 k4,.slice L5 l5 k5] l us w6→Below base V w6:=fun us w6 hl hW=>hW.below hbs hl;have CELLS:=zh cells;clear cells;have hk4:(k:Int)<n3:=by omega
 conv=>arg 2;whnf
 refine Jf (by kernel_rfl) (by kernel_rfl) 41 hσ [25,26,27,28,29,30,31,32,33,34] [7,8,10] [(32,0),(33,1)]
  [(25,.pointer (some ⟨g5,7,none⟩)),(26,.slice A l.length c),(27,.pointer (some ⟨g2,7,none⟩)),(28,.slice (some ⟨b9,o9,none⟩) n3 c3),(29,.int .i64 (k:Int)),(30,.pointer (some ⟨b9,o9+k* 6,none⟩)),(31,.agg #[.int .i64 r.kind,.int .i64 r.id,.string r.name,.string r.digest,.slice L4 l4 k4,.slice L5 l5 k5]),(34,.pointer (some ⟨g5,7,none⟩))]
  (fun _=>2) [[],[25],[],[27],[],[28,29],[30],[31],[26,32],[],[34,33]] (Dk V lo base g5 r [.int .i64 r.kind,.int .i64 r.id,.string r.name,.string r.digest,.slice L4 l4 k4,.slice L5 l5 k5] l) (by kernel_rfl) (Below.refl _ _).drew ⟨?_,?_,?_,?_,?_,?_,?_,?_,?_,?_,?_,trivial⟩ ?_
 ·(refine Cs.rd rfl _ rfl (fun ρ us w6 ho ht hc hl hW=>?_);have e5:=zv (ho 5 rfl) (.pointer (some ⟨g5,0,none⟩)) s5;simp only[execOp,e5];go_simp;try rfl)
 ·(refine Cs.rd rfl _ rfl (fun ρ us w6 ho ht hc hl hW=>?_);have pZ:=zv (ht 25 (by decide)) (.pointer (some ⟨g5,7,none⟩)) rfl;obtain⟨y1,y2,y3⟩:=HC.out w6 (CELLS.out us w6 hl hW);simp only[execOp,pZ];go_simp;try rfl)
 ·(refine Cs.rd rfl _ rfl (fun ρ us w6 ho ht hc hl hW=>?_);have e2:=zv (ho 2 rfl) (.pointer (some ⟨g2,0,none⟩)) s2;simp only[execOp,e2];go_simp;try rfl)
 ·(refine Cs.rd rfl _ rfl (fun ρ us w6 ho ht hc hl hW=>?_);have vB:=zv (ht 27 (by decide)) (.pointer (some ⟨g2,7,none⟩)) rfl;obtain⟨y1,y2,y3⟩:=HC.out w6 (CELLS.out us w6 hl hW);simp only[execOp,vB];go_simp;try rfl)
 ·(refine Cs.rd rfl _ rfl (fun ρ us w6 ho ht hc hl hW=>?_);have e6:=zv (ho 6 rfl) (.int .i64 (k:Int)) s6;simp only[execOp,e6];go_simp;try rfl)
 ·(refine Cs.rd rfl _ rfl (fun ρ us w6 ho ht hc hl hW=>?_);have ur:=zv (ht 28 (by decide)) (.slice (some ⟨b9,o9,none⟩) n3 c3) rfl;have pN:=zv (ht 29 (by decide)) (.int .i64 (k:Int)) rfl;simp only[execOp,ur,pN];go_simp;first|rfl|(simp;omega)|(congr;omega))
 ·(refine Cs.rd rfl _ rfl (fun ρ us w6 ho ht hc hl hW=>?_);have rU:=zv (ht 30 (by decide)) (.pointer (some ⟨b9,o9+k* 6,none⟩)) rfl;obtain⟨y0,y1,y2,y3,y4,y5⟩:=HE.out w6 (CELLS.out us w6 hl hW);simp only[execOp,rU];go_simp;try rfl)
 ·refine Cs.wr (k:=0) rfl (fun Z us w6 ho ht hl hW K hK=>?_);obtain rfl:us=[]:=List.eq_nil_of_length_eq_zero hl;have hB6:Below V.heap.size V w6:=hW;have nU:=zv (ht 31 (by decide)) (.agg #[.int .i64 r.kind,.int .i64 r.id,.string r.name,.string r.digest,.slice L4 l4 k4,.slice L5 l5 k5]) rfl;have hd:=hK (.slice (some ⟨w6.heap.size,0,none⟩) 1 1) (w6.alloc (.cells #[.int .i64 r.kind,.int .i64 r.id,.string r.name,.string r.digest,.slice L4 l4 k4,.slice L5 l5 k5] 61)) ⟨_,rfl,heap_alloc_new _ _,hB6.alloc hB6.size _⟩;have HD:=zh hd;clear hd hK hW ho ht;rw[if_pos (by simp[Region.wanted])];unfold Oper.wp;generalize Z.eval=ρ at *;simp only[execOp,List.map_toArray,List.map_cons,List.map_nil,nU];go_simp
  exact HD.out
 ·refine Cs.wr (k:=1) rfl (fun Z us w6 ho ht hl' hW K hK=>?_)
  match us,hl',hW with
  |[u],_,hW=>
  obtain⟨g,rfl,hrow,hB⟩:=hW;have e26:=zv (ht 26 (by decide)) (.slice A l.length c) rfl;have pL:=zv (ht 32 (by decide)) (.slice (some ⟨g,0,none⟩) 1 1) rfl;have hltb:=HO.out.lt;rw[if_pos (by simp[Region.wanted])];refine zT (.tmp 26) (.tmp 32) 29 rfl i0 (.agg #[.int .i64 0,.int .i64 0,.string ByteArray.empty,.string ByteArray.empty,.slice none 0 0,.slice none 0 0]) 96 Tryz.underlying29 nS hz0 hz1 hz2 rfl (show 0<6 by decide) e26 (HO.out.all hB) g 61 1 [.int .i64 r.kind,.int .i64 r.id,.string r.name,.string r.digest,.slice L4 l4 k4,.slice L5 l5 k5] r pL hrow ⟨_,_,_,_,_,_,rfl,HK.out,(H4.out.all hB).mono (fun q hq _=>⟨hq,fun e=>by have:=(hltb q e.symm).1;have hq:q<lo:=hq;omega⟩),(H5.out.all hB).mono (fun q hq _=>⟨hq,fun e=>by have:=(hltb q e.symm).1;have hq:q<lo:=hq;omega⟩)⟩ (by omega) (by omega) (Nat.le_trans hbs hB.size) ?_;intro A' c' w7 hown hgr _;exact hK _ _ ⟨A',c',rfl,hown,(hB.mono hbs).grown hgr (Nat.le_trans hbs hB.size) (fun q hq=>(hltb q hq).1)⟩
 ·(refine Cs.rd rfl _ rfl (fun ρ us w6 ho ht hc hl hW=>?_);have e5:=zv (ho 5 rfl) (.pointer (some ⟨g5,0,none⟩)) s5;simp only[execOp,e5];go_simp;try rfl)
 ·refine Cs.wr (k:=2) rfl (fun Z us w6 ho ht hl' hW K hK=>?_)
  match us,hl',hW with
  |[u,v],_,hW=>
  obtain⟨y1,y2,y3⟩:=HC.out w6 (CELLS.out [u,v] w6 (by simp) hW);obtain⟨A',c',rfl,hO,hB⟩:=hW;have Gy:=zv (ht 34 (by decide)) (.pointer (some ⟨g5,7,none⟩)) rfl;have uo:=zv (ht 33 (by decide)) (.slice A' (l.length+1) c') rfl;rw[if_pos (by simp[Region.wanted])];unfold Oper.wp;generalize Z.eval=ρ at *;simp only[execOp,Gy,uo];go_simp
  exact hK undef _ ⟨w6,A',c',hO,hB,rfl⟩
 intro us w7 hl' hW
 match us,hl',hW with
 |[u,v,x],_,hW=>
 obtain⟨w6,A',c',hO,hB,rfl⟩:=hW;exact hend _ w6 A' c' hO hB
theorem onlyB {p:zn}(h:zB p) (ks:List Int):zB {p with l:=zM ks p.l}:=by
 obtain⟨h1,⟨h2,h3⟩,h4⟩:=h;refine⟨h1,⟨?_,fun y hy=>h3 y (List.mem_filter.1 hy).1⟩,h4⟩;have:=List.length_filter_le (fun r:Bc=>decide (r.kind∈ks)) p.l;show(zM ks p.l).length* 96≤reachBytes;unfold zM;omega
theorem Xn {tg2:Bool}{S S2:Nat→Prop}{T2:TypeId}{w:World}{A0 A1 A2 A3 A4 A6:Option Addr}{n0 c0 n1 c1 n2 c2 n3 c3 n4 c4 n6 c6:Nat}{p:zn}{ks:List Int}(hB:zB p) (hsi:Bg p.s.K∧Bg p.s.M∧Bg p.s.size) (hb:Bl w S false false false false A0 n0 c0 A1 n1 c1 A2 n2 c2 p.b) (hl:Sl false 61 (qi false) w S A3 n3 c3 p.l) (hv:Sl false 4 BU w S A4 n4 c4 p.live) (hks:Sl tg2 T2 Bo w S2 A6 n6 c6 ks):
  Calls Tryz.prog 10 #[.agg #[.int .i64 p.s.K,.int .i64 p.s.M,.int .i64 p.s.size,.slice A0 n0 c0,.slice A1 n1 c1,.slice A2 n2 c2,.int .i64 p.b.next,.slice A3 n3 c3,.slice A4 n4 c4,.int .i64 p.n],.slice A6 n6 c6] w (Bh (.bool true) w):=by
 have ux:=Nat.le_trans hl.le hl.cap;have mY:=zh hl.len;have hn3:n3* 96≤140737488351232:=by have:=hB.2.1.1;have:=hl.len;have hr:reachBytes=140737488351232:=(by decide);omega
 have Ge:=zh (fun W (hW:Below w.heap.size w W)=>(hb.all hW).mono (S':=fun _=>True) (fun _ _ _=>trivial));have HVV:=zh (fun W (hW:Below w.heap.size w W)=>(hv.all hW).mono (S':=fun _=>True) (fun _ _ _=>trivial));have HKS:=zh (fun W (hW:Below w.heap.size w W)=>hks.all hW);have MJ:=zh (fun W (hW:Below w.heap.size w W)=>hl.Bd.all hW);have rB:=zh hsi;have gJ:=zh (onlyB hB ks);clear hB hb hl hv hks hsi;have hr2:=yO w (.cells #[.int .i64 p.s.K,.int .i64 p.s.M,.int .i64 p.s.size,.slice A0 n0 c0,.slice A1 n1 c1,.slice A2 n2 c2,.int .i64 p.b.next,.slice A3 n3 c3,.slice A4 n4 c4,.int .i64 p.n] 32) #[.int .i64 p.s.K,.int .i64 p.s.M,.int .i64 p.s.size,.slice A0 n0 c0,.slice A1 n1 c1,.slice A2 n2 c2,.int .i64 p.b.next,.slice A3 n3 c3,.slice A4 n4 c4,.int .i64 p.n] 32;have nA:=Ic w (.cells #[.int .i64 p.s.K,.int .i64 p.s.M,.int .i64 p.s.size,.slice A0 n0 c0,.slice A1 n1 c1,.slice A2 n2 c2,.int .i64 p.b.next,.slice A3 n3 c3,.slice A4 n4 c4,.int .i64 p.n] 32) #[.int .i64 p.s.K,.int .i64 p.s.M,.int .i64 p.s.size,.slice A0 n0 c0,.slice A1 n1 c1,.slice A2 n2 c2,.int .i64 p.b.next,.slice A3 n3 c3,.slice A4 n4 c4,.int .i64 p.n] 32;have hal:Below w.heap.size w ((w.alloc (.cells #[.int .i64 p.s.K,.int .i64 p.s.M,.int .i64 p.s.size,.slice A0 n0 c0,.slice A1 n1 c1,.slice A2 n2 c2,.int .i64 p.b.next,.slice A3 n3 c3,.slice A4 n4 c4,.int .i64 p.n] 32)).alloc (.cells #[.int .i64 p.s.K,.int .i64 p.s.M,.int .i64 p.s.size,.slice A0 n0 c0,.slice A1 n1 c1,.slice A2 n2 c2,.int .i64 p.b.next,.slice A3 n3 c3,.slice A4 n4 c4,.int .i64 p.n] 32)):=bz;have hz:w.heap.size+2≤((w.alloc (.cells #[.int .i64 p.s.K,.int .i64 p.s.M,.int .i64 p.s.size,.slice A0 n0 c0,.slice A1 n1 c1,.slice A2 n2 c2,.int .i64 p.b.next,.slice A3 n3 c3,.slice A4 n4 c4,.int .i64 p.n] 32)).alloc (.cells #[.int .i64 p.s.K,.int .i64 p.s.M,.int .i64 p.s.size,.slice A0 n0 c0,.slice A1 n1 c1,.slice A2 n2 c2,.int .i64 p.b.next,.slice A3 n3 c3,.slice A4 n4 c4,.int .i64 p.n] 32)).heap.size:=by simp
 go_enter Tryz.func10,Tryz.ntmps10
 go_upto_region 2 with (fail)
 generalize ((w.alloc (.cells #[.int .i64 p.s.K,.int .i64 p.s.M,.int .i64 p.s.size,.slice A0 n0 c0,.slice A1 n1 c1,.slice A2 n2 c2,.int .i64 p.b.next,.slice A3 n3 c3,.slice A4 n4 c4,.int .i64 p.n] 32)).alloc (.cells #[.int .i64 p.s.K,.int .i64 p.s.M,.int .i64 p.s.size,.slice A0 n0 c0,.slice A1 n1 c1,.slice A2 n2 c2,.int .i64 p.b.next,.slice A3 n3 c3,.slice A4 n4 c4,.int .i64 p.n] 32))=W1 at *;have y7:=zc 7 nA (.slice A3 n3 c3) rfl;have z7:=zf 7 nA;have hr5':(W1.setCell ⟨w.heap.size+1,7,none⟩ (.slice none 0 0)).heap[w.heap.size+1]?=some (.cells #[.int .i64 p.s.K,.int .i64 p.s.M,.int .i64 p.s.size,.slice A0 n0 c0,.slice A1 n1 c1,.slice A2 n2 c2,.int .i64 p.b.next,.slice none 0 0,.slice A4 n4 c4,.int .i64 p.n] 32 (0,0)):=by simp[World.setCell,Array.getElem?_modify,nA]
 have hr2':(W1.setCell ⟨w.heap.size+1,7,none⟩ (.slice none 0 0)).heap[w.heap.size]?=some (.cells #[.int .i64 p.s.K,.int .i64 p.s.M,.int .i64 p.s.size,.slice A0 n0 c0,.slice A1 n1 c1,.slice A2 n2 c2,.int .i64 p.b.next,.slice A3 n3 c3,.slice A4 n4 c4,.int .i64 p.n] 32 (0,0)):=(Below.heap_setCell _ _ _ _ (by simp)).trans hr2;have gT:Hid (Below w.heap.size w (W1.setCell ⟨w.heap.size+1,7,none⟩ (.slice none 0 0))):=zh (hal.setCell (by simp) _);have hz2:w.heap.size+2≤(W1.setCell ⟨w.heap.size+1,7,none⟩ (.slice none 0 0)).heap.size:=by simpa using hz
 go_upto_region 3 with (fail)
 clear y7 z7 nA hr2 hal hz;generalize (W1.setCell ⟨w.heap.size+1,7,none⟩ (.slice none 0 0))=W2 at *;have HI:Hid (∃A c,W2.heap[w.heap.size+1]?=some (.cells #[.int .i64 p.s.K,.int .i64 p.s.M,.int .i64 p.s.size,.slice A0 n0 c0,.slice A1 n1 c1,.slice A2 n2 c2,.int .i64 p.b.next,.slice A (zM ks (p.l.take 0)).length c,.slice A4 n4 c4,.int .i64 p.n] 32 (0,0))∧Silo.Bj 61 (qi false) W2 (w.heap.size+2) (fun q=>q<w.heap.size) A (zM ks (p.l.take 0)).length c (zM ks (p.l.take 0))∧W2.heap[w.heap.size]?=some (.cells #[.int .i64 p.s.K,.int .i64 p.s.M,.int .i64 p.s.size,.slice A0 n0 c0,.slice A1 n1 c1,.slice A2 n2 c2,.int .i64 p.b.next,.slice A3 n3 c3,.slice A4 n4 c4,.int .i64 p.n] 32 (0,0))∧Below w.heap.size w W2∧w.heap.size+2≤W2.heap.size):=zh ⟨none,0,hr5',by simpa[zM] using Silo.Bj.Bn,hr2',gT.out,hz2⟩;clear hr5' hr2' gT hz2;go_wp2_with fail
 go_loopw [6] (fun iv V=>∃k:Nat,k≤n3∧iv=.int .i64 k∧Hid (∃A c,V.heap[w.heap.size+1]?=some (.cells #[.int .i64 p.s.K,.int .i64 p.s.M,.int .i64 p.s.size,.slice A0 n0 c0,.slice A1 n1 c1,.slice A2 n2 c2,.int .i64 p.b.next,.slice A (zM ks (p.l.take k)).length c,.slice A4 n4 c4,.int .i64 p.n] 32 (0,0))∧Silo.Bj 61 (qi false) V (w.heap.size+2) (fun q=>q<w.heap.size) A (zM ks (p.l.take k)).length c (zM ks (p.l.take k))∧V.heap[w.heap.size]?=some (.cells #[.int .i64 p.s.K,.int .i64 p.s.M,.int .i64 p.s.size,.slice A0 n0 c0,.slice A1 n1 c1,.slice A2 n2 c2,.int .i64 p.b.next,.slice A3 n3 c3,.slice A4 n4 c4,.int .i64 p.n] 32 (0,0))∧Below w.heap.size w V∧w.heap.size+2≤V.heap.size)) (fun iv _=>n3 - (intOf iv).toNat)
 case atStart=>exact⟨0,Nat.zero_le _,rfl,HI⟩
 case round=>
  clear HI
  rename World=>wo
  obtain⟨k,hk,rfl,HI⟩:=hrel;obtain⟨A,c,nA,hown,hr2,nR,hz⟩:=HI.out;have b7:=zc 7 hr2 (.slice A3 n3 c3) rfl;have hlw:w.heap.size<wo.heap.size:=by omega
  by_cases hlt:k<n3
  ·obtain⟨bs,os,L4,l4,k4,L5,l5,k5,eA,hSb,hbs,g1,g2,g3,g4,hl4,hs5,t0,t1,t2,t3,t4,t5,_⟩:=(MJ.out wo nR).BQ hlt;have hbw2:bs<w.heap.size:=hSb.2;subst eA;have HFS:Hid (zM ks (p.l.take (k+1))=zM ks (p.l.take k)++(if (p.l.getD k default).kind∈ks then [p.l.getD k default] else [])):=zh (JM (by rw[mY.out];exact hlt));have hfl:=KH (ks:=ks) (l:=p.l) (k:=k);generalize p.l.getD k default=r at *;generalize zM ks (p.l.take k)=F at *;have vp:=zh (In_c (w:=wo) (x:=r.kind) (HKS.out wo nR));have HR5:=zh nA;have Mi:=zh hr2;have HOW:=zh hown;have gT:=zh nR;have HT:=zh (And.intro t0 (And.intro t1 (And.intro t2 (And.intro t3 (And.intro t4 t5)))));have H4:=zh hl4;have H5:=zh hs5;have HK:=zh (And.intro g1 (And.intro g2 (And.intro g3 g4)));clear nA hr2 hown nR t1 t2 t3 t4 t5 hl4 hs5 g1 g2 g3 g4 HI;by_cases hm:r.kind∈ks
   ·obtain⟨j,hj1⟩:=JN hm;rw[hj1] at vp;have HFX:Hid (zM ks (p.l.take (k+1))=F++[r]):=zh (by rw[HFS.out,if_pos hm]);clear hm hj1 HFS;go_wp2_with fail
    refine vp.out.mono ?_;clear b7 t0 vp;rintro e w5 ⟨rfl,gB⟩;have HR55:=zh ((gB.block _ (by omega)).trans HR5.out);have HR25:=zh ((gB.block _ (by omega)).trans Mi.out);have Ht:=zh (HOW.out.all gB);have pG:=zh (gT.out.trans (gB.mono (by omega)));have GS:=zh (fun V (hV:Below (w.heap.size+2) w5 V)=>And.intro ((hV.cell (p:=⟨bs,os+k* 6,none⟩) (by show bs<_;omega)).trans ((gB.cell (p:=⟨bs,os+k* 6,none⟩) hbs).trans HT.out.1)) (And.intro ((hV.cell (p:=⟨bs,os+k* 6+1,none⟩) (by show bs<_;omega)).trans ((gB.cell (p:=⟨bs,os+k* 6+1,none⟩) hbs).trans HT.out.2.1)) (And.intro ((hV.cell (p:=⟨bs,os+k* 6+2,none⟩) (by show bs<_;omega)).trans ((gB.cell (p:=⟨bs,os+k* 6+2,none⟩) hbs).trans HT.out.2.2.1)) (And.intro ((hV.cell (p:=⟨bs,os+k* 6+3,none⟩) (by show bs<_;omega)).trans ((gB.cell (p:=⟨bs,os+k* 6+3,none⟩) hbs).trans HT.out.2.2.2.1)) (And.intro ((hV.cell (p:=⟨bs,os+k* 6+4,none⟩) (by show bs<_;omega)).trans ((gB.cell (p:=⟨bs,os+k* 6+4,none⟩) hbs).trans HT.out.2.2.2.2.1)) ((hV.cell (p:=⟨bs,os+k* 6+5,none⟩) (by show bs<_;omega)).trans ((gB.cell (p:=⟨bs,os+k* 6+5,none⟩) hbs).trans HT.out.2.2.2.2.2)))))));have H45:=zh ((H4.out.all gB).mono (S':=fun q=>q<w.heap.size) (fun q hq _=>hq.2));have H55:=zh ((H5.out.all gB).mono (S':=fun q=>q<w.heap.size) (fun q hq _=>hq.2));have hz5:w.heap.size+2≤w5.heap.size:=(by have:=gB.size;omega);clear gB HR5 Mi HOW gT HT H4 H5 hbs
    go_upto_region 7 with (fail)
    refine only7 (lo:=w.heap.size) (base:=w.heap.size+2) (b9:=bs) (o9:=os) (k:=k) (n3:=n3) (c3:=c3) (r:=r) (l:=F) hlt (by omega) (zh (fun W hW=>by
     have r2:=(hW.block w.heap.size (by omega)).trans HR25.out;have r5:=(hW.block (w.heap.size+1) (by omega)).trans HR55.out
     exact⟨(zo 7 r2).trans rfl,(zo 7 r5).trans rfl,zf 7 r5⟩)) GS Ht hz5 (by omega) HK H45 H55 rfl rfl rfl rfl ?_
    intro v w6 A' c' ho hb;simp only[qb,BC,BD,BF,BG,Act.put,Bz,BA,BB];have r5:=(hb.block (w.heap.size+1) (by omega)).trans HR55.out;have r2:=(hb.block w.heap.size (by omega)).trans HR25.out
    have HF:Hid (∃A c,(w6.setCell ⟨w.heap.size+1,7,none⟩ (.slice A' (F.length+1) c')).heap[w.heap.size+1]?=some (.cells #[.int .i64 p.s.K,.int .i64 p.s.M,.int .i64 p.s.size,.slice A0 n0 c0,.slice A1 n1 c1,.slice A2 n2 c2,.int .i64 p.b.next,.slice A (F.length+1) c,.slice A4 n4 c4,.int .i64 p.n] 32 (0,0))∧Silo.Bj 61 (qi false) (w6.setCell ⟨w.heap.size+1,7,none⟩ (.slice A' (F.length+1) c')) (w.heap.size+2) (fun q=>q<w.heap.size) A (F.length+1) c (F++[r])∧(w6.setCell ⟨w.heap.size+1,7,none⟩ (.slice A' (F.length+1) c')).heap[w.heap.size]?=some (.cells #[.int .i64 p.s.K,.int .i64 p.s.M,.int .i64 p.s.size,.slice A0 n0 c0,.slice A1 n1 c1,.slice A2 n2 c2,.int .i64 p.b.next,.slice (some ⟨bs,os,none⟩) n3 c3,.slice A4 n4 c4,.int .i64 p.n] 32 (0,0))∧Below w.heap.size w (w6.setCell ⟨w.heap.size+1,7,none⟩ (.slice A' (F.length+1) c'))∧w.heap.size+2≤(w6.setCell ⟨w.heap.size+1,7,none⟩ (.slice A' (F.length+1) c')).heap.size):=
     zh ⟨A',c',by simp[World.setCell,Array.getElem?_modify,r5],ho.frame (fun q hq _=>Below.heap_setCell _ _ _ _ (by rcases hq with hq|hq;(have hq:q<w.heap.size:=hq;show q≠w.heap.size+1;omega);(have:=(ho.lt q hq.symm).1;show q≠w.heap.size+1;omega))) (by simp),(Below.heap_setCell _ _ _ _ (by simp)).trans r2,(pG.out.trans (hb.mono (by omega))).setCell (by simp) _,by have:=hb.size;simp;omega⟩
    clear ho hb r5 r2;generalize (w6.setCell ⟨w.heap.size+1,7,none⟩ (.slice A' (F.length+1) c'))=w7 at *;go_wp2
    exact⟨⟨k+1,by omega,by go_num,by rw[HFX.out,List.length_append];exact HF⟩,by simp[intOf];omega⟩
   have hneg:ZU ks r.kind=-1:=by
    unfold ZU;rw[List.findIdx?_eq_none_iff.2 (fun x hx=>by simp;intro e;subst e;exact hm hx)]
   rw[hneg] at vp;have HFX:Hid (zM ks (p.l.take (k+1))=F):=zh (by rw[HFS.out,if_neg hm,List.append_nil]);clear hm hneg HFS;go_wp2_with fail
   refine vp.out.mono ?_;clear b7 t0 vp;rintro e w5 ⟨rfl,gB⟩
   have HF:Hid (∃A c,w5.heap[w.heap.size+1]?=some (.cells #[.int .i64 p.s.K,.int .i64 p.s.M,.int .i64 p.s.size,.slice A0 n0 c0,.slice A1 n1 c1,.slice A2 n2 c2,.int .i64 p.b.next,.slice A F.length c,.slice A4 n4 c4,.int .i64 p.n] 32 (0,0))∧Silo.Bj 61 (qi false) w5 (w.heap.size+2) (fun q=>q<w.heap.size) A F.length c F∧w5.heap[w.heap.size]?=some (.cells #[.int .i64 p.s.K,.int .i64 p.s.M,.int .i64 p.s.size,.slice A0 n0 c0,.slice A1 n1 c1,.slice A2 n2 c2,.int .i64 p.b.next,.slice (some ⟨bs,os,none⟩) n3 c3,.slice A4 n4 c4,.int .i64 p.n] 32 (0,0))∧Below w.heap.size w w5∧w.heap.size+2≤w5.heap.size):=
    zh ⟨A,c,(gB.block _ (by omega)).trans HR5.out,HOW.out.all gB,(gB.block _ (by omega)).trans Mi.out,gT.out.trans (gB.mono (by omega)),by have:=gB.size;omega⟩
   clear gB HR5 Mi HOW gT HT H4 H5;go_wp2
   exact⟨⟨k+1,by omega,by go_num,by rw[HFX.out];exact HF⟩,by simp[intOf];omega⟩
  obtain rfl:k=n3:=by omega
  have hall:zM ks (p.l.take k)=zM ks p.l:=by rw[List.take_of_length_le (by rw[mY.out];exact Nat.le_refl _)]
  rw[hall] at nA hown;obtain⟨q,hq⟩:∃q:zn,q={p with l:=zM ks p.l}:=⟨_,rfl⟩;have mq:=zh (ZG (w:=wo) (q:={p with l:=zM ks p.l}) gJ.out rB.out (Ge.out wo nR) ((((hown.sl (tg:=true)).F4)).mono (S':=fun _=>True) (fun _ _ _=>trivial)) (HVV.out wo nR));have HOFC:=zh (fun V (hV:Below wo.heap.size wo V)=>yx (w:=V) (q:={p with l:=zM ks p.l}) gJ.out rB.out (Ge.out V (nR.trans (hV.mono (by omega)))) ((((hown.all hV).sl (tg:=true)).F4).mono (S':=fun _=>True) (fun _ _ _=>trivial)) (HVV.out V (nR.trans (hV.mono (by omega)))));have gT:=zh nR;have HR5:=zh nA;clear hq hown hr2 HI hall nR;have hl5:w.heap.size+1<wo.heap.size:=by omega
  obtain⟨d0,d1,d2,d3,d4,d5,d6,d7,d8,d9⟩:=ZQ nA;clear nA;go_wp2_with fail
  clear b7;refine mq.out.mono ?_;clear d0 d1 d2 d3 d4 d5 d6 d7 d8 d9 mq;rintro e w9 ⟨rfl,mM⟩;have nA:=(mM.block _ hl5).trans HR5.out;have HC:=zh (HOFC.out w9 mM);have gD:=zh (gT.out.trans (mM.mono (by omega)));obtain⟨d0,d1,d2,d3,d4,d5,d6,d7,d8,d9⟩:=ZQ nA;clear nA mM;go_wp2_with fail
  refine HC.out.mono ?_;clear d0 d1 d2 d3 d4 d5 d6 d7 d8 d9 HC;rintro e MH ⟨rfl,pk⟩;have rq:=zt gD pk;clear pk;go_wp2
  go_ret
  exact⟨by trivial,rq.out⟩
theorem BookNames_c {S:Nat→Prop}{w:World}{A0 A1 A2 A3 A4:Option Addr}{n0 c0 n1 c1 n2 c2 n3 c3 n4 c4:Nat}{q:zn}(hB:zB q) (hsi:Bg q.s.K∧Bg q.s.M∧Bg q.s.size) (hb:Bl w S false false false false A0 n0 c0 A1 n1 c1 A2 n2 c2 q.b) (hl:Sl false 61 (qi false) w S A3 n3 c3 q.l) (hv:Sl false 4 BU w S A4 n4 c4 q.live):
  Calls Tryz.prog 3 #[.agg #[.int .i64 q.s.K,.int .i64 q.s.M,.int .i64 q.s.size,.slice A0 n0 c0,.slice A1 n1 c1,.slice A2 n2 c2,.int .i64 q.b.next,.slice A3 n3 c3,.slice A4 n4 c4,.int .i64 q.n]] w (Bh (.bool true) w):=by
 have mL:=heap_alloc_new w (.cells #[.int .i64 q.s.K,.int .i64 q.s.M,.int .i64 q.s.size,.slice A0 n0 c0,.slice A1 n1 c1,.slice A2 n2 c2,.int .i64 q.b.next,.slice A3 n3 c3,.slice A4 n4 c4,.int .i64 q.n] 32);have hal:Below w.heap.size w (w.alloc (.cells #[.int .i64 q.s.K,.int .i64 q.s.M,.int .i64 q.s.size,.slice A0 n0 c0,.slice A1 n1 c1,.slice A2 n2 c2,.int .i64 q.b.next,.slice A3 n3 c3,.slice A4 n4 c4,.int .i64 q.n] 32)):=bz;have hz:w.heap.size<(w.alloc (.cells #[.int .i64 q.s.K,.int .i64 q.s.M,.int .i64 q.s.size,.slice A0 n0 c0,.slice A1 n1 c1,.slice A2 n2 c2,.int .i64 q.b.next,.slice A3 n3 c3,.slice A4 n4 c4,.int .i64 q.n] 32)).heap.size:=by simp
 go_enter Tryz.func3,Tryz.ntmps3
 go_upto_region 1 with (fail)
 generalize (w.alloc (.cells #[.int .i64 q.s.K,.int .i64 q.s.M,.int .i64 q.s.size,.slice A0 n0 c0,.slice A1 n1 c1,.slice A2 n2 c2,.int .i64 q.b.next,.slice A3 n3 c3,.slice A4 n4 c4,.int .i64 q.n] 32))=W0 at *;have gF:Below w.heap.size w (W0.alloc (.cells #[.int .i64 7,.int .i64 8] 3)):=hal.alloc hal.size _;have HC:=zh (Xn hB hsi (hb.all gF) (hl.all gF) (hv.all gF) (jA (xs:=[7,8]) (n:=2) rfl (by omega) (fun x hx=>by simp at hx;unfold Bg;omega) (heap_alloc_new W0 (.cells #[.int .i64 7,.int .i64 8] 3))));have gm:=zh gF;clear hB hsi hb hl hv hal gF;obtain⟨d0,d1,d2,d3,d4,d5,d6,d7,d8,d9⟩:=ZQ mL;clear mL;go_wp2_with fail
 refine HC.out.mono ?_;rintro e w1 ⟨rfl,hb1⟩;have gG:=zt gm hb1;clear hb1 gm HC d0 d1 d2 d3 d4 d5 d6 d7 d8 d9 hz;go_wp2
 go_ret
 exact⟨by trivial,gG.out⟩
theorem BookCommits_c {S:Nat→Prop}{w:World}{A0 A1 A2 A3 A4:Option Addr}{n0 c0 n1 c1 n2 c2 n3 c3 n4 c4:Nat}{q:zn}(hB:zB q) (hsi:Bg q.s.K∧Bg q.s.M∧Bg q.s.size) (hb:Bl w S false false false false A0 n0 c0 A1 n1 c1 A2 n2 c2 q.b) (hl:Sl false 61 (qi false) w S A3 n3 c3 q.l) (hv:Sl false 4 BU w S A4 n4 c4 q.live):
  Calls Tryz.prog 7 #[.agg #[.int .i64 q.s.K,.int .i64 q.s.M,.int .i64 q.s.size,.slice A0 n0 c0,.slice A1 n1 c1,.slice A2 n2 c2,.int .i64 q.b.next,.slice A3 n3 c3,.slice A4 n4 c4,.int .i64 q.n]] w (Bh (.bool true) w):=by
 have mL:=heap_alloc_new w (.cells #[.int .i64 q.s.K,.int .i64 q.s.M,.int .i64 q.s.size,.slice A0 n0 c0,.slice A1 n1 c1,.slice A2 n2 c2,.int .i64 q.b.next,.slice A3 n3 c3,.slice A4 n4 c4,.int .i64 q.n] 32);have hal:Below w.heap.size w (w.alloc (.cells #[.int .i64 q.s.K,.int .i64 q.s.M,.int .i64 q.s.size,.slice A0 n0 c0,.slice A1 n1 c1,.slice A2 n2 c2,.int .i64 q.b.next,.slice A3 n3 c3,.slice A4 n4 c4,.int .i64 q.n] 32)):=bz;have hz:w.heap.size<(w.alloc (.cells #[.int .i64 q.s.K,.int .i64 q.s.M,.int .i64 q.s.size,.slice A0 n0 c0,.slice A1 n1 c1,.slice A2 n2 c2,.int .i64 q.b.next,.slice A3 n3 c3,.slice A4 n4 c4,.int .i64 q.n] 32)).heap.size:=by simp
 go_enter Tryz.func7,Tryz.ntmps7
 go_upto_region 1 with (fail)
 generalize (w.alloc (.cells #[.int .i64 q.s.K,.int .i64 q.s.M,.int .i64 q.s.size,.slice A0 n0 c0,.slice A1 n1 c1,.slice A2 n2 c2,.int .i64 q.b.next,.slice A3 n3 c3,.slice A4 n4 c4,.int .i64 q.n] 32))=W0 at *;have gF:Below w.heap.size w (W0.alloc (.cells #[.int .i64 2] 3)):=hal.alloc hal.size _;have HC:=zh (Xn hB hsi (hb.all gF) (hl.all gF) (hv.all gF) (jA (xs:=[2]) (n:=1) rfl (by omega) (fun x hx=>by simp at hx;unfold Bg;omega) (heap_alloc_new W0 (.cells #[.int .i64 2] 3))));have gm:=zh gF;clear hB hsi hb hl hv hal gF;obtain⟨d0,d1,d2,d3,d4,d5,d6,d7,d8,d9⟩:=ZQ mL;clear mL;go_wp2_with fail
 refine HC.out.mono ?_;rintro e w1 ⟨rfl,hb1⟩;have gG:=zt gm hb1;clear hb1 gm HC d0 d1 d2 d3 d4 d5 d6 d7 d8 d9 hz;go_wp2
 go_ret
 exact⟨by trivial,gG.out⟩
theorem BookFrees_c {S:Nat→Prop}{w:World}{A0 A1 A2 A3 A4:Option Addr}{n0 c0 n1 c1 n2 c2 n3 c3 n4 c4:Nat}{q:zn}(hB:zB q) (hsi:Bg q.s.K∧Bg q.s.M∧Bg q.s.size) (hb:Bl w S false false false false A0 n0 c0 A1 n1 c1 A2 n2 c2 q.b) (hl:Sl false 61 (qi false) w S A3 n3 c3 q.l) (hv:Sl false 4 BU w S A4 n4 c4 q.live):
  Calls Tryz.prog 8 #[.agg #[.int .i64 q.s.K,.int .i64 q.s.M,.int .i64 q.s.size,.slice A0 n0 c0,.slice A1 n1 c1,.slice A2 n2 c2,.int .i64 q.b.next,.slice A3 n3 c3,.slice A4 n4 c4,.int .i64 q.n]] w (Bh (.bool true) w):=by
 have mL:=heap_alloc_new w (.cells #[.int .i64 q.s.K,.int .i64 q.s.M,.int .i64 q.s.size,.slice A0 n0 c0,.slice A1 n1 c1,.slice A2 n2 c2,.int .i64 q.b.next,.slice A3 n3 c3,.slice A4 n4 c4,.int .i64 q.n] 32);have hal:Below w.heap.size w (w.alloc (.cells #[.int .i64 q.s.K,.int .i64 q.s.M,.int .i64 q.s.size,.slice A0 n0 c0,.slice A1 n1 c1,.slice A2 n2 c2,.int .i64 q.b.next,.slice A3 n3 c3,.slice A4 n4 c4,.int .i64 q.n] 32)):=bz;have hz:w.heap.size<(w.alloc (.cells #[.int .i64 q.s.K,.int .i64 q.s.M,.int .i64 q.s.size,.slice A0 n0 c0,.slice A1 n1 c1,.slice A2 n2 c2,.int .i64 q.b.next,.slice A3 n3 c3,.slice A4 n4 c4,.int .i64 q.n] 32)).heap.size:=by simp
 go_enter Tryz.func8,Tryz.ntmps8
 go_upto_region 1 with (fail)
 generalize (w.alloc (.cells #[.int .i64 q.s.K,.int .i64 q.s.M,.int .i64 q.s.size,.slice A0 n0 c0,.slice A1 n1 c1,.slice A2 n2 c2,.int .i64 q.b.next,.slice A3 n3 c3,.slice A4 n4 c4,.int .i64 q.n] 32))=W0 at *;have gF:Below w.heap.size w (W0.alloc (.cells #[.int .i64 3] 3)):=hal.alloc hal.size _;have HC:=zh (Xn hB hsi (hb.all gF) (hl.all gF) (hv.all gF) (jA (xs:=[3]) (n:=1) rfl (by omega) (fun x hx=>by simp at hx;unfold Bg;omega) (heap_alloc_new W0 (.cells #[.int .i64 3] 3))));have gm:=zh gF;clear hB hsi hb hl hv hal gF;obtain⟨d0,d1,d2,d3,d4,d5,d6,d7,d8,d9⟩:=ZQ mL;clear mL;go_wp2_with fail
 refine HC.out.mono ?_;rintro e w1 ⟨rfl,hb1⟩;have gG:=zt gm hb1;clear hb1 gm HC d0 d1 d2 d3 d4 d5 d6 d7 d8 d9 hz;go_wp2
 go_ret
 exact⟨by trivial,gG.out⟩
theorem BookThings_c {S:Nat→Prop}{w:World}{A0 A1 A2 A3 A4:Option Addr}{n0 c0 n1 c1 n2 c2 n3 c3 n4 c4:Nat}{q:zn}(hB:zB q) (hsi:Bg q.s.K∧Bg q.s.M∧Bg q.s.size) (hb:Bl w S false false false false A0 n0 c0 A1 n1 c1 A2 n2 c2 q.b) (hl:Sl false 61 (qi false) w S A3 n3 c3 q.l) (hv:Sl false 4 BU w S A4 n4 c4 q.live):
  Calls Tryz.prog 9 #[.agg #[.int .i64 q.s.K,.int .i64 q.s.M,.int .i64 q.s.size,.slice A0 n0 c0,.slice A1 n1 c1,.slice A2 n2 c2,.int .i64 q.b.next,.slice A3 n3 c3,.slice A4 n4 c4,.int .i64 q.n]] w (Bh (.bool true) w):=by
 have mL:=heap_alloc_new w (.cells #[.int .i64 q.s.K,.int .i64 q.s.M,.int .i64 q.s.size,.slice A0 n0 c0,.slice A1 n1 c1,.slice A2 n2 c2,.int .i64 q.b.next,.slice A3 n3 c3,.slice A4 n4 c4,.int .i64 q.n] 32);have hal:Below w.heap.size w (w.alloc (.cells #[.int .i64 q.s.K,.int .i64 q.s.M,.int .i64 q.s.size,.slice A0 n0 c0,.slice A1 n1 c1,.slice A2 n2 c2,.int .i64 q.b.next,.slice A3 n3 c3,.slice A4 n4 c4,.int .i64 q.n] 32)):=bz;have hz:w.heap.size<(w.alloc (.cells #[.int .i64 q.s.K,.int .i64 q.s.M,.int .i64 q.s.size,.slice A0 n0 c0,.slice A1 n1 c1,.slice A2 n2 c2,.int .i64 q.b.next,.slice A3 n3 c3,.slice A4 n4 c4,.int .i64 q.n] 32)).heap.size:=by simp
 go_enter Tryz.func9,Tryz.ntmps9
 go_upto_region 1 with (fail)
 generalize (w.alloc (.cells #[.int .i64 q.s.K,.int .i64 q.s.M,.int .i64 q.s.size,.slice A0 n0 c0,.slice A1 n1 c1,.slice A2 n2 c2,.int .i64 q.b.next,.slice A3 n3 c3,.slice A4 n4 c4,.int .i64 q.n] 32))=W0 at *;have gF:Below w.heap.size w (W0.alloc (.cells #[.int .i64 4,.int .i64 5,.int .i64 6] 3)):=hal.alloc hal.size _;have HC:=zh (Xn hB hsi (hb.all gF) (hl.all gF) (hv.all gF) (jA (xs:=[4,5,6]) (n:=3) rfl (by omega) (fun x hx=>by simp at hx;unfold Bg;omega) (heap_alloc_new W0 (.cells #[.int .i64 4,.int .i64 5,.int .i64 6] 3))));have gm:=zh gF;clear hB hsi hb hl hv hal gF;obtain⟨d0,d1,d2,d3,d4,d5,d6,d7,d8,d9⟩:=ZQ mL;clear mL;go_wp2_with fail
 refine HC.out.mono ?_;rintro e w1 ⟨rfl,hb1⟩;have gG:=zt gm hb1;clear hb1 gm HC d0 d1 d2 d3 d4 d5 d6 d7 d8 d9 hz;go_wp2
 go_ret
 exact⟨by trivial,gG.out⟩
end Go.Proofs.YtipecejghioicaaGreat
