import Derived.Test.YtipecejghioicaaGreatC14v
import Derived.Deep.Slices
set_option maxHeartbeats 16000000
set_option maxRecDepth 100000
namespace Go.Proofs.YtipecejghioicaaGreat
open Go.RowKit Go.Silo
theorem recK1:XW true false false false true false:=Zm
theorem recK2:XW true false false true true true:=Zm
theorem recK3:XW true false false false false false:=Zm
theorem Fp:XW true false true true false false:=Zm
theorem recK6:XW false false true false false false:=Zm
theorem recK7:XW false true true false false false:=Zm
theorem recK8:XW false true false false false false:=Zm
theorem jk {tg:Bool}{S:Nat→Prop}{w:World}{A4 A5:Option Addr}{n4 c4 n5 c5:Nat}{r:Bc}(hl:Sl tg 3 Bo w S A4 n4 c4 r.list) (hs:Sl tg 88 qr w S A5 n5 c5 r.slots):
  Calls Tryz.prog 31 #[.agg #[.int .i64 r.kind,.int .i64 r.id,.string r.name,.string r.digest,.slice A4 n4 c4,.slice A5 n5 c5]] w (Bh (.bool (qI r)) w):=by
 obtain⟨k,id,nm,dg,li,sl⟩:=r;simp only at hl hs⊢;by_cases hk:1≤k∧k≤8
 ·rcases (by omega:k=1∨k=2∨k=3∨k=4∨k=5∨k=6∨k=7∨k=8) with h|h|h|h|h|h|h|h<;>subst h
  ·refine recK1 _ _ _ _ _ _ _ _ _ (⟨1,id,nm,dg,li,sl⟩) ?_ ?_ ?_ ?_ ?_ ?_ ?_ hl hs<;>dsimp only<;>first|decide|rfl
  ·refine recK2 _ _ _ _ _ _ _ _ _ (⟨2,id,nm,dg,li,sl⟩) ?_ ?_ ?_ ?_ ?_ ?_ ?_ hl hs<;>dsimp only<;>first|decide|rfl
  ·refine recK3 _ _ _ _ _ _ _ _ _ (⟨3,id,nm,dg,li,sl⟩) ?_ ?_ ?_ ?_ ?_ ?_ ?_ hl hs<;>dsimp only<;>first|decide|rfl
  ·refine Fp _ _ _ _ _ _ _ _ _ (⟨4,id,nm,dg,li,sl⟩) ?_ ?_ ?_ ?_ ?_ ?_ ?_ hl hs<;>dsimp only<;>first|decide|rfl
  ·refine Fp _ _ _ _ _ _ _ _ _ (⟨5,id,nm,dg,li,sl⟩) ?_ ?_ ?_ ?_ ?_ ?_ ?_ hl hs<;>dsimp only<;>first|decide|rfl
  ·refine recK6 _ _ _ _ _ _ _ _ _ (⟨6,id,nm,dg,li,sl⟩) ?_ ?_ ?_ ?_ ?_ ?_ ?_ hl hs<;>dsimp only<;>first|decide|rfl
  ·refine recK7 _ _ _ _ _ _ _ _ _ (⟨7,id,nm,dg,li,sl⟩) ?_ ?_ ?_ ?_ ?_ ?_ ?_ hl hs<;>dsimp only<;>first|decide|rfl
  refine recK8 _ _ _ _ _ _ _ _ _ (⟨8,id,nm,dg,li,sl⟩) ?_ ?_ ?_ ?_ ?_ ?_ ?_ hl hs<;>dsimp only<;>first|decide|rfl
 have HE:Hid (qI ⟨k,id,nm,dg,li,sl⟩=false):=zh (by unfold qI;rw[decide_eq_false hk];rfl);generalize qI ⟨k,id,nm,dg,li,sl⟩=R at *;clear hl hs
 go_enter Tryz.func31,Tryz.ntmps31
 have rH:=heap_alloc_new w (.cells #[.int .i64 k,.int .i64 id,.string nm,.string dg,.slice A4 n4 c4,.slice A5 n5 c5] 61);have b0:=zc 0 rH (.int .i64 k) rfl;have hlt:w.heap.size<(w.alloc (.cells #[.int .i64 k,.int .i64 id,.string nm,.string dg,.slice A4 n4 c4,.slice A5 n5 c5] 61)).heap.size:=by simp
 clear rH;go_wp2_with fail
 refine(BN (n:=k) (l:=1) (m:=8)).mono ?_;rw[decide_eq_false hk];rintro e w1 ⟨rfl,hb1⟩;have gG:=zh (show Below w.heap.size w w1 from bz);clear hb1;clear b0 hk hlt;go_wp2
 go_ret
 exact⟨by rw[HE.out];rfl,gG.out⟩
def zQ (l:List Bc) (m:Int):Bool:=!(l.any (fun r=>!qI r))&&decide ((l.length:Int)≤m)
theorem Zn {l:List Bc}{m:Int}{j:Nat}(hj:j<l.length) (h:qI (l.getD j default)=false):zQ l m=false:=by
 have:l.any (fun r=>!qI r)=true:=List.any_eq_true.2 ⟨_,zV hj,by rw[h];rfl⟩;unfold zQ;rw[this];rfl
theorem Qr {l:List Bc}{m:Int}(h:m<l.length):zQ l m=false:=by
 unfold zQ;rw[decide_eq_false (by omega),Bool.and_false]
theorem XX {l:List Bc}{m:Int}(h:∀j,j<l.length→qI (l.getD j default)=true) (hm:(l.length:Int)≤m):zQ l m=true:=by
 have:l.any (fun r=>!qI r)=false:=List.any_eq_false.2 (fun x hx=>by
  obtain⟨j,hj,e⟩:=List.getElem_of_mem hx;have:=h j hj;rw[List.getD_eq_getElem?_getD,List.getElem?_eq_getElem hj,Option.getD_some,e] at this
  rw[this];decide)
 unfold zQ;rw[this,decide_eq_true hm];rfl
theorem KE {tg tg1:Bool}{T:TypeId}{S:Nat→Prop}{w:World}{A:Option Addr}{n c:Nat}{l:List Bc}{m:Int}(hm:0≤m∧m≤1000000) (h:Sl tg T (qi tg1) w S A n c l):
  Calls Tryz.prog 74 #[.slice A n c,.int .i64 m] w (Bh (.bool (zQ l m)) w):=by
 have HL:=zh h.len;have hcap:n≤9223372036854775807:=Nat.le_trans h.le h.cap
 go_enter Tryz.func74,Tryz.ntmps74
 go_wp2
 go_loopw [5] (fun i wr=>∃k:Nat,k≤n∧(k:Int)≤m+1∧i=.int .i64 k∧Hid (Below w.heap.size w wr)∧Hid (∀j,j<k→qI (l.getD j default)=true)) (fun i _=>n - (intOf i).toNat)
 case atStart=>exact⟨0,Nat.zero_le _,by omega,rfl,zh (Below.refl _ _),zh (fun j hj=>by omega)⟩
 case round=>
  obtain⟨k,hk,hkm,rfl,HB,he⟩:=hrel;by_cases hlt:k<n
  ·by_cases hkm2:(k:Int)≤m
   ·obtain⟨b,off,A4,n4,c4,A5,n5,c5,rfl,hS,hbl,g1,g2,g3,g4,hl4,hs5,hc0,hc1,hc2,hc3,x4,hc5,_⟩:=(h.all HB.out).BQ hlt;have hcall:=jk (r:=l.getD k default) hl4 hs5;generalize hx:l.getD k default=x at *;have HX:=zh hx;clear hx;have HC:=zh hcall;clear hcall;clear hl4 hs5;go_wp2_with fail
    refine HC.out.mono ?_;clear hc0 hc1 hc2 hc3 x4 hc5;rintro e w2 ⟨rfl,hb2⟩;have gM:=zt HB hb2;clear hb2
    cases hpx:qI x with
    |false=>
     have HF:Hid (zQ l m=false):=zh (Zn (by rw[HL.out];exact hlt) (by rw[HX.out];exact hpx));clear hpx;go_wp2
     go_ret
     exact⟨by rw[HF.out];rfl,gM.out⟩
    |true=>
     have HF:Hid (∀j,j<k+1→qI (l.getD j default)=true):=zh (fun j hj=>by
      by_cases hjk:j=k
      ·subst hjk;rw[HX.out];exact hpx
      exact he.out j (by omega))
     clear hpx;go_wp2
     go_roundw
     case rel=>exact⟨k+1,by omega,by omega,by go_num,gM,HF⟩
     case measure=>simp[intOf];omega
   have HF:Hid (zQ l m=false):=zh (Qr (by rw[HL.out];omega));have hq:¬(n:Int)≤m:=(by omega);go_wp2
   go_ret
   exact⟨by rw[HF.out];rfl,HB.out⟩
  obtain rfl:n=k:=by omega
  by_cases hq:(n:Int)≤m
  ·have HF:Hid (zQ l m=true):=zh (XX (fun j hj=>he.out j (by rw[←HL.out];exact hj)) (by rw[HL.out];exact hq));go_wp2
   go_ret
   exact⟨by rw[HF.out];rfl,HB.out⟩
  have HF:Hid (zQ l m=false):=zh (Qr (by rw[HL.out];omega));go_wp2
  go_ret
  exact⟨by rw[HF.out];rfl,HB.out⟩
theorem yw {tg tg1:Bool}{T:TypeId}{S:Nat→Prop}{w:World}{A:Option Addr}{n c:Nat}{l:List Bc}(h:Sl tg T (qi tg1) w S A n c l):
  Calls Tryz.prog 39 #[.slice A n c] w (Bh (.bool (zQ l 5000)) w):=by
 have HC:=zh (KE (m:=5000) (by omega) h);clear h
 go_enter Tryz.func39,Tryz.ntmps39
 go_wp2_with fail
 refine HC.out.mono ?_;rintro e w2 ⟨rfl,hb2⟩;go_wp2
 go_ret
 exact⟨rfl,hb2⟩
end Go.Proofs.YtipecejghioicaaGreat
namespace Go.Silo
open Go.RowKit Go.ChangeShapes Go.WideShapes Go.Deep
def D7 {α:Type}(P:Program) (E:Enc α) (t:TypeId):Prop:=
 ∀(H:Type) (enc:TypeId×Value→H) (w:World) (fuel:Nat) (cs:List Value) (x:DataW H×List MemPlace),
  DataW.trod enc P w 0 (fun _=>true) true fuel t cs=some x→w.noneFrozen x.2→∃a,E.R w (fun b=>b<w.heap.size) cs a
theorem QA {w:World}{p q:List MemPlace}(h:w.noneFrozen (p++q)):w.noneFrozen p:=fun b o hm=>h b o (List.mem_append_left _ hm)
theorem Qf {w:World}{p q:List MemPlace}(h:w.noneFrozen (p++q)):w.noneFrozen q:=fun b o hm=>h b o (List.mem_append_right _ hm)
theorem zi {P:Program}{t:TypeId}(ht:P.underlying t=some (.int .i64)):D7 P Bo t:=by
 intro H enc w fuel cs x h _;obtain⟨n,rfl,_,hw⟩:=DataW.trod_int ht h;refine⟨n,rfl,?_⟩;simp[Lit.wf,IntKind.min,IntKind.max,IntKind.signed,IntKind.bits] at hw;exact⟨by omega,by omega⟩
theorem Zo {P:Program}{t:TypeId}(ht:P.underlying t=some .bool):D7 P BU t:=by
 intro H enc w fuel cs x h _;obtain⟨b,rfl,_⟩:=DataW.trod_bool ht h;exact⟨b,rfl,trivial⟩
theorem Kb {α:Type}{p:Nat→α→Prop}:∀n:Nat,(∀i,i<n→∃x,p i x)→∃xs:List α,xs.length=n∧∀k x,xs[k]?=some x→p k x
 |0,_=>⟨[],rfl,fun k x h=>by simp at h⟩
 |n+1,h=>by
  obtain⟨xs,hl,hx⟩:=Kb n (fun i hi=>h i (by omega));obtain⟨y,hy⟩:=h n (by omega);refine⟨xs++[y],by simp[hl],fun k x hk=>?_⟩;rcases Nat.lt_or_ge k n with hk'|hk'
  ·rw[List.getElem?_append_left (by omega)] at hk;exact hx k x hk
  rw[List.getElem?_append_right (by omega),hl] at hk
  have:k - n=0:=by
   rcases Nat.eq_zero_or_pos (k - n) with h0|h0
   ·exact h0
   rw[List.getElem?_eq_none (by simp;omega)] at hk;cases hk
  rw[this] at hk;injection hk with hk
  subst hk;rw[show k=n by omega];exact hy
end Go.Silo
namespace Go.Proofs.YtipecejghioicaaGreat
open Go.RowKit Go.ChangeShapes Go.WideShapes Go.Deep Go.Silo
theorem DL:D7 Tryz.prog qr 88:=by
 intro H enc w fuel cs x h hfz;obtain⟨y0,y1,n,rfl,hl,h0,h1⟩:=trod_struct2 Tryz.underlying88 h;have hc:Tryz.prog.cellsOf 88=2:=by kernel_rfl
 have hi:Tryz.prog.cellsOf 3=1:=by kernel_rfl
 rw[hc] at hl
 match cs,hl with
 |[c0,c1],_=>
 simp only[hi] at h0 h1;obtain⟨a0,e0,i0⟩:=zi Tryz.underlying3 H enc w n _ _ h0 (QA hfz);obtain⟨a1,e1,i1⟩:=zi Tryz.underlying3 H enc w n _ _ h1 (Qf hfz);simp at e0 e1;subst e0 e1;exact⟨⟨a0,a1⟩,rfl,i0,i1⟩
theorem law_post {H:Type}{enc:TypeId×Value→H}{P:Program}{f:Func}{s:ChangeSpec}{W W':World}{args:Array Value}{v:Value}{ds gs:List (DataW H)}{before pa pv:List MemPlace}
  (hW:DataW.Whole enc P f.params.toList s.vars false W args.toList ds gs before) (hres:DataW.TrodAll enc P W' W.heap.size (fun _=>false) false f.resultTypes.toList (v.resultList f.resultTypes.size) (s.fn H (ds++gs)).results [])
  (hargs:DataW.TrodAll enc P W' 0 (fun b=>decide (b<W.heap.size)) true f.params.toList args.toList (s.fn H (ds++gs)).args pa) (hvars:DataW.TrodVars enc P W' (fun b=>decide (b<W.heap.size)) s.vars (s.fn H (ds++gs)).vars pv)
  (hb:Below W.heap.size W W'):s.post enc P f false true false false W args v W':=
 ⟨ds,gs,before,[],pa,pv,hW,hres,hargs,hvars,hb.frame _,fun h=>by cases h⟩
end Go.Proofs.YtipecejghioicaaGreat
namespace Go.Silo
open Go.RowKit Go.ChangeShapes Go.WideShapes Go.Deep
def zR {α:Type}(P:Program) (E:Enc α) (t:TypeId) (B:α→Prop):Prop:=
 ∀(H:Type) (enc:TypeId×Value→H) (w:World) (fuel:Nat) (cs:List Value) (x:DataW H×List MemPlace),
  DataW.trod enc P w 0 (fun _=>true) true fuel t cs=some x→w.noneFrozen x.2→(∀n∈x.1.weights P t,n≤reachBytes)→∃a,E.R w (fun b=>b<w.heap.size) cs a∧B a
theorem D7.any {α:Type}{P:Program}{E:Enc α}{t:TypeId}(h:D7 P E t):zR P E t (fun _=>True):=by
 intro H enc w fuel cs x h1 h2 _;obtain⟨a,ha⟩:=h H enc w fuel cs x h1 h2;exact⟨a,ha,trivial⟩
theorem jW {H:Type}{P:Program}{e:TypeId}{d:DataW H}:∀{ds:List (DataW H)},d∈ds→∀n∈d.weights P e,n∈DataW.weightsAll P e ds
 |[],h=>by cases h
 |d0::ds,h=>by
  intro n hn;unfold DataW.weightsAll;rcases List.mem_cons.1 h with rfl|h
  ·exact List.mem_append_left _ hn
  exact List.mem_append_right _ (jW h n hn)
theorem zI {α:Type}{P:Program}{E:Enc α}{t e T:TypeId}{B:α→Prop}(ht:P.underlying t=some (.slice e)) (hc:P.cellsOf e=E.sz) (hpos:0<E.sz) (K:Nat) (hbytes:P.bytesOf e=K) (hE:zR P E e B):
  zR P (Dm false T E) t (fun xs=>xs.length* K≤reachBytes∧∀y∈xs,B y):=by
 intro H enc w fuel cs x h hfz hw;rcases open_slice ht h with ⟨rfl,rfl⟩|⟨a,len,cap,m,n,D,Pl,rfl,_,hl,hm,hmm,rfl,hi⟩
 ·exact⟨[],⟨none,0,0,rfl,Sl.Bn (by omega)⟩,by simp,fun y hy=>by cases hy⟩
 simp only[if_true] at hmm;subst hmm;rw[hc] at hi hfz;simp only[DataW.weights,ht,hbytes] at hw
 have hlen:len* K≤reachBytes:=by
  have h1:=hw _ (List.mem_cons_self ..);simp only[List.length_map,List.length_range] at h1;exact Nat.le_trans (Nat.mul_le_mul_right _ (by omega)) h1
 have hel:∀i,i<len→∃y,B y∧∃vs,E.R w (fun b=>b<w.heap.size) vs y∧w.cells? 0 (a.add (i* E.sz)) E.sz=some vs:=by
  intro i hil;obtain⟨cs',h1,h2⟩:=hi i (by omega)
  obtain⟨y,hy,hB⟩:=hE H enc w n cs' _ h2 (fun b o hm'=>hfz b o (List.mem_append_right _ (List.mem_flatMap.2 ⟨i,List.mem_range.2 (by omega),hm'⟩)))
   (fun k hk=>hw k (List.mem_cons_of_mem _ (List.mem_append_left _ (jW (List.mem_map.2 ⟨i,List.mem_range.2 hil,rfl⟩) k hk))))
  exact⟨y,hB,cs',hy,h1⟩
 obtain⟨xs,hxl,hx⟩:=Kb len hel;refine⟨xs,⟨some a,len,_,rfl,hxl,hl,hm,fun h0=>?_⟩,by rw[hxl];exact hlen,fun y hy=>?_⟩
 ·obtain⟨_,vs0,hv0,hc0⟩:=hx 0 _ (List.getElem?_eq_getElem (by omega));obtain⟨_,hl0,hat0⟩:=World.cells?_some hc0
  have Gd:w.cell? a=some (vs0[0]'(by omega)):=by
   have:=hat0 0 hpos;rw[Nat.zero_mul] at this;rw[List.getElem?_eq_getElem (by omega)] at this;simpa[Addr.add] using this
  obtain⟨ab,ao,asp⟩:=a;obtain rfl:asp=none:=World.cell?_spot Gd;refine⟨ab,ao,rfl,World.block_lt_of_cell? w _ Gd,World.block_lt_of_cell? w _ Gd,(fun h=>by cases h),fun k y hk=>?_⟩;obtain⟨_,vs,hv,hck⟩:=hx k y hk;have hkl:k<len:=by have:=(List.getElem?_eq_some_iff.1 hk).1;omega
  obtain⟨_,hlv,hat⟩:=World.cells?_some hck;refine⟨vs,hv,fun j v hj=>?_⟩;have hjl:j<E.sz:=by have:=(List.getElem?_eq_some_iff.1 hj).1;omega
  have hadd:∀m,(⟨ab,ao,none⟩:Addr).add m=⟨ab,ao+m,none⟩:=by
   intro m;unfold Addr.add
   split
   ·rename_i h;rw[h];rfl
   rfl
  have h1:=hat j hjl;rw[Go.Deep.add_add,hadd,hj,←Nat.add_assoc] at h1;refine⟨h1,hfz ab _ (List.mem_append_left _ ?_)⟩;unfold MemPlace.row;refine List.mem_map.2 ⟨k* E.sz+j,List.mem_range.2 ?_,by simp[Nat.add_assoc]⟩;have h2:(k+1)* E.sz≤m* E.sz:=Nat.mul_le_mul_right _ (by omega);rw[Nat.succ_mul] at h2;omega
 obtain⟨k,hk⟩:=List.mem_iff_getElem?.1 hy;exact(hx k y hk).1
end Go.Silo
namespace Go.Proofs.YtipecejghioicaaGreat
open Go.RowKit Go.ChangeShapes Go.WideShapes Go.Deep Go.Silo
theorem Qs:zR Tryz.prog (Dm false 3 Bo) 36 (fun xs=>xs.length* 8≤reachBytes∧∀y∈xs,True):=zI Tryz.underlying36 (by kernel_rfl) (by decide) 8 (by kernel_rfl) (zi Tryz.underlying3).any
theorem Xh:zR Tryz.prog (Dm false 4 BU) 30 (fun xs=>xs.length* 1≤reachBytes∧∀y∈xs,True):=zI Tryz.underlying30 (by kernel_rfl) (by decide) 1 (by kernel_rfl) (Zo Tryz.underlying4).any
theorem Xi:zR Tryz.prog Fz 23 (fun _=>True):=by
 intro H enc w fuel cs x h hfz hw;obtain⟨xs,n,_,rfl,hl,hlen,hf⟩:=DataW.trod_struct Tryz.underlying23 h;have hc:Tryz.prog.cellsOf 23=3:=by kernel_rfl
 rw[hc] at hl;have hs0:Tryz.prog.cellsOf 3=1:=by kernel_rfl
 match cs,hl with
 |[c0,c1,c2],_=>
 match xs,hlen with
 |[y0,y1,y2],_=>
 have h0:DataW.trod enc Tryz.prog w 0 (fun _=>true) true n 3 (([c0,c1,c2].drop 0).take (Tryz.prog.cellsOf 3))=some y0:=hf 0 _ rfl;rw[hs0] at h0;have h1:DataW.trod enc Tryz.prog w 0 (fun _=>true) true n 3 (([c0,c1,c2].drop 1).take (Tryz.prog.cellsOf 3))=some y1:=hf 1 _ rfl;rw[hs0] at h1;have h2:DataW.trod enc Tryz.prog w 0 (fun _=>true) true n 3 (([c0,c1,c2].drop 2).take (Tryz.prog.cellsOf 3))=some y2:=hf 2 _ rfl;rw[hs0] at h2;have hz:∀y∈[y0,y1,y2],w.noneFrozen y.2:=fun y hy b o hm=>hfz b o (List.mem_flatMap.2 ⟨y,hy,hm⟩);simp only[DataW.weights,Tryz.underlying23] at hw;obtain⟨a0,e0,i0⟩:=zi Tryz.underlying3 H enc w n _ _ h0 (hz _ (by simp));obtain⟨a1,e1,i1⟩:=zi Tryz.underlying3 H enc w n _ _ h1 (hz _ (by simp));obtain⟨a2,e2,i2⟩:=zi Tryz.underlying3 H enc w n _ _ h2 (hz _ (by simp));simp at e0 e1 e2;subst e0 e1 e2;exact⟨⟨a0,a1,a2⟩,⟨rfl,i0,i1,i2⟩,trivial⟩
theorem ko:zR Tryz.prog (Dm false 88 qr) 59 (fun xs=>xs.length* 16≤reachBytes∧∀y∈xs,True):=zI Tryz.underlying59 (by kernel_rfl) (by decide) 16 (by kernel_rfl) DL.any
def QI (x:Bb):Prop:=x.place.length* 16≤reachBytes
theorem ZC:zR Tryz.prog (qc false) 86 QI:=by
 intro H enc w fuel cs x h hfz hw;obtain⟨xs,n,_,rfl,hl,hlen,hf⟩:=DataW.trod_struct Tryz.underlying86 h;have hc:Tryz.prog.cellsOf 86=4:=by kernel_rfl
 rw[hc] at hl;have hs0:Tryz.prog.cellsOf 3=1:=by kernel_rfl
 have hs1:Tryz.prog.cellsOf 59=1:=by kernel_rfl
 match cs,hl with
 |[c0,c1,c2,c3],_=>
 match xs,hlen with
 |[y0,y1,y2,y3],_=>
 have h0:DataW.trod enc Tryz.prog w 0 (fun _=>true) true n 3 (([c0,c1,c2,c3].drop 0).take (Tryz.prog.cellsOf 3))=some y0:=hf 0 _ rfl;rw[hs0] at h0;have h1:DataW.trod enc Tryz.prog w 0 (fun _=>true) true n 3 (([c0,c1,c2,c3].drop 1).take (Tryz.prog.cellsOf 3))=some y1:=hf 1 _ rfl;rw[hs0] at h1;have h2:DataW.trod enc Tryz.prog w 0 (fun _=>true) true n 3 (([c0,c1,c2,c3].drop 2).take (Tryz.prog.cellsOf 3))=some y2:=hf 2 _ rfl;rw[hs0] at h2;have h3:DataW.trod enc Tryz.prog w 0 (fun _=>true) true n 59 (([c0,c1,c2,c3].drop 3).take (Tryz.prog.cellsOf 59))=some y3:=hf 3 _ rfl;rw[hs1] at h3;have hz:∀y∈[y0,y1,y2,y3],w.noneFrozen y.2:=fun y hy b o hm=>hfz b o (List.mem_flatMap.2 ⟨y,hy,hm⟩);simp only[DataW.weights,Tryz.underlying86] at hw;obtain⟨a0,e0,i0⟩:=zi Tryz.underlying3 H enc w n _ _ h0 (hz _ (by simp));obtain⟨a1,e1,i1⟩:=zi Tryz.underlying3 H enc w n _ _ h1 (hz _ (by simp));obtain⟨a2,e2,i2⟩:=zi Tryz.underlying3 H enc w n _ _ h2 (hz _ (by simp));obtain⟨a3,⟨A3,n3,k3,e3,i3⟩,j3⟩:=ko H enc w n _ _ h3 (hz _ (by simp)) (fun k hk=>hw k (DataW.weights_mem_each (j:=3) (t:=59) (d:=y3.1) rfl rfl k hk));simp at e0 e1 e2 e3;subst e0 e1 e2 e3;exact⟨⟨a0,a1,a2,a3⟩,⟨A3,n3,k3,rfl,⟨i0,i1,i2⟩,i3⟩,j3.1⟩
theorem Zp:zR Tryz.prog (Dm false 86 (qc false)) 24 (fun xs=>xs.length* 48≤reachBytes∧∀y∈xs,QI y):=zI Tryz.underlying24 (by kernel_rfl) (by decide) 48 (by kernel_rfl) ZC
structure AskP where
 s:List Shape
 x:List Bb
 y:BM
 g:List Bool
 n:List Dy
end Go.Proofs.YtipecejghioicaaGreat
