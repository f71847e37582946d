/- Which stripes may be: place.apart, May, Check. -/
import Derived.Test.YtipecejghioicaaGreatQ1s
import Derived.Test.YtipecejghioicaaGreatS1s
import Derived.DeepKeys4
import Derived.Test.YtipecejghioicaaGreatP0s
import Derived.Test.YtipecejghioicaaGreatE1s
namespace Go.Silo
open Go Go.RowKit
open Go.Maps (Keyed)
theorem jE {P:Program}{k e:TypeId}(w:World) {ops:Array Oper}{rest:List Oper}{o:Oper}{a:Act}{Q:Exit→Act→World→Prop}
  (hw:Region.wanted o (yielded ops a.tmps)=true) (m x:Operand) (t:TypeId) (hop:o.op=Op.lookup t m x false) (K:Keyed P k) (ht:P.underlying t=some (.map k e)) (he:P.underlying e=some .bool) (hz:(zeroValue e).run P w=.ok (.bool false) w) (b n:Nat) (L:List Value)
  (hm:a.eval m=.map (some b)) (gz:Bu P k e w b n L) (key:Value) (kl:Lit) (hx:a.eval x=key) (hkey:keyOf P k key=some kl)
  (hK:∀x:Bool,(x=true↔key∈L)→wpList P ops Q rest (a.put o.dst (.bool x)) w):
  wpList P ops Q (o::rest) a w:=by
 refine wpList_step fun K' hK'=>?_;rw[if_pos hw];obtain⟨c,hrun,hc⟩:=gz.look K ht he hz hkey;unfold Oper.wp;simp[execOp,hop,hm,hx,hrun,Result.andThen];exact hK' _ _ (hK c hc)
end Go.Silo
namespace Go.Proofs.YtipecejghioicaaGreat
open Go.RowKit Go.Silo
theorem JD:laidOutB Tryz.prog=true:=by kernel_rfl
theorem Zy:(88:TypeId)<Tryz.prog.types.size:=of_decide_eq_true (by kernel_rfl)
theorem XG:(match Tryz.prog.underlying 88 with|some (.array _ _)|some (.struct _)=>true|_=>false)=true:=by rw[Tryz.underlying88]
set_option maxRecDepth 1000000 in
theorem JE:WideMaps.KeyLaw Tryz.prog 88:=deep_law_laid JD (m:=2) (by omega) Zy (by kernel_rfl) XG
theorem jt:Maps.Keyed Tryz.prog 88:=Maps.Keyed.of_law JE
theorem kT:Tryz.prog.cellsOf 88=2:=by kernel_rfl
theorem JU:Tryz.prog.keyType 88=true:=by kernel_rfl
theorem JF {a b:Int}(ha:Bo a) (hb:Bo b):∃kl,keyOf Tryz.prog 88 (.agg #[.int .i64 a,.int .i64 b])=some kl:=by
 have h1:(Lit.int .i64 a).wf=true:=by
  unfold Bo at ha;simp[Lit.wf,IntKind.min,IntKind.max,IntKind.signed,IntKind.bits];omega
 have h2:(Lit.int .i64 b).wf=true:=by
  unfold Bo at hb;simp[Lit.wf,IntKind.min,IntKind.max,IntKind.signed,IntKind.bits];omega
 obtain⟨q,hq⟩:∃q,Tryz.prog.types.size=q+1:=⟨Tryz.prog.types.size - 1,by have:=(show(88:Nat)<Tryz.prog.types.size from Zy);omega⟩;have hf:(Value.agg #[.int .i64 a,.int .i64 b]).formed Tryz.prog 88=true:=by simp[Value.formed,Tryz.underlying88,kT]
 have hc1:Tryz.prog.cellsOf 3=1:=by kernel_rfl
 unfold keyOf;rw[Tryz.underlying88];simp only[JU,hf,hq,Bool.true_and,if_true];simp[Program.keyLits,Value.cells,Tryz.underlying88,Tryz.underlying3,kT,hc1,h1,h2]
end Go.Proofs.YtipecejghioicaaGreat
set_option maxHeartbeats 4000000
namespace Go.Silo
open Go.RowKit
theorem Sl.take {α:Type}{E:Enc α}{tg:Bool}{T:TypeId}{w:World}{S:Nat→Prop}{A:Option Addr}{n c:Nat}{xs:List α}(h:Sl tg T E w S A n c xs) {k:Nat}(hk:k≤n):Sl tg T E w S A k c (xs.take k):=by
 obtain⟨h1,h2,h3,h4⟩:=h;refine⟨by rw[List.length_take];omega,by omega,h3,fun h0=>?_⟩;obtain⟨b,off,e,hb,hl,ht,hc⟩:=h4 (by omega);refine⟨b,off,e,hb,hl,ht,fun j y hj=>hc j y ?_⟩;rw[List.getElem?_take] at hj
 split at hj
 ·exact hj
 cases hj
end Go.Silo
namespace Go.Proofs.YtipecejghioicaaGreat
open Go.RowKit Go.Silo
theorem JV {tg:Bool}{T:TypeId}{S:Nat→Prop}{w:World}{A:Option Addr}{n c:Nat}{xs:List Slot}(h:Sl tg T qz w S A n c xs):
  Calls Tryz.prog 132 #[.slice A n c] w (Bf (.bool (zS xs)) w):=by
 have HL:=zh h.len;have hcap:n≤9223372036854775807:=Nat.le_trans h.le h.cap;have hnc:n≤c:=h.le;have hcc:c≤9223372036854775807:=h.cap
 go_enter Tryz.func132,Tryz.ntmps132
 go_wp2
 go_loopw [8] (fun i wr=>∃k:Nat,k≤n∧i=.int .i64 k∧Below w.heap.size w wr∧Hid (∀j,j<k→xq xs j=true)) (fun i _=>n - (intOf i).toNat)
 case atStart=>exact⟨0,Nat.zero_le _,rfl,Below.refl _ _,zh (fun j hj=>by omega)⟩
 case round=>
  obtain⟨k,hk,rfl,hB,he⟩:=hrel;by_cases hlt:k<n
  ·obtain⟨b,off,rfl,hS,hbl,g1,g2,hc0,hc1,_⟩:=(h.all hB).BX hlt;have hat:xq xs k=((xs.getD k default).disk==-1||!((xs.take k).any (zm (xs.getD k default).disk))):=rfl;have htk:=(h.all hB).take hk;generalize hx:xs.getD k default=x at *;have HX:=zh hx;clear hx;have HB:=zh hB;clear hB;have gV:=zh hat;clear hat;have uo:=zh htk;clear htk;by_cases hd:x.disk=-1
   ·have HF:Hid (∀j,j<k+1→xq xs j=true):=zh (fun j hj=>by
     by_cases hjk:j=k
     ·subst hjk;rw[gV.out,hd];rfl
     exact he.out j (by omega))
    go_wp2
    go_roundw
    case rel=>exact⟨k+1,by omega,by go_num,HB.out.alloc HB.out.size _,HF⟩
    case measure=>simp[intOf];omega
   have hcell:(wr.alloc (.cells #[.int .i64 x.disk,.int .i64 x.pos] 88)).cell? ⟨wr.heap.size,0,none⟩=some (.int .i64 x.disk):=(zo 0 (heap_alloc_new _ _)).trans rfl;have hcon:=jr (a:=⟨wr.heap.size,0,none⟩) (uo.out.all (w':=wr.alloc (.cells #[.int .i64 x.disk,.int .i64 x.pos] 88)) ((Below.refl _ _).alloc (Nat.le_refl _) _)) (zm x.disk) (fun W y hW=>Jx rfl (by have:=hW.size;simp at this;show wr.heap.size<_;omega) ((hW.cell (p:=⟨wr.heap.size,0,none⟩) (by simp)).trans hcell));have HCON:=zh hcon;clear hcon hcell;go_wp2_with fail
   refine HCON.out.mono ?_;rintro e w2 ⟨rfl,hb2⟩;have gu:Hid (Below w.heap.size w w2):=zh ((HB.out.alloc HB.out.size (.cells #[.int .i64 x.disk,.int .i64 x.pos] 88)).trans (hb2.mono (by have:=HB.out.size;simp;omega)));clear hb2 HCON
   cases ro:(xs.take k).any (zm x.disk) with
   |true=>
    have HF:Hid (zS xs=false):=zh (jC (i:=k) (by have:=HL.out;omega) (by rw[gV.out,ro];simp[hd]));clear ro;go_wp2
    go_ret
    exact⟨by rw[HF.out];rfl,gu.out⟩
   |false=>
    have HF:Hid (∀j,j<k+1→xq xs j=true):=zh (fun j hj=>by
     by_cases hjk:j=k
     ·subst hjk;rw[gV.out,ro];simp
     exact he.out j (by omega))
    clear ro;go_wp2
    go_roundw
    case rel=>exact⟨k+1,by omega,by go_num,gu.out,HF⟩
    case measure=>simp[intOf];omega
  have HF:Hid (zS xs=true):=zh (kh fun j hj=>he.out j (by have:=HL.out;omega));go_wp2
  go_ret
  exact⟨by rw[HF.out];rfl,hB⟩
theorem xh {tg:Bool}{S:Nat→Prop}{w:World}{A:Option Addr}{n c:Nat}{s:Shape}{x:Bb}(_:Bo s.K∧Bo s.M∧Bo s.size) (_:Bo x.id∧Bo x.len∧Bo x.gen) (h:Sl tg 88 qz w S A n c x.place):
  Calls Tryz.prog 110 #[.agg #[.int .i64 s.K,.int .i64 s.M,.int .i64 s.size],.agg #[.int .i64 x.id,.int .i64 x.len,.int .i64 x.gen,.slice A n c]] w (Bf (.bool (qO s x)) w):=by
 have HL:=zh h.len;have hcap:n≤9223372036854775807:=Nat.le_trans h.le h.cap;have hr:qO s x=((qo s&&qM x.id&&qM x.gen&&decide (1≤x.len)&&decide (x.len≤s.K* s.size)&&decide ((n:Int)=s.K+s.M))&&(zS x.place&&!(x.place.any fun p=>!qL p))):=by unfold qO;rw[HL.out]
 generalize qO s x=r at *;have HR:=zh hr;clear hr;have hsh:qo s=true→1≤s.K∧s.K≤8∧0≤s.M∧s.M≤6∧1≤s.size∧s.size≤120:=fun h=>by unfold qo at h;exact of_decide_eq_true h
 have ut:=zh hsh;clear hsh;have HAP:=zh (fun W (hW:Below w.heap.size w W)=>JV (h.all hW));have HCF:=zh (fun W (hW:Below w.heap.size w W)=>kv (h.all hW) (fun p=>!qL p) (fun _ _ _=>Zv));clear h;generalize zS x.place=ap at *;generalize (x.place.any fun p=>!qL p)=cf at *;have rp:((w.alloc (.cells #[.int .i64 s.K,.int .i64 s.M,.int .i64 s.size] 23)).alloc (.cells #[.int .i64 x.id,.int .i64 x.len,.int .i64 x.gen,.slice A n c] 86)).heap[w.heap.size]?=some (.cells #[.int .i64 s.K,.int .i64 s.M,.int .i64 s.size] 23 (0,0)):=by rw[Below.heap_alloc _ _ _ (by simp)];exact heap_alloc_new _ _
 have gY:((w.alloc (.cells #[.int .i64 s.K,.int .i64 s.M,.int .i64 s.size] 23)).alloc (.cells #[.int .i64 x.id,.int .i64 x.len,.int .i64 x.gen,.slice A n c] 86)).heap[w.heap.size+1]?=some (.cells #[.int .i64 x.id,.int .i64 x.len,.int .i64 x.gen,.slice A n c] 86 (0,0)):=by
  have:=heap_alloc_new (w.alloc (.cells #[.int .i64 s.K,.int .i64 s.M,.int .i64 s.size] 23)) (.cells #[.int .i64 x.id,.int .i64 x.len,.int .i64 x.gen,.slice A n c] 86);rw[World.size_alloc] at this;exact this
 have hB0:Below w.heap.size w ((w.alloc (.cells #[.int .i64 s.K,.int .i64 s.M,.int .i64 s.size] 23)).alloc (.cells #[.int .i64 x.id,.int .i64 x.len,.int .i64 x.gen,.slice A n c] 86)):=bz;have hz0:((w.alloc (.cells #[.int .i64 s.K,.int .i64 s.M,.int .i64 s.size] 23)).alloc (.cells #[.int .i64 x.id,.int .i64 x.len,.int .i64 x.gen,.slice A n c] 86)).heap.size=w.heap.size+2:=by simp
 go_enter Tryz.func110,Tryz.ntmps110
 go_wp2_with fail
 refine CR.mono ?_;generalize ((w.alloc (.cells #[.int .i64 s.K,.int .i64 s.M,.int .i64 s.size] 23)).alloc (.cells #[.int .i64 x.id,.int .i64 x.len,.int .i64 x.gen,.slice A n c] 86))=W0 at *
 have CELLS:Hid (∀W,Below W0.heap.size W0 W→W.cell? ⟨w.heap.size,0,none⟩=some (.int .i64 s.K)∧W.cell? ⟨w.heap.size,1,none⟩=some (.int .i64 s.M)∧W.cell? ⟨w.heap.size,2,none⟩=some (.int .i64 s.size)∧
   W.cell? ⟨w.heap.size+1,0,none⟩=some (.int .i64 x.id)∧W.cell? ⟨w.heap.size+1,1,none⟩=some (.int .i64 x.len)∧W.cell? ⟨w.heap.size+1,2,none⟩=some (.int .i64 x.gen)∧W.cell? ⟨w.heap.size+1,3,none⟩=some (.slice A n c)):=zh (fun W hW=>by
  have r0:=(hW.block w.heap.size (by omega)).trans rp;have r1:=(hW.block (w.heap.size+1) (by omega)).trans gY
  exact⟨zo 0 r0,zo 1 r0,zo 2 r0,zo 0 r1,zo 1 r1,zo 2 r1,zo 3 r1⟩)
 have gT:=zh (fun W (hW:Below W0.heap.size W0 W)=>hB0.trans (hW.mono (by omega)));clear rp gY hB0 hz0;rintro e w1 ⟨rfl,hb1⟩;have gB:=zh hb1;clear hb1;obtain⟨k0,k1,k2,x0,x1,x2,x3⟩:=CELLS.out w1 gB.out
 cases hsh:qo s with
 |false=>
  rw[hsh] at HR;clear hsh;go_wp2
  go_ret
  exact⟨by rw[HR.out];rfl,gT.out _ gB.out⟩
 |true=>
  rw[hsh] at HR;obtain⟨b1,b2,b3,b4,b5,b6⟩:=ut.out hsh;have pX:0≤s.K* s.size:=Int.mul_nonneg (by omega) (by omega);have hm2:s.K* s.size≤960:=Int.le_trans (Int.mul_le_mul b2 b6 (by omega) (by omega)) (by decide);clear hsh ut;go_wp2_with fail
  refine D9.mono ?_;clear k0 k1 k2 x0 x1 x2 x3;rintro e w2 ⟨rfl,hb2⟩;have gu:=zt gB hb2;clear hb2;obtain⟨k0,k1,k2,x0,x1,x2,x3⟩:=CELLS.out w2 gu.out
  cases hid:qM x.id with
  |false=>
   rw[hid] at HR;clear hid;go_wp2
   go_ret
   exact⟨by rw[HR.out];rfl,gT.out _ gu.out⟩
  |true=>
   rw[hid] at HR;clear hid;go_wp2_with fail
   refine D9.mono ?_;clear k0 k1 k2 x0 x1 x2 x3;rintro e w3 ⟨rfl,hb3⟩;have gG:=zt gu hb3;clear hb3;obtain⟨k0,k1,k2,x0,x1,x2,x3⟩:=CELLS.out w3 gG.out
   cases hgen:qM x.gen with
   |false=>
    rw[hgen] at HR;clear hgen;go_wp2
    go_ret
    exact⟨by rw[HR.out];rfl,gT.out _ gG.out⟩
   |true=>
    rw[hgen] at HR;clear hgen;by_cases h1:x.len<1
    ·have HF:Hid (r=false):=zh (by rw[HR.out,decide_eq_false (show¬1≤x.len by omega)];rfl);go_wp2
     go_ret
     exact⟨by rw[HF.out];rfl,gT.out _ gG.out⟩
    by_cases h2:x.len≤s.K* s.size
    ·by_cases h3:(n:Int)=s.K+s.M
     ·have HF:Hid (r=(ap&&!cf)):=zh (by rw[HR.out,decide_eq_true (show 1≤x.len by omega),decide_eq_true h2,decide_eq_true h3];rfl);have hap:=HAP.out w3 (gT.out _ gG.out);have hne:((n:Int) !=s.K+s.M)=false:=(by simp[h3]);clear h3;go_wp2_with fail
      refine hap.mono ?_;clear hap k0 k1 k2 x0 x1 x2 x3;rintro e w4 ⟨rfl,hb4⟩;have gv:=zt gG hb4;clear hb4;obtain⟨k0,k1,k2,x0,x1,x2,x3⟩:=CELLS.out w4 gv.out
      cases ap with
      |false=>
       go_wp2
       go_ret
       exact⟨by rw[HF.out];rfl,gT.out _ gv.out⟩
      |true=>
       have hcf:=HCF.out w4 (gT.out _ gv.out);go_wp2_with fail
       refine hcf.mono ?_;clear hcf k0 k1 k2 x0 x1 x2 x3;rintro e w5 ⟨rfl,gH⟩;have mi:=zt gv gH;clear gH;go_wp2
       go_ret
       exact⟨by rw[HF.out];rfl,gT.out _ mi.out⟩
     have HF:Hid (r=false):=zh (by rw[HR.out,decide_eq_false h3];simp);have hne:((n:Int) !=s.K+s.M)=true:=(by simp[h3]);clear h3;go_wp2
     go_ret
     exact⟨by rw[HF.out];rfl,gT.out _ gG.out⟩
    have HF:Hid (r=false):=zh (by rw[HR.out,decide_eq_false h2];simp);go_wp2
    go_ret
    exact⟨by rw[HF.out];rfl,gT.out _ gG.out⟩
end Go.Proofs.YtipecejghioicaaGreat
