/- Silolaw16.BookSlots: the walk. -/
import Derived.Test.YtipecejghioicaaGreatC8s
import Derived.Test.YtipecejghioicaaGreatC6s
import Derived.Test.YtipecejghioicaaGreatQ11s
import Derived.Test.YtipecejghioicaaGreatL3s
import Derived.Test.YtipecejghioicaaGreatH3s
import Derived.Test.YtipecejghioicaaGreatA4s
import Derived.Test.YtipecejghioicaaGreatT1s
import Derived.Deep.CutRange
import Derived.Deep.Cut
import Derived.Deep.CutBlock
import Derived.Deep.Light
import Derived.Test.YtipecejghioicaaGreatP0s
set_option maxHeartbeats 40000000
set_option maxRecDepth 100000
namespace Go.Proofs.YtipecejghioicaaGreat
open Go.RowKit Go.Silo
def nsV (n y:Int) (k:Nat):Int:=match k with
 |0=>n
 |1=>y
 |2=>0
 |_=>64
theorem Jl {s:Shape}{b:Book}{live:List Bool}{n:Int}:jV s b live n=if (qI s b&&decide (1≤(live.length:Int)∧(live.length:Int)≤12)&&decide (0≤n∧n≤64))=true then (⟨live,qB (List.replicate live.length (za n.toNat)) b.Ba⟩,0) else (⟨[],[]⟩,1):=by
 unfold jV;by_cases h:qI s b=true∧1≤live.length∧live.length≤12∧0≤n∧n≤64
 ·rw[if_pos h,if_pos (by simp[h];omega)]
 rw[if_neg h,if_neg (fun hh=>h (by simp at hh;obtain⟨⟨a,b1,b2⟩,c,d⟩:=hh;exact⟨a,by omega,by omega,c,d⟩))]
theorem C8.DZ {S:Nat→Prop}{B:Nat}{w w':World}(h:C8 S w w') (hB:B≤w.heap.size) (hS:∀b,S b→B≤b):Below B w w':=
 ⟨h.os,h.tape,h.output,h.size,fun b hb=>h.block b (Nat.lt_of_lt_of_le hb hB) (fun hs=>by have:=hS b hs;omega)⟩
theorem BookSlots_c {tg:Bool}{S:Nat→Prop}{w:World}{A0 A1 A2 A3 A4:Option Addr}{n0 c0 n1 c1 n2 c2 n3 c3 n4 c4:Nat}{q:xy}(hB:jM q) (hsi:Bo q.s.K∧Bo q.s.M∧Bo q.s.size) (hb:BG w S tg tg tg tg A0 n0 c0 A1 n1 c1 A2 n2 c2 q.b) (hl:Sl tg 61 (xn tg) w S A3 n3 c3 q.l) (hv:Sl tg 4 Bn w S A4 n4 c4 q.live) (hn:Bo q.n):
  Calls Tryz.prog 4 #[.agg #[.int .i64 q.s.K,.int .i64 q.s.M,.int .i64 q.s.size,.slice A0 n0 c0,.slice A1 n1 c1,.slice A2 n2 c2,.int .i64 q.b.next,.slice A3 n3 c3,.slice A4 n4 c4,.int .i64 q.n]] w (Bf (.bool true) w):=by
 have HHH:=zh (fun W (hW:Below w.heap.size w W)=>Jj (w:=W) hB (hb.all hW) (hl.all hW) (hv.all hW));have gK:=zh (fun W (hW:Below w.heap.size w W)=>hb.all hW);have yK:=zh (fun W (hW:Below w.heap.size w W)=>hv.all hW);have HLB:=zh hb.st.len;have HLV:=zh hv.len;have yT:=zh hsi;have HWI:=zh (fun(V:World)=>Jt (w:=V) (i:=q.n) (n:=65) hn (by omega) (by omega));have hI:=hn;clear hB hb hl hv hsi hn;have hal:Below w.heap.size w (w.alloc (.cells #[.int .i64 q.s.K,.int .i64 q.s.M,.int .i64 q.s.size,.slice A0 n0 c0,.slice A1 n1 c1,.slice A2 n2 c2,.int .i64 q.b.next,.slice A3 n3 c3,.slice A4 n4 c4,.int .i64 q.n] 32)):=bz;have mV:(w.alloc (.cells #[.int .i64 q.s.K,.int .i64 q.s.M,.int .i64 q.s.size,.slice A0 n0 c0,.slice A1 n1 c1,.slice A2 n2 c2,.int .i64 q.b.next,.slice A3 n3 c3,.slice A4 n4 c4,.int .i64 q.n] 32)).heap[w.heap.size]?=some (.cells #[.int .i64 q.s.K,.int .i64 q.s.M,.int .i64 q.s.size,.slice A0 n0 c0,.slice A1 n1 c1,.slice A2 n2 c2,.int .i64 q.b.next,.slice A3 n3 c3,.slice A4 n4 c4,.int .i64 q.n] 32 (0,0)):=heap_alloc_new _ _;have hz:w.heap.size<(w.alloc (.cells #[.int .i64 q.s.K,.int .i64 q.s.M,.int .i64 q.s.size,.slice A0 n0 c0,.slice A1 n1 c1,.slice A2 n2 c2,.int .i64 q.b.next,.slice A3 n3 c3,.slice A4 n4 c4,.int .i64 q.n] 32)).heap.size:=by simp
 go_enter Tryz.func4,Tryz.ntmps4
 go_upto_region 1 with (fail)
 generalize (w.alloc (.cells #[.int .i64 q.s.K,.int .i64 q.s.M,.int .i64 q.s.size,.slice A0 n0 c0,.slice A1 n1 c1,.slice A2 n2 c2,.int .i64 q.b.next,.slice A3 n3 c3,.slice A4 n4 c4,.int .i64 q.n] 32))=W0 at *;have gm:=zh (fun V (hV:Below W0.heap.size W0 V)=>hal.trans (hV.mono hal.size));clear hal;have ROW:=zh (fun V (hV:Below W0.heap.size W0 V)=>(show V.heap[w.heap.size]?=some (.cells #[.int .i64 q.s.K,.int .i64 q.s.M,.int .i64 q.s.size,.slice A0 n0 c0,.slice A1 n1 c1,.slice A2 n2 c2,.int .i64 q.b.next,.slice A3 n3 c3,.slice A4 n4 c4,.int .i64 q.n] 32 (0,0)) from(hV.block _ (by omega)).trans mV));clear mV;have rS:=ROW.out W0 (Below.refl _ _);have nz:=zc 0 rS (.int .i64 q.s.K) rfl;have nr:=zc 1 rS (.int .i64 q.s.M) rfl;have nt:=zc 2 rS (.int .i64 q.s.size) rfl;have x5:=zc 3 rS (.slice A0 n0 c0) rfl;have x6:=zc 4 rS (.slice A1 n1 c1) rfl;have x7:=zc 5 rS (.slice A2 n2 c2) rfl;have x8:=zc 6 rS (.int .i64 q.b.next) rfl;have b07:=zc 7 rS (.slice A3 n3 c3) rfl;have yq:=zc 8 rS (.slice A4 n4 c4) rfl;have b09:=zc 9 rS (.int .i64 q.n) rfl;clear rS;go_wp2_with fail
 refine(HHH.out _ (gm.out _ (Below.refl _ _))).mono ?_;clear nz nr nt x5 x6 x7 x8 b07 yq b09;rintro e w1 ⟨v1,rfl,hb1,hv1⟩;have gB:=zh hb1;clear hb1 HHH
 cases v1 with
 |true=>
  go_wp2
  go_ret
  exact⟨by trivial,gm.out _ gB.out⟩
 |false=>
  have HLI:=zh (hv1 rfl);clear hv1;have HF:=zh HLI.out.few;have hlv50:n4≤50:=by have:=HLI.out.lv;have:=HLV.out;omega
  go_upto_region 3 with (fail)
  refine bs3 (zh (ROW.out w1 gB.out)) (zh (fun V _=>HWI.out V)) rfl rfl ?_;intro v w3 gn y hv hgn hy hrn hb3;simp only[qc,BR,BS,BU,BV,Act.put,BO,BP,BQ];rw[hv]
  have vS:Hid (∀k,k<4→∀V,Below w3.heap.size w3 V→V.cell? ⟨gn,0+k,none⟩=some (.int .i64 (nsV q.n y k))):=zh (fun k hk V hV=>by
   have hr:=zb hV hrn;rw[Nat.zero_add,cell_of_row _ _ k _ _ _ hr]
   match k,hk with
   |0,_=>rfl
   |1,_=>rfl
   |2,_=>rfl
   |3,_=>rfl)
  have HNI:Hid (∀k,Bo (nsV q.n y k)):=zh (fun k=>by
   match k with
   |0=>exact hI
   |1=>show Bo y;unfold Bo;omega
   |2=>show Bo 0;unfold Bo;omega
   |(k+3)=>show Bo 64;unfold Bo;omega)
  have gG:=zt gB hb3;clear hv hgn hy hrn hb3 hI HWI gB;go_wp2_with fail
  have HB0:Hid (Below w3.heap.size w3 w3):=zh (Below.refl _ _)
  go_loopw [4] (fun iv wr=>∃k:Nat,k≤4∧iv=.int .i64 k∧Hid (Below w3.heap.size w3 wr)) (fun iv _=>4 - (intOf iv).toNat)
  case atStart=>exact⟨0,by omega,rfl,HB0⟩
  case round=>
   rename World=>wo
   clear HB0;obtain⟨k,hk,rfl,HB⟩:=hrel;by_cases hk4:k<4
   ·have hu:=gm.out _ (zu gG HB.out);have HU:=zh (zu gG HB.out);have rS:=ROW.out wo HU.out;have yq:=zc 8 rS (.slice A4 n4 c4) rfl;clear rS;have HLVo:=zh (yK.out wo hu);clear hu;have HNVo:=zh (fun V (hV:Below wo.heap.size wo V)=>vS.out k hk4 V (zu HB hV));have hI:=HNI.out k;generalize nsV q.n y k=nv at *;go_wp2_with fail
    refine(kg HLVo.out (by omega)).mono ?_;clear yq;rintro e w5 ⟨A5,c5,rfl,hown5,gH⟩;have HL5:=zh ((hown5.sl (tg:=true)).Bi);have HU5:=zt HU gH;have mi:=zt HB gH;have HNV:=zh (fun V (hV:Below w5.heap.size w5 V)=>HNVo.out V (gH.trans (hV.mono gH.size)));have h5:=gH.size;have h05:=HU5.out.size;clear hown5 gH HLVo HNVo;obtain⟨RR,yV⟩:∃RR,RR=jV q.s q.b q.live nv:=⟨_,rfl⟩;have HRR:=zh yV;clear yV
    go_upto_region 8 with (fail)
    refine bs8 (R:=RR.1) (er:=RR.2) (gn:=gn) (on:=0) (k:=k) (nv:=nv) (zh (ROW.out w5 HU5.out)) hk4 HNV (zh (fun V hV=>(by
     have h:=JY (w:=V) (s:=q.s) (b:=q.b) (live:=q.live) (n:=nv) yT.out HF.out (gK.out V (gm.out V (zu HU5 hV))) (HL5.out.all hV) hI;rw[←HRR.out] at h
     exact h))) rfl rfl rfl rfl rfl ?_
    intro v w6 g6 F0 f0 h0 F1 f1 h1 hv6 hv7 rQ hr6 hs0 hs1 gQ;simp only[qc,BR,BS,BU,BV,Act.put,BO,BP,BQ];rw[hv6,hv7];have HU6:=zt HU5 gQ;have HX0:=zh hs0.Bi;have vE:=zh hs1.Bi;have HX:=zh hr6;have pF:=zh gQ;have h6:=gQ.size;have hl6:g6<w6.heap.size:=(zl hr6);clear hv6 hv7 hr6 hs0 hs1 gQ;obtain⟨ok,hok⟩:∃ok,ok=qI q.s q.b:=⟨_,rfl⟩;have rq:=zh hok;clear hok
    go_upto_region 9 with (fail)
    go_cut [8] from 45 to 123 (fun t V=>t=.bool ok∧Hid (Below w6.heap.size w6 V))
    case first=>
     have rS:=ROW.out w6 HU6.out;have nz:=zc 0 rS (.int .i64 q.s.K) rfl;have nr:=zc 1 rS (.int .i64 q.s.M) rfl;have nt:=zc 2 rS (.int .i64 q.s.size) rfl;have x5:=zc 3 rS (.slice A0 n0 c0) rfl;have x6:=zc 4 rS (.slice A1 n1 c1) rfl;have x7:=zc 5 rS (.slice A2 n2 c2) rfl;have x8:=zc 6 rS (.int .i64 q.b.next) rfl;clear rS;go_wp2_with fail
     refine(Ct (s:=q.s)).mono ?_;rintro e w7 ⟨rfl,gh⟩;have HB7:=zh gh;clear nz nr nt x5 x6 x7 x8;have HU7:=zt HU6 gh;clear gh;generalize hsh:qo q.s=sh at *
     cases sh with
     |false=>
      have HE:Hid (ok=false):=zh (by rw[rq.out];unfold qI;rw[hsh];rfl);clear hsh;go_wp2
      go_meet
      case rel=>exact⟨by rw[HE.out],HB7⟩
     |true=>
      clear hsh;have rS:=ROW.out w7 HU7.out;have nz:=zc 0 rS (.int .i64 q.s.K) rfl;have nr:=zc 1 rS (.int .i64 q.s.M) rfl;have nt:=zc 2 rS (.int .i64 q.s.size) rfl;have x5:=zc 3 rS (.slice A0 n0 c0) rfl;have x6:=zc 4 rS (.slice A1 n1 c1) rfl;have x7:=zc 5 rS (.slice A2 n2 c2) rfl;have x8:=zc 6 rS (.int .i64 q.b.next) rfl;clear rS;go_wp2_with fail
      refine(XV (s:=q.s) HF.out (gK.out w7 (gm.out w7 HU7.out))).mono ?_;rintro e w8 ⟨rfl,hb8⟩;have HB8:=zt HB7 hb8;clear nz nr nt x5 x6 x7 x8;clear hb8;go_wp2
      go_meet
      case rel=>exact⟨by rw[rq.out],HB8⟩
    case rest=>
     rename World=>w9
     obtain⟨rfl,gy⟩:=hcut;have HU9:=zh (zu HU6 gy.out);have h9:=gy.out.size
     go_upto_region 12 with (fail)
     have hal:Below w9.heap.size w9 (w9.alloc (.cells #[.slice none 0 0,.slice none 0 0] 40)):=(Below.refl _ _).alloc (Nat.le_refl _) _;have vB:=heap_alloc_new w9 (.cells #[.slice none 0 0,.slice none 0 0] 40);have hlz:w9.heap.size<(w9.alloc (.cells #[.slice none 0 0,.slice none 0 0] 40)).heap.size:=(by simp);generalize (w9.alloc (.cells #[.slice none 0 0,.slice none 0 0] 40))=nB at *;have RZ:=zh vB;have ny:=zh (gy.out.trans (hal.mono h9));have HB90:=zh hal;have HU10:=zt HU9 hal;clear hal vB;obtain⟨gd,hgd⟩:∃gd,gd=(ok&&decide (1≤(n4:Int)∧(n4:Int)≤12)&&decide (0≤nv∧nv≤64)):=⟨_,rfl⟩;have HGD:=zh hgd;clear hgd;have HRG:Hid (RR=if gd=true then (⟨q.live,qB (List.replicate n4 (za nv.toNat)) q.b.Ba⟩,0) else (⟨[],[]⟩,1)):=zh (by rw[HRR.out,HGD.out,Jl,rq.out,HLV.out])
     go_cut [68] from 55 to 123 (fun t V=>t=.bool gd∧Hid (Below nB.heap.size nB V))
     case first=>
      cases ok with
      |false=>
       have HE:Hid (gd=false):=zh (by rw[HGD.out];rfl);go_wp2
       go_meet
       case rel=>exact⟨by rw[HE.out],zh (Below.refl _ _)⟩
      |true=>
       have rS:=ROW.out nB HU10.out;have yq:=zc 8 rS (.slice A4 n4 c4) rfl;clear rS;go_wp2_with fail
       refine(BH (n:=(n4:Int)) (l:=1) (m:=12)).mono ?_;rintro e pc ⟨rfl,hb11⟩;clear yq;have rK:=zh hb11;have c0':=HNV.out pc (pF.out.trans ((zu ny hb11).mono h6));rw[Nat.zero_add] at c0';clear hb11;by_cases yr:1≤(n4:Int)∧(n4:Int)≤12
       ·rw[decide_eq_true yr];have HGE:Hid (gd=decide (0≤nv∧nv≤64)):=zh (by rw[HGD.out,decide_eq_true yr];rfl);clear yr;go_wp2_with fail
        refine(Ca (n:=nv) (m:=64)).mono ?_;rintro e z6 ⟨rfl,hb12⟩;have HB12:=zt rK hb12;clear hb12 c0';go_wp2
        go_meet
        case rel=>exact⟨by rw[HGE.out];first|rfl|(rw[Bool.decide_and]),HB12⟩
       rw[decide_eq_false yr];have HGE:Hid (gd=false):=zh (by rw[HGD.out,decide_eq_false yr];rfl);clear yr c0';go_wp2
       go_meet
       case rel=>exact⟨by rw[HGE.out],rK⟩
     case rest=>
      rename World=>pc
      obtain⟨rfl,rK⟩:=hcut;have RZ1:=zh ((rK.out.block _ hlz).trans RZ.out);have HB911:=zh (zu HB90 rK.out);have uB:=zh (zu ny rK.out);have x9:=zh (zu HU10 rK.out);clear RZ HB90 ny HU10 rK;generalize hg10:w9.heap.size=g10 at *;have HG10:=zh hg10;clear hg10;have h96:w6.heap.size≤g10:=h9
      go_upto_if 68 with (fail)
      go_cut [9] from 69 to 123 (fun t V=>t=.int .i64 RR.2∧Hid (∃G0 m0 j0 G1 m1 j1,V.heap[g10]?=some (.cells #[.slice G0 m0 j0,.slice G1 m1 j1] 40 (0,0))∧Sl true 4 Bn V (fun q=>pc.heap.size≤q) G0 m0 j0 RR.1.live∧Sl true 36 (Cg true 3 Bd) V (fun q=>pc.heap.size≤q) G1 m1 j1 RR.1.free∧Below g10 pc V))
      case first=>
       cases gd with
       |false=>
        have HE:Hid (RR=(⟨[],[]⟩,1)):=zh HRG.out;go_wp2
        go_meet
        case rel=>exact⟨by rw[HE.out],zh ⟨none,0,0,none,0,0,RZ1.out,by rw[HE.out];exact Sl.BA (by omega),by rw[HE.out];exact Sl.BA (by omega),Below.refl _ _⟩⟩
       |true=>
        have HE:Hid (RR=(⟨q.live,qB (List.replicate n4 (za nv.toNat)) q.b.Ba⟩,0)):=zh HRG.out
        have hcond:0≤nv∧nv≤64:=by
         have h:=HGD.out.symm;rw[Bool.and_eq_true] at h;exact of_decide_eq_true h.2
        obtain⟨nn,hnn⟩:=Int.eq_ofNat_of_zero_le hcond.1
        go_upto_region 13 with (fail)
        refine bs13 (R:=RR.1) (gn:=gn) (on:=0) (k:=k) (nv:=nv) (g10:=g10) (zh (ROW.out pc x9.out)) hk4 (zh (fun V hV=>HNV.out V (pF.out.trans ((zu uB hV).mono h6)))) RZ1 (zh (fun V hV=>(by
         have h:=QZ (w:=V) (m:=nn) (gK.out V (gm.out V (zu x9 hV))) (yK.out V (gm.out V (zu x9 hV))) (by omega) (by omega);rw[HE.out,hnn]
         exact h))) rfl rfl rfl rfl rfl ?_
        intro v w13 G0 m0 j0 G1 m1 j1 hv hr13 hs0 hs1 pq;simp only[qc,BR,BS,BU,BV,Act.put,BO,BP,BQ];rw[hv];have yL:=zh (show∃G0 m0 j0 G1 m1 j1,w13.heap[g10]?=some (.cells #[.slice G0 m0 j0,.slice G1 m1 j1] 40 (0,0))∧Sl true 4 Bn w13 (fun q=>pc.heap.size≤q) G0 m0 j0 RR.1.live∧Sl true 36 (Cg true 3 Bd) w13 (fun q=>pc.heap.size≤q) G1 m1 j1 RR.1.free∧Below g10 pc w13 from⟨G0,m0,j0,G1,m1,j1,hr13,hs0,hs1,pq⟩);clear hv hr13 hs0 hs1 pq hcond hnn;go_wp2
        go_meet
        case rel=>exact⟨by rw[HE.out],yL⟩
      case rest=>
       rename World=>w13
       obtain⟨rfl,yL⟩:=hcut;obtain⟨G0,m0,j0,G1,m1,j1,hr10,hy0,hy1,pq⟩:=yL.out;have HY0:=zh hy0.Bi;have HY1:=zh hy1.Bi;have HY:=zh hr10;have G6:=zh (uB.out.trans (pq.mono h96));have HU13:=zh (x9.out.trans (pq.mono (by omega)));have h13:=pq.size;have h11:=uB.out.size;clear yL hr10 hy0 hy1 pq RZ1 HB911 uB x9;have hne:(RR.2 !=RR.2)=false:=(by simp);go_wp2_with fail
       refine(Zh (e:=RR.2)).mono ?_;rintro e w14 ⟨rfl,hb14⟩;have rL:=zt G6 hb14;have h14:=hb14.size;have HY0a:=zh (HY0.out.all hb14);have HY1a:=zh (HY1.out.all hb14);have HYa:=zh (zb hb14 HY.out);have HX0a:=zh (HX0.out.all rL.out);have HX1a:=zh (vE.out.all rL.out);have HXa:=zh ((rL.out.block _ hl6).trans HX.out);have HU14:=zt HU13 hb14;clear hb14 G6 HY0 HY1 HY;have rS:=HXa.out;have x00:=zc 0 rS (.slice F0 f0 h0) rfl;have x01:=zc 1 rS (.slice F1 f1 h1) rfl;clear rS;have rS:=HYa.out;have y00:=zc 0 rS (.slice G0 m0 j0) rfl;have y01:=zc 1 rS (.slice G1 m1 j1) rfl;clear rS;go_wp2_with fail
       refine(XD (x:=RR.1) (y:=RR.1) HX0a.out HX1a.out HY0a.out HY1a.out).mono ?_;rw[decide_eq_true rfl];rintro e w15 ⟨rfl,hb15⟩;clear x00 x01;clear y00 y01;have ya:=zt rL hb15;have yM:=zt HU14 hb15;have h15:=hb15.size;clear hb15 HY0a HY1a HYa;have HL15:=zh (HL5.out.all (pF.out.trans (ya.out.mono h6)));have G7:=zh (yK.out w15 (gm.out w15 yM.out));have rS:=ROW.out w15 yM.out;have yq:=zc 8 rS (.slice A4 n4 c4) rfl;clear rS;go_wp2_with fail
       refine(jO (xs:=q.live) (ys:=q.live) HL15.out G7.out).mono ?_;rw[decide_eq_true rfl];rintro e w16 ⟨rfl,hb16⟩;clear yq;have rM:=zt ya hb16;have HU16:=zt yM hb16;have h16:=hb16.size;have HX0b:=zh (HX0.out.all rM.out);have HX1b:=zh (vE.out.all rM.out);have HXb:=zh ((rM.out.block _ hl6).trans HX.out);clear hb16 HX0a HX1a HXa rL ya HU14 HL15 G7 yM;have rS:=HXb.out;have x00:=zc 0 rS (.slice F0 f0 h0) rfl;have x01:=zc 1 rS (.slice F1 f1 h1) rfl;clear rS;go_wp2_with fail
       refine(Kk (x:=RR.1) HX0b.out HX1b.out).mono ?_;rintro e w17 ⟨⟨u9,rfl⟩,hT⟩;clear x00 x01;have HT17:=zh (hT.DZ (B:=w5.heap.size) (by omega) (fun b hb=>hb.1.1));have rN:=zh ((pF.out.trans (rM.out.mono h6)).trans HT17.out);have yN:=zh (zu HU5 rN.out);clear hT HX0b HX1b HXb rM HU16 HT17;have HL17:=zh (HL5.out.all rN.out);have G8:=zh (yK.out w17 (gm.out w17 yN.out));have h17:=rN.out.size;have rS:=ROW.out w17 yN.out;have yq:=zc 8 rS (.slice A4 n4 c4) rfl;clear rS;go_wp2_with fail
       refine(jO (xs:=q.live) (ys:=q.live) HL17.out G8.out).mono ?_;rw[decide_eq_true rfl];rintro e w18 ⟨rfl,hb18⟩;clear yq;have yO:=zt yN hb18;have G9:=zt rN hb18;clear hb18 HL17 G8 yN rN;obtain⟨FR,hFR⟩:∃FR,FR=QF q.s q.b:=⟨_,rfl⟩;have HFR:=zh hFR;clear hFR
       have Ga:=zh (show Calls Tryz.prog 24 _ w18 (Eu w18 FR) from(by
        have h:=ET (w:=w18) (s:=q.s) (b:=q.b) yT.out HF.out (gK.out w18 (gm.out w18 yO.out));rw[←HFR.out] at h
        exact h))
       have rS:=ROW.out w18 yO.out;have nz:=zc 0 rS (.int .i64 q.s.K) rfl;have nr:=zc 1 rS (.int .i64 q.s.M) rfl;have nt:=zc 2 rS (.int .i64 q.s.size) rfl;have x5:=zc 3 rS (.slice A0 n0 c0) rfl;have x6:=zc 4 rS (.slice A1 n1 c1) rfl;have x7:=zc 5 rS (.slice A2 n2 c2) rfl;have x8:=zc 6 rS (.int .i64 q.b.next) rfl;clear rS;go_wp2_with fail
       refine Ga.out.mono ?_;clear nz nr nt x5 x6 x7 x8;clear Ga;rintro e w19 ⟨A7,n7,c7,rfl,hsl7,hb19⟩;have HS7:=zh hsl7;have HU19:=zt yO hb19;have Gb:=zt G9 hb19;clear hsl7 hb19 yO G9
       go_upto_if 110 with (fail)
       go_cut [13,14] from 110 to 123 (fun t u V=>t=.int .i64 FR.2∧∃A n c,u=.slice A n c∧Hid (Sl true 3 Bd V (fun _=>True) A n c FR.1)∧Hid (Below w19.heap.size w19 V))
       case first=>
        cases ok with
        |false=>
         have HE:Hid (FR=([],1)):=zh (by rw[HFR.out];unfold QF;rw[←rq.out];rfl);go_wp2
         go_meet
         case rel=>exact⟨by rw[HE.out],none,0,0,rfl,zh (by rw[HE.out];exact Sl.BA (by omega)),zh (Below.refl _ _)⟩
        |true=>
         have HE:Hid (FR=(qs q.b.Ba q.b.things,0)):=zh (by rw[HFR.out];unfold QF;rw[←rq.out];rfl);have rS:=ROW.out w19 HU19.out;have x5:=zc 3 rS (.slice A0 n0 c0) rfl;have x6:=zc 4 rS (.slice A1 n1 c1) rfl;have x7:=zc 5 rS (.slice A2 n2 c2) rfl;have x8:=zc 6 rS (.int .i64 q.b.next) rfl;clear rS;go_wp2_with fail
         refine(XO (b:=q.b) (by have:=HLI.out.bk;have:=HLB.out;omega) (gK.out w19 (gm.out w19 HU19.out))).mono ?_;clear x5 x6 x7 x8;rintro e w20 ⟨A8,c8,rfl,hown,hb20⟩;have HS8:=zh ((hown.sl (tg:=true)).mono (S':=fun _=>True) (fun _ _ _=>trivial));have yb:=zh hb20;clear hown hb20;go_wp2
         go_meet
         case rel=>exact⟨by rw[HE.out],A8,_,c8,rfl,by rw[HE.out];exact HS8,yb⟩
       case rest=>
        rename World=>w20
        obtain⟨rfl,A8,n8,c8,rfl,HS8,yb⟩:=hcut;have Gc:=zh (zu Gb yb.out);have HS7a:=zh (HS7.out.all yb.out);clear Gb yb HS7 HU19;have hnf:(FR.2 !=FR.2)=false:=(by simp);go_wp2_with fail
        refine(Zh (e:=FR.2)).mono ?_;rintro e w21 ⟨rfl,hb21⟩;have Gd:=zt Gc hb21;have HS7b:=zh (HS7a.out.all hb21);have HS8b:=zh (HS8.out.all hb21);clear hb21 Gc HS7a HS8;go_wp2_with fail
        refine(xY (xs:=FR.1) (ys:=FR.1) HS7b.out HS8b.out).mono ?_;rw[decide_eq_true rfl];rintro e w22 ⟨rfl,hb22⟩;have HBE:=zh (mi.out.trans ((zu Gd hb22).mono mi.out.size));clear hb22 HS7b HS8b Gd;go_wp2_with fail
        refine⟨⟨k+1,by omega,by go_num,HBE⟩,?_⟩;go_light
        simp[intOf];omega
   obtain rfl:k=4:=by omega
   go_wp2_with fail
   refine Dw.mono ?_;rintro e w5 ⟨rfl,gH⟩;have mi:=zh (gm.out _ ((zu gG HB.out).trans (gH.mono (zu gG HB.out).size)));clear gH;go_wp2
   go_ret
   exact⟨by trivial,mi.out⟩
end Go.Proofs.YtipecejghioicaaGreat
