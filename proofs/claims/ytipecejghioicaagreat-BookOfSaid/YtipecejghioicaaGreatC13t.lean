/- Silolaw16.BookOf: the walk. -/
import Derived.Test.YtipecejghioicaaGreatC12t
import Derived.Test.YtipecejghioicaaGreatH3t
set_option maxHeartbeats 40000000
set_option maxRecDepth 100000
namespace Go.Proofs.YtipecejghioicaaGreat
open Go.RowKit Go.Silo
theorem XY {l:List Bb}{r:Bb}(h:r∈l):r.list.length+r.slots.length≤Qc l:=by
 unfold Qc
 induction l with
 |nil=>cases h
 |cons a l ih=>
  simp only[List.map_cons,List.sum_cons];rcases List.mem_cons.1 h with e|e
  ·subst e;omega
  have:=ih e;omega
theorem Xr (l:List Bb) (k:Nat):((l.take k).map (fun r=>r.list.length)).sum≤Qc l:=by
 unfold Qc
 induction l generalizing k with
 |nil=>simp
 |cons r l ih=>
  cases k with
  |zero=>simp
  |succ k=>
   have:=ih k;simp only[List.take_succ_cons,List.map_cons,List.sum_cons];omega
theorem yj {s:Shape}{l:List Bb}(h:l.length≤5000):DC s l=if (qt s&&zO l 5000)=true then Ef s l else (⟨[],[],[],0⟩,1):=by
 unfold DC Ef zO;rw[decide_eq_true (by omega),Bool.and_true];rfl
theorem XZ {l:List Bb}{m:Int}(h:zO l m=true):∀j,j<l.length→qp (l.getD j default)=true:=by
 intro j hj
 cases hr:qp (l.getD j default) with
 |true=>rfl
 |false=>rw[QH hj hr] at h;cases h
theorem Bv.Dv {W V:World}{lo g0 g:Nat}{D0:Option Addr}{d0 e0:Nat}{D1:Option Addr}{d1 e1:Nat}{D2:Option Addr}{d2 e2:Nat}{b:Book}(h:Bv W (fun q=>lo≤q∧q<g0) true true true true D0 d0 e0 D1 d1 e1 D2 d2 e2 b) (hle:g0≤g) (hb:Below g W V):
  Bv V (fun q=>lo≤q∧q<g0) true true true true D0 d0 e0 D1 d1 e1 D2 d2 e2 b:=
 ⟨h.st.below hb (fun _ hq _=>by omega),h.th.below hb (fun _ hq _=>by omega),h.ta.below hb (fun _ hq _=>by omega),h.nx⟩
theorem BookOf_c {tg:Bool}{S:Nat→Prop}{w:World}{A0 A1 A2 A3 A4:Option Addr}{n0 c0 n1 c1 n2 c2 n3 c3 n4 c4:Nat}{q:jb}(hB:ky q) (hsi:Bf q.s.K∧Bf q.s.M∧Bf q.s.size) (hb:Bv w S tg tg tg tg A0 n0 c0 A1 n1 c1 A2 n2 c2 q.b) (hl:Sl tg 61 (qw tg) w S A3 n3 c3 q.l) (hv:Sl tg 4 Cg w S A4 n4 c4 q.live):
  Calls Tryz.prog 6 #[.agg #[.int .i64 q.s.K,.int .i64 q.s.M,.int .i64 q.s.size,.slice A0 n0 c0,.slice A1 n1 c1,.slice A2 n2 c2,.int .i64 q.b.next,.slice A3 n3 c3,.slice A4 n4 c4,.int .i64 q.n]] w (Bl (.bool true) w):=by
 have HHH:=zh (fun W (hW:Below w.heap.size w W)=>Ka (w:=W) hB (hb.all hW) (hl.all hW) (hv.all hW));have Hx:=zh (fun W (hW:Below w.heap.size w W)=>hb.all hW);have HRR:=zh (fun W (hW:Below w.heap.size w W)=>hl.all hW);have mD:=zh hl.len;have G3:=zh hsi;have hle3:=hl.le;have G9:=hl.cap;clear hB hb hl hv hsi;have hal:Below w.heap.size w (w.alloc (.cells #[.int .i64 q.s.K,.int .i64 q.s.M,.int .i64 q.s.size,.slice A0 n0 c0,.slice A1 n1 c1,.slice A2 n2 c2,.int .i64 q.b.next,.slice A3 n3 c3,.slice A4 n4 c4,.int .i64 q.n] 32)):=bz;have mG:(w.alloc (.cells #[.int .i64 q.s.K,.int .i64 q.s.M,.int .i64 q.s.size,.slice A0 n0 c0,.slice A1 n1 c1,.slice A2 n2 c2,.int .i64 q.b.next,.slice A3 n3 c3,.slice A4 n4 c4,.int .i64 q.n] 32)).heap[w.heap.size]?=some (.cells #[.int .i64 q.s.K,.int .i64 q.s.M,.int .i64 q.s.size,.slice A0 n0 c0,.slice A1 n1 c1,.slice A2 n2 c2,.int .i64 q.b.next,.slice A3 n3 c3,.slice A4 n4 c4,.int .i64 q.n] 32 (0,0)):=heap_alloc_new _ _;have hz:w.heap.size<(w.alloc (.cells #[.int .i64 q.s.K,.int .i64 q.s.M,.int .i64 q.s.size,.slice A0 n0 c0,.slice A1 n1 c1,.slice A2 n2 c2,.int .i64 q.b.next,.slice A3 n3 c3,.slice A4 n4 c4,.int .i64 q.n] 32)).heap.size:=by simp
 go_enter Tryz.func6,Tryz.ntmps6
 go_upto_region 1 with (fail)
 generalize (w.alloc (.cells #[.int .i64 q.s.K,.int .i64 q.s.M,.int .i64 q.s.size,.slice A0 n0 c0,.slice A1 n1 c1,.slice A2 n2 c2,.int .i64 q.b.next,.slice A3 n3 c3,.slice A4 n4 c4,.int .i64 q.n] 32))=W0 at *;have gB:=zh (fun V (hV:Below W0.heap.size W0 V)=>hal.trans (hV.mono hal.size));clear hal;have ROW:=zh (fun V (hV:Below W0.heap.size W0 V)=>(show V.heap[w.heap.size]?=some (.cells #[.int .i64 q.s.K,.int .i64 q.s.M,.int .i64 q.s.size,.slice A0 n0 c0,.slice A1 n1 c1,.slice A2 n2 c2,.int .i64 q.b.next,.slice A3 n3 c3,.slice A4 n4 c4,.int .i64 q.n] 32 (0,0)) from(hV.block _ (by omega)).trans mG));clear mG;have rS:=ROW.out W0 (Below.refl _ _);have mF:=zc 0 rS (.int .i64 q.s.K) rfl;have mK:=zc 1 rS (.int .i64 q.s.M) rfl;have mM:=zc 2 rS (.int .i64 q.s.size) rfl;have nD:=zc 3 rS (.slice A0 n0 c0) rfl;have uQ:=zc 4 rS (.slice A1 n1 c1) rfl;have uR:=zc 5 rS (.slice A2 n2 c2) rfl;have uS:=zc 6 rS (.int .i64 q.b.next) rfl;have GI:=zc 7 rS (.slice A3 n3 c3) rfl;have b08:=zc 8 rS (.slice A4 n4 c4) rfl;have b09:=zc 9 rS (.int .i64 q.n) rfl;clear rS;go_wp2_with fail
 refine(HHH.out _ (gB.out _ (Below.refl _ _))).mono ?_;clear mF mK mM nD uQ uR uS GI b08 b09;rintro e w1 ⟨v1,rfl,hb1,hv1⟩;have gH:=zh hb1;clear hb1 HHH
 cases v1 with
 |true=>
  go_wp2
  go_ret
  exact⟨by trivial,gB.out _ gH.out⟩
 |false=>
  have HLI:=zh (hv1 rfl);clear hv1;have HF:=zh HLI.out.few;go_wp2_with fail
  have gv:Hid (Below w1.heap.size w1 w1):=zh (Below.refl _ _)
  go_loopw [3] (fun iv wr=>∃k:Nat,k≤n3+1∧k≤13∧iv=.int .i64 k∧Hid (Below w1.heap.size w1 wr)) (fun iv _=>n3+1 - (intOf iv).toNat)
  case atStart=>exact⟨0,by omega,by omega,rfl,gv⟩
  case round=>
   rename World=>wo
   clear gv;obtain⟨k,hk,hk13,rfl,HB⟩:=hrel;have HU:=zh (zu gH HB.out);have rS:=ROW.out wo HU.out;have GI:=zc 7 rS (.slice A3 n3 c3) rfl;clear rS;by_cases hlt:k≤n3
   ·by_cases ny:k≤12
    ·have hkc:k≤c3:=Nat.le_trans hlt hle3;have HLo:=zh (HRR.out wo (gB.out wo HU.out));have hmem:∀x∈q.l.take k,x.list.length≤100000000∧x.slots.length≤100000000:=fun x hx=>by have:=XY (List.mem_of_mem_take hx);have:=HLI.out.rc;omega
     have hlk:(q.l.take k).length=k:=(by rw[List.length_take,mD.out];omega);have hsum:((q.l.take k).map (fun r=>r.list.length)).sum≤1000000:=(by have:=Xr q.l k;have:=HLI.out.rc;omega);have rx:=zh (QV (HLo.out.take hlt) (by omega) hmem);go_wp2_with fail
     refine rx.out.mono ?_;clear GI rx;rintro e w5 ⟨A5,c5,rfl,hown5,gG⟩;have pJ:=zh ((hown5.sl (tg:=true)).Bd);have HU5:=zt HU gG;have mo:=zt HB gG;have h5:=gG.size;have h05:=HU5.out.size;clear hown5 gG hmem HLo;have mY:=zh (fun V (hV:Below W0.heap.size W0 V)=>(HRR.out V (gB.out V hV)).take hlt);obtain⟨lk,hlk2⟩:∃lk,lk=q.l.take k:=⟨_,rfl⟩;rw[←hlk2] at pJ mY hlk hsum⊢;have HLK:=zh hlk2;clear hlk2;rw[hlk] at pJ⊢;obtain⟨RR,hRR⟩:∃RR,RR=DC q.s lk:=⟨_,rfl⟩;have HRX:=zh hRR;clear hRR
     have HOF:=zh (show Calls Tryz.prog 38 _ w5 (xT RR w5) from(by
      have h:=Of_c (w:=w5) (s:=q.s) (l:=lk) G3.out pJ.out (by omega) hsum;rw[←HRX.out] at h
      exact h))
     have rS:=ROW.out w5 HU5.out;have mF:=zc 0 rS (.int .i64 q.s.K) rfl;have mK:=zc 1 rS (.int .i64 q.s.M) rfl;have mM:=zc 2 rS (.int .i64 q.s.size) rfl;clear rS;go_wp2_with fail
     refine HOF.out.mono ?_;clear mF mK mM;clear HOF;rintro e w6 ⟨D0,d0,e0,D1,d1,e1,D2,d2,e2,rfl,hbr,gp⟩;have gz:=zh gp;have Hw:=zh hbr;have h6:=gp.size;clear gp hbr
     go_upto_region 10 with (fail)
     have hr5:=(Below.heap_alloc (w6.alloc (.cells #[.slice D0 d0 e0,.slice D1 d1 e1,.slice D2 d2 e2,.int .i64 RR.1.next] 28)) (.cells #[.slice none 0 0,.slice none 0 0,.slice none 0 0,.int .i64 0] 28) w6.heap.size (by simp)).trans (heap_alloc_new w6 (.cells #[.slice D0 d0 e0,.slice D1 d1 e1,.slice D2 d2 e2,.int .i64 RR.1.next] 28));have hr8:=heap_alloc_new (w6.alloc (.cells #[.slice D0 d0 e0,.slice D1 d1 e1,.slice D2 d2 e2,.int .i64 RR.1.next] 28)) (.cells #[.slice none 0 0,.slice none 0 0,.slice none 0 0,.int .i64 0] 28);rw[World.size_alloc] at hr8;have hal:Below w6.heap.size w6 ((w6.alloc (.cells #[.slice D0 d0 e0,.slice D1 d1 e1,.slice D2 d2 e2,.int .i64 RR.1.next] 28)).alloc (.cells #[.slice none 0 0,.slice none 0 0,.slice none 0 0,.int .i64 0] 28)):=bz;have hzz:w6.heap.size+1<((w6.alloc (.cells #[.slice D0 d0 e0,.slice D1 d1 e1,.slice D2 d2 e2,.int .i64 RR.1.next] 28)).alloc (.cells #[.slice none 0 0,.slice none 0 0,.slice none 0 0,.int .i64 0] 28)).heap.size:=(by simp);generalize ((w6.alloc (.cells #[.slice D0 d0 e0,.slice D1 d1 e1,.slice D2 d2 e2,.int .i64 RR.1.next] 28)).alloc (.cells #[.slice none 0 0,.slice none 0 0,.slice none 0 0,.int .i64 0] 28))=w8 at *;have pX:=zh (gz.out.trans (hal.mono h6));have HU8:=zh (zu HU5 pX.out);have HBR8:=zh ((Hw.out.mono (S':=fun q=>w5.heap.size≤q∧q<w6.heap.size) (fun q h1 h2=>⟨h1,h2⟩)).all hal);have R5:=zh hr5;have R8:=zh hr8;clear hr5 hr8 hal Hw gz;generalize hg5:w6.heap.size=g5 at *;have HG5:=zh hg5;clear hg5;have h8:=pX.out.size;obtain⟨gd,hgd⟩:∃gd,gd=(qt q.s&&zO lk 5000):=⟨_,rfl⟩;have HGD:=zh hgd;clear hgd;have HRF:Hid (RR=if gd=true then Ef q.s lk else (⟨[],[],[],0⟩,1)):=zh (by rw[HRX.out,HGD.out];exact yj (by omega))
     go_cut [47] from 38 to 76 (fun t V=>t=.bool gd∧Hid (Below w8.heap.size w8 V))
     case first=>
      have rS:=ROW.out w8 HU8.out;have mF:=zc 0 rS (.int .i64 q.s.K) rfl;have mK:=zc 1 rS (.int .i64 q.s.M) rfl;have mM:=zc 2 rS (.int .i64 q.s.size) rfl;clear rS;go_wp2_with fail
      refine(Ch (s:=q.s)).mono ?_;rintro e w9 ⟨rfl,mb⟩;have gD:=zh mb;have HU9:=zt HU8 mb;clear mF mK mM;clear mb;generalize hsh:qt q.s=sh at *
      cases sh with
      |false=>
       have HE:Hid (gd=false):=zh (by rw[HGD.out];rfl);clear hsh;go_wp2
       go_meet
       case rel=>exact⟨by rw[HE.out],gD⟩
      |true=>
       clear hsh;have HE:Hid (gd=zO lk 5000):=zh (by rw[HGD.out];rfl);have rS:=ROW.out w9 HU9.out;have GI:=zc 7 rS (.slice A3 n3 c3) rfl;clear rS;go_wp2_with fail
       refine(KH (mY.out w9 HU9.out)).mono ?_;rintro e mR ⟨rfl,gK⟩;have mh:=zt gD gK;clear GI;clear gK;go_wp2
       go_meet
       case rel=>exact⟨by rw[HE.out],mh⟩
     case rest=>
      rename World=>w9
      obtain⟨rfl,gD⟩:=hcut;have R89:=zh ((gD.out.block _ hzz).trans R8.out);have HU9:=zh (zu HU8 gD.out);have h9:=gD.out.size
      go_upto_if 47 with (fail)
      go_cut [7] from 48 to 76 (fun t V=>t=.int .i64 RR.2∧Hid (∃G0 m0 j0 G1 m1 j1 G2 m2 j2,V.heap[g5+1]?=some (.cells #[.slice G0 m0 j0,.slice G1 m1 j1,.slice G2 m2 j2,.int .i64 RR.1.next] 28 (0,0))∧Bv V (fun q=>w9.heap.size≤q) true true true true G0 m0 j0 G1 m1 j1 G2 m2 j2 RR.1∧Below (g5+1) w9 V))
      case first=>
       cases gd with
       |false=>
        have HE:Hid (RR=(⟨[],[],[],0⟩,1)):=zh HRF.out;have HF:=zh (show∃G0 m0 j0 G1 m1 j1 G2 m2 j2,w9.heap[g5+1]?=some (.cells #[.slice G0 m0 j0,.slice G1 m1 j1,.slice G2 m2 j2,.int .i64 RR.1.next] 28 (0,0))∧Bv w9 (fun q=>w9.heap.size≤q) true true true true G0 m0 j0 G1 m1 j1 G2 m2 j2 RR.1∧Below (g5+1) w9 w9 from⟨none,0,0,none,0,0,none,0,0,by rw[HE.out];exact R89.out,by rw[HE.out];exact⟨Sl.Bp (by omega),Sl.Bp (by omega),Sl.Bp (by omega),(show Bf 0 by unfold Bf;omega)⟩,Below.refl _ _⟩);go_wp2
        go_meet
        case rel=>exact⟨by rw[HE.out],HF⟩
       |true=>
        have HE:Hid (RR=Ef q.s lk):=zh HRF.out
        have hrec:zO lk 5000=true:=by
         have h:=HGD.out.symm;rw[Bool.and_eq_true] at h;exact h.2
        have HAO:=zh (XZ hrec);clear hrec
        go_upto_region 11 with (fail)
        refine bo11 (R:=RR) (k:=k) (g8:=g5+1) (zh (ROW.out w9 HU9.out)) hlt hkc R89 (zh (fun V hV=>(by
         have h:=KX (w:=V) (s:=q.s) (l:=lk) (mY.out V (zu HU9 hV)) (by omega) hsum (fun j hj=>HAO.out j (by omega));rw[HE.out]
         exact h))) rfl rfl rfl rfl ?_
        intro v nu G0 m0 j0 G1 m1 j1 G2 m2 j2 hv GJ hbr gX;simp only[qb,BH,BI,BJ,BL,Act.put,BD,BF,BG];rw[hv];have HF:=zh (show∃G0 m0 j0 G1 m1 j1 G2 m2 j2,nu.heap[g5+1]?=some (.cells #[.slice G0 m0 j0,.slice G1 m1 j1,.slice G2 m2 j2,.int .i64 RR.1.next] 28 (0,0))∧Bv nu (fun q=>w9.heap.size≤q) true true true true G0 m0 j0 G1 m1 j1 G2 m2 j2 RR.1∧Below (g5+1) w9 nu from⟨G0,m0,j0,G1,m1,j1,G2,m2,j2,GJ,hbr,gX⟩);clear hv GJ hbr gX;go_wp2
        go_meet
        case rel=>exact⟨rfl,HF⟩
      case rest=>
       rename World=>nu
       obtain⟨rfl,HF⟩:=hcut;obtain⟨G0,m0,j0,G1,m1,j1,G2,m2,j2,GJ,hby,gX⟩:=HF.out;have HY:=zh GJ;have HBY:=zh hby;have HU11:=zh (HU9.out.trans (gX.mono (by omega)));have R511:=zh ((gX.block _ (by omega)).trans ((gD.out.block _ (by omega)).trans R5.out));have h11:=gX.size;have Hy:=zh (pX.out.trans ((gD.out.mono (show w5.heap.size≤w8.heap.size by omega)).trans (gX.mono (show w5.heap.size≤g5+1 by omega))));have GX:=zh ((HBR8.out.all gD.out).Dv (by omega) gX);clear GJ hby gX HF R89 HU9 gD HBR8;have hne:(RR.2 !=RR.2)=false:=(by simp);go_wp2_with fail
       refine(Qh (e:=RR.2)).mono ?_;rintro e uv ⟨rfl,hb12⟩;have HU12:=zt HU11 hb12;have Hz:=zt Hy hb12;have Hi:=zh (GX.out.all hb12);have Hj:=zh (HBY.out.all hb12);have R512:=zh (zb hb12 R511.out);have HY2:=zh (zb hb12 HY.out);clear hb12 GX HBY R511 HY HU11 Hy;have rS:=R512.out;have x00:=zc 0 rS (.slice D0 d0 e0) rfl;have x01:=zc 1 rS (.slice D1 d1 e1) rfl;have x02:=zc 2 rS (.slice D2 d2 e2) rfl;have x03:=zc 3 rS (.int .i64 RR.1.next) rfl;clear rS;have rS:=HY2.out;have y00:=zc 0 rS (.slice G0 m0 j0) rfl;have y01:=zc 1 rS (.slice G1 m1 j1) rfl;have y02:=zc 2 rS (.slice G2 m2 j2) rfl;have y03:=zc 3 rS (.int .i64 RR.1.next) rfl;clear rS;go_wp2_with fail
       refine(Kh (x:=RR.1) (y:=RR.1) Hi.out.st Hi.out.th Hi.out.ta Hj.out.st Hj.out.th Hj.out.ta).mono ?_;rw[decide_eq_true rfl];rintro e x8 ⟨rfl,hb13⟩;clear x00 x01 x02 x03;clear y00 y01 y02 y03;have HU13:=zt HU12 hb13;have GK:=zt Hz hb13;clear hb13 Hi Hj R512 HY2 HU12 Hz;have HL13:=zh (pJ.out.all GK.out);have HT13:=zh (mY.out x8 HU13.out);have rS:=ROW.out x8 HU13.out;have GI:=zc 7 rS (.slice A3 n3 c3) rfl;clear rS;go_wp2_with fail
       refine(jG (xs:=lk) (ys:=lk) HL13.out HT13.out).mono ?_;rw[decide_eq_true rfl];rintro e yI ⟨rfl,hb14⟩;clear GI;have pR:=zh (mo.out.trans ((zu GK hb14).mono mo.out.size));clear hb14 HL13 HT13 GK HU13;go_wp2_with fail
       refine⟨⟨k+1,by omega,by omega,by go_num,pR⟩,?_⟩;go_light
       simp[intOf];omega
    skip
    have j6:=zh (show Calls Tryz.prog 42 _ wo (QE (xC q.s q.b) wo) from Jk (w:=wo) G3.out HF.out (Hx.out wo (gB.out wo HU.out)));have rS:=ROW.out wo HU.out;have mF:=zc 0 rS (.int .i64 q.s.K) rfl;have mK:=zc 1 rS (.int .i64 q.s.M) rfl;have mM:=zc 2 rS (.int .i64 q.s.size) rfl;have nD:=zc 3 rS (.slice A0 n0 c0) rfl;have uQ:=zc 4 rS (.slice A1 n1 c1) rfl;have uR:=zc 5 rS (.slice A2 n2 c2) rfl;have uS:=zc 6 rS (.int .i64 q.b.next) rfl;clear rS;go_wp2_with fail
    refine j6.out.mono ?_;clear mF mK mM nD uQ uR uS;clear j6 GI;rintro e ux ⟨A5,n5,c5,rfl,hsl,hb15⟩;have HX:=zh hsl;have uT:=zt HU hb15;clear hsl hb15;obtain⟨LR,hLR⟩:∃LR,LR=xC q.s q.b:=⟨_,rfl⟩;rw[←hLR] at HX⊢;have HLR:=zh hLR;clear hLR;obtain⟨ok,hok⟩:∃ok,ok=qN q.s q.b:=⟨_,rfl⟩;have nt:=zh hok;clear hok
    go_upto_region 17 with (fail)
    go_cut [94] from 85 (fun t V=>t=.bool ok∧Hid (Below ux.heap.size ux V))
    case first=>
     have rS:=ROW.out ux uT.out;have mF:=zc 0 rS (.int .i64 q.s.K) rfl;have mK:=zc 1 rS (.int .i64 q.s.M) rfl;have mM:=zc 2 rS (.int .i64 q.s.size) rfl;have nD:=zc 3 rS (.slice A0 n0 c0) rfl;have uQ:=zc 4 rS (.slice A1 n1 c1) rfl;have uR:=zc 5 rS (.slice A2 n2 c2) rfl;have uS:=zc 6 rS (.int .i64 q.b.next) rfl;clear rS;go_wp2_with fail
     refine(Ch (s:=q.s)).mono ?_;rintro e w7 ⟨rfl,gq⟩;have gQ:=zh gq;clear mF mK mM nD uQ uR uS;have HU7:=zt uT gq;clear gq;generalize hsh:qt q.s=sh at *
     cases sh with
     |false=>
      have HE:Hid (ok=false):=zh (by rw[nt.out];unfold qN;rw[hsh];rfl);clear hsh;go_wp2
      go_meet
      case rel=>exact⟨by rw[HE.out],gQ⟩
     |true=>
      clear hsh;have rS:=ROW.out w7 HU7.out;have mF:=zc 0 rS (.int .i64 q.s.K) rfl;have mK:=zc 1 rS (.int .i64 q.s.M) rfl;have mM:=zc 2 rS (.int .i64 q.s.size) rfl;have nD:=zc 3 rS (.slice A0 n0 c0) rfl;have uQ:=zc 4 rS (.slice A1 n1 c1) rfl;have uR:=zc 5 rS (.slice A2 n2 c2) rfl;have uS:=zc 6 rS (.int .i64 q.b.next) rfl;clear rS;go_wp2_with fail
      refine(kI (s:=q.s) HF.out (Hx.out w7 (gB.out w7 HU7.out))).mono ?_;rintro e w8 ⟨rfl,hb8⟩;have pX:=zt gQ hb8;clear mF mK mM nD uQ uR uS;clear hb8;go_wp2
      go_meet
      case rel=>exact⟨by rw[nt.out],pX⟩
    case rest=>
     rename World=>vM
     obtain⟨rfl,un⟩:=hcut;have uU:=zh (zu uT un.out);have GL:=zh (HX.out.all un.out);clear HX uT un
     go_upto_if 94 with (fail)
     go_cut [11,12] from 95 (fun t u V=>t=.int .i64 LR.2∧∃A n c,u=.slice A n c∧Hid (Sl true 61 (qw true) V (fun _=>True) A n c LR.1)∧Hid (Below vM.heap.size vM V))
     case first=>
      cases ok with
      |false=>
       have HE:Hid (LR=([],1)):=zh (by rw[HLR.out];unfold xC;rw[←nt.out];rfl);go_wp2
       go_meet
       case rel=>exact⟨by rw[HE.out],none,0,0,rfl,zh (by rw[HE.out];exact Sl.Bp (by omega)),zh (Below.refl _ _)⟩
      |true=>
       have HE:Hid (LR=(xU q.b,0)):=zh (by rw[HLR.out];unfold xC;rw[←nt.out];rfl);have hq:qN q.s q.b=true:=nt.out.symm;have hbr:=Hx.out vM (gB.out vM uU.out);have HRL:=zh (QG (w:=vM) hbr ⟨by have:=hbr.st.len;have:=HF.out.st;omega,by have:=hbr.th.len;have:=(xD hq).1;omega,by have:=hbr.ta.len;have:=(xD hq).2;omega⟩ HF.out.places HF.out.lists (QF hq) (xm hq).2.1);clear hq hbr;have rS:=ROW.out vM uU.out;have nD:=zc 3 rS (.slice A0 n0 c0) rfl;have uQ:=zc 4 rS (.slice A1 n1 c1) rfl;have uR:=zc 5 rS (.slice A2 n2 c2) rfl;have uS:=zc 6 rS (.int .i64 q.b.next) rfl;clear rS;go_wp2_with fail
       refine HRL.out.mono ?_;clear nD uQ uR uS;clear HRL;rintro e w20 ⟨A8,c8,rfl,hown,hb20⟩;have Hk:=zh ((hown.sl (tg:=true)).mono (S':=fun _=>True) (fun _ _ _=>trivial));have ue:=zh hb20;clear hown hb20;go_wp2
       go_meet
       case rel=>exact⟨by rw[HE.out],A8,_,c8,rfl,by rw[HE.out];exact Hk,ue⟩
     case rest=>
      rename World=>w20
      obtain⟨rfl,A8,n8,c8,rfl,Hk,ue⟩:=hcut;have GM:=zh (GL.out.all ue.out);have GN:=zh (zu uU ue.out);clear GL uU ue;have hnf:(LR.2==LR.2)=true:=(by simp);go_wp2_with fail
      refine(Qh (e:=LR.2)).mono ?_;rintro e w21 ⟨rfl,hb21⟩;have GP:=zt GN hb21;have GQ:=zh (GM.out.all hb21);have GR:=zh (Hk.out.all hb21);clear hb21 GN GM Hk;go_wp2_with fail
      refine(jG (xs:=LR.1) (ys:=LR.1) GQ.out GR.out).mono ?_;rw[decide_eq_true rfl];rintro e w22 ⟨rfl,hb22⟩;have GS:=zt GP hb22;clear hb22 GQ GR GP;go_wp2_with fail
      refine CY.mono ?_;rintro e w23 ⟨rfl,hb23⟩;have HU23:=zh (gB.out _ (zu GS hb23));clear hb23 GS;go_wp2
      go_ret
      exact⟨by trivial,HU23.out⟩
   skip
   have j6:=zh (show Calls Tryz.prog 42 _ wo (QE (xC q.s q.b) wo) from Jk (w:=wo) G3.out HF.out (Hx.out wo (gB.out wo HU.out)));have rS:=ROW.out wo HU.out;have mF:=zc 0 rS (.int .i64 q.s.K) rfl;have mK:=zc 1 rS (.int .i64 q.s.M) rfl;have mM:=zc 2 rS (.int .i64 q.s.size) rfl;have nD:=zc 3 rS (.slice A0 n0 c0) rfl;have uQ:=zc 4 rS (.slice A1 n1 c1) rfl;have uR:=zc 5 rS (.slice A2 n2 c2) rfl;have uS:=zc 6 rS (.int .i64 q.b.next) rfl;clear rS;go_wp2_with fail
   refine j6.out.mono ?_;clear mF mK mM nD uQ uR uS;clear j6 GI;rintro e ux ⟨A5,n5,c5,rfl,hsl,hb15⟩;have HX:=zh hsl;have uT:=zt HU hb15;clear hsl hb15;obtain⟨LR,hLR⟩:∃LR,LR=xC q.s q.b:=⟨_,rfl⟩;rw[←hLR] at HX⊢;have HLR:=zh hLR;clear hLR;obtain⟨ok,hok⟩:∃ok,ok=qN q.s q.b:=⟨_,rfl⟩;have nt:=zh hok;clear hok
   go_upto_region 17 with (fail)
   go_cut [94] from 85 (fun t V=>t=.bool ok∧Hid (Below ux.heap.size ux V))
   case first=>
    have rS:=ROW.out ux uT.out;have mF:=zc 0 rS (.int .i64 q.s.K) rfl;have mK:=zc 1 rS (.int .i64 q.s.M) rfl;have mM:=zc 2 rS (.int .i64 q.s.size) rfl;have nD:=zc 3 rS (.slice A0 n0 c0) rfl;have uQ:=zc 4 rS (.slice A1 n1 c1) rfl;have uR:=zc 5 rS (.slice A2 n2 c2) rfl;have uS:=zc 6 rS (.int .i64 q.b.next) rfl;clear rS;go_wp2_with fail
    refine(Ch (s:=q.s)).mono ?_;rintro e w7 ⟨rfl,gq⟩;have gQ:=zh gq;clear mF mK mM nD uQ uR uS;have HU7:=zt uT gq;clear gq;generalize hsh:qt q.s=sh at *
    cases sh with
    |false=>
     have HE:Hid (ok=false):=zh (by rw[nt.out];unfold qN;rw[hsh];rfl);clear hsh;go_wp2
     go_meet
     case rel=>exact⟨by rw[HE.out],gQ⟩
    |true=>
     clear hsh;have rS:=ROW.out w7 HU7.out;have mF:=zc 0 rS (.int .i64 q.s.K) rfl;have mK:=zc 1 rS (.int .i64 q.s.M) rfl;have mM:=zc 2 rS (.int .i64 q.s.size) rfl;have nD:=zc 3 rS (.slice A0 n0 c0) rfl;have uQ:=zc 4 rS (.slice A1 n1 c1) rfl;have uR:=zc 5 rS (.slice A2 n2 c2) rfl;have uS:=zc 6 rS (.int .i64 q.b.next) rfl;clear rS;go_wp2_with fail
     refine(kI (s:=q.s) HF.out (Hx.out w7 (gB.out w7 HU7.out))).mono ?_;rintro e w8 ⟨rfl,hb8⟩;have pX:=zt gQ hb8;clear mF mK mM nD uQ uR uS;clear hb8;go_wp2
     go_meet
     case rel=>exact⟨by rw[nt.out],pX⟩
   case rest=>
    rename World=>vM
    obtain⟨rfl,un⟩:=hcut;have uU:=zh (zu uT un.out);have GL:=zh (HX.out.all un.out);clear HX uT un
    go_upto_if 94 with (fail)
    go_cut [11,12] from 95 (fun t u V=>t=.int .i64 LR.2∧∃A n c,u=.slice A n c∧Hid (Sl true 61 (qw true) V (fun _=>True) A n c LR.1)∧Hid (Below vM.heap.size vM V))
    case first=>
     cases ok with
     |false=>
      have HE:Hid (LR=([],1)):=zh (by rw[HLR.out];unfold xC;rw[←nt.out];rfl);go_wp2
      go_meet
      case rel=>exact⟨by rw[HE.out],none,0,0,rfl,zh (by rw[HE.out];exact Sl.Bp (by omega)),zh (Below.refl _ _)⟩
     |true=>
      have HE:Hid (LR=(xU q.b,0)):=zh (by rw[HLR.out];unfold xC;rw[←nt.out];rfl);have hq:qN q.s q.b=true:=nt.out.symm;have hbr:=Hx.out vM (gB.out vM uU.out);have HRL:=zh (QG (w:=vM) hbr ⟨by have:=hbr.st.len;have:=HF.out.st;omega,by have:=hbr.th.len;have:=(xD hq).1;omega,by have:=hbr.ta.len;have:=(xD hq).2;omega⟩ HF.out.places HF.out.lists (QF hq) (xm hq).2.1);clear hq hbr;have rS:=ROW.out vM uU.out;have nD:=zc 3 rS (.slice A0 n0 c0) rfl;have uQ:=zc 4 rS (.slice A1 n1 c1) rfl;have uR:=zc 5 rS (.slice A2 n2 c2) rfl;have uS:=zc 6 rS (.int .i64 q.b.next) rfl;clear rS;go_wp2_with fail
      refine HRL.out.mono ?_;clear nD uQ uR uS;clear HRL;rintro e w20 ⟨A8,c8,rfl,hown,hb20⟩;have Hk:=zh ((hown.sl (tg:=true)).mono (S':=fun _=>True) (fun _ _ _=>trivial));have ue:=zh hb20;clear hown hb20;go_wp2
      go_meet
      case rel=>exact⟨by rw[HE.out],A8,_,c8,rfl,by rw[HE.out];exact Hk,ue⟩
    case rest=>
     rename World=>w20
     obtain⟨rfl,A8,n8,c8,rfl,Hk,ue⟩:=hcut;have GM:=zh (GL.out.all ue.out);have GN:=zh (zu uU ue.out);clear GL uU ue;have hnf:(LR.2==LR.2)=true:=(by simp);go_wp2_with fail
     refine(Qh (e:=LR.2)).mono ?_;rintro e w21 ⟨rfl,hb21⟩;have GP:=zt GN hb21;have GQ:=zh (GM.out.all hb21);have GR:=zh (Hk.out.all hb21);clear hb21 GN GM Hk;go_wp2_with fail
     refine(jG (xs:=LR.1) (ys:=LR.1) GQ.out GR.out).mono ?_;rw[decide_eq_true rfl];rintro e w22 ⟨rfl,hb22⟩;have GS:=zt GP hb22;clear hb22 GQ GR GP;go_wp2_with fail
     refine CY.mono ?_;rintro e w23 ⟨rfl,hb23⟩;have HU23:=zh (gB.out _ (zu GS hb23));clear hb23 GS;go_wp2
     go_ret
     exact⟨by trivial,HU23.out⟩
end Go.Proofs.YtipecejghioicaaGreat
