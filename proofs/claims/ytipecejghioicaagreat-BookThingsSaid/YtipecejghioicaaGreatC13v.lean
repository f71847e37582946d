import Derived.Test.YtipecejghioicaaGreatC12v
import Derived.Test.YtipecejghioicaaGreatH3v
set_option maxHeartbeats 40000000
set_option maxRecDepth 100000
namespace Go.Proofs.YtipecejghioicaaGreat
open Go.RowKit Go.Silo
theorem JI {l:List Bc}{r:Bc}(h:r∈l):r.list.length+r.slots.length≤Qg l:=by
 unfold Qg
 induction l with
 |nil=>cases h
 |cons a l ih=>
  simp only[List.map_cons,List.sum_cons];rcases List.mem_cons.1 h with e|e
  ·subst e;omega
  have:=ih e;omega
theorem Jb (l:List Bc) (k:Nat):((l.take k).map (fun r=>r.list.length)).sum≤Qg l:=by
 unfold Qg
 induction l generalizing k with
 |nil=>simp
 |cons r l ih=>
  cases k with
  |zero=>simp
  |succ k=>
   have:=ih k;simp only[List.take_succ_cons,List.map_cons,List.sum_cons];omega
theorem yN {s:Shape}{l:List Bc}(h:l.length≤5000):DW s l=if (qo s&&zQ l 5000)=true then Et s l else (⟨[],[],[],0⟩,1):=by
 unfold DW Et zQ;rw[decide_eq_true (by omega),Bool.and_true];rfl
theorem JJ {l:List Bc}{m:Int}(h:zQ l m=true):∀j,j<l.length→qI (l.getD j default)=true:=by
 intro j hj
 cases hr:qI (l.getD j default) with
 |true=>rfl
 |false=>rw[Zn hj hr] at h;cases h
theorem Bl.DR {W V:World}{lo g0 g:Nat}{D0:Option Addr}{d0 e0:Nat}{D1:Option Addr}{d1 e1:Nat}{D2:Option Addr}{d2 e2:Nat}{b:Book}(h:Bl W (fun q=>lo≤q∧q<g0) true true true true D0 d0 e0 D1 d1 e1 D2 d2 e2 b) (hle:g0≤g) (hb:Below g W V):
  Bl V (fun q=>lo≤q∧q<g0) true true true true D0 d0 e0 D1 d1 e1 D2 d2 e2 b:=
 ⟨h.st.below hb (fun _ hq _=>by omega),h.th.below hb (fun _ hq _=>by omega),h.ta.below hb (fun _ hq _=>by omega),h.nx⟩
theorem yx {tg:Bool}{S:Nat→Prop}{w:World}{A0 A1 A2 A3 A4:Option Addr}{n0 c0 n1 c1 n2 c2 n3 c3 n4 c4:Nat}{q:zn}(hB:zB q) (hsi:Bg q.s.K∧Bg q.s.M∧Bg q.s.size) (hb:Bl w S tg tg tg tg A0 n0 c0 A1 n1 c1 A2 n2 c2 q.b) (hl:Sl tg 61 (qi tg) w S A3 n3 c3 q.l) (hv:Sl tg 4 BU w S A4 n4 c4 q.live):
  Calls Tryz.prog 6 #[.agg #[.int .i64 q.s.K,.int .i64 q.s.M,.int .i64 q.s.size,.slice A0 n0 c0,.slice A1 n1 c1,.slice A2 n2 c2,.int .i64 q.b.next,.slice A3 n3 c3,.slice A4 n4 c4,.int .i64 q.n]] w (Bh (.bool true) w):=by
 have MI:=zh (fun W (hW:Below w.heap.size w W)=>Qh (w:=W) hB (hb.all hW) (hl.all hW) (hv.all hW));have Ge:=zh (fun W (hW:Below w.heap.size w W)=>hb.all hW);have MJ:=zh (fun W (hW:Below w.heap.size w W)=>hl.all hW);have mY:=zh hl.len;have rB:=zh hsi;have hle3:=hl.le;have ux:=hl.cap;clear hB hb hl hv hsi;have hal:Below w.heap.size w (w.alloc (.cells #[.int .i64 q.s.K,.int .i64 q.s.M,.int .i64 q.s.size,.slice A0 n0 c0,.slice A1 n1 c1,.slice A2 n2 c2,.int .i64 q.b.next,.slice A3 n3 c3,.slice A4 n4 c4,.int .i64 q.n] 32)):=bz;have mL:(w.alloc (.cells #[.int .i64 q.s.K,.int .i64 q.s.M,.int .i64 q.s.size,.slice A0 n0 c0,.slice A1 n1 c1,.slice A2 n2 c2,.int .i64 q.b.next,.slice A3 n3 c3,.slice A4 n4 c4,.int .i64 q.n] 32)).heap[w.heap.size]?=some (.cells #[.int .i64 q.s.K,.int .i64 q.s.M,.int .i64 q.s.size,.slice A0 n0 c0,.slice A1 n1 c1,.slice A2 n2 c2,.int .i64 q.b.next,.slice A3 n3 c3,.slice A4 n4 c4,.int .i64 q.n] 32 (0,0)):=heap_alloc_new _ _;have hz:w.heap.size<(w.alloc (.cells #[.int .i64 q.s.K,.int .i64 q.s.M,.int .i64 q.s.size,.slice A0 n0 c0,.slice A1 n1 c1,.slice A2 n2 c2,.int .i64 q.b.next,.slice A3 n3 c3,.slice A4 n4 c4,.int .i64 q.n] 32)).heap.size:=by simp
 go_enter Tryz.func6,Tryz.ntmps6
 go_upto_region 1 with (fail)
 generalize (w.alloc (.cells #[.int .i64 q.s.K,.int .i64 q.s.M,.int .i64 q.s.size,.slice A0 n0 c0,.slice A1 n1 c1,.slice A2 n2 c2,.int .i64 q.b.next,.slice A3 n3 c3,.slice A4 n4 c4,.int .i64 q.n] 32))=W0 at *;have gm:=zh (fun V (hV:Below W0.heap.size W0 V)=>hal.trans (hV.mono hal.size));clear hal;have ROW:=zh (fun V (hV:Below W0.heap.size W0 V)=>(show V.heap[w.heap.size]?=some (.cells #[.int .i64 q.s.K,.int .i64 q.s.M,.int .i64 q.s.size,.slice A0 n0 c0,.slice A1 n1 c1,.slice A2 n2 c2,.int .i64 q.b.next,.slice A3 n3 c3,.slice A4 n4 c4,.int .i64 q.n] 32 (0,0)) from(hV.block _ (by omega)).trans mL));clear mL;have rS:=ROW.out W0 (Below.refl _ _);obtain⟨gW,j6,ma,n7,ru,rx,ry,rM,b08,b09⟩:=ZQ rS;clear rS;go_wp2_with fail
 refine(MI.out _ (gm.out _ (Below.refl _ _))).mono ?_;clear gW j6 ma n7 ru rx ry rM b08 b09;rintro e w1 ⟨v1,rfl,hb1,hv1⟩;have gG:=zh hb1;clear hb1 MI
 cases v1 with
 |true=>
  go_wp2
  go_ret
  exact⟨by trivial,gm.out _ gG.out⟩
 |false=>
  have uj:=zh (hv1 rfl);clear hv1;have HF:=zh uj.out.few;go_wp2_with fail
  have pE:Hid (Below w1.heap.size w1 w1):=zh (Below.refl _ _)
  go_loopw [3] (fun iv wr=>∃k:Nat,k≤n3+1∧k≤13∧iv=.int .i64 k∧Hid (Below w1.heap.size w1 wr)) (fun iv _=>n3+1 - (intOf iv).toNat)
  case atStart=>exact⟨0,by omega,by omega,rfl,pE⟩
  case round=>
   rename World=>wo
   clear pE;obtain⟨k,hk,hk13,rfl,HB⟩:=hrel;have HU:=zh (zu gG HB.out);have rS:=ROW.out wo HU.out;have rM:=zc 7 rS (.slice A3 n3 c3) rfl;clear rS;by_cases hlt:k≤n3
   ·by_cases rT:k≤12
    ·have hkc:k≤c3:=Nat.le_trans hlt hle3;have HLo:=zh (MJ.out wo (gm.out wo HU.out));have hmem:∀x∈q.l.take k,x.list.length≤100000000∧x.slots.length≤100000000:=fun x hx=>by have:=JI (List.mem_of_mem_take hx);have:=uj.out.rc;omega
     have hlk:(q.l.take k).length=k:=(by rw[List.length_take,mY.out];omega);have hsum:((q.l.take k).map (fun r=>r.list.length)).sum≤1000000:=(by have:=Jb q.l k;have:=uj.out.rc;omega);have pH:=zh (ZB (HLo.out.take hlt) (by omega) hmem);go_wp2_with fail
     refine pH.out.mono ?_;clear rM pH;rintro e w5 ⟨A5,c5,rfl,hown5,gB⟩;have Ml:=zh ((hown5.sl (tg:=true)).Bd);have HU5:=zt HU gB;have mA:=zt HB gB;have h5:=gB.size;have h05:=HU5.out.size;clear hown5 gB hmem HLo;have mW:=zh (fun V (hV:Below W0.heap.size W0 V)=>(MJ.out V (gm.out V hV)).take hlt);obtain⟨lk,hlk2⟩:∃lk,lk=q.l.take k:=⟨_,rfl⟩;rw[←hlk2] at Ml mW hlk hsum⊢;have HLK:=zh hlk2;clear hlk2;rw[hlk] at Ml⊢;obtain⟨RR,hRR⟩:∃RR,RR=DW q.s lk:=⟨_,rfl⟩;have GQ:=zh hRR;clear hRR
     have nk:=zh (show Calls Tryz.prog 38 _ w5 (xD RR w5) from(by
      have h:=Of_c (w:=w5) (s:=q.s) (l:=lk) rB.out Ml.out (by omega) hsum;rw[←GQ.out] at h
      exact h))
     have rS:=ROW.out w5 HU5.out;obtain⟨gW,j6,ma,-⟩:=ZQ rS;clear rS;go_wp2_with fail
     refine nk.out.mono ?_;clear gW j6 ma;clear nk;rintro e w6 ⟨D0,d0,e0,D1,d1,e1,D2,d2,e2,rfl,hbr,gu⟩;have gA:=zh gu;have MG:=zh hbr;have h6:=gu.size;clear gu hbr
     go_upto_region 10 with (fail)
     have nA:=(Below.heap_alloc (w6.alloc (.cells #[.slice D0 d0 e0,.slice D1 d1 e1,.slice D2 d2 e2,.int .i64 RR.1.next] 28)) (.cells #[.slice none 0 0,.slice none 0 0,.slice none 0 0,.int .i64 0] 28) w6.heap.size (by simp)).trans (heap_alloc_new w6 (.cells #[.slice D0 d0 e0,.slice D1 d1 e1,.slice D2 d2 e2,.int .i64 RR.1.next] 28));have vr:=heap_alloc_new (w6.alloc (.cells #[.slice D0 d0 e0,.slice D1 d1 e1,.slice D2 d2 e2,.int .i64 RR.1.next] 28)) (.cells #[.slice none 0 0,.slice none 0 0,.slice none 0 0,.int .i64 0] 28);rw[World.size_alloc] at vr;have hal:Below w6.heap.size w6 ((w6.alloc (.cells #[.slice D0 d0 e0,.slice D1 d1 e1,.slice D2 d2 e2,.int .i64 RR.1.next] 28)).alloc (.cells #[.slice none 0 0,.slice none 0 0,.slice none 0 0,.int .i64 0] 28)):=bz;have hzz:w6.heap.size+1<((w6.alloc (.cells #[.slice D0 d0 e0,.slice D1 d1 e1,.slice D2 d2 e2,.int .i64 RR.1.next] 28)).alloc (.cells #[.slice none 0 0,.slice none 0 0,.slice none 0 0,.int .i64 0] 28)).heap.size:=(by simp);generalize ((w6.alloc (.cells #[.slice D0 d0 e0,.slice D1 d1 e1,.slice D2 d2 e2,.int .i64 RR.1.next] 28)).alloc (.cells #[.slice none 0 0,.slice none 0 0,.slice none 0 0,.int .i64 0] 28))=w8 at *;have ul:=zh (gA.out.trans (hal.mono h6));have rN:=zh (zu HU5 ul.out);have HBR8:=zh ((MG.out.mono (S':=fun q=>w5.heap.size≤q∧q<w6.heap.size) (fun q h1 h2=>⟨h1,h2⟩)).all hal);have R5:=zh nA;have R8:=zh vr;clear nA vr hal MG gA;generalize hg5:w6.heap.size=g5 at *;have HG5:=zh hg5;clear hg5;have h8:=ul.out.size;obtain⟨gd,hgd⟩:∃gd,gd=(qo q.s&&zQ lk 5000):=⟨_,rfl⟩;have HGD:=zh hgd;clear hgd;have HRF:Hid (RR=if gd=true then Et q.s lk else (⟨[],[],[],0⟩,1)):=zh (by rw[GQ.out,HGD.out];exact yN (by omega))
     go_cut [47] from 38 to 76 (fun t V=>t=.bool gd∧Hid (Below w8.heap.size w8 V))
     case first=>
      have rS:=ROW.out w8 rN.out;obtain⟨gW,j6,ma,-⟩:=ZQ rS;clear rS;go_wp2_with fail
      refine(Ce (s:=q.s)).mono ?_;rintro e w9 ⟨rfl,mM⟩;have gD:=zh mM;have HU9:=zt rN mM;clear gW j6 ma;clear mM;generalize hsh:qo q.s=sh at *
      cases sh with
      |false=>
       have HE:Hid (gd=false):=zh (by rw[HGD.out];rfl);clear hsh;go_wp2
       go_meet
       case rel=>exact⟨by rw[HE.out],gD⟩
      |true=>
       clear hsh;have HE:Hid (gd=zQ lk 5000):=zh (by rw[HGD.out];rfl);have rS:=ROW.out w9 HU9.out;have rM:=zc 7 rS (.slice A3 n3 c3) rfl;clear rS;go_wp2_with fail
       refine(yw (mW.out w9 HU9.out)).mono ?_;rintro e MH ⟨rfl,pk⟩;have rq:=zt gD pk;clear rM;clear pk;go_wp2
       go_meet
       case rel=>exact⟨by rw[HE.out],rq⟩
     case rest=>
      rename World=>w9
      obtain⟨rfl,gD⟩:=hcut;have R89:=zh ((gD.out.block _ hzz).trans R8.out);have HU9:=zh (zu rN gD.out);have h9:=gD.out.size
      go_upto_if 47 with (fail)
      go_cut [7] from 48 to 76 (fun t V=>t=.int .i64 RR.2∧Hid (∃G0 m0 j0 G1 m1 j1 G2 m2 j2,V.heap[g5+1]?=some (.cells #[.slice G0 m0 j0,.slice G1 m1 j1,.slice G2 m2 j2,.int .i64 RR.1.next] 28 (0,0))∧Bl V (fun q=>w9.heap.size≤q) true true true true G0 m0 j0 G1 m1 j1 G2 m2 j2 RR.1∧Below (g5+1) w9 V))
      case first=>
       cases gd with
       |false=>
        have HE:Hid (RR=(⟨[],[],[],0⟩,1)):=zh HRF.out;have HF:=zh (show∃G0 m0 j0 G1 m1 j1 G2 m2 j2,w9.heap[g5+1]?=some (.cells #[.slice G0 m0 j0,.slice G1 m1 j1,.slice G2 m2 j2,.int .i64 RR.1.next] 28 (0,0))∧Bl w9 (fun q=>w9.heap.size≤q) true true true true G0 m0 j0 G1 m1 j1 G2 m2 j2 RR.1∧Below (g5+1) w9 w9 from⟨none,0,0,none,0,0,none,0,0,by rw[HE.out];exact R89.out,by rw[HE.out];exact⟨Sl.Bn (by omega),Sl.Bn (by omega),Sl.Bn (by omega),(show Bg 0 by unfold Bg;omega)⟩,Below.refl _ _⟩);go_wp2
        go_meet
        case rel=>exact⟨by rw[HE.out],HF⟩
       |true=>
        have HE:Hid (RR=Et q.s lk):=zh HRF.out
        have hrec:zQ lk 5000=true:=by
         have h:=HGD.out.symm;rw[Bool.and_eq_true] at h;exact h.2
        have HAO:=zh (JJ hrec);clear hrec
        go_upto_region 11 with (fail)
        refine bo11 (R:=RR) (k:=k) (g8:=g5+1) (zh (ROW.out w9 HU9.out)) hlt hkc R89 (zh (fun V hV=>(by
         have h:=yM (w:=V) (s:=q.s) (l:=lk) (mW.out V (zu HU9 hV)) (by omega) hsum (fun j hj=>HAO.out j (by omega));rw[HE.out]
         exact h))) rfl rfl rfl rfl ?_
        intro v mX G0 m0 j0 G1 m1 j1 G2 m2 j2 hv mS hbr uW;simp only[qb,BC,BD,BF,BG,Act.put,Bz,BA,BB];rw[hv];have HF:=zh (show∃G0 m0 j0 G1 m1 j1 G2 m2 j2,mX.heap[g5+1]?=some (.cells #[.slice G0 m0 j0,.slice G1 m1 j1,.slice G2 m2 j2,.int .i64 RR.1.next] 28 (0,0))∧Bl mX (fun q=>w9.heap.size≤q) true true true true G0 m0 j0 G1 m1 j1 G2 m2 j2 RR.1∧Below (g5+1) w9 mX from⟨G0,m0,j0,G1,m1,j1,G2,m2,j2,mS,hbr,uW⟩);clear hv mS hbr uW;go_wp2
        go_meet
        case rel=>exact⟨rfl,HF⟩
      case rest=>
       rename World=>mX
       obtain⟨rfl,HF⟩:=hcut;obtain⟨G0,m0,j0,G1,m1,j1,G2,m2,j2,mS,hby,uW⟩:=HF.out;have HY:=zh mS;have HBY:=zh hby;have HU11:=zh (HU9.out.trans (uW.mono (by omega)));have R511:=zh ((uW.block _ (by omega)).trans ((gD.out.block _ (by omega)).trans R5.out));have h11:=uW.size;have MK:=zh (ul.out.trans ((gD.out.mono (show w5.heap.size≤w8.heap.size by omega)).trans (uW.mono (show w5.heap.size≤g5+1 by omega))));have nL:=zh ((HBR8.out.all gD.out).DR (by omega) uW);clear mS hby uW HF R89 HU9 gD HBR8;have hne:(RR.2 !=RR.2)=false:=(by simp);go_wp2_with fail
       refine(kb (e:=RR.2)).mono ?_;rintro e uD ⟨rfl,hb12⟩;have HU12:=zt HU11 hb12;have ML:=zt MK hb12;have Mm:=zh (nL.out.all hb12);have Mn:=zh (HBY.out.all hb12);have R512:=zh (zb hb12 R511.out);have HY2:=zh (zb hb12 HY.out);clear hb12 nL HBY R511 HY HU11 MK;have rS:=R512.out;obtain⟨x00,x01,x02,x03⟩:=zC rS;clear rS;have rS:=HY2.out;obtain⟨y00,y01,y02,y03⟩:=zC rS;clear rS;go_wp2_with fail
       refine(zm (x:=RR.1) (y:=RR.1) Mm.out.st Mm.out.th Mm.out.ta Mn.out.st Mn.out.th Mn.out.ta).mono ?_;rw[decide_eq_true rfl];rintro e rK ⟨rfl,hb13⟩;clear x00 x01 x02 x03;clear y00 y01 y02 y03;have HU13:=zt HU12 hb13;have Hz:=zt ML hb13;clear hb13 Mm Mn R512 HY2 HU12 ML;have HL13:=zh (Ml.out.all Hz.out);have HT13:=zh (mW.out rK HU13.out);have rS:=ROW.out rK HU13.out;have rM:=zc 7 rS (.slice A3 n3 c3) rfl;clear rS;go_wp2_with fail
       refine(jV (xs:=lk) (ys:=lk) HL13.out HT13.out).mono ?_;rw[decide_eq_true rfl];rintro e w14 ⟨rfl,hb14⟩;clear rM;have HBE:=zh (mA.out.trans ((zu Hz hb14).mono mA.out.size));clear hb14 HL13 HT13 Hz HU13;go_wp2_with fail
       refine⟨⟨k+1,by omega,by omega,by go_num,HBE⟩,?_⟩;go_light
       simp[intOf];omega
    skip
    have mg:=zh (show Calls Tryz.prog 42 _ wo (Zj (xF q.s q.b) wo) from JZ (w:=wo) rB.out HF.out (Ge.out wo (gm.out wo HU.out)));have rS:=ROW.out wo HU.out;obtain⟨gW,j6,ma,n7,ru,rx,ry⟩:=Kd rS;clear rS;go_wp2_with fail
    refine mg.out.mono ?_;clear gW j6 ma n7 ru rx ry;clear mg rM;rintro e GR ⟨A5,n5,c5,rfl,hsl,hb15⟩;have HX:=zh hsl;have uX:=zt HU hb15;clear hsl hb15;obtain⟨LR,hLR⟩:∃LR,LR=xF q.s q.b:=⟨_,rfl⟩;rw[←hLR] at HX⊢;have HLR:=zh hLR;clear hLR;obtain⟨ok,hok⟩:∃ok,ok=qD q.s q.b:=⟨_,rfl⟩;have nu:=zh hok;clear hok
    go_upto_region 17 with (fail)
    go_cut [94] from 85 (fun t V=>t=.bool ok∧Hid (Below GR.heap.size GR V))
    case first=>
     have rS:=ROW.out GR uX.out;obtain⟨gW,j6,ma,n7,ru,rx,ry⟩:=Kd rS;clear rS;go_wp2_with fail
     refine(Ce (s:=q.s)).mono ?_;rintro e w7 ⟨rfl,gy⟩;have mh:=zh gy;clear gW j6 ma n7 ru rx ry;have HU7:=zt uX gy;clear gy;generalize hsh:qo q.s=sh at *
     cases sh with
     |false=>
      have HE:Hid (ok=false):=zh (by rw[nu.out];unfold qD;rw[hsh];rfl);clear hsh;go_wp2
      go_meet
      case rel=>exact⟨by rw[HE.out],mh⟩
     |true=>
      clear hsh;have rS:=ROW.out w7 HU7.out;obtain⟨gW,j6,ma,n7,ru,rx,ry⟩:=Kd rS;clear rS;go_wp2_with fail
      refine(kc (s:=q.s) HF.out (Ge.out w7 (gm.out w7 HU7.out))).mono ?_;rintro e w8 ⟨rfl,hb8⟩;have ul:=zt mh hb8;clear gW j6 ma n7 ru rx ry;clear hb8;go_wp2
      go_meet
      case rel=>exact⟨by rw[nu.out],ul⟩
    case rest=>
     rename World=>uY
     obtain⟨rfl,pm⟩:=hcut;have uZ:=zh (zu uX pm.out);have J0:=zh (HX.out.all pm.out);clear HX uX pm
     go_upto_if 94 with (fail)
     go_cut [11,12] from 95 (fun t u V=>t=.int .i64 LR.2∧∃A n c,u=.slice A n c∧Hid (Sl true 61 (qi true) V (fun _=>True) A n c LR.1)∧Hid (Below uY.heap.size uY V))
     case first=>
      cases ok with
      |false=>
       have HE:Hid (LR=([],1)):=zh (by rw[HLR.out];unfold xF;rw[←nu.out];rfl);go_wp2
       go_meet
       case rel=>exact⟨by rw[HE.out],none,0,0,rfl,zh (by rw[HE.out];exact Sl.Bn (by omega)),zh (Below.refl _ _)⟩
      |true=>
       have HE:Hid (LR=(ja q.b,0)):=zh (by rw[HLR.out];unfold xF;rw[←nu.out];rfl);have hq:qD q.s q.b=true:=nu.out.symm;have hbr:=Ge.out uY (gm.out uY uZ.out);have HRL:=zh (Zl (w:=uY) hbr ⟨by have:=hbr.st.len;have:=HF.out.st;omega,by have:=hbr.th.len;have:=(xG hq).1;omega,by have:=hbr.ta.len;have:=(xG hq).2;omega⟩ HF.out.places HF.out.lists (Zk hq) (zk hq).2.1);clear hq hbr;have rS:=ROW.out uY uZ.out;have n7:=zc 3 rS (.slice A0 n0 c0) rfl;have ru:=zc 4 rS (.slice A1 n1 c1) rfl;have rx:=zc 5 rS (.slice A2 n2 c2) rfl;have ry:=zc 6 rS (.int .i64 q.b.next) rfl;clear rS;go_wp2_with fail
       refine HRL.out.mono ?_;clear n7 ru rx ry;clear HRL;rintro e w20 ⟨A8,c8,rfl,hown,hb20⟩;have Mo:=zh ((hown.sl (tg:=true)).mono (S':=fun _=>True) (fun _ _ _=>trivial));have uf:=zh hb20;clear hown hb20;go_wp2
       go_meet
       case rel=>exact⟨by rw[HE.out],A8,_,c8,rfl,by rw[HE.out];exact Mo,uf⟩
     case rest=>
      rename World=>w20
      obtain⟨rfl,A8,n8,c8,rfl,Mo,uf⟩:=hcut;have J1:=zh (J0.out.all uf.out);have J2:=zh (zu uZ uf.out);clear J0 uZ uf;have hnf:(LR.2==LR.2)=true:=(by simp);go_wp2_with fail
      refine(kb (e:=LR.2)).mono ?_;rintro e w21 ⟨rfl,hb21⟩;have J3:=zt J2 hb21;have J4:=zh (J1.out.all hb21);have J5:=zh (Mo.out.all hb21);clear hb21 J2 J1 Mo;go_wp2_with fail
      refine(jV (xs:=LR.1) (ys:=LR.1) J4.out J5.out).mono ?_;rw[decide_eq_true rfl];rintro e w22 ⟨rfl,hb22⟩;have J6:=zt J3 hb22;clear hb22 J4 J5 J3;go_wp2_with fail
      refine Ck.mono ?_;rintro e w23 ⟨rfl,hb23⟩;have HU23:=zh (gm.out _ (zu J6 hb23));clear hb23 J6;go_wp2
      go_ret
      exact⟨by trivial,HU23.out⟩
   skip
   have mg:=zh (show Calls Tryz.prog 42 _ wo (Zj (xF q.s q.b) wo) from JZ (w:=wo) rB.out HF.out (Ge.out wo (gm.out wo HU.out)));have rS:=ROW.out wo HU.out;obtain⟨gW,j6,ma,n7,ru,rx,ry⟩:=Kd rS;clear rS;go_wp2_with fail
   refine mg.out.mono ?_;clear gW j6 ma n7 ru rx ry;clear mg rM;rintro e GR ⟨A5,n5,c5,rfl,hsl,hb15⟩;have HX:=zh hsl;have uX:=zt HU hb15;clear hsl hb15;obtain⟨LR,hLR⟩:∃LR,LR=xF q.s q.b:=⟨_,rfl⟩;rw[←hLR] at HX⊢;have HLR:=zh hLR;clear hLR;obtain⟨ok,hok⟩:∃ok,ok=qD q.s q.b:=⟨_,rfl⟩;have nu:=zh hok;clear hok
   go_upto_region 17 with (fail)
   go_cut [94] from 85 (fun t V=>t=.bool ok∧Hid (Below GR.heap.size GR V))
   case first=>
    have rS:=ROW.out GR uX.out;obtain⟨gW,j6,ma,n7,ru,rx,ry⟩:=Kd rS;clear rS;go_wp2_with fail
    refine(Ce (s:=q.s)).mono ?_;rintro e w7 ⟨rfl,gy⟩;have mh:=zh gy;clear gW j6 ma n7 ru rx ry;have HU7:=zt uX gy;clear gy;generalize hsh:qo q.s=sh at *
    cases sh with
    |false=>
     have HE:Hid (ok=false):=zh (by rw[nu.out];unfold qD;rw[hsh];rfl);clear hsh;go_wp2
     go_meet
     case rel=>exact⟨by rw[HE.out],mh⟩
    |true=>
     clear hsh;have rS:=ROW.out w7 HU7.out;obtain⟨gW,j6,ma,n7,ru,rx,ry⟩:=Kd rS;clear rS;go_wp2_with fail
     refine(kc (s:=q.s) HF.out (Ge.out w7 (gm.out w7 HU7.out))).mono ?_;rintro e w8 ⟨rfl,hb8⟩;have ul:=zt mh hb8;clear gW j6 ma n7 ru rx ry;clear hb8;go_wp2
     go_meet
     case rel=>exact⟨by rw[nu.out],ul⟩
   case rest=>
    rename World=>uY
    obtain⟨rfl,pm⟩:=hcut;have uZ:=zh (zu uX pm.out);have J0:=zh (HX.out.all pm.out);clear HX uX pm
    go_upto_if 94 with (fail)
    go_cut [11,12] from 95 (fun t u V=>t=.int .i64 LR.2∧∃A n c,u=.slice A n c∧Hid (Sl true 61 (qi true) V (fun _=>True) A n c LR.1)∧Hid (Below uY.heap.size uY V))
    case first=>
     cases ok with
     |false=>
      have HE:Hid (LR=([],1)):=zh (by rw[HLR.out];unfold xF;rw[←nu.out];rfl);go_wp2
      go_meet
      case rel=>exact⟨by rw[HE.out],none,0,0,rfl,zh (by rw[HE.out];exact Sl.Bn (by omega)),zh (Below.refl _ _)⟩
     |true=>
      have HE:Hid (LR=(ja q.b,0)):=zh (by rw[HLR.out];unfold xF;rw[←nu.out];rfl);have hq:qD q.s q.b=true:=nu.out.symm;have hbr:=Ge.out uY (gm.out uY uZ.out);have HRL:=zh (Zl (w:=uY) hbr ⟨by have:=hbr.st.len;have:=HF.out.st;omega,by have:=hbr.th.len;have:=(xG hq).1;omega,by have:=hbr.ta.len;have:=(xG hq).2;omega⟩ HF.out.places HF.out.lists (Zk hq) (zk hq).2.1);clear hq hbr;have rS:=ROW.out uY uZ.out;have n7:=zc 3 rS (.slice A0 n0 c0) rfl;have ru:=zc 4 rS (.slice A1 n1 c1) rfl;have rx:=zc 5 rS (.slice A2 n2 c2) rfl;have ry:=zc 6 rS (.int .i64 q.b.next) rfl;clear rS;go_wp2_with fail
      refine HRL.out.mono ?_;clear n7 ru rx ry;clear HRL;rintro e w20 ⟨A8,c8,rfl,hown,hb20⟩;have Mo:=zh ((hown.sl (tg:=true)).mono (S':=fun _=>True) (fun _ _ _=>trivial));have uf:=zh hb20;clear hown hb20;go_wp2
      go_meet
      case rel=>exact⟨by rw[HE.out],A8,_,c8,rfl,by rw[HE.out];exact Mo,uf⟩
    case rest=>
     rename World=>w20
     obtain⟨rfl,A8,n8,c8,rfl,Mo,uf⟩:=hcut;have J1:=zh (J0.out.all uf.out);have J2:=zh (zu uZ uf.out);clear J0 uZ uf;have hnf:(LR.2==LR.2)=true:=(by simp);go_wp2_with fail
     refine(kb (e:=LR.2)).mono ?_;rintro e w21 ⟨rfl,hb21⟩;have J3:=zt J2 hb21;have J4:=zh (J1.out.all hb21);have J5:=zh (Mo.out.all hb21);clear hb21 J2 J1 Mo;go_wp2_with fail
     refine(jV (xs:=LR.1) (ys:=LR.1) J4.out J5.out).mono ?_;rw[decide_eq_true rfl];rintro e w22 ⟨rfl,hb22⟩;have J6:=zt J3 hb22;clear hb22 J4 J5 J3;go_wp2_with fail
     refine Ck.mono ?_;rintro e w23 ⟨rfl,hb23⟩;have HU23:=zh (gm.out _ (zu J6 hb23));clear hb23 J6;go_wp2
     go_ret
     exact⟨by trivial,HU23.out⟩
end Go.Proofs.YtipecejghioicaaGreat
