/- Siloref13.Record, kind by kind. -/
import Derived.Test.YtipecejghioicaaGreatJ20p
import Derived.Test.YtipecejghioicaaGreatJ2p
import Derived.Test.YtipecejghioicaaGreatY11p
import Derived.Deep.CutRange
import Derived.Deep.Cut
import Derived.Deep.Light
import Derived.Test.YtipecejghioicaaGreatDatap
set_option maxHeartbeats 8000000
set_option maxRecDepth 100000
namespace Go.Proofs.YtipecejghioicaaGreat
open Go.RowKit Go.Silo
theorem Ky {id:Int}{nm dg:ByteArray}{li:List Int}{sl:List Slot}:qy ⟨1,id,nm,dg,li,sl⟩=(decide ((⟨1,id,nm,dg,li,sl⟩:Bb)=(⟨1,id,ByteArray.empty,ByteArray.empty,[],sl⟩:Bb))&&(decide (0≤id∧id≤1073741824)&&(decide (li.length≤2000)&&(decide (1≤(sl.length:Int)∧(sl.length:Int)≤14)&&(!(li.any (fun n=>!qg n))&&!(sl.any qE)))))):=by
 unfold qy;simp only[show qi 1 105=true by decide,show qi 1 110=false by decide,show qi 1 100=false by decide,show qi 1 108=false by decide,show qi 1 115=true by decide];by_cases hN:nm=ByteArray.empty
 case neg=>
  have hr:¬((⟨1,id,nm,dg,li,sl⟩:Bb)=(⟨1,id,ByteArray.empty,ByteArray.empty,[],sl⟩:Bb)):=fun e=>hN (by injection e);rw[decide_eq_false hr];simp[hN]
 subst hN;by_cases hD:dg=ByteArray.empty
 case neg=>
  have hr:¬((⟨1,id,ByteArray.empty,dg,li,sl⟩:Bb)=(⟨1,id,ByteArray.empty,ByteArray.empty,[],sl⟩:Bb)):=fun e=>hD (by injection e);rw[decide_eq_false hr];simp[hD]
 subst hD;by_cases hL:li=[]
 case neg=>
  have hr:¬((⟨1,id,ByteArray.empty,ByteArray.empty,li,sl⟩:Bb)=(⟨1,id,ByteArray.empty,ByteArray.empty,[],sl⟩:Bb)):=fun e=>hL (by injection e);rw[decide_eq_false hr];simp[hL]
 subst hL;rw[decide_eq_true (rfl:(⟨1,id,ByteArray.empty,ByteArray.empty,[],sl⟩:Bb)=(⟨1,id,ByteArray.empty,ByteArray.empty,[],sl⟩:Bb))];rw[show decide (1≤(sl.length:Int)∧(sl.length:Int)≤14)=decide (1≤sl.length∧sl.length≤14) from decide_eq_decide.2 (by omega)]
 first|(simp[qM,qA,qg];done)|(simp[qM,qA,qg,Bool.and_comm];done)|(simp[qM,qA,qg,Bool.and_assoc,Bool.and_comm,Bool.and_left_comm];done)
theorem Jv {tg:Bool}{S:Nat→Prop}{w:World}{A4 A5:Option Addr}{n4 c4 n5 c5:Nat}{id:Int}{nm dg:ByteArray}{li:List Int}{sl:List Slot}(hl:Sl tg 3 qD w S A4 n4 c4 li) (hs:Sl tg 88 qp w S A5 n5 c5 sl):
  Calls Tryz.prog 31 #[.agg #[.int .i64 1,.int .i64 id,.string nm,.string dg,.slice A4 n4 c4,.slice A5 n5 c5]] w (Bf (.bool (qy ⟨1,id,nm,dg,li,sl⟩)) w):=by
 have hr:=Ky (id:=id) (nm:=nm) (dg:=dg) (li:=li) (sl:=sl);generalize qy ⟨1,id,nm,dg,li,sl⟩=R at *;generalize hq1:(decide ((⟨1,id,nm,dg,li,sl⟩:Bb)=(⟨1,id,ByteArray.empty,ByteArray.empty,[],sl⟩:Bb)))=q1 at hr;generalize hq2:(decide (0≤id∧id≤1073741824))=q2 at hr;generalize pH:(decide (li.length≤2000))=q5 at hr;generalize GN:(decide (1≤(sl.length:Int)∧(sl.length:Int)≤14))=q7 at hr;generalize uu:(!(li.any (fun n=>!qg n)))=q8 at hr;generalize uv:(!(sl.any qE))=q9 at hr;have HR:=zh hr;clear hr;have ng:=zh hq1;clear hq1;have mG:=zh hq2;clear hq2;have pp:=zh pH;clear pH;have HQ7:=zh GN;clear GN;have pQ:=zh uu;clear uu;have pR:=zh uv;clear uv;have mt:=zh hl.len;have rU:=zh hs.len;have nu:n4≤9223372036854775807:=Nat.le_trans hl.le hl.cap;have nH:n5≤9223372036854775807:=Nat.le_trans hs.le hs.cap;have nC:=zh (fun V (hV:Below w.heap.size w V)=>hl.all hV);have rq:=zh (fun V (hV:Below w.heap.size w V)=>hs.all hV);clear hl hs
 go_enter Tryz.func31,Tryz.ntmps31
 have hal:Below w.heap.size w (w.alloc (.cells #[.int .i64 1,.int .i64 id,.string nm,.string dg,.slice A4 n4 c4,.slice A5 n5 c5] 61)):=(Below.refl _ _).alloc (Nat.le_refl _) _;have nL:=heap_alloc_new w (.cells #[.int .i64 1,.int .i64 id,.string nm,.string dg,.slice A4 n4 c4,.slice A5 n5 c5] 61);have hz:w.heap.size<(w.alloc (.cells #[.int .i64 1,.int .i64 id,.string nm,.string dg,.slice A4 n4 c4,.slice A5 n5 c5] 61)).heap.size:=by simp
 go_upto_region 1 with (fail)
 generalize (w.alloc (.cells #[.int .i64 1,.int .i64 id,.string nm,.string dg,.slice A4 n4 c4,.slice A5 n5 c5] 61))=W0 at *;have gz:=zh hal;clear hal;have ROW:=zh (fun V (hV:Below W0.heap.size W0 V)=>(show V.heap[w.heap.size]?=some (.cells #[.int .i64 1,.int .i64 id,.string nm,.string dg,.slice A4 n4 c4,.slice A5 n5 c5] 61 (0,0)) from(hV.block _ hz).trans nL));clear nL;have r0:=ROW.out W0 (Below.refl _ _);have b0:=zc 0 r0 (.int .i64 1) rfl;clear r0;go_wp2_with fail
 refine(Bj (n:=1) (l:=1) (m:=8)).mono ?_;rw[decide_eq_true (by decide:(1:Int)≤1∧(1:Int)≤8)];rintro e w1 ⟨rfl,hb1⟩;clear b0;have gV:=zh hb1;clear hb1;have r0:=ROW.out w1 gV.out;have b0:=zc 0 r0 (.int .i64 1) rfl;clear r0;go_wp2_with fail
 refine(zR (k:=1) (by decide)).mono ?_;rw[show Zl 1=⟨#[73,83]⟩ by rfl];rintro e w2 ⟨rfl,hb2⟩;clear b0;have gM:=zt gV hb2;clear hb2;have hz2:w.heap.size<w2.heap.size:=Nat.lt_of_lt_of_le hz gM.out.size;have r0:=ROW.out w2 gM.out;have b0:=zc 0 r0 (.int .i64 1) rfl;clear r0
 go_upto_region 5 with (fail)
 have gH:Below w2.heap.size w2 (w2.alloc (.cells #[.int .i64 1,.int .i64 0,.string ⟨#[]⟩,.string ⟨#[]⟩,.slice none 0 0,.slice none 0 0] 61)):=(Below.refl _ _).alloc (Nat.le_refl _) _;have uw:=heap_alloc_new w2 (.cells #[.int .i64 1,.int .i64 0,.string ⟨#[]⟩,.string ⟨#[]⟩,.slice none 0 0,.slice none 0 0] 61);have hz3:w2.heap.size<(w2.alloc (.cells #[.int .i64 1,.int .i64 0,.string ⟨#[]⟩,.string ⟨#[]⟩,.slice none 0 0,.slice none 0 0] 61)).heap.size:=by simp
 generalize (w2.alloc (.cells #[.int .i64 1,.int .i64 0,.string ⟨#[]⟩,.string ⟨#[]⟩,.slice none 0 0,.slice none 0 0] 61))=w3 at *;clear b0;have mL:=zt gM gH;clear gH;generalize hg:w2.heap.size=g at *;have hg0:w.heap.size<g:=by omega
 have ux:W0.heap.size≤g:=by rw[←hg];exact gM.out.size
 clear hg;have gy:Hid (w3.heap[g]?=some (.cells #[.int .i64 1,.int .i64 0,.string ⟨#[]⟩,.string ⟨#[]⟩,.slice none 0 0,.slice none 0 0] 61 (0,0))):=zh uw;clear uw;go_wp2_with fail
 refine(qk (s:=⟨#[73,83]⟩) (c:=73) (by decide)).mono ?_;rw[show qQ ⟨#[73,83]⟩ 73=true by decide];rintro e w4 ⟨rfl,hb4⟩;have ma:=zt mL hb4;have gy:Hid (w4.heap[g]?=some (.cells #[.int .i64 1,.int .i64 0,.string ⟨#[]⟩,.string ⟨#[]⟩,.slice none 0 0,.slice none 0 0] 61 (0,0))):=zh ((hb4.block g (zl gy.out)).trans gy.out);clear hb4;have r0:=ROW.out w4 ma.out;have b1:=zc 1 r0 (.int .i64 id) rfl;clear r0;have hr4:=gy.out;have y0:=zc 1 hr4 (.int .i64 0) rfl;have z0:=zf 1 hr4;have gD:(w4.setCell ⟨g,1,none⟩ (.int .i64 id)).heap[g]?=some (.cells #[.int .i64 1,.int .i64 id,.string ⟨#[]⟩,.string ⟨#[]⟩,.slice none 0 0,.slice none 0 0] 61 (0,0)):=by rw[setCell_eq_setRow w4 g _ _ 61 (0,0) _ hr4];exact setRow_heap w4 g _ _ 61 (0,0) hr4
 have hbs:Below g w4 (w4.setCell ⟨g,1,none⟩ (.int .i64 id)):=(Below.refl g _).setCell (p:=⟨g,1,none⟩) (Nat.le_refl g) _;clear hr4
 go_upto_region 7 with (fail)
 generalize (w4.setCell ⟨g,1,none⟩ (.int .i64 id))=w5 at *;clear b1 y0 z0;have mB:=zh (ma.out.trans (hbs.mono ux));have gy:=zh gD;clear hbs gD;go_wp2_with fail
 refine(qk (s:=⟨#[73,83]⟩) (c:=78) (by decide)).mono ?_;rw[show qQ ⟨#[73,83]⟩ 78=false by decide];rintro e w6 ⟨rfl,gp⟩;have gB:=zt mB gp;have gy:Hid (w6.heap[g]?=some (.cells #[.int .i64 1,.int .i64 id,.string ⟨#[]⟩,.string ⟨#[]⟩,.slice none 0 0,.slice none 0 0] 61 (0,0))):=zh ((gp.block g (zl gy.out)).trans gy.out);clear gp;go_wp2_with fail
 refine(qk (s:=⟨#[73,83]⟩) (c:=68) (by decide)).mono ?_;rw[show qQ ⟨#[73,83]⟩ 68=false by decide];rintro e w7 ⟨rfl,gv⟩;have gY:=zt gB gv;have gy:Hid (w7.heap[g]?=some (.cells #[.int .i64 1,.int .i64 id,.string ⟨#[]⟩,.string ⟨#[]⟩,.slice none 0 0,.slice none 0 0] 61 (0,0))):=zh ((gv.block g (zl gy.out)).trans gy.out);clear gv;go_wp2_with fail
 refine(qk (s:=⟨#[73,83]⟩) (c:=76) (by decide)).mono ?_;rw[show qQ ⟨#[73,83]⟩ 76=false by decide];rintro e w8 ⟨rfl,hb8⟩;have pP:=zt gY hb8;have gy:Hid (w8.heap[g]?=some (.cells #[.int .i64 1,.int .i64 id,.string ⟨#[]⟩,.string ⟨#[]⟩,.slice none 0 0,.slice none 0 0] 61 (0,0))):=zh ((hb8.block g (zl gy.out)).trans gy.out);clear hb8;go_wp2_with fail
 refine(qk (s:=⟨#[73,83]⟩) (c:=83) (by decide)).mono ?_;rw[show qQ ⟨#[73,83]⟩ 83=true by decide];rintro e w9 ⟨rfl,gW⟩;have gF:=zt pP gW;have gy:Hid (w9.heap[g]?=some (.cells #[.int .i64 1,.int .i64 id,.string ⟨#[]⟩,.string ⟨#[]⟩,.slice none 0 0,.slice none 0 0] 61 (0,0))):=zh ((gW.block g (zl gy.out)).trans gy.out);clear gW;have r0:=ROW.out w9 gF.out;have b5:=zc 5 r0 (.slice A5 n5 c5) rfl;clear r0;have hr4:=gy.out;have y0:=zc 5 hr4 (.slice none 0 0) rfl;have z0:=zf 5 hr4;have gD:(w9.setCell ⟨g,5,none⟩ (.slice A5 n5 c5)).heap[g]?=some (.cells #[.int .i64 1,.int .i64 id,.string ⟨#[]⟩,.string ⟨#[]⟩,.slice none 0 0,.slice A5 n5 c5] 61 (0,0)):=by rw[setCell_eq_setRow w9 g _ _ 61 (0,0) _ hr4];exact setRow_heap w9 g _ _ 61 (0,0) hr4
 have hbs:Below g w9 (w9.setCell ⟨g,5,none⟩ (.slice A5 n5 c5)):=(Below.refl g _).setCell (p:=⟨g,5,none⟩) (Nat.le_refl g) _;clear hr4
 go_upto_region 15 with (fail)
 generalize (w9.setCell ⟨g,5,none⟩ (.slice A5 n5 c5))=nk at *;clear b5 y0 z0;have mz:=zh (gF.out.trans (hbs.mono ux));have gy:=zh gD;clear hbs gD;have r0:=ROW.out nk mz.out;have b0:=zc 0 r0 (.int .i64 1) rfl;have b1:=zc 1 r0 (.int .i64 id) rfl;have b2:=zc 2 r0 (.string nm) rfl;have b3:=zc 3 r0 (.string dg) rfl;have b4:=zc 4 r0 (.slice A4 n4 c4) rfl;have b5:=zc 5 r0 (.slice A5 n5 c5) rfl;clear r0;have r4:=gy.out;have y0:=zc 0 r4 (.int .i64 1) rfl;have y1:=zc 1 r4 (.int .i64 id) rfl;have y2:=zc 2 r4 (.string ⟨#[]⟩) rfl;have y3:=zc 3 r4 (.string ⟨#[]⟩) rfl;have y4:=zc 4 r4 (.slice none 0 0) rfl;have y5:=zc 5 r4 (.slice A5 n5 c5) rfl;clear r4;have hE:=qJ (w:=nk) (x:=⟨1,id,nm,dg,li,sl⟩) (y:=(⟨1,id,ByteArray.empty,ByteArray.empty,[],sl⟩:Bb)) (A4':=none) (n4':=0) (c4':=0) (A5':=A5) (n5':=n5) (c5':=c5) (nC.out nk (zu gz mz.out)) (rq.out nk (zu gz mz.out)) ((Sl.Bz (by omega):Sl tg 3 qD _ S none 0 0 _)) (rq.out nk (zu gz mz.out));rw[ng.out] at hE;go_wp2_with fail
 refine hE.mono ?_;clear b0 b1 b2 b3 b4 b5 y0 y1 y2 y3 y4 y5 hE;rintro e ml ⟨rfl,hb11⟩;have gJ:=zt mz hb11;clear hb11 gy
 cases q1 with
 |false=>
  go_wp2
  go_ret
  exact⟨by rw[HR.out];simp,gz.out.trans (gJ.out.mono gz.out.size)⟩
 |true=>
  have r0:=ROW.out ml gJ.out;have b1:=zc 1 r0 (.int .i64 id) rfl;clear r0;go_wp2_with fail
  refine(BB (n:=id) (m:=1073741824)).mono ?_;rw[mG.out];clear b1;rintro e nT ⟨rfl,hb12⟩;have mf:=zt gJ hb12;clear hb12
  cases q2 with
  |false=>
   go_wp2
   go_ret
   exact⟨by rw[HR.out];simp,gz.out.trans (mf.out.mono gz.out.size)⟩
  |true=>
   go_wp2_with fail
   refine(qk (s:=⟨#[73,83]⟩) (c:=78) (by decide)).mono ?_;rw[show qQ ⟨#[73,83]⟩ 78=false by decide];rintro e pj ⟨rfl,hb13⟩;have gK:=zt mf hb13;clear hb13;go_wp2_with fail
   refine(qk (s:=⟨#[73,83]⟩) (c:=68) (by decide)).mono ?_;rw[show qQ ⟨#[73,83]⟩ 68=false by decide];rintro e Ge ⟨rfl,hb14⟩;have nO:=zt gK hb14;clear hb14;have r0:=ROW.out Ge nO.out;have b4:=zc 4 r0 (.slice A4 n4 c4) rfl;have b0:=zc 0 r0 (.int .i64 1) rfl;clear r0
   cases q5 with
   |false=>
    have ru:2000<n4:=(by have:=of_decide_eq_false pp.out;have:=mt.out;omega);go_wp2
    go_ret
    exact⟨by rw[HR.out];simp,gz.out.trans (nO.out.mono gz.out.size)⟩
   |true=>
    have ru:¬2000<n4:=(by have:=of_decide_eq_true pp.out;have:=mt.out;omega);go_wp2_with fail
    refine(qk (s:=⟨#[73,83]⟩) (c:=83) (by decide)).mono ?_;rw[show qQ ⟨#[73,83]⟩ 83=true by decide];rintro e vV ⟨rfl,hb15⟩;have mA:=zt nO hb15;clear hb15;clear b4 b0;have r0:=ROW.out vV mA.out;have b5:=zc 5 r0 (.slice A5 n5 c5) rfl;clear r0;go_wp2_with fail
    refine(Bj (n:=n5) (l:=1) (m:=14)).mono ?_;rw[show decide (1≤(n5:Int)∧(n5:Int)≤14)=q7 by rw[←HQ7.out,rU.out]];clear b5;rintro e n7 ⟨rfl,hb16⟩;have mg:=zt mA hb16;clear hb16
    cases q7 with
    |false=>
     go_wp2
     go_ret
     exact⟨by rw[HR.out];simp,gz.out.trans (mg.out.mono gz.out.size)⟩
    |true=>
     have HT:Hid (R=(q8&&q9)):=zh (by rw[HR.out];simp);have rP:=mg;clear HR ng mG pp HQ7 ru;obtain⟨r0⟩:Nonempty (n7.heap[w.heap.size]?=some (.cells #[.int .i64 1,.int .i64 id,.string nm,.string dg,.slice A4 n4 c4,.slice A5 n5 c5] 61 (0,0))):=⟨ROW.out n7 rP.out⟩;have b4:=zc 4 r0 (.slice A4 n4 c4) rfl;clear r0;go_wp2_with fail
     go_loopw [5] (fun i wr=>∃k:Nat,k≤n4∧i=.int .i64 k∧Hid (Below W0.heap.size W0 wr)∧Hid (∀j,j<k→qg (li.getD j 0)=true)) (fun i _=>n4 - (intOf i).toNat)
     case atStart=>exact⟨0,Nat.zero_le _,rfl,rP,zh (fun j hj=>by omega)⟩
     case round=>
      clear b4;obtain⟨k,hk,rfl,HBr,he⟩:=hrel;have r0:=ROW.out wr HBr.out;have b4:=zc 4 r0 (.slice A4 n4 c4) rfl;clear r0;by_cases hlt:k<n4
      ·obtain⟨b,off,eA,_,hbl,_,hc0,_⟩:=(nC.out wr (zu gz HBr.out)).BN hlt;subst eA;have hkl:k<li.length:=(by have:=mt.out;omega);have HM:=zh (qK (d:=0) hkl);clear hkl;generalize hy:li.getD k 0=y at *;have HY:=zh hy;clear hy;go_wp2_with fail
       refine(BB (n:=y) (m:=1073741824)).mono ?_;rw[show decide (0≤y∧y≤1073741824)=qg y from rfl];clear b4 hc0;rintro e wn ⟨rfl,hbn⟩;have mV:=zt HBr hbn;clear hbn
       cases hn:qg y with
       |false=>
        have HF:Hid (R=false):=zh (by
         have h1:(li.any (fun n=>!qg n))=true:=List.any_eq_true.2 ⟨y,HM.out,by rw[hn];rfl⟩
         rw[HT.out,←pQ.out,h1];rfl)
        clear hn;go_wp2
        go_ret
        exact⟨by rw[HF.out];rfl,gz.out.trans (mV.out.mono gz.out.size)⟩
       |true=>
        have HN:Hid (∀j,j<k+1→qg (li.getD j 0)=true):=zh (fun j hj=>by
         by_cases e:j=k
         ·subst e;rw[HY.out];exact hn
         exact he.out j (by omega))
        clear hn;go_wp2
        go_roundw
        case rel=>exact⟨k+1,by omega,by go_num,mV,HN⟩
        case measure=>simp[intOf];omega
      have p7:Hid (R=q9):=zh (by
       have h1:(li.any (fun n=>!qg n))=false:=List.any_eq_false.2 (fun x hx=>by
        obtain⟨j,hj,e⟩:=List.getElem_of_mem hx;have:=he.out j (by have:=mt.out;omega);rw[List.getD_eq_getElem?_getD,List.getElem?_eq_getElem hj,Option.getD_some,e] at this
        rw[this];decide)
       rw[HT.out,←pQ.out,h1];rfl)
      clear HT pQ he
      rename World=>wo
      have r0:=ROW.out wo HBr.out;have b5:=zc 5 r0 (.slice A5 n5 c5) rfl;clear r0;go_wp2_with fail
      go_loopw [6] (fun i wr=>∃k:Nat,k≤n5∧i=.int .i64 k∧Hid (Below W0.heap.size W0 wr)∧Hid (∀j,j<k→qE (sl.getD j default)=false)) (fun i _=>n5 - (intOf i).toNat)
      case atStart=>exact⟨0,Nat.zero_le _,rfl,HBr,zh (fun j hj=>by omega)⟩
      case round=>
       clear b4 b5;obtain⟨m,hm,rfl,HBs,he⟩:=hrel;have r0:=ROW.out wr HBs.out;have b5:=zc 5 r0 (.slice A5 n5 c5) rfl;clear r0;by_cases nv:m<n5
       ·obtain⟨b,off,eA,_,hbl,_,_,hc0,hc1,_⟩:=(rq.out wr (zu gz HBs.out)).BA nv;subst eA;have hkl:m<sl.length:=(by have:=rU.out;omega);have HM:=zh (qK (d:=default) hkl);clear hkl;generalize hy:sl.getD m default=y at *;have HY:=zh hy;clear hy;go_wp2_with fail
        refine(Bj (n:=y.disk) (l:=-1) (m:=11)).mono ?_;clear b5 hc0;rintro e wn ⟨rfl,hbn⟩;have mV:=zt HBs hbn;have hc1:=(hbn.cell (p:=⟨b,off+m* 2+1,none⟩) hbl).trans hc1;have hbl:=Nat.lt_of_lt_of_le hbl hbn.size;clear hbn;by_cases hd1:(-1≤y.disk∧y.disk≤11)
        ·rw[decide_eq_true hd1];have r0:=ROW.out wn mV.out;have b5:=zc 5 r0 (.slice (some ⟨b,off,none⟩) n5 c5) rfl;clear r0;have yJ:=zh hd1;clear hd1;go_wp2_with fail
         refine(BB (n:=y.pos) (m:=63)).mono ?_;clear b5 hc1;rintro e wp ⟨rfl,hbp⟩;have px:=zt mV hbp;clear hbp;by_cases hd2:(0≤y.pos∧y.pos≤63)
         ·rw[decide_eq_true hd2]
          have HN:Hid (∀j,j<m+1→qE (sl.getD j default)=false):=zh (fun j hj=>by
           by_cases e:j=m
           ·subst e;rw[HY.out];unfold qE;exact decide_eq_false (by have:=yJ.out;omega)
           exact he.out j (by omega))
          clear hd2;go_wp2
          go_roundw
          case rel=>exact⟨m+1,by omega,by go_num,px,HN⟩
          case measure=>simp[intOf];omega
         rw[decide_eq_false hd2]
         have HF:Hid (R=false):=zh (by
          have h1:(sl.any qE)=true:=List.any_eq_true.2 ⟨y,HM.out,by unfold qE;exact decide_eq_true (by omega)⟩
          rw[p7.out,←pR.out,h1];rfl)
         clear hd2;go_wp2
         go_ret
         exact⟨by rw[HF.out];rfl,gz.out.trans (px.out.mono gz.out.size)⟩
        rw[decide_eq_false hd1]
        have HF:Hid (R=false):=zh (by
         have h1:(sl.any qE)=true:=List.any_eq_true.2 ⟨y,HM.out,by unfold qE;exact decide_eq_true (by omega)⟩
         rw[p7.out,←pR.out,h1];rfl)
        clear hd1;go_wp2
        go_ret
        exact⟨by rw[HF.out];rfl,gz.out.trans (mV.out.mono gz.out.size)⟩
       have HF:Hid (R=true):=zh (by
        have h1:(sl.any qE)=false:=List.any_eq_false.2 (fun x hx=>by
         obtain⟨j,hj,e⟩:=List.getElem_of_mem hx;have:=he.out j (by have:=rU.out;omega);rw[List.getD_eq_getElem?_getD,List.getElem?_eq_getElem hj,Option.getD_some,e] at this
         rw[this];decide)
        rw[p7.out,←pR.out,h1];rfl)
       go_wp2
       go_ret
       exact⟨by rw[HF.out];rfl,gz.out.trans (HBs.out.mono gz.out.size)⟩
theorem Kz {id:Int}{nm dg:ByteArray}{li:List Int}{sl:List Slot}:qy ⟨2,id,nm,dg,li,sl⟩=(decide ((⟨2,id,nm,dg,li,sl⟩:Bb)=(⟨2,id,ByteArray.empty,ByteArray.empty,li,sl⟩:Bb))&&(decide (0≤id∧id≤1073741824)&&(decide (li.length≤2000)&&(decide (li.length=2)&&(decide (1≤(sl.length:Int)∧(sl.length:Int)≤14)&&(!(li.any (fun n=>!qg n))&&!(sl.any qE))))))):=by
 unfold qy;simp only[show qi 2 105=true by decide,show qi 2 110=false by decide,show qi 2 100=false by decide,show qi 2 108=true by decide,show qi 2 115=true by decide];by_cases hN:nm=ByteArray.empty
 case neg=>
  have hr:¬((⟨2,id,nm,dg,li,sl⟩:Bb)=(⟨2,id,ByteArray.empty,ByteArray.empty,li,sl⟩:Bb)):=fun e=>hN (by injection e);rw[decide_eq_false hr];simp[hN]
 subst hN;by_cases hD:dg=ByteArray.empty
 case neg=>
  have hr:¬((⟨2,id,ByteArray.empty,dg,li,sl⟩:Bb)=(⟨2,id,ByteArray.empty,ByteArray.empty,li,sl⟩:Bb)):=fun e=>hD (by injection e);rw[decide_eq_false hr];simp[hD]
 subst hD;rw[decide_eq_true (rfl:(⟨2,id,ByteArray.empty,ByteArray.empty,li,sl⟩:Bb)=(⟨2,id,ByteArray.empty,ByteArray.empty,li,sl⟩:Bb))];rw[show decide (1≤(sl.length:Int)∧(sl.length:Int)≤14)=decide (1≤sl.length∧sl.length≤14) from decide_eq_decide.2 (by omega)]
 first|(simp[qM,qA,qg];done)|(simp[qM,qA,qg,Bool.and_comm];done)|(simp[qM,qA,qg,Bool.and_assoc,Bool.and_comm,Bool.and_left_comm];done)
theorem Jw {tg:Bool}{S:Nat→Prop}{w:World}{A4 A5:Option Addr}{n4 c4 n5 c5:Nat}{id:Int}{nm dg:ByteArray}{li:List Int}{sl:List Slot}(hl:Sl tg 3 qD w S A4 n4 c4 li) (hs:Sl tg 88 qp w S A5 n5 c5 sl):
  Calls Tryz.prog 31 #[.agg #[.int .i64 2,.int .i64 id,.string nm,.string dg,.slice A4 n4 c4,.slice A5 n5 c5]] w (Bf (.bool (qy ⟨2,id,nm,dg,li,sl⟩)) w):=by
 have hr:=Kz (id:=id) (nm:=nm) (dg:=dg) (li:=li) (sl:=sl);generalize qy ⟨2,id,nm,dg,li,sl⟩=R at *;generalize hq1:(decide ((⟨2,id,nm,dg,li,sl⟩:Bb)=(⟨2,id,ByteArray.empty,ByteArray.empty,li,sl⟩:Bb)))=q1 at hr;generalize hq2:(decide (0≤id∧id≤1073741824))=q2 at hr;generalize pH:(decide (li.length≤2000))=q5 at hr;generalize hq6:(decide (li.length=2))=q6 at hr;generalize GN:(decide (1≤(sl.length:Int)∧(sl.length:Int)≤14))=q7 at hr;generalize uu:(!(li.any (fun n=>!qg n)))=q8 at hr;generalize uv:(!(sl.any qE))=q9 at hr;have HR:=zh hr;clear hr;have ng:=zh hq1;clear hq1;have mG:=zh hq2;clear hq2;have pp:=zh pH;clear pH;have HQ6:=zh hq6;clear hq6;have HQ7:=zh GN;clear GN;have pQ:=zh uu;clear uu;have pR:=zh uv;clear uv;have mt:=zh hl.len;have rU:=zh hs.len;have nu:n4≤9223372036854775807:=Nat.le_trans hl.le hl.cap;have nH:n5≤9223372036854775807:=Nat.le_trans hs.le hs.cap;have nC:=zh (fun V (hV:Below w.heap.size w V)=>hl.all hV);have rq:=zh (fun V (hV:Below w.heap.size w V)=>hs.all hV);clear hl hs
 go_enter Tryz.func31,Tryz.ntmps31
 have hal:Below w.heap.size w (w.alloc (.cells #[.int .i64 2,.int .i64 id,.string nm,.string dg,.slice A4 n4 c4,.slice A5 n5 c5] 61)):=(Below.refl _ _).alloc (Nat.le_refl _) _;have nL:=heap_alloc_new w (.cells #[.int .i64 2,.int .i64 id,.string nm,.string dg,.slice A4 n4 c4,.slice A5 n5 c5] 61);have hz:w.heap.size<(w.alloc (.cells #[.int .i64 2,.int .i64 id,.string nm,.string dg,.slice A4 n4 c4,.slice A5 n5 c5] 61)).heap.size:=by simp
 go_upto_region 1 with (fail)
 generalize (w.alloc (.cells #[.int .i64 2,.int .i64 id,.string nm,.string dg,.slice A4 n4 c4,.slice A5 n5 c5] 61))=W0 at *;have gz:=zh hal;clear hal;have ROW:=zh (fun V (hV:Below W0.heap.size W0 V)=>(show V.heap[w.heap.size]?=some (.cells #[.int .i64 2,.int .i64 id,.string nm,.string dg,.slice A4 n4 c4,.slice A5 n5 c5] 61 (0,0)) from(hV.block _ hz).trans nL));clear nL;have r0:=ROW.out W0 (Below.refl _ _);have b0:=zc 0 r0 (.int .i64 2) rfl;clear r0;go_wp2_with fail
 refine(Bj (n:=2) (l:=1) (m:=8)).mono ?_;rw[decide_eq_true (by decide:(1:Int)≤2∧(2:Int)≤8)];rintro e w1 ⟨rfl,hb1⟩;clear b0;have gV:=zh hb1;clear hb1;have r0:=ROW.out w1 gV.out;have b0:=zc 0 r0 (.int .i64 2) rfl;clear r0;go_wp2_with fail
 refine(zR (k:=2) (by decide)).mono ?_;rw[show Zl 2=⟨#[73,76,83]⟩ by rfl];rintro e w2 ⟨rfl,hb2⟩;clear b0;have gM:=zt gV hb2;clear hb2;have hz2:w.heap.size<w2.heap.size:=Nat.lt_of_lt_of_le hz gM.out.size;have r0:=ROW.out w2 gM.out;have b0:=zc 0 r0 (.int .i64 2) rfl;clear r0
 go_upto_region 5 with (fail)
 have gH:Below w2.heap.size w2 (w2.alloc (.cells #[.int .i64 2,.int .i64 0,.string ⟨#[]⟩,.string ⟨#[]⟩,.slice none 0 0,.slice none 0 0] 61)):=(Below.refl _ _).alloc (Nat.le_refl _) _;have uw:=heap_alloc_new w2 (.cells #[.int .i64 2,.int .i64 0,.string ⟨#[]⟩,.string ⟨#[]⟩,.slice none 0 0,.slice none 0 0] 61);have hz3:w2.heap.size<(w2.alloc (.cells #[.int .i64 2,.int .i64 0,.string ⟨#[]⟩,.string ⟨#[]⟩,.slice none 0 0,.slice none 0 0] 61)).heap.size:=by simp
 generalize (w2.alloc (.cells #[.int .i64 2,.int .i64 0,.string ⟨#[]⟩,.string ⟨#[]⟩,.slice none 0 0,.slice none 0 0] 61))=w3 at *;clear b0;have mL:=zt gM gH;clear gH;generalize hg:w2.heap.size=g at *;have hg0:w.heap.size<g:=by omega
 have ux:W0.heap.size≤g:=by rw[←hg];exact gM.out.size
 clear hg;have gy:Hid (w3.heap[g]?=some (.cells #[.int .i64 2,.int .i64 0,.string ⟨#[]⟩,.string ⟨#[]⟩,.slice none 0 0,.slice none 0 0] 61 (0,0))):=zh uw;clear uw;go_wp2_with fail
 refine(qk (s:=⟨#[73,76,83]⟩) (c:=73) (by decide)).mono ?_;rw[show qQ ⟨#[73,76,83]⟩ 73=true by decide];rintro e w4 ⟨rfl,hb4⟩;have ma:=zt mL hb4;have gy:Hid (w4.heap[g]?=some (.cells #[.int .i64 2,.int .i64 0,.string ⟨#[]⟩,.string ⟨#[]⟩,.slice none 0 0,.slice none 0 0] 61 (0,0))):=zh ((hb4.block g (zl gy.out)).trans gy.out);clear hb4;have r0:=ROW.out w4 ma.out;have b1:=zc 1 r0 (.int .i64 id) rfl;clear r0;have hr4:=gy.out;have y0:=zc 1 hr4 (.int .i64 0) rfl;have z0:=zf 1 hr4;have gD:(w4.setCell ⟨g,1,none⟩ (.int .i64 id)).heap[g]?=some (.cells #[.int .i64 2,.int .i64 id,.string ⟨#[]⟩,.string ⟨#[]⟩,.slice none 0 0,.slice none 0 0] 61 (0,0)):=by rw[setCell_eq_setRow w4 g _ _ 61 (0,0) _ hr4];exact setRow_heap w4 g _ _ 61 (0,0) hr4
 have hbs:Below g w4 (w4.setCell ⟨g,1,none⟩ (.int .i64 id)):=(Below.refl g _).setCell (p:=⟨g,1,none⟩) (Nat.le_refl g) _;clear hr4
 go_upto_region 7 with (fail)
 generalize (w4.setCell ⟨g,1,none⟩ (.int .i64 id))=w5 at *;clear b1 y0 z0;have mB:=zh (ma.out.trans (hbs.mono ux));have gy:=zh gD;clear hbs gD;go_wp2_with fail
 refine(qk (s:=⟨#[73,76,83]⟩) (c:=78) (by decide)).mono ?_;rw[show qQ ⟨#[73,76,83]⟩ 78=false by decide];rintro e w6 ⟨rfl,gp⟩;have gB:=zt mB gp;have gy:Hid (w6.heap[g]?=some (.cells #[.int .i64 2,.int .i64 id,.string ⟨#[]⟩,.string ⟨#[]⟩,.slice none 0 0,.slice none 0 0] 61 (0,0))):=zh ((gp.block g (zl gy.out)).trans gy.out);clear gp;go_wp2_with fail
 refine(qk (s:=⟨#[73,76,83]⟩) (c:=68) (by decide)).mono ?_;rw[show qQ ⟨#[73,76,83]⟩ 68=false by decide];rintro e w7 ⟨rfl,gv⟩;have gY:=zt gB gv;have gy:Hid (w7.heap[g]?=some (.cells #[.int .i64 2,.int .i64 id,.string ⟨#[]⟩,.string ⟨#[]⟩,.slice none 0 0,.slice none 0 0] 61 (0,0))):=zh ((gv.block g (zl gy.out)).trans gy.out);clear gv;go_wp2_with fail
 refine(qk (s:=⟨#[73,76,83]⟩) (c:=76) (by decide)).mono ?_;rw[show qQ ⟨#[73,76,83]⟩ 76=true by decide];rintro e w8 ⟨rfl,hb8⟩;have pP:=zt gY hb8;have gy:Hid (w8.heap[g]?=some (.cells #[.int .i64 2,.int .i64 id,.string ⟨#[]⟩,.string ⟨#[]⟩,.slice none 0 0,.slice none 0 0] 61 (0,0))):=zh ((hb8.block g (zl gy.out)).trans gy.out);clear hb8;have r0:=ROW.out w8 pP.out;have b4:=zc 4 r0 (.slice A4 n4 c4) rfl;clear r0;have hr4:=gy.out;have y0:=zc 4 hr4 (.slice none 0 0) rfl;have z0:=zf 4 hr4;have gD:(w8.setCell ⟨g,4,none⟩ (.slice A4 n4 c4)).heap[g]?=some (.cells #[.int .i64 2,.int .i64 id,.string ⟨#[]⟩,.string ⟨#[]⟩,.slice A4 n4 c4,.slice none 0 0] 61 (0,0)):=by rw[setCell_eq_setRow w8 g _ _ 61 (0,0) _ hr4];exact setRow_heap w8 g _ _ 61 (0,0) hr4
 have hbs:Below g w8 (w8.setCell ⟨g,4,none⟩ (.slice A4 n4 c4)):=(Below.refl g _).setCell (p:=⟨g,4,none⟩) (Nat.le_refl g) _;clear hr4
 go_upto_region 13 with (fail)
 generalize (w8.setCell ⟨g,4,none⟩ (.slice A4 n4 c4))=w9 at *;clear b4 y0 z0;have gF:=zh (pP.out.trans (hbs.mono ux));have gy:=zh gD;clear hbs gD;go_wp2_with fail
 refine(qk (s:=⟨#[73,76,83]⟩) (c:=83) (by decide)).mono ?_;rw[show qQ ⟨#[73,76,83]⟩ 83=true by decide];rintro e nk ⟨rfl,gT⟩;have mz:=zt gF gT;have gy:Hid (nk.heap[g]?=some (.cells #[.int .i64 2,.int .i64 id,.string ⟨#[]⟩,.string ⟨#[]⟩,.slice A4 n4 c4,.slice none 0 0] 61 (0,0))):=zh ((gT.block g (zl gy.out)).trans gy.out);clear gT;have r0:=ROW.out nk mz.out;have b5:=zc 5 r0 (.slice A5 n5 c5) rfl;clear r0;have hr4:=gy.out;have y0:=zc 5 hr4 (.slice none 0 0) rfl;have z0:=zf 5 hr4;have gD:(nk.setCell ⟨g,5,none⟩ (.slice A5 n5 c5)).heap[g]?=some (.cells #[.int .i64 2,.int .i64 id,.string ⟨#[]⟩,.string ⟨#[]⟩,.slice A4 n4 c4,.slice A5 n5 c5] 61 (0,0)):=by rw[setCell_eq_setRow nk g _ _ 61 (0,0) _ hr4];exact setRow_heap nk g _ _ 61 (0,0) hr4
 have hbs:Below g nk (nk.setCell ⟨g,5,none⟩ (.slice A5 n5 c5)):=(Below.refl g _).setCell (p:=⟨g,5,none⟩) (Nat.le_refl g) _;clear hr4
 go_upto_region 15 with (fail)
 generalize (nk.setCell ⟨g,5,none⟩ (.slice A5 n5 c5))=ml at *;clear b5 y0 z0;have gJ:=zh (mz.out.trans (hbs.mono ux));have gy:=zh gD;clear hbs gD;have r0:=ROW.out ml gJ.out;have b0:=zc 0 r0 (.int .i64 2) rfl;have b1:=zc 1 r0 (.int .i64 id) rfl;have b2:=zc 2 r0 (.string nm) rfl;have b3:=zc 3 r0 (.string dg) rfl;have b4:=zc 4 r0 (.slice A4 n4 c4) rfl;have b5:=zc 5 r0 (.slice A5 n5 c5) rfl;clear r0;have r4:=gy.out;have y0:=zc 0 r4 (.int .i64 2) rfl;have y1:=zc 1 r4 (.int .i64 id) rfl;have y2:=zc 2 r4 (.string ⟨#[]⟩) rfl;have y3:=zc 3 r4 (.string ⟨#[]⟩) rfl;have y4:=zc 4 r4 (.slice A4 n4 c4) rfl;have y5:=zc 5 r4 (.slice A5 n5 c5) rfl;clear r4;have hE:=qJ (w:=ml) (x:=⟨2,id,nm,dg,li,sl⟩) (y:=(⟨2,id,ByteArray.empty,ByteArray.empty,li,sl⟩:Bb)) (A4':=A4) (n4':=n4) (c4':=c4) (A5':=A5) (n5':=n5) (c5':=c5) (nC.out ml (zu gz gJ.out)) (rq.out ml (zu gz gJ.out)) (nC.out ml (zu gz gJ.out)) (rq.out ml (zu gz gJ.out));rw[ng.out] at hE;go_wp2_with fail
 refine hE.mono ?_;clear b0 b1 b2 b3 b4 b5 y0 y1 y2 y3 y4 y5 hE;rintro e nT ⟨rfl,hb12⟩;have mf:=zt gJ hb12;clear hb12 gy
 cases q1 with
 |false=>
  go_wp2
  go_ret
  exact⟨by rw[HR.out];simp,gz.out.trans (mf.out.mono gz.out.size)⟩
 |true=>
  have r0:=ROW.out nT mf.out;have b1:=zc 1 r0 (.int .i64 id) rfl;clear r0;go_wp2_with fail
  refine(BB (n:=id) (m:=1073741824)).mono ?_;rw[mG.out];clear b1;rintro e pj ⟨rfl,hb13⟩;have gK:=zt mf hb13;clear hb13
  cases q2 with
  |false=>
   go_wp2
   go_ret
   exact⟨by rw[HR.out];simp,gz.out.trans (gK.out.mono gz.out.size)⟩
  |true=>
   go_wp2_with fail
   refine(qk (s:=⟨#[73,76,83]⟩) (c:=78) (by decide)).mono ?_;rw[show qQ ⟨#[73,76,83]⟩ 78=false by decide];rintro e Ge ⟨rfl,hb14⟩;have nO:=zt gK hb14;clear hb14;go_wp2_with fail
   refine(qk (s:=⟨#[73,76,83]⟩) (c:=68) (by decide)).mono ?_;rw[show qQ ⟨#[73,76,83]⟩ 68=false by decide];rintro e vV ⟨rfl,hb15⟩;have mA:=zt nO hb15;clear hb15;have r0:=ROW.out vV mA.out;have b4:=zc 4 r0 (.slice A4 n4 c4) rfl;have b0:=zc 0 r0 (.int .i64 2) rfl;clear r0
   cases q5 with
   |false=>
    have ru:2000<n4:=(by have:=of_decide_eq_false pp.out;have:=mt.out;omega);go_wp2
    go_ret
    exact⟨by rw[HR.out];simp,gz.out.trans (mA.out.mono gz.out.size)⟩
   |true=>
    have ru:¬2000<n4:=by have:=of_decide_eq_true pp.out;have:=mt.out;omega
    cases q6 with
    |false=>
     have rZ:((n4:Int) !=2)=true:=(by have:=of_decide_eq_false HQ6.out;have:=mt.out;simp;omega);go_wp2
     go_ret
     exact⟨by rw[HR.out];simp,gz.out.trans (mA.out.mono gz.out.size)⟩
    |true=>
     have rZ:((n4:Int) !=2)=false:=(by have:=of_decide_eq_true HQ6.out;have:=mt.out;simp;omega);go_wp2_with fail
     refine(qk (s:=⟨#[73,76,83]⟩) (c:=83) (by decide)).mono ?_;rw[show qQ ⟨#[73,76,83]⟩ 83=true by decide];rintro e n7 ⟨rfl,hb16⟩;have mg:=zt mA hb16;clear hb16;clear b4 b0 rZ;have r0:=ROW.out n7 mg.out;have b5:=zc 5 r0 (.slice A5 n5 c5) rfl;clear r0;go_wp2_with fail
     refine(Bj (n:=n5) (l:=1) (m:=14)).mono ?_;rw[show decide (1≤(n5:Int)∧(n5:Int)≤14)=q7 by rw[←HQ7.out,rU.out]];clear b5;rintro e J8 ⟨rfl,hb17⟩;have rV:=zt mg hb17;clear hb17
     cases q7 with
     |false=>
      go_wp2
      go_ret
      exact⟨by rw[HR.out];simp,gz.out.trans (rV.out.mono gz.out.size)⟩
     |true=>
      have HT:Hid (R=(q8&&q9)):=zh (by rw[HR.out];simp);have rP:=rV;clear HR ng mG pp HQ6 HQ7 ru;obtain⟨r0⟩:Nonempty (J8.heap[w.heap.size]?=some (.cells #[.int .i64 2,.int .i64 id,.string nm,.string dg,.slice A4 n4 c4,.slice A5 n5 c5] 61 (0,0))):=⟨ROW.out J8 rP.out⟩;have b4:=zc 4 r0 (.slice A4 n4 c4) rfl;clear r0;go_wp2_with fail
      go_loopw [5] (fun i wr=>∃k:Nat,k≤n4∧i=.int .i64 k∧Hid (Below W0.heap.size W0 wr)∧Hid (∀j,j<k→qg (li.getD j 0)=true)) (fun i _=>n4 - (intOf i).toNat)
      case atStart=>exact⟨0,Nat.zero_le _,rfl,rP,zh (fun j hj=>by omega)⟩
      case round=>
       clear b4;obtain⟨k,hk,rfl,HBr,he⟩:=hrel;have r0:=ROW.out wr HBr.out;have b4:=zc 4 r0 (.slice A4 n4 c4) rfl;clear r0;by_cases hlt:k<n4
       ·obtain⟨b,off,eA,_,hbl,_,hc0,_⟩:=(nC.out wr (zu gz HBr.out)).BN hlt;subst eA;have hkl:k<li.length:=(by have:=mt.out;omega);have HM:=zh (qK (d:=0) hkl);clear hkl;generalize hy:li.getD k 0=y at *;have HY:=zh hy;clear hy;go_wp2_with fail
        refine(BB (n:=y) (m:=1073741824)).mono ?_;rw[show decide (0≤y∧y≤1073741824)=qg y from rfl];clear b4 hc0;rintro e wn ⟨rfl,hbn⟩;have mV:=zt HBr hbn;clear hbn
        cases hn:qg y with
        |false=>
         have HF:Hid (R=false):=zh (by
          have h1:(li.any (fun n=>!qg n))=true:=List.any_eq_true.2 ⟨y,HM.out,by rw[hn];rfl⟩
          rw[HT.out,←pQ.out,h1];rfl)
         clear hn;go_wp2
         go_ret
         exact⟨by rw[HF.out];rfl,gz.out.trans (mV.out.mono gz.out.size)⟩
        |true=>
         have HN:Hid (∀j,j<k+1→qg (li.getD j 0)=true):=zh (fun j hj=>by
          by_cases e:j=k
          ·subst e;rw[HY.out];exact hn
          exact he.out j (by omega))
         clear hn;go_wp2
         go_roundw
         case rel=>exact⟨k+1,by omega,by go_num,mV,HN⟩
         case measure=>simp[intOf];omega
       have p7:Hid (R=q9):=zh (by
        have h1:(li.any (fun n=>!qg n))=false:=List.any_eq_false.2 (fun x hx=>by
         obtain⟨j,hj,e⟩:=List.getElem_of_mem hx;have:=he.out j (by have:=mt.out;omega);rw[List.getD_eq_getElem?_getD,List.getElem?_eq_getElem hj,Option.getD_some,e] at this
         rw[this];decide)
        rw[HT.out,←pQ.out,h1];rfl)
       clear HT pQ he
       rename World=>wo
       have r0:=ROW.out wo HBr.out;have b5:=zc 5 r0 (.slice A5 n5 c5) rfl;clear r0;go_wp2_with fail
       go_loopw [6] (fun i wr=>∃k:Nat,k≤n5∧i=.int .i64 k∧Hid (Below W0.heap.size W0 wr)∧Hid (∀j,j<k→qE (sl.getD j default)=false)) (fun i _=>n5 - (intOf i).toNat)
       case atStart=>exact⟨0,Nat.zero_le _,rfl,HBr,zh (fun j hj=>by omega)⟩
       case round=>
        clear b4 b5;obtain⟨m,hm,rfl,HBs,he⟩:=hrel;have r0:=ROW.out wr HBs.out;have b5:=zc 5 r0 (.slice A5 n5 c5) rfl;clear r0;by_cases nv:m<n5
        ·obtain⟨b,off,eA,_,hbl,_,_,hc0,hc1,_⟩:=(rq.out wr (zu gz HBs.out)).BA nv;subst eA;have hkl:m<sl.length:=(by have:=rU.out;omega);have HM:=zh (qK (d:=default) hkl);clear hkl;generalize hy:sl.getD m default=y at *;have HY:=zh hy;clear hy;go_wp2_with fail
         refine(Bj (n:=y.disk) (l:=-1) (m:=11)).mono ?_;clear b5 hc0;rintro e wn ⟨rfl,hbn⟩;have mV:=zt HBs hbn;have hc1:=(hbn.cell (p:=⟨b,off+m* 2+1,none⟩) hbl).trans hc1;have hbl:=Nat.lt_of_lt_of_le hbl hbn.size;clear hbn;by_cases hd1:(-1≤y.disk∧y.disk≤11)
         ·rw[decide_eq_true hd1];have r0:=ROW.out wn mV.out;have b5:=zc 5 r0 (.slice (some ⟨b,off,none⟩) n5 c5) rfl;clear r0;have yJ:=zh hd1;clear hd1;go_wp2_with fail
          refine(BB (n:=y.pos) (m:=63)).mono ?_;clear b5 hc1;rintro e wp ⟨rfl,hbp⟩;have px:=zt mV hbp;clear hbp;by_cases hd2:(0≤y.pos∧y.pos≤63)
          ·rw[decide_eq_true hd2]
           have HN:Hid (∀j,j<m+1→qE (sl.getD j default)=false):=zh (fun j hj=>by
            by_cases e:j=m
            ·subst e;rw[HY.out];unfold qE;exact decide_eq_false (by have:=yJ.out;omega)
            exact he.out j (by omega))
           clear hd2;go_wp2
           go_roundw
           case rel=>exact⟨m+1,by omega,by go_num,px,HN⟩
           case measure=>simp[intOf];omega
          rw[decide_eq_false hd2]
          have HF:Hid (R=false):=zh (by
           have h1:(sl.any qE)=true:=List.any_eq_true.2 ⟨y,HM.out,by unfold qE;exact decide_eq_true (by omega)⟩
           rw[p7.out,←pR.out,h1];rfl)
          clear hd2;go_wp2
          go_ret
          exact⟨by rw[HF.out];rfl,gz.out.trans (px.out.mono gz.out.size)⟩
         rw[decide_eq_false hd1]
         have HF:Hid (R=false):=zh (by
          have h1:(sl.any qE)=true:=List.any_eq_true.2 ⟨y,HM.out,by unfold qE;exact decide_eq_true (by omega)⟩
          rw[p7.out,←pR.out,h1];rfl)
         clear hd1;go_wp2
         go_ret
         exact⟨by rw[HF.out];rfl,gz.out.trans (mV.out.mono gz.out.size)⟩
        have HF:Hid (R=true):=zh (by
         have h1:(sl.any qE)=false:=List.any_eq_false.2 (fun x hx=>by
          obtain⟨j,hj,e⟩:=List.getElem_of_mem hx;have:=he.out j (by have:=rU.out;omega);rw[List.getD_eq_getElem?_getD,List.getElem?_eq_getElem hj,Option.getD_some,e] at this
          rw[this];decide)
         rw[p7.out,←pR.out,h1];rfl)
        go_wp2
        go_ret
        exact⟨by rw[HF.out];rfl,gz.out.trans (HBs.out.mono gz.out.size)⟩
end Go.Proofs.YtipecejghioicaaGreat
