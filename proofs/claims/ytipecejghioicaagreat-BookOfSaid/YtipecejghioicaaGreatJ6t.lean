/- Siloref13.Record, kind by kind. -/
import Derived.Test.YtipecejghioicaaGreatJ2t
import Derived.Test.YtipecejghioicaaGreatY11t
set_option maxHeartbeats 8000000
set_option maxRecDepth 100000
namespace Go.Proofs.YtipecejghioicaaGreat
open Go.RowKit Go.Silo
theorem yf {id:Int}{nm dg:ByteArray}{li:List Int}{sl:List Slot}:qp ⟨7,id,nm,dg,li,sl⟩=(decide ((⟨7,id,nm,dg,li,sl⟩:Bb)=(⟨7,0,nm,dg,[],[]⟩:Bb))&&(decide (0≤id∧id≤1073741824)&&(decide (1≤(nm.size:Int)∧(nm.size:Int)≤40)&&(decide (dg.size=32)&&(decide (li.length≤2000)&&(!(li.any (fun n=>!qg n))&&!(sl.any qH))))))):=by
 unfold qp;simp only[show qi 7 105=false by decide,show qi 7 110=true by decide,show qi 7 100=true by decide,show qi 7 108=false by decide,show qi 7 115=false by decide];by_cases hI:id=0
 case neg=>
  have hr:¬((⟨7,id,nm,dg,li,sl⟩:Bb)=(⟨7,0,nm,dg,[],[]⟩:Bb)):=fun e=>hI (by injection e);rw[decide_eq_false hr];simp[hI]
 subst hI;by_cases hL:li=[]
 case neg=>
  have hr:¬((⟨7,0,nm,dg,li,sl⟩:Bb)=(⟨7,0,nm,dg,[],[]⟩:Bb)):=fun e=>hL (by injection e);rw[decide_eq_false hr];simp[hL]
 subst hL;by_cases hS:sl=[]
 case neg=>
  have hr:¬((⟨7,0,nm,dg,[],sl⟩:Bb)=(⟨7,0,nm,dg,[],[]⟩:Bb)):=fun e=>hS (by injection e);rw[decide_eq_false hr];simp[hS]
 subst hS;rw[decide_eq_true (rfl:(⟨7,0,nm,dg,[],[]⟩:Bb)=(⟨7,0,nm,dg,[],[]⟩:Bb))];rw[show decide (1≤(nm.size:Int)∧(nm.size:Int)≤40)=decide (1≤nm.size∧nm.size≤40) from decide_eq_decide.2 (by omega)]
 first|(simp[qO,qA,qg];done)|(simp[qO,qA,qg,Bool.and_comm];done)|(simp[qO,qA,qg,Bool.and_assoc,Bool.and_comm,Bool.and_left_comm];done)
theorem JW {tg:Bool}{S:Nat→Prop}{w:World}{A4 A5:Option Addr}{n4 c4 n5 c5:Nat}{id:Int}{nm dg:ByteArray}{li:List Int}{sl:List Slot}(hl:Sl tg 3 Bo w S A4 n4 c4 li) (hs:Sl tg 88 qq w S A5 n5 c5 sl):
  Calls Tryz.prog 31 #[.agg #[.int .i64 7,.int .i64 id,.string nm,.string dg,.slice A4 n4 c4,.slice A5 n5 c5]] w (Bl (.bool (qp ⟨7,id,nm,dg,li,sl⟩)) w):=by
 have hr:=yf (id:=id) (nm:=nm) (dg:=dg) (li:=li) (sl:=sl);generalize qp ⟨7,id,nm,dg,li,sl⟩=R at *;generalize hq1:(decide ((⟨7,id,nm,dg,li,sl⟩:Bb)=(⟨7,0,nm,dg,[],[]⟩:Bb)))=q1 at hr;generalize hq2:(decide (0≤id∧id≤1073741824))=q2 at hr;generalize rE:(decide (1≤(nm.size:Int)∧(nm.size:Int)≤40))=q3 at hr;generalize rf:(decide (dg.size=32))=q4 at hr;generalize px:(decide (li.length≤2000))=q5 at hr;generalize u7:(!(li.any (fun n=>!qg n)))=q8 at hr;generalize u9:(!(sl.any qH))=q9 at hr;have HR:=zh hr;clear hr;have nW:=zh hq1;clear hq1;have p8:=zh hq2;clear hq2;have ug:=zh rE;clear rE;have uh:=zh rf;clear rf;have nX:=zh px;clear px;have pF:=zh u7;clear u7;have pG:=zh u9;clear u9;have mA:=zh hl.len;have pJ:=zh hs.len;have mZ:n4≤9223372036854775807:=Nat.le_trans hl.le hl.cap;have nj:n5≤9223372036854775807:=Nat.le_trans hs.le hs.cap;have mD:=zh (fun V (hV:Below w.heap.size w V)=>hl.all hV);have pP:=zh (fun V (hV:Below w.heap.size w V)=>hs.all hV);clear hl hs
 go_enter Tryz.func31,Tryz.ntmps31
 have hal:Below w.heap.size w (w.alloc (.cells #[.int .i64 7,.int .i64 id,.string nm,.string dg,.slice A4 n4 c4,.slice A5 n5 c5] 61)):=(Below.refl _ _).alloc (Nat.le_refl _) _;have nv:=heap_alloc_new w (.cells #[.int .i64 7,.int .i64 id,.string nm,.string dg,.slice A4 n4 c4,.slice A5 n5 c5] 61);have hz:w.heap.size<(w.alloc (.cells #[.int .i64 7,.int .i64 id,.string nm,.string dg,.slice A4 n4 c4,.slice A5 n5 c5] 61)).heap.size:=by simp
 go_upto_region 1 with (fail)
 generalize (w.alloc (.cells #[.int .i64 7,.int .i64 id,.string nm,.string dg,.slice A4 n4 c4,.slice A5 n5 c5] 61))=W0 at *;have gv:=zh hal;clear hal;have ROW:=zh (fun V (hV:Below W0.heap.size W0 V)=>(show V.heap[w.heap.size]?=some (.cells #[.int .i64 7,.int .i64 id,.string nm,.string dg,.slice A4 n4 c4,.slice A5 n5 c5] 61 (0,0)) from(hV.block _ hz).trans nv));clear nv;have r0:=ROW.out W0 (Below.refl _ _);have b0:=zc 0 r0 (.int .i64 7) rfl;clear r0;go_wp2_with fail
 refine(Bj (n:=7) (l:=1) (m:=8)).mono ?_;rw[decide_eq_true (by decide:(1:Int)≤7∧(7:Int)≤8)];rintro e w1 ⟨rfl,hb1⟩;clear b0;have gH:=zh hb1;clear hb1;have r0:=ROW.out w1 gH.out;have b0:=zc 0 r0 (.int .i64 7) rfl;clear r0;go_wp2_with fail
 refine(zX (k:=7) (by decide)).mono ?_;rw[show Zx 7=⟨#[78,68]⟩ by rfl];rintro e w2 ⟨rfl,hb2⟩;clear b0;have gF:=zt gH hb2;clear hb2;have hz2:w.heap.size<w2.heap.size:=Nat.lt_of_lt_of_le hz gF.out.size;have r0:=ROW.out w2 gF.out;have b0:=zc 0 r0 (.int .i64 7) rfl;clear r0
 go_upto_region 5 with (fail)
 have gT:Below w2.heap.size w2 (w2.alloc (.cells #[.int .i64 7,.int .i64 0,.string ⟨#[]⟩,.string ⟨#[]⟩,.slice none 0 0,.slice none 0 0] 61)):=(Below.refl _ _).alloc (Nat.le_refl _) _;have ua:=heap_alloc_new w2 (.cells #[.int .i64 7,.int .i64 0,.string ⟨#[]⟩,.string ⟨#[]⟩,.slice none 0 0,.slice none 0 0] 61);have hz3:w2.heap.size<(w2.alloc (.cells #[.int .i64 7,.int .i64 0,.string ⟨#[]⟩,.string ⟨#[]⟩,.slice none 0 0,.slice none 0 0] 61)).heap.size:=by simp
 generalize (w2.alloc (.cells #[.int .i64 7,.int .i64 0,.string ⟨#[]⟩,.string ⟨#[]⟩,.slice none 0 0,.slice none 0 0] 61))=w3 at *;clear b0;have mr:=zt gF gT;clear gT;generalize hg:w2.heap.size=g at *;have hg0:w.heap.size<g:=by omega
 have ub:W0.heap.size≤g:=by rw[←hg];exact gF.out.size
 clear hg;have gw:Hid (w3.heap[g]?=some (.cells #[.int .i64 7,.int .i64 0,.string ⟨#[]⟩,.string ⟨#[]⟩,.slice none 0 0,.slice none 0 0] 61 (0,0))):=zh ua;clear ua;go_wp2_with fail
 refine(ql (s:=⟨#[78,68]⟩) (c:=73) (by decide)).mono ?_;rw[show qS ⟨#[78,68]⟩ 73=false by decide];rintro e w4 ⟨rfl,hb4⟩;have gW:=zt mr hb4;have gw:Hid (w4.heap[g]?=some (.cells #[.int .i64 7,.int .i64 0,.string ⟨#[]⟩,.string ⟨#[]⟩,.slice none 0 0,.slice none 0 0] 61 (0,0))):=zh ((hb4.block g (zl gw.out)).trans gw.out);clear hb4;go_wp2_with fail
 refine(ql (s:=⟨#[78,68]⟩) (c:=78) (by decide)).mono ?_;rw[show qS ⟨#[78,68]⟩ 78=true by decide];rintro e w5 ⟨rfl,gG⟩;have mo:=zt gW gG;have gw:Hid (w5.heap[g]?=some (.cells #[.int .i64 7,.int .i64 0,.string ⟨#[]⟩,.string ⟨#[]⟩,.slice none 0 0,.slice none 0 0] 61 (0,0))):=zh ((gG.block g (zl gw.out)).trans gw.out);clear gG;have r0:=ROW.out w5 mo.out;have b2:=zc 2 r0 (.string nm) rfl;clear r0;have hr4:=gw.out;have y0:=zc 2 hr4 (.string ⟨#[]⟩) rfl;have z0:=zf 2 hr4;have gA:(w5.setCell ⟨g,2,none⟩ (.string nm)).heap[g]?=some (.cells #[.int .i64 7,.int .i64 0,.string nm,.string ⟨#[]⟩,.slice none 0 0,.slice none 0 0] 61 (0,0)):=by rw[setCell_eq_setRow w5 g _ _ 61 (0,0) _ hr4];exact setRow_heap w5 g _ _ 61 (0,0) hr4
 have hbs:Below g w5 (w5.setCell ⟨g,2,none⟩ (.string nm)):=(Below.refl g _).setCell (p:=⟨g,2,none⟩) (Nat.le_refl g) _;clear hr4
 go_upto_region 9 with (fail)
 generalize (w5.setCell ⟨g,2,none⟩ (.string nm))=w6 at *;clear b2 y0 z0;have gz:=zh (mo.out.trans (hbs.mono ub));have gw:=zh gA;clear hbs gA;go_wp2_with fail
 refine(ql (s:=⟨#[78,68]⟩) (c:=68) (by decide)).mono ?_;rw[show qS ⟨#[78,68]⟩ 68=true by decide];rintro e w7 ⟨rfl,gq⟩;have gQ:=zt gz gq;have gw:Hid (w7.heap[g]?=some (.cells #[.int .i64 7,.int .i64 0,.string nm,.string ⟨#[]⟩,.slice none 0 0,.slice none 0 0] 61 (0,0))):=zh ((gq.block g (zl gw.out)).trans gw.out);clear gq;have r0:=ROW.out w7 gQ.out;have b3:=zc 3 r0 (.string dg) rfl;clear r0;have hr4:=gw.out;have y0:=zc 3 hr4 (.string ⟨#[]⟩) rfl;have z0:=zf 3 hr4;have gA:(w7.setCell ⟨g,3,none⟩ (.string dg)).heap[g]?=some (.cells #[.int .i64 7,.int .i64 0,.string nm,.string dg,.slice none 0 0,.slice none 0 0] 61 (0,0)):=by rw[setCell_eq_setRow w7 g _ _ 61 (0,0) _ hr4];exact setRow_heap w7 g _ _ 61 (0,0) hr4
 have hbs:Below g w7 (w7.setCell ⟨g,3,none⟩ (.string dg)):=(Below.refl g _).setCell (p:=⟨g,3,none⟩) (Nat.le_refl g) _;clear hr4
 go_upto_region 11 with (fail)
 generalize (w7.setCell ⟨g,3,none⟩ (.string dg))=w8 at *;clear b3 y0 z0;have pX:=zh (gQ.out.trans (hbs.mono ub));have gw:=zh gA;clear hbs gA;go_wp2_with fail
 refine(ql (s:=⟨#[78,68]⟩) (c:=76) (by decide)).mono ?_;rw[show qS ⟨#[78,68]⟩ 76=false by decide];rintro e w9 ⟨rfl,mb⟩;have gD:=zt pX mb;have gw:Hid (w9.heap[g]?=some (.cells #[.int .i64 7,.int .i64 0,.string nm,.string dg,.slice none 0 0,.slice none 0 0] 61 (0,0))):=zh ((mb.block g (zl gw.out)).trans gw.out);clear mb;go_wp2_with fail
 refine(ql (s:=⟨#[78,68]⟩) (c:=83) (by decide)).mono ?_;rw[show qS ⟨#[78,68]⟩ 83=false by decide];rintro e mR ⟨rfl,gK⟩;have mh:=zt gD gK;have gw:Hid (mR.heap[g]?=some (.cells #[.int .i64 7,.int .i64 0,.string nm,.string dg,.slice none 0 0,.slice none 0 0] 61 (0,0))):=zh ((gK.block g (zl gw.out)).trans gw.out);clear gK;have r0:=ROW.out mR mh.out;have b0:=zc 0 r0 (.int .i64 7) rfl;have b1:=zc 1 r0 (.int .i64 id) rfl;have b2:=zc 2 r0 (.string nm) rfl;have b3:=zc 3 r0 (.string dg) rfl;have b4:=zc 4 r0 (.slice A4 n4 c4) rfl;have b5:=zc 5 r0 (.slice A5 n5 c5) rfl;clear r0;have r4:=gw.out;have y0:=zc 0 r4 (.int .i64 7) rfl;have y1:=zc 1 r4 (.int .i64 0) rfl;have y2:=zc 2 r4 (.string nm) rfl;have y3:=zc 3 r4 (.string dg) rfl;have y4:=zc 4 r4 (.slice none 0 0) rfl;have y5:=zc 5 r4 (.slice none 0 0) rfl;clear r4;have hE:=zC (w:=mR) (x:=⟨7,id,nm,dg,li,sl⟩) (y:=(⟨7,0,nm,dg,[],[]⟩:Bb)) (A4':=none) (n4':=0) (c4':=0) (A5':=none) (n5':=0) (c5':=0) (mD.out mR (zu gv mh.out)) (pP.out mR (zu gv mh.out)) ((Sl.Bp (by omega):Sl tg 3 Bo _ S none 0 0 _)) ((Sl.Bp (by omega):Sl tg 88 qq _ S none 0 0 _));rw[nW.out] at hE;go_wp2_with fail
 refine hE.mono ?_;clear b0 b1 b2 b3 b4 b5 y0 y1 y2 y3 y4 y5 hE;rintro e nu ⟨rfl,gX⟩;have mq:=zt mh gX;clear gX gw
 cases q1 with
 |false=>
  go_wp2
  go_ret
  exact⟨by rw[HR.out];simp,gv.out.trans (mq.out.mono gv.out.size)⟩
 |true=>
  have r0:=ROW.out nu mq.out;have b1:=zc 1 r0 (.int .i64 id) rfl;clear r0;go_wp2_with fail
  refine(BB (n:=id) (m:=1073741824)).mono ?_;rw[p8.out];clear b1;rintro e uv ⟨rfl,hb12⟩;have nb:=zt mq hb12;clear hb12
  cases q2 with
  |false=>
   go_wp2
   go_ret
   exact⟨by rw[HR.out];simp,gv.out.trans (nb.out.mono gv.out.size)⟩
  |true=>
   go_wp2_with fail
   refine(ql (s:=⟨#[78,68]⟩) (c:=78) (by decide)).mono ?_;rw[show qS ⟨#[78,68]⟩ 78=true by decide];rintro e x8 ⟨rfl,hb13⟩;have mU:=zt nb hb13;clear hb13;have r0:=ROW.out x8 mU.out;have b2:=zc 2 r0 (.string nm) rfl;clear r0;go_wp2_with fail
   refine(Bj (n:=nm.size) (l:=1) (m:=40)).mono ?_;rw[ug.out];clear b2;rintro e yI ⟨rfl,hb14⟩;have nG:=zt mU hb14;clear hb14
   cases q3 with
   |false=>
    go_wp2
    go_ret
    exact⟨by rw[HR.out];simp,gv.out.trans (nG.out.mono gv.out.size)⟩
   |true=>
    go_wp2_with fail
    refine(ql (s:=⟨#[78,68]⟩) (c:=68) (by decide)).mono ?_;rw[show qS ⟨#[78,68]⟩ 68=true by decide];rintro e ux ⟨rfl,hb15⟩;have ng:=zt nG hb15;clear hb15;have r0:=ROW.out ux ng.out;have b3:=zc 3 r0 (.string dg) rfl;have b4:=zc 4 r0 (.slice A4 n4 c4) rfl;have b0:=zc 0 r0 (.int .i64 7) rfl;clear r0
    cases q4 with
    |false=>
     have hd:((dg.size:Int) !=32)=true:=(by have:=of_decide_eq_false uh.out;simp;omega);go_wp2
     go_ret
     exact⟨by rw[HR.out];simp,gv.out.trans (ng.out.mono gv.out.size)⟩
    |true=>
     have hd:((dg.size:Int) !=32)=false:=by have:=of_decide_eq_true uh.out;simp;omega
     cases q5 with
     |false=>
      have pQ:2000<n4:=(by have:=of_decide_eq_false nX.out;have:=mA.out;omega);go_wp2
      go_ret
      exact⟨by rw[HR.out];simp,gv.out.trans (ng.out.mono gv.out.size)⟩
     |true=>
      have pQ:¬2000<n4:=(by have:=of_decide_eq_true nX.out;have:=mA.out;omega);go_wp2_with fail
      refine(ql (s:=⟨#[78,68]⟩) (c:=83) (by decide)).mono ?_;rw[show qS ⟨#[78,68]⟩ 83=false by decide];rintro e yR ⟨rfl,hb16⟩;have ud:=zt ng hb16;clear hb16;clear b4 b0 b3 hd;have HT:Hid (R=(q8&&q9)):=zh (by rw[HR.out];simp);have pR:=ud;clear HR nW p8 ug uh nX pQ;obtain⟨r0⟩:Nonempty (yR.heap[w.heap.size]?=some (.cells #[.int .i64 7,.int .i64 id,.string nm,.string dg,.slice A4 n4 c4,.slice A5 n5 c5] 61 (0,0))):=⟨ROW.out yR pR.out⟩;have b4:=zc 4 r0 (.slice A4 n4 c4) rfl;clear r0;go_wp2_with fail
      go_loopw [5] (fun i wr=>∃k:Nat,k≤n4∧i=.int .i64 k∧Hid (Below W0.heap.size W0 wr)∧Hid (∀j,j<k→qg (li.getD j 0)=true)) (fun i _=>n4 - (intOf i).toNat)
      case atStart=>exact⟨0,Nat.zero_le _,rfl,pR,zh (fun j hj=>by omega)⟩
      case round=>
       clear b4;obtain⟨k,hk,rfl,HBr,he⟩:=hrel;have r0:=ROW.out wr HBr.out;have b4:=zc 4 r0 (.slice A4 n4 c4) rfl;clear r0;by_cases hlt:k<n4
       ·obtain⟨b,off,eA,_,hbl,_,hc0,_⟩:=(mD.out wr (zu gv HBr.out)).BR hlt;subst eA;have hkl:k<li.length:=(by have:=mA.out;omega);have HM:=zh (qP (d:=0) hkl);clear hkl;generalize hy:li.getD k 0=y at *;have HY:=zh hy;clear hy;go_wp2_with fail
        refine(BB (n:=y) (m:=1073741824)).mono ?_;rw[show decide (0≤y∧y≤1073741824)=qg y from rfl];clear b4 hc0;rintro e wn ⟨rfl,hbn⟩;have mO:=zt HBr hbn;clear hbn
        cases hn:qg y with
        |false=>
         have HF:Hid (R=false):=zh (by
          have h1:(li.any (fun n=>!qg n))=true:=List.any_eq_true.2 ⟨y,HM.out,by rw[hn];rfl⟩
          rw[HT.out,←pF.out,h1];rfl)
         clear hn;go_wp2
         go_ret
         exact⟨by rw[HF.out];rfl,gv.out.trans (mO.out.mono gv.out.size)⟩
        |true=>
         have HN:Hid (∀j,j<k+1→qg (li.getD j 0)=true):=zh (fun j hj=>by
          by_cases e:j=k
          ·subst e;rw[HY.out];exact hn
          exact he.out j (by omega))
         clear hn;go_wp2
         go_roundw
         case rel=>exact⟨k+1,by omega,by go_num,mO,HN⟩
         case measure=>simp[intOf];omega
       have nO:Hid (R=q9):=zh (by
        have h1:(li.any (fun n=>!qg n))=false:=List.any_eq_false.2 (fun x hx=>by
         obtain⟨j,hj,e⟩:=List.getElem_of_mem hx;have:=he.out j (by have:=mA.out;omega);rw[List.getD_eq_getElem?_getD,List.getElem?_eq_getElem hj,Option.getD_some,e] at this
         rw[this];decide)
        rw[HT.out,←pF.out,h1];rfl)
       clear HT pF he
       rename World=>wo
       have r0:=ROW.out wo HBr.out;have b5:=zc 5 r0 (.slice A5 n5 c5) rfl;clear r0;go_wp2_with fail
       go_loopw [6] (fun i wr=>∃k:Nat,k≤n5∧i=.int .i64 k∧Hid (Below W0.heap.size W0 wr)∧Hid (∀j,j<k→qH (sl.getD j default)=false)) (fun i _=>n5 - (intOf i).toNat)
       case atStart=>exact⟨0,Nat.zero_le _,rfl,HBr,zh (fun j hj=>by omega)⟩
       case round=>
        clear b4 b5;obtain⟨m,hm,rfl,HBs,he⟩:=hrel;have r0:=ROW.out wr HBs.out;have b5:=zc 5 r0 (.slice A5 n5 c5) rfl;clear r0;by_cases ny:m<n5
        ·obtain⟨b,off,eA,_,hbl,_,_,hc0,hc1,_⟩:=(pP.out wr (zu gv HBs.out)).BM ny;subst eA;have hkl:m<sl.length:=(by have:=pJ.out;omega);have HM:=zh (qP (d:=default) hkl);clear hkl;generalize hy:sl.getD m default=y at *;have HY:=zh hy;clear hy;go_wp2_with fail
         refine(Bj (n:=y.disk) (l:=-1) (m:=11)).mono ?_;clear b5 hc0;rintro e wn ⟨rfl,hbn⟩;have mO:=zt HBs hbn;have hc1:=(hbn.cell (p:=⟨b,off+m* 2+1,none⟩) hbl).trans hc1;have hbl:=Nat.lt_of_lt_of_le hbl hbn.size;clear hbn;by_cases hd1:(-1≤y.disk∧y.disk≤11)
         ·rw[decide_eq_true hd1];have r0:=ROW.out wn mO.out;have b5:=zc 5 r0 (.slice (some ⟨b,off,none⟩) n5 c5) rfl;clear r0;have yx:=zh hd1;clear hd1;go_wp2_with fail
          refine(BB (n:=y.pos) (m:=63)).mono ?_;clear b5 hc1;rintro e wp ⟨rfl,hbp⟩;have p7:=zt mO hbp;clear hbp;by_cases hd2:(0≤y.pos∧y.pos≤63)
          ·rw[decide_eq_true hd2]
           have HN:Hid (∀j,j<m+1→qH (sl.getD j default)=false):=zh (fun j hj=>by
            by_cases e:j=m
            ·subst e;rw[HY.out];unfold qH;exact decide_eq_false (by have:=yx.out;omega)
            exact he.out j (by omega))
           clear hd2;go_wp2
           go_roundw
           case rel=>exact⟨m+1,by omega,by go_num,p7,HN⟩
           case measure=>simp[intOf];omega
          rw[decide_eq_false hd2]
          have HF:Hid (R=false):=zh (by
           have h1:(sl.any qH)=true:=List.any_eq_true.2 ⟨y,HM.out,by unfold qH;exact decide_eq_true (by omega)⟩
           rw[nO.out,←pG.out,h1];rfl)
          clear hd2;go_wp2
          go_ret
          exact⟨by rw[HF.out];rfl,gv.out.trans (p7.out.mono gv.out.size)⟩
         rw[decide_eq_false hd1]
         have HF:Hid (R=false):=zh (by
          have h1:(sl.any qH)=true:=List.any_eq_true.2 ⟨y,HM.out,by unfold qH;exact decide_eq_true (by omega)⟩
          rw[nO.out,←pG.out,h1];rfl)
         clear hd1;go_wp2
         go_ret
         exact⟨by rw[HF.out];rfl,gv.out.trans (mO.out.mono gv.out.size)⟩
        have HF:Hid (R=true):=zh (by
         have h1:(sl.any qH)=false:=List.any_eq_false.2 (fun x hx=>by
          obtain⟨j,hj,e⟩:=List.getElem_of_mem hx;have:=he.out j (by have:=pJ.out;omega);rw[List.getD_eq_getElem?_getD,List.getElem?_eq_getElem hj,Option.getD_some,e] at this
          rw[this];decide)
         rw[nO.out,←pG.out,h1];rfl)
        go_wp2
        go_ret
        exact⟨by rw[HF.out];rfl,gv.out.trans (HBs.out.mono gv.out.size)⟩
theorem yh {id:Int}{nm dg:ByteArray}{li:List Int}{sl:List Slot}:qp ⟨8,id,nm,dg,li,sl⟩=(decide ((⟨8,id,nm,dg,li,sl⟩:Bb)=(⟨8,0,nm,ByteArray.empty,[],[]⟩:Bb))&&(decide (0≤id∧id≤1073741824)&&(decide (1≤(nm.size:Int)∧(nm.size:Int)≤40)&&(decide (li.length≤2000)&&(!(li.any (fun n=>!qg n))&&!(sl.any qH)))))):=by
 unfold qp;simp only[show qi 8 105=false by decide,show qi 8 110=true by decide,show qi 8 100=false by decide,show qi 8 108=false by decide,show qi 8 115=false by decide];by_cases hI:id=0
 case neg=>
  have hr:¬((⟨8,id,nm,dg,li,sl⟩:Bb)=(⟨8,0,nm,ByteArray.empty,[],[]⟩:Bb)):=fun e=>hI (by injection e);rw[decide_eq_false hr];simp[hI]
 subst hI;by_cases hD:dg=ByteArray.empty
 case neg=>
  have hr:¬((⟨8,0,nm,dg,li,sl⟩:Bb)=(⟨8,0,nm,ByteArray.empty,[],[]⟩:Bb)):=fun e=>hD (by injection e);rw[decide_eq_false hr];simp[hD]
 subst hD;by_cases hL:li=[]
 case neg=>
  have hr:¬((⟨8,0,nm,ByteArray.empty,li,sl⟩:Bb)=(⟨8,0,nm,ByteArray.empty,[],[]⟩:Bb)):=fun e=>hL (by injection e);rw[decide_eq_false hr];simp[hL]
 subst hL;by_cases hS:sl=[]
 case neg=>
  have hr:¬((⟨8,0,nm,ByteArray.empty,[],sl⟩:Bb)=(⟨8,0,nm,ByteArray.empty,[],[]⟩:Bb)):=fun e=>hS (by injection e);rw[decide_eq_false hr];simp[hS]
 subst hS;rw[decide_eq_true (rfl:(⟨8,0,nm,ByteArray.empty,[],[]⟩:Bb)=(⟨8,0,nm,ByteArray.empty,[],[]⟩:Bb))];rw[show decide (1≤(nm.size:Int)∧(nm.size:Int)≤40)=decide (1≤nm.size∧nm.size≤40) from decide_eq_decide.2 (by omega)]
 first|(simp[qO,qA,qg];done)|(simp[qO,qA,qg,Bool.and_comm];done)|(simp[qO,qA,qg,Bool.and_assoc,Bool.and_comm,Bool.and_left_comm];done)
theorem JX {tg:Bool}{S:Nat→Prop}{w:World}{A4 A5:Option Addr}{n4 c4 n5 c5:Nat}{id:Int}{nm dg:ByteArray}{li:List Int}{sl:List Slot}(hl:Sl tg 3 Bo w S A4 n4 c4 li) (hs:Sl tg 88 qq w S A5 n5 c5 sl):
  Calls Tryz.prog 31 #[.agg #[.int .i64 8,.int .i64 id,.string nm,.string dg,.slice A4 n4 c4,.slice A5 n5 c5]] w (Bl (.bool (qp ⟨8,id,nm,dg,li,sl⟩)) w):=by
 have hr:=yh (id:=id) (nm:=nm) (dg:=dg) (li:=li) (sl:=sl);generalize qp ⟨8,id,nm,dg,li,sl⟩=R at *;generalize hq1:(decide ((⟨8,id,nm,dg,li,sl⟩:Bb)=(⟨8,0,nm,ByteArray.empty,[],[]⟩:Bb)))=q1 at hr;generalize hq2:(decide (0≤id∧id≤1073741824))=q2 at hr;generalize rE:(decide (1≤(nm.size:Int)∧(nm.size:Int)≤40))=q3 at hr;generalize px:(decide (li.length≤2000))=q5 at hr;generalize u7:(!(li.any (fun n=>!qg n)))=q8 at hr;generalize u9:(!(sl.any qH))=q9 at hr;have HR:=zh hr;clear hr;have nW:=zh hq1;clear hq1;have p8:=zh hq2;clear hq2;have ug:=zh rE;clear rE;have nX:=zh px;clear px;have pF:=zh u7;clear u7;have pG:=zh u9;clear u9;have mA:=zh hl.len;have pJ:=zh hs.len;have mZ:n4≤9223372036854775807:=Nat.le_trans hl.le hl.cap;have nj:n5≤9223372036854775807:=Nat.le_trans hs.le hs.cap;have mD:=zh (fun V (hV:Below w.heap.size w V)=>hl.all hV);have pP:=zh (fun V (hV:Below w.heap.size w V)=>hs.all hV);clear hl hs
 go_enter Tryz.func31,Tryz.ntmps31
 have hal:Below w.heap.size w (w.alloc (.cells #[.int .i64 8,.int .i64 id,.string nm,.string dg,.slice A4 n4 c4,.slice A5 n5 c5] 61)):=(Below.refl _ _).alloc (Nat.le_refl _) _;have nv:=heap_alloc_new w (.cells #[.int .i64 8,.int .i64 id,.string nm,.string dg,.slice A4 n4 c4,.slice A5 n5 c5] 61);have hz:w.heap.size<(w.alloc (.cells #[.int .i64 8,.int .i64 id,.string nm,.string dg,.slice A4 n4 c4,.slice A5 n5 c5] 61)).heap.size:=by simp
 go_upto_region 1 with (fail)
 generalize (w.alloc (.cells #[.int .i64 8,.int .i64 id,.string nm,.string dg,.slice A4 n4 c4,.slice A5 n5 c5] 61))=W0 at *;have gv:=zh hal;clear hal;have ROW:=zh (fun V (hV:Below W0.heap.size W0 V)=>(show V.heap[w.heap.size]?=some (.cells #[.int .i64 8,.int .i64 id,.string nm,.string dg,.slice A4 n4 c4,.slice A5 n5 c5] 61 (0,0)) from(hV.block _ hz).trans nv));clear nv;have r0:=ROW.out W0 (Below.refl _ _);have b0:=zc 0 r0 (.int .i64 8) rfl;clear r0;go_wp2_with fail
 refine(Bj (n:=8) (l:=1) (m:=8)).mono ?_;rw[decide_eq_true (by decide:(1:Int)≤8∧(8:Int)≤8)];rintro e w1 ⟨rfl,hb1⟩;clear b0;have gH:=zh hb1;clear hb1;have r0:=ROW.out w1 gH.out;have b0:=zc 0 r0 (.int .i64 8) rfl;clear r0;go_wp2_with fail
 refine(zX (k:=8) (by decide)).mono ?_;rw[show Zx 8=⟨#[78]⟩ by rfl];rintro e w2 ⟨rfl,hb2⟩;clear b0;have gF:=zt gH hb2;clear hb2;have hz2:w.heap.size<w2.heap.size:=Nat.lt_of_lt_of_le hz gF.out.size;have r0:=ROW.out w2 gF.out;have b0:=zc 0 r0 (.int .i64 8) rfl;clear r0
 go_upto_region 5 with (fail)
 have gT:Below w2.heap.size w2 (w2.alloc (.cells #[.int .i64 8,.int .i64 0,.string ⟨#[]⟩,.string ⟨#[]⟩,.slice none 0 0,.slice none 0 0] 61)):=(Below.refl _ _).alloc (Nat.le_refl _) _;have ua:=heap_alloc_new w2 (.cells #[.int .i64 8,.int .i64 0,.string ⟨#[]⟩,.string ⟨#[]⟩,.slice none 0 0,.slice none 0 0] 61);have hz3:w2.heap.size<(w2.alloc (.cells #[.int .i64 8,.int .i64 0,.string ⟨#[]⟩,.string ⟨#[]⟩,.slice none 0 0,.slice none 0 0] 61)).heap.size:=by simp
 generalize (w2.alloc (.cells #[.int .i64 8,.int .i64 0,.string ⟨#[]⟩,.string ⟨#[]⟩,.slice none 0 0,.slice none 0 0] 61))=w3 at *;clear b0;have mr:=zt gF gT;clear gT;generalize hg:w2.heap.size=g at *;have hg0:w.heap.size<g:=by omega
 have ub:W0.heap.size≤g:=by rw[←hg];exact gF.out.size
 clear hg;have gw:Hid (w3.heap[g]?=some (.cells #[.int .i64 8,.int .i64 0,.string ⟨#[]⟩,.string ⟨#[]⟩,.slice none 0 0,.slice none 0 0] 61 (0,0))):=zh ua;clear ua;go_wp2_with fail
 refine(ql (s:=⟨#[78]⟩) (c:=73) (by decide)).mono ?_;rw[show qS ⟨#[78]⟩ 73=false by decide];rintro e w4 ⟨rfl,hb4⟩;have gW:=zt mr hb4;have gw:Hid (w4.heap[g]?=some (.cells #[.int .i64 8,.int .i64 0,.string ⟨#[]⟩,.string ⟨#[]⟩,.slice none 0 0,.slice none 0 0] 61 (0,0))):=zh ((hb4.block g (zl gw.out)).trans gw.out);clear hb4;go_wp2_with fail
 refine(ql (s:=⟨#[78]⟩) (c:=78) (by decide)).mono ?_;rw[show qS ⟨#[78]⟩ 78=true by decide];rintro e w5 ⟨rfl,gG⟩;have mo:=zt gW gG;have gw:Hid (w5.heap[g]?=some (.cells #[.int .i64 8,.int .i64 0,.string ⟨#[]⟩,.string ⟨#[]⟩,.slice none 0 0,.slice none 0 0] 61 (0,0))):=zh ((gG.block g (zl gw.out)).trans gw.out);clear gG;have r0:=ROW.out w5 mo.out;have b2:=zc 2 r0 (.string nm) rfl;clear r0;have hr4:=gw.out;have y0:=zc 2 hr4 (.string ⟨#[]⟩) rfl;have z0:=zf 2 hr4;have gA:(w5.setCell ⟨g,2,none⟩ (.string nm)).heap[g]?=some (.cells #[.int .i64 8,.int .i64 0,.string nm,.string ⟨#[]⟩,.slice none 0 0,.slice none 0 0] 61 (0,0)):=by rw[setCell_eq_setRow w5 g _ _ 61 (0,0) _ hr4];exact setRow_heap w5 g _ _ 61 (0,0) hr4
 have hbs:Below g w5 (w5.setCell ⟨g,2,none⟩ (.string nm)):=(Below.refl g _).setCell (p:=⟨g,2,none⟩) (Nat.le_refl g) _;clear hr4
 go_upto_region 9 with (fail)
 generalize (w5.setCell ⟨g,2,none⟩ (.string nm))=w6 at *;clear b2 y0 z0;have gz:=zh (mo.out.trans (hbs.mono ub));have gw:=zh gA;clear hbs gA;go_wp2_with fail
 refine(ql (s:=⟨#[78]⟩) (c:=68) (by decide)).mono ?_;rw[show qS ⟨#[78]⟩ 68=false by decide];rintro e w7 ⟨rfl,gq⟩;have gQ:=zt gz gq;have gw:Hid (w7.heap[g]?=some (.cells #[.int .i64 8,.int .i64 0,.string nm,.string ⟨#[]⟩,.slice none 0 0,.slice none 0 0] 61 (0,0))):=zh ((gq.block g (zl gw.out)).trans gw.out);clear gq;go_wp2_with fail
 refine(ql (s:=⟨#[78]⟩) (c:=76) (by decide)).mono ?_;rw[show qS ⟨#[78]⟩ 76=false by decide];rintro e w8 ⟨rfl,hb8⟩;have pX:=zt gQ hb8;have gw:Hid (w8.heap[g]?=some (.cells #[.int .i64 8,.int .i64 0,.string nm,.string ⟨#[]⟩,.slice none 0 0,.slice none 0 0] 61 (0,0))):=zh ((hb8.block g (zl gw.out)).trans gw.out);clear hb8;go_wp2_with fail
 refine(ql (s:=⟨#[78]⟩) (c:=83) (by decide)).mono ?_;rw[show qS ⟨#[78]⟩ 83=false by decide];rintro e w9 ⟨rfl,mb⟩;have gD:=zt pX mb;have gw:Hid (w9.heap[g]?=some (.cells #[.int .i64 8,.int .i64 0,.string nm,.string ⟨#[]⟩,.slice none 0 0,.slice none 0 0] 61 (0,0))):=zh ((mb.block g (zl gw.out)).trans gw.out);clear mb;have r0:=ROW.out w9 gD.out;have b0:=zc 0 r0 (.int .i64 8) rfl;have b1:=zc 1 r0 (.int .i64 id) rfl;have b2:=zc 2 r0 (.string nm) rfl;have b3:=zc 3 r0 (.string dg) rfl;have b4:=zc 4 r0 (.slice A4 n4 c4) rfl;have b5:=zc 5 r0 (.slice A5 n5 c5) rfl;clear r0;have r4:=gw.out;have y0:=zc 0 r4 (.int .i64 8) rfl;have y1:=zc 1 r4 (.int .i64 0) rfl;have y2:=zc 2 r4 (.string nm) rfl;have y3:=zc 3 r4 (.string ⟨#[]⟩) rfl;have y4:=zc 4 r4 (.slice none 0 0) rfl;have y5:=zc 5 r4 (.slice none 0 0) rfl;clear r4;have hE:=zC (w:=w9) (x:=⟨8,id,nm,dg,li,sl⟩) (y:=(⟨8,0,nm,ByteArray.empty,[],[]⟩:Bb)) (A4':=none) (n4':=0) (c4':=0) (A5':=none) (n5':=0) (c5':=0) (mD.out w9 (zu gv gD.out)) (pP.out w9 (zu gv gD.out)) ((Sl.Bp (by omega):Sl tg 3 Bo _ S none 0 0 _)) ((Sl.Bp (by omega):Sl tg 88 qq _ S none 0 0 _));rw[nW.out] at hE;go_wp2_with fail
 refine hE.mono ?_;clear b0 b1 b2 b3 b4 b5 y0 y1 y2 y3 y4 y5 hE;rintro e mR ⟨rfl,gK⟩;have mh:=zt gD gK;clear gK gw
 cases q1 with
 |false=>
  go_wp2
  go_ret
  exact⟨by rw[HR.out];simp,gv.out.trans (mh.out.mono gv.out.size)⟩
 |true=>
  have r0:=ROW.out mR mh.out;have b1:=zc 1 r0 (.int .i64 id) rfl;clear r0;go_wp2_with fail
  refine(BB (n:=id) (m:=1073741824)).mono ?_;rw[p8.out];clear b1;rintro e nu ⟨rfl,gX⟩;have mq:=zt mh gX;clear gX
  cases q2 with
  |false=>
   go_wp2
   go_ret
   exact⟨by rw[HR.out];simp,gv.out.trans (mq.out.mono gv.out.size)⟩
  |true=>
   go_wp2_with fail
   refine(ql (s:=⟨#[78]⟩) (c:=78) (by decide)).mono ?_;rw[show qS ⟨#[78]⟩ 78=true by decide];rintro e uv ⟨rfl,hb12⟩;have nb:=zt mq hb12;clear hb12;have r0:=ROW.out uv nb.out;have b2:=zc 2 r0 (.string nm) rfl;clear r0;go_wp2_with fail
   refine(Bj (n:=nm.size) (l:=1) (m:=40)).mono ?_;rw[ug.out];clear b2;rintro e x8 ⟨rfl,hb13⟩;have mU:=zt nb hb13;clear hb13
   cases q3 with
   |false=>
    go_wp2
    go_ret
    exact⟨by rw[HR.out];simp,gv.out.trans (mU.out.mono gv.out.size)⟩
   |true=>
    go_wp2_with fail
    refine(ql (s:=⟨#[78]⟩) (c:=68) (by decide)).mono ?_;rw[show qS ⟨#[78]⟩ 68=false by decide];rintro e yI ⟨rfl,hb14⟩;have nG:=zt mU hb14;clear hb14;have r0:=ROW.out yI nG.out;have b4:=zc 4 r0 (.slice A4 n4 c4) rfl;have b0:=zc 0 r0 (.int .i64 8) rfl;clear r0
    cases q5 with
    |false=>
     have pQ:2000<n4:=(by have:=of_decide_eq_false nX.out;have:=mA.out;omega);go_wp2
     go_ret
     exact⟨by rw[HR.out];simp,gv.out.trans (nG.out.mono gv.out.size)⟩
    |true=>
     have pQ:¬2000<n4:=(by have:=of_decide_eq_true nX.out;have:=mA.out;omega);go_wp2_with fail
     refine(ql (s:=⟨#[78]⟩) (c:=83) (by decide)).mono ?_;rw[show qS ⟨#[78]⟩ 83=false by decide];rintro e ux ⟨rfl,hb15⟩;have ng:=zt nG hb15;clear hb15;clear b4 b0;have HT:Hid (R=(q8&&q9)):=zh (by rw[HR.out];simp);have pR:=ng;clear HR nW p8 ug nX pQ;obtain⟨r0⟩:Nonempty (ux.heap[w.heap.size]?=some (.cells #[.int .i64 8,.int .i64 id,.string nm,.string dg,.slice A4 n4 c4,.slice A5 n5 c5] 61 (0,0))):=⟨ROW.out ux pR.out⟩;have b4:=zc 4 r0 (.slice A4 n4 c4) rfl;clear r0;go_wp2_with fail
     go_loopw [5] (fun i wr=>∃k:Nat,k≤n4∧i=.int .i64 k∧Hid (Below W0.heap.size W0 wr)∧Hid (∀j,j<k→qg (li.getD j 0)=true)) (fun i _=>n4 - (intOf i).toNat)
     case atStart=>exact⟨0,Nat.zero_le _,rfl,pR,zh (fun j hj=>by omega)⟩
     case round=>
      clear b4;obtain⟨k,hk,rfl,HBr,he⟩:=hrel;have r0:=ROW.out wr HBr.out;have b4:=zc 4 r0 (.slice A4 n4 c4) rfl;clear r0;by_cases hlt:k<n4
      ·obtain⟨b,off,eA,_,hbl,_,hc0,_⟩:=(mD.out wr (zu gv HBr.out)).BR hlt;subst eA;have hkl:k<li.length:=(by have:=mA.out;omega);have HM:=zh (qP (d:=0) hkl);clear hkl;generalize hy:li.getD k 0=y at *;have HY:=zh hy;clear hy;go_wp2_with fail
       refine(BB (n:=y) (m:=1073741824)).mono ?_;rw[show decide (0≤y∧y≤1073741824)=qg y from rfl];clear b4 hc0;rintro e wn ⟨rfl,hbn⟩;have mO:=zt HBr hbn;clear hbn
       cases hn:qg y with
       |false=>
        have HF:Hid (R=false):=zh (by
         have h1:(li.any (fun n=>!qg n))=true:=List.any_eq_true.2 ⟨y,HM.out,by rw[hn];rfl⟩
         rw[HT.out,←pF.out,h1];rfl)
        clear hn;go_wp2
        go_ret
        exact⟨by rw[HF.out];rfl,gv.out.trans (mO.out.mono gv.out.size)⟩
       |true=>
        have HN:Hid (∀j,j<k+1→qg (li.getD j 0)=true):=zh (fun j hj=>by
         by_cases e:j=k
         ·subst e;rw[HY.out];exact hn
         exact he.out j (by omega))
        clear hn;go_wp2
        go_roundw
        case rel=>exact⟨k+1,by omega,by go_num,mO,HN⟩
        case measure=>simp[intOf];omega
      have nO:Hid (R=q9):=zh (by
       have h1:(li.any (fun n=>!qg n))=false:=List.any_eq_false.2 (fun x hx=>by
        obtain⟨j,hj,e⟩:=List.getElem_of_mem hx;have:=he.out j (by have:=mA.out;omega);rw[List.getD_eq_getElem?_getD,List.getElem?_eq_getElem hj,Option.getD_some,e] at this
        rw[this];decide)
       rw[HT.out,←pF.out,h1];rfl)
      clear HT pF he
      rename World=>wo
      have r0:=ROW.out wo HBr.out;have b5:=zc 5 r0 (.slice A5 n5 c5) rfl;clear r0;go_wp2_with fail
      go_loopw [6] (fun i wr=>∃k:Nat,k≤n5∧i=.int .i64 k∧Hid (Below W0.heap.size W0 wr)∧Hid (∀j,j<k→qH (sl.getD j default)=false)) (fun i _=>n5 - (intOf i).toNat)
      case atStart=>exact⟨0,Nat.zero_le _,rfl,HBr,zh (fun j hj=>by omega)⟩
      case round=>
       clear b4 b5;obtain⟨m,hm,rfl,HBs,he⟩:=hrel;have r0:=ROW.out wr HBs.out;have b5:=zc 5 r0 (.slice A5 n5 c5) rfl;clear r0;by_cases ny:m<n5
       ·obtain⟨b,off,eA,_,hbl,_,_,hc0,hc1,_⟩:=(pP.out wr (zu gv HBs.out)).BM ny;subst eA;have hkl:m<sl.length:=(by have:=pJ.out;omega);have HM:=zh (qP (d:=default) hkl);clear hkl;generalize hy:sl.getD m default=y at *;have HY:=zh hy;clear hy;go_wp2_with fail
        refine(Bj (n:=y.disk) (l:=-1) (m:=11)).mono ?_;clear b5 hc0;rintro e wn ⟨rfl,hbn⟩;have mO:=zt HBs hbn;have hc1:=(hbn.cell (p:=⟨b,off+m* 2+1,none⟩) hbl).trans hc1;have hbl:=Nat.lt_of_lt_of_le hbl hbn.size;clear hbn;by_cases hd1:(-1≤y.disk∧y.disk≤11)
        ·rw[decide_eq_true hd1];have r0:=ROW.out wn mO.out;have b5:=zc 5 r0 (.slice (some ⟨b,off,none⟩) n5 c5) rfl;clear r0;have yx:=zh hd1;clear hd1;go_wp2_with fail
         refine(BB (n:=y.pos) (m:=63)).mono ?_;clear b5 hc1;rintro e wp ⟨rfl,hbp⟩;have p7:=zt mO hbp;clear hbp;by_cases hd2:(0≤y.pos∧y.pos≤63)
         ·rw[decide_eq_true hd2]
          have HN:Hid (∀j,j<m+1→qH (sl.getD j default)=false):=zh (fun j hj=>by
           by_cases e:j=m
           ·subst e;rw[HY.out];unfold qH;exact decide_eq_false (by have:=yx.out;omega)
           exact he.out j (by omega))
          clear hd2;go_wp2
          go_roundw
          case rel=>exact⟨m+1,by omega,by go_num,p7,HN⟩
          case measure=>simp[intOf];omega
         rw[decide_eq_false hd2]
         have HF:Hid (R=false):=zh (by
          have h1:(sl.any qH)=true:=List.any_eq_true.2 ⟨y,HM.out,by unfold qH;exact decide_eq_true (by omega)⟩
          rw[nO.out,←pG.out,h1];rfl)
         clear hd2;go_wp2
         go_ret
         exact⟨by rw[HF.out];rfl,gv.out.trans (p7.out.mono gv.out.size)⟩
        rw[decide_eq_false hd1]
        have HF:Hid (R=false):=zh (by
         have h1:(sl.any qH)=true:=List.any_eq_true.2 ⟨y,HM.out,by unfold qH;exact decide_eq_true (by omega)⟩
         rw[nO.out,←pG.out,h1];rfl)
        clear hd1;go_wp2
        go_ret
        exact⟨by rw[HF.out];rfl,gv.out.trans (mO.out.mono gv.out.size)⟩
       have HF:Hid (R=true):=zh (by
        have h1:(sl.any qH)=false:=List.any_eq_false.2 (fun x hx=>by
         obtain⟨j,hj,e⟩:=List.getElem_of_mem hx;have:=he.out j (by have:=pJ.out;omega);rw[List.getD_eq_getElem?_getD,List.getElem?_eq_getElem hj,Option.getD_some,e] at this
         rw[this];decide)
        rw[nO.out,←pG.out,h1];rfl)
       go_wp2
       go_ret
       exact⟨by rw[HF.out];rfl,gv.out.trans (HBs.out.mono gv.out.size)⟩
end Go.Proofs.YtipecejghioicaaGreat
