/- Record.May, kind by kind. -/
import Derived.Test.YtipecejghioicaaGreatY10p
import Derived.Lib.Bytes
import Derived.Test.YtipecejghioicaaGreatDatap
set_option maxHeartbeats 8000000
set_option maxRecDepth 100000
namespace Go.Proofs.YtipecejghioicaaGreat
open Go.RowKit Go.Silo
def qy (r:Bb):Bool:=decide (1≤r.kind∧r.kind≤8)&&
 ((!qi r.kind 105||qg r.id)&&((!qi r.kind 110||decide (1≤r.name.size∧r.name.size≤40))&&((!qi r.kind 100||decide (r.digest.size=32))&&((!qi r.kind 108||qM r.kind r.list)&&((!qi r.kind 115||qA r.slots)&&
   ((qi r.kind 105||decide (r.id=0))&&((qi r.kind 110||decide (r.name=ByteArray.empty))&&((qi r.kind 100||decide (r.digest=ByteArray.empty))&&((qi r.kind 108||decide (r.list.length=0))&&(qi r.kind 115||decide (r.slots.length=0)))))))))))
theorem zi (x:ByteArray):x.toList=[]↔x=ByteArray.empty:=by
 rw[Lib.toList_data];constructor
 ·intro h
  cases x with
  |mk d=>simp only[ByteArray.empty,ByteArray.emptyWithCapacity] at *;congr 1;exact Array.toList_eq_nil_iff.1 h
 intro h;subst h;rfl
theorem Jd {tg:Bool}{S:Nat→Prop}{w:World}{A4 A5:Option Addr}{n4 c4 n5 c5:Nat}{id:Int}{nm dg:ByteArray}{li:List Int}{sl:List Slot}(hl:Sl tg 3 qD w S A4 n4 c4 li) (hs:Sl tg 88 qp w S A5 n5 c5 sl):
  Calls Tryz.prog 61 #[.agg #[.int .i64 1,.int .i64 id,.string nm,.string dg,.slice A4 n4 c4,.slice A5 n5 c5]] w (Bf (.bool (qy ⟨1,id,nm,dg,li,sl⟩)) w):=by
 have ni:=zh hl.len;have yB:=zh hs.len;have nu:n4≤9223372036854775807:=Nat.le_trans hl.le hl.cap;have nH:n5≤9223372036854775807:=Nat.le_trans hs.le hs.cap;have HL:=zh (fun W (hW:Below w.heap.size w W)=>jt (kd:=1) (id:=id) (nm:=nm) (dg:=dg) (B:=A5) (n5:=n5) (c5:=c5) (hl.all hW));have HS:=zh (fun W (hW:Below w.heap.size w W)=>xA (hs.all hW));obtain⟨R,hR⟩:∃R,R=qy ⟨1,id,nm,dg,li,sl⟩:=⟨_,rfl⟩;rw[←hR]
 have HR:Hid (R=(qg id&&(qA sl&&(decide (nm=ByteArray.empty)&&(decide (dg=ByteArray.empty)&&(decide (n4=0))))))):=zh (by
  rw[hR];unfold qy;simp only[show qi 1 105=true by decide,show qi 1 110=false by decide,show qi 1 100=false by decide,show qi 1 108=false by decide,show qi 1 115=true by decide,ni.out,yB.out]
  simp)
 clear hR hl hs;obtain⟨q1,hq1⟩:∃q1,q1=qg id:=⟨_,rfl⟩;rw[←hq1] at HR;have ng:=zh hq1;clear hq1;obtain⟨q5,pH⟩:∃q5,q5=qA sl:=⟨_,rfl⟩;rw[←pH] at HR;have pp:=zh pH;clear pH;obtain⟨p2,hp2⟩:∃p2,p2=decide (nm=ByteArray.empty):=⟨_,rfl⟩;rw[←hp2] at HR;have vQ:=zh hp2;clear hp2;obtain⟨p3,hp3⟩:∃p3,p3=decide (dg=ByteArray.empty):=⟨_,rfl⟩;rw[←hp3] at HR;have yZ:=zh hp3;clear hp3;obtain⟨p4,hp4⟩:∃p4,p4=decide (n4=0):=⟨_,rfl⟩;rw[←hp4] at HR;have vR:=zh hp4;clear hp4
 go_enter Tryz.func61,Tryz.ntmps61
 go_wp2_with fail
 refine(qu (k:=1) (c:=105)).mono ?_;rw[show qi 1 105=true by decide];rintro e w1 ⟨rfl,hb1⟩
 (obtain⟨np,hf_w1⟩:=ql hb1;have mH:w.heap.size<w1.heap.size:=(by have:=hb1.size;first|omega|(simp at this;omega)))
 go_wp2_with fail
 refine(Cb (n:=id)).mono ?_;rw[←ng.out];rintro e w2 ⟨rfl,hb2⟩
 (obtain⟨pk,hf_w2⟩:=ql hb2;have nD:w.heap.size<w2.heap.size:=(by have:=hb2.size;first|omega|(simp at this;omega)))
 cases q1 with
 |false=>
  go_wp2
  go_ret
  exact⟨by rw[HR.out];rfl,bz⟩
 |true=>
  go_wp2_with fail
  refine(qu (k:=1) (c:=110)).mono ?_;rw[show qi 1 110=false by decide];rintro e w3 ⟨rfl,hb3⟩
  (obtain⟨pS,hf_w3⟩:=ql hb3;have nR:w.heap.size<w3.heap.size:=(by have:=hb3.size;first|omega|(simp at this;omega)))
  go_wp2_with fail
  refine(qu (k:=1) (c:=100)).mono ?_;rw[show qi 1 100=false by decide];rintro e w4 ⟨rfl,hb4⟩
  (obtain⟨uf,hf_w4⟩:=ql hb4;have pI:w.heap.size<w4.heap.size:=(by have:=hb4.size;first|omega|(simp at this;omega)))
  go_wp2_with fail
  refine(qu (k:=1) (c:=108)).mono ?_;rw[show qi 1 108=false by decide];rintro e w5 ⟨rfl,gG⟩
  (obtain⟨ug,hf_w5⟩:=ql gG;have pJ:w.heap.size<w5.heap.size:=(by have:=gG.size;first|omega|(simp at this;omega)))
  go_wp2_with fail
  refine(qu (k:=1) (c:=115)).mono ?_;rw[show qi 1 115=true by decide];rintro e w6 ⟨rfl,gp⟩
  (obtain⟨uh,hf_w6⟩:=ql gp;have pK:w.heap.size<w6.heap.size:=(by have:=gp.size;first|omega|(simp at this;omega)))
  go_wp2_with fail
  refine(HS.out _ bz).mono ?_;rw[←pp.out];rintro e w7 ⟨rfl,gv⟩
  (obtain⟨ui,hf_w7⟩:=ql gv;have pL:w.heap.size<w7.heap.size:=(by have:=gv.size;first|omega|(simp at this;omega)))
  cases q5 with
  |false=>
   go_wp2
   go_ret
   exact⟨by rw[HR.out];rfl,bz⟩
  |true=>
   go_wp2_with fail
   refine(qu (k:=1) (c:=105)).mono ?_;rw[show qi 1 105=true by decide];rintro e w8 ⟨rfl,hb8⟩
   (obtain⟨uj,hf_w8⟩:=ql hb8;have pM:w.heap.size<w8.heap.size:=(by have:=hb8.size;first|omega|(simp at this;omega)))
   go_wp2_with fail
   refine(qu (k:=1) (c:=110)).mono ?_;rw[show qi 1 110=false by decide];rintro e w9 ⟨rfl,gW⟩
   (obtain⟨uk,hf_w9⟩:=ql gW;have pN:w.heap.size<w9.heap.size:=(by have:=gW.size;first|omega|(simp at this;omega)))
   cases p2 with
   |false=>
    have ht:¬nm.toList=[]:=fun e=>of_decide_eq_false vQ.out.symm ((zi _).1 e);go_wp2
    go_ret
    exact⟨by rw[HR.out];rfl,bz⟩
   |true=>
    have ht:nm.toList=[]:=(zi _).2 (of_decide_eq_true vQ.out.symm);go_wp2_with fail
    refine(qu (k:=1) (c:=100)).mono ?_;rw[show qi 1 100=false by decide];rintro e nk ⟨rfl,gT⟩
    (obtain⟨pO,hf_w10⟩:=ql gT;have nS:w.heap.size<nk.heap.size:=(by have:=gT.size;first|omega|(simp at this;omega)))
    cases p3 with
    |false=>
     have ht:¬dg.toList=[]:=fun e=>of_decide_eq_false yZ.out.symm ((zi _).1 e);go_wp2
     go_ret
     exact⟨by rw[HR.out];rfl,bz⟩
    |true=>
     have ht:dg.toList=[]:=(zi _).2 (of_decide_eq_true yZ.out.symm);go_wp2_with fail
     refine(qu (k:=1) (c:=108)).mono ?_;rw[show qi 1 108=false by decide];rintro e ml ⟨rfl,hb11⟩
     (obtain⟨vd,hf_w11⟩:=ql hb11;have rY:w.heap.size<ml.heap.size:=(by have:=hb11.size;first|omega|(simp at this;omega)))
     cases p4 with
     |false=>
      have ht:=of_decide_eq_false vR.out.symm;go_wp2
      go_ret
      exact⟨by rw[HR.out];rfl,bz⟩
     |true=>
      have ht:=of_decide_eq_true vR.out.symm;subst ht;go_wp2_with fail
      refine(qu (k:=1) (c:=115)).mono ?_;rw[show qi 1 115=true by decide];rintro e nT ⟨rfl,hb12⟩
      (obtain⟨yC,hf_w12⟩:=ql hb12;have ve:w.heap.size<nT.heap.size:=(by have:=hb12.size;first|omega|(simp at this;omega)))
      go_wp2
      go_ret
      exact⟨by rw[HR.out];rfl,bz⟩
theorem Je {tg:Bool}{S:Nat→Prop}{w:World}{A4 A5:Option Addr}{n4 c4 n5 c5:Nat}{id:Int}{nm dg:ByteArray}{li:List Int}{sl:List Slot}(hl:Sl tg 3 qD w S A4 n4 c4 li) (hs:Sl tg 88 qp w S A5 n5 c5 sl):
  Calls Tryz.prog 61 #[.agg #[.int .i64 2,.int .i64 id,.string nm,.string dg,.slice A4 n4 c4,.slice A5 n5 c5]] w (Bf (.bool (qy ⟨2,id,nm,dg,li,sl⟩)) w):=by
 have ni:=zh hl.len;have yB:=zh hs.len;have nu:n4≤9223372036854775807:=Nat.le_trans hl.le hl.cap;have nH:n5≤9223372036854775807:=Nat.le_trans hs.le hs.cap;have HL:=zh (fun W (hW:Below w.heap.size w W)=>jt (kd:=2) (id:=id) (nm:=nm) (dg:=dg) (B:=A5) (n5:=n5) (c5:=c5) (hl.all hW));have HS:=zh (fun W (hW:Below w.heap.size w W)=>xA (hs.all hW));obtain⟨R,hR⟩:∃R,R=qy ⟨2,id,nm,dg,li,sl⟩:=⟨_,rfl⟩;rw[←hR]
 have HR:Hid (R=(qg id&&(qM 2 li&&(qA sl&&(decide (nm=ByteArray.empty)&&(decide (dg=ByteArray.empty))))))):=zh (by
  rw[hR];unfold qy;simp only[show qi 2 105=true by decide,show qi 2 110=false by decide,show qi 2 100=false by decide,show qi 2 108=true by decide,show qi 2 115=true by decide,ni.out,yB.out]
  simp)
 clear hR hl hs;obtain⟨q1,hq1⟩:∃q1,q1=qg id:=⟨_,rfl⟩;rw[←hq1] at HR;have ng:=zh hq1;clear hq1;obtain⟨q4,rK⟩:∃q4,q4=qM 2 li:=⟨_,rfl⟩;rw[←rK] at HR;have uA:=zh rK;clear rK;obtain⟨q5,pH⟩:∃q5,q5=qA sl:=⟨_,rfl⟩;rw[←pH] at HR;have pp:=zh pH;clear pH;obtain⟨p2,hp2⟩:∃p2,p2=decide (nm=ByteArray.empty):=⟨_,rfl⟩;rw[←hp2] at HR;have vQ:=zh hp2;clear hp2;obtain⟨p3,hp3⟩:∃p3,p3=decide (dg=ByteArray.empty):=⟨_,rfl⟩;rw[←hp3] at HR;have yZ:=zh hp3;clear hp3
 go_enter Tryz.func61,Tryz.ntmps61
 go_wp2_with fail
 refine(qu (k:=2) (c:=105)).mono ?_;rw[show qi 2 105=true by decide];rintro e w1 ⟨rfl,hb1⟩
 (obtain⟨np,hf_w1⟩:=ql hb1;have mH:w.heap.size<w1.heap.size:=(by have:=hb1.size;first|omega|(simp at this;omega)))
 go_wp2_with fail
 refine(Cb (n:=id)).mono ?_;rw[←ng.out];rintro e w2 ⟨rfl,hb2⟩
 (obtain⟨pk,hf_w2⟩:=ql hb2;have nD:w.heap.size<w2.heap.size:=(by have:=hb2.size;first|omega|(simp at this;omega)))
 cases q1 with
 |false=>
  go_wp2
  go_ret
  exact⟨by rw[HR.out];rfl,bz⟩
 |true=>
  go_wp2_with fail
  refine(qu (k:=2) (c:=110)).mono ?_;rw[show qi 2 110=false by decide];rintro e w3 ⟨rfl,hb3⟩
  (obtain⟨pS,hf_w3⟩:=ql hb3;have nR:w.heap.size<w3.heap.size:=(by have:=hb3.size;first|omega|(simp at this;omega)))
  go_wp2_with fail
  refine(qu (k:=2) (c:=100)).mono ?_;rw[show qi 2 100=false by decide];rintro e w4 ⟨rfl,hb4⟩
  (obtain⟨uf,hf_w4⟩:=ql hb4;have pI:w.heap.size<w4.heap.size:=(by have:=hb4.size;first|omega|(simp at this;omega)))
  go_wp2_with fail
  refine(qu (k:=2) (c:=108)).mono ?_;rw[show qi 2 108=true by decide];rintro e w5 ⟨rfl,gG⟩
  (obtain⟨ug,hf_w5⟩:=ql gG;have pJ:w.heap.size<w5.heap.size:=(by have:=gG.size;first|omega|(simp at this;omega)))
  go_wp2_with fail
  refine(HL.out _ bz).mono ?_;rw[←uA.out];rintro e w6 ⟨rfl,gp⟩
  (obtain⟨uh,hf_w6⟩:=ql gp;have pK:w.heap.size<w6.heap.size:=(by have:=gp.size;first|omega|(simp at this;omega)))
  cases q4 with
  |false=>
   go_wp2
   go_ret
   exact⟨by rw[HR.out];rfl,bz⟩
  |true=>
   go_wp2_with fail
   refine(qu (k:=2) (c:=115)).mono ?_;rw[show qi 2 115=true by decide];rintro e w7 ⟨rfl,gv⟩
   (obtain⟨ui,hf_w7⟩:=ql gv;have pL:w.heap.size<w7.heap.size:=(by have:=gv.size;first|omega|(simp at this;omega)))
   go_wp2_with fail
   refine(HS.out _ bz).mono ?_;rw[←pp.out];rintro e w8 ⟨rfl,hb8⟩
   (obtain⟨uj,hf_w8⟩:=ql hb8;have pM:w.heap.size<w8.heap.size:=(by have:=hb8.size;first|omega|(simp at this;omega)))
   cases q5 with
   |false=>
    go_wp2
    go_ret
    exact⟨by rw[HR.out];rfl,bz⟩
   |true=>
    go_wp2_with fail
    refine(qu (k:=2) (c:=105)).mono ?_;rw[show qi 2 105=true by decide];rintro e w9 ⟨rfl,gW⟩
    (obtain⟨uk,hf_w9⟩:=ql gW;have pN:w.heap.size<w9.heap.size:=(by have:=gW.size;first|omega|(simp at this;omega)))
    go_wp2_with fail
    refine(qu (k:=2) (c:=110)).mono ?_;rw[show qi 2 110=false by decide];rintro e nk ⟨rfl,gT⟩
    (obtain⟨pO,hf_w10⟩:=ql gT;have nS:w.heap.size<nk.heap.size:=(by have:=gT.size;first|omega|(simp at this;omega)))
    cases p2 with
    |false=>
     have ht:¬nm.toList=[]:=fun e=>of_decide_eq_false vQ.out.symm ((zi _).1 e);go_wp2
     go_ret
     exact⟨by rw[HR.out];rfl,bz⟩
    |true=>
     have ht:nm.toList=[]:=(zi _).2 (of_decide_eq_true vQ.out.symm);go_wp2_with fail
     refine(qu (k:=2) (c:=100)).mono ?_;rw[show qi 2 100=false by decide];rintro e ml ⟨rfl,hb11⟩
     (obtain⟨vd,hf_w11⟩:=ql hb11;have rY:w.heap.size<ml.heap.size:=(by have:=hb11.size;first|omega|(simp at this;omega)))
     cases p3 with
     |false=>
      have ht:¬dg.toList=[]:=fun e=>of_decide_eq_false yZ.out.symm ((zi _).1 e);go_wp2
      go_ret
      exact⟨by rw[HR.out];rfl,bz⟩
     |true=>
      have ht:dg.toList=[]:=(zi _).2 (of_decide_eq_true yZ.out.symm);go_wp2_with fail
      refine(qu (k:=2) (c:=108)).mono ?_;rw[show qi 2 108=true by decide];rintro e nT ⟨rfl,hb12⟩
      (obtain⟨yC,hf_w12⟩:=ql hb12;have ve:w.heap.size<nT.heap.size:=(by have:=hb12.size;first|omega|(simp at this;omega)))
      go_wp2_with fail
      refine(qu (k:=2) (c:=115)).mono ?_;rw[show qi 2 115=true by decide];rintro e pj ⟨rfl,hb13⟩
      (obtain⟨hc_w13,hf_w13⟩:=ql hb13;have z_w13_0:w.heap.size<pj.heap.size:=(by have:=hb13.size;first|omega|(simp at this;omega)))
      go_wp2
      go_ret
      exact⟨by rw[HR.out];rfl,bz⟩
theorem Jf {tg:Bool}{S:Nat→Prop}{w:World}{A4 A5:Option Addr}{n4 c4 n5 c5:Nat}{id:Int}{nm dg:ByteArray}{li:List Int}{sl:List Slot}(hl:Sl tg 3 qD w S A4 n4 c4 li) (hs:Sl tg 88 qp w S A5 n5 c5 sl):
  Calls Tryz.prog 61 #[.agg #[.int .i64 3,.int .i64 id,.string nm,.string dg,.slice A4 n4 c4,.slice A5 n5 c5]] w (Bf (.bool (qy ⟨3,id,nm,dg,li,sl⟩)) w):=by
 have ni:=zh hl.len;have yB:=zh hs.len;have nu:n4≤9223372036854775807:=Nat.le_trans hl.le hl.cap;have nH:n5≤9223372036854775807:=Nat.le_trans hs.le hs.cap;have HL:=zh (fun W (hW:Below w.heap.size w W)=>jt (kd:=3) (id:=id) (nm:=nm) (dg:=dg) (B:=A5) (n5:=n5) (c5:=c5) (hl.all hW));have HS:=zh (fun W (hW:Below w.heap.size w W)=>xA (hs.all hW));obtain⟨R,hR⟩:∃R,R=qy ⟨3,id,nm,dg,li,sl⟩:=⟨_,rfl⟩;rw[←hR]
 have HR:Hid (R=(qg id&&(decide (nm=ByteArray.empty)&&(decide (dg=ByteArray.empty)&&(decide (n4=0)&&(decide (n5=0))))))):=zh (by
  rw[hR];unfold qy;simp only[show qi 3 105=true by decide,show qi 3 110=false by decide,show qi 3 100=false by decide,show qi 3 108=false by decide,show qi 3 115=false by decide,ni.out,yB.out]
  simp)
 clear hR hl hs;obtain⟨q1,hq1⟩:∃q1,q1=qg id:=⟨_,rfl⟩;rw[←hq1] at HR;have ng:=zh hq1;clear hq1;obtain⟨p2,hp2⟩:∃p2,p2=decide (nm=ByteArray.empty):=⟨_,rfl⟩;rw[←hp2] at HR;have vQ:=zh hp2;clear hp2;obtain⟨p3,hp3⟩:∃p3,p3=decide (dg=ByteArray.empty):=⟨_,rfl⟩;rw[←hp3] at HR;have yZ:=zh hp3;clear hp3;obtain⟨p4,hp4⟩:∃p4,p4=decide (n4=0):=⟨_,rfl⟩;rw[←hp4] at HR;have vR:=zh hp4;clear hp4;obtain⟨p5,hp5⟩:∃p5,p5=decide (n5=0):=⟨_,rfl⟩;rw[←hp5] at HR;have vS:=zh hp5;clear hp5
 go_enter Tryz.func61,Tryz.ntmps61
 go_wp2_with fail
 refine(qu (k:=3) (c:=105)).mono ?_;rw[show qi 3 105=true by decide];rintro e w1 ⟨rfl,hb1⟩
 (obtain⟨np,hf_w1⟩:=ql hb1;have mH:w.heap.size<w1.heap.size:=(by have:=hb1.size;first|omega|(simp at this;omega)))
 go_wp2_with fail
 refine(Cb (n:=id)).mono ?_;rw[←ng.out];rintro e w2 ⟨rfl,hb2⟩
 (obtain⟨pk,hf_w2⟩:=ql hb2;have nD:w.heap.size<w2.heap.size:=(by have:=hb2.size;first|omega|(simp at this;omega)))
 cases q1 with
 |false=>
  go_wp2
  go_ret
  exact⟨by rw[HR.out];rfl,bz⟩
 |true=>
  go_wp2_with fail
  refine(qu (k:=3) (c:=110)).mono ?_;rw[show qi 3 110=false by decide];rintro e w3 ⟨rfl,hb3⟩
  (obtain⟨pS,hf_w3⟩:=ql hb3;have nR:w.heap.size<w3.heap.size:=(by have:=hb3.size;first|omega|(simp at this;omega)))
  go_wp2_with fail
  refine(qu (k:=3) (c:=100)).mono ?_;rw[show qi 3 100=false by decide];rintro e w4 ⟨rfl,hb4⟩
  (obtain⟨uf,hf_w4⟩:=ql hb4;have pI:w.heap.size<w4.heap.size:=(by have:=hb4.size;first|omega|(simp at this;omega)))
  go_wp2_with fail
  refine(qu (k:=3) (c:=108)).mono ?_;rw[show qi 3 108=false by decide];rintro e w5 ⟨rfl,gG⟩
  (obtain⟨ug,hf_w5⟩:=ql gG;have pJ:w.heap.size<w5.heap.size:=(by have:=gG.size;first|omega|(simp at this;omega)))
  go_wp2_with fail
  refine(qu (k:=3) (c:=115)).mono ?_;rw[show qi 3 115=false by decide];rintro e w6 ⟨rfl,gp⟩
  (obtain⟨uh,hf_w6⟩:=ql gp;have pK:w.heap.size<w6.heap.size:=(by have:=gp.size;first|omega|(simp at this;omega)))
  go_wp2_with fail
  refine(qu (k:=3) (c:=105)).mono ?_;rw[show qi 3 105=true by decide];rintro e w7 ⟨rfl,gv⟩
  (obtain⟨ui,hf_w7⟩:=ql gv;have pL:w.heap.size<w7.heap.size:=(by have:=gv.size;first|omega|(simp at this;omega)))
  go_wp2_with fail
  refine(qu (k:=3) (c:=110)).mono ?_;rw[show qi 3 110=false by decide];rintro e w8 ⟨rfl,hb8⟩
  (obtain⟨uj,hf_w8⟩:=ql hb8;have pM:w.heap.size<w8.heap.size:=(by have:=hb8.size;first|omega|(simp at this;omega)))
  cases p2 with
  |false=>
   have ht:¬nm.toList=[]:=fun e=>of_decide_eq_false vQ.out.symm ((zi _).1 e);go_wp2
   go_ret
   exact⟨by rw[HR.out];rfl,bz⟩
  |true=>
   have ht:nm.toList=[]:=(zi _).2 (of_decide_eq_true vQ.out.symm);go_wp2_with fail
   refine(qu (k:=3) (c:=100)).mono ?_;rw[show qi 3 100=false by decide];rintro e w9 ⟨rfl,gW⟩
   (obtain⟨uk,hf_w9⟩:=ql gW;have pN:w.heap.size<w9.heap.size:=(by have:=gW.size;first|omega|(simp at this;omega)))
   cases p3 with
   |false=>
    have ht:¬dg.toList=[]:=fun e=>of_decide_eq_false yZ.out.symm ((zi _).1 e);go_wp2
    go_ret
    exact⟨by rw[HR.out];rfl,bz⟩
   |true=>
    have ht:dg.toList=[]:=(zi _).2 (of_decide_eq_true yZ.out.symm);go_wp2_with fail
    refine(qu (k:=3) (c:=108)).mono ?_;rw[show qi 3 108=false by decide];rintro e nk ⟨rfl,gT⟩
    (obtain⟨pO,hf_w10⟩:=ql gT;have nS:w.heap.size<nk.heap.size:=(by have:=gT.size;first|omega|(simp at this;omega)))
    cases p4 with
    |false=>
     have ht:=of_decide_eq_false vR.out.symm;go_wp2
     go_ret
     exact⟨by rw[HR.out];rfl,bz⟩
    |true=>
     have ht:=of_decide_eq_true vR.out.symm;subst ht;go_wp2_with fail
     refine(qu (k:=3) (c:=115)).mono ?_;rw[show qi 3 115=false by decide];rintro e ml ⟨rfl,hb11⟩
     (obtain⟨vd,hf_w11⟩:=ql hb11;have rY:w.heap.size<ml.heap.size:=(by have:=hb11.size;first|omega|(simp at this;omega)))
     cases p5 with
     |false=>
      have ht0:=of_decide_eq_false vS.out.symm;have ht:((n5:Int)==0)=false:=(by simp;omega);clear ht0;go_wp2
      go_ret
      exact⟨by rw[HR.out];rfl,bz⟩
     |true=>
      have ht:=of_decide_eq_true vS.out.symm;subst ht;go_wp2
      go_ret
      exact⟨by rw[HR.out];rfl,bz⟩
theorem Jg {tg:Bool}{S:Nat→Prop}{w:World}{A4 A5:Option Addr}{n4 c4 n5 c5:Nat}{id:Int}{nm dg:ByteArray}{li:List Int}{sl:List Slot}(hl:Sl tg 3 qD w S A4 n4 c4 li) (hs:Sl tg 88 qp w S A5 n5 c5 sl):
  Calls Tryz.prog 61 #[.agg #[.int .i64 4,.int .i64 id,.string nm,.string dg,.slice A4 n4 c4,.slice A5 n5 c5]] w (Bf (.bool (qy ⟨4,id,nm,dg,li,sl⟩)) w):=by
 have ni:=zh hl.len;have yB:=zh hs.len;have nu:n4≤9223372036854775807:=Nat.le_trans hl.le hl.cap;have nH:n5≤9223372036854775807:=Nat.le_trans hs.le hs.cap;have HL:=zh (fun W (hW:Below w.heap.size w W)=>jt (kd:=4) (id:=id) (nm:=nm) (dg:=dg) (B:=A5) (n5:=n5) (c5:=c5) (hl.all hW));have HS:=zh (fun W (hW:Below w.heap.size w W)=>xA (hs.all hW));obtain⟨R,hR⟩:∃R,R=qy ⟨4,id,nm,dg,li,sl⟩:=⟨_,rfl⟩;rw[←hR]
 have HR:Hid (R=(qg id&&(decide (dg.size=32)&&(qM 4 li&&(decide (nm=ByteArray.empty)&&(decide (n5=0))))))):=zh (by
  rw[hR];unfold qy;simp only[show qi 4 105=true by decide,show qi 4 110=false by decide,show qi 4 100=true by decide,show qi 4 108=true by decide,show qi 4 115=false by decide,ni.out,yB.out]
  simp)
 clear hR hl hs;obtain⟨q1,hq1⟩:∃q1,q1=qg id:=⟨_,rfl⟩;rw[←hq1] at HR;have ng:=zh hq1;clear hq1;obtain⟨q3,rX⟩:∃q3,q3=decide (dg.size=32):=⟨_,rfl⟩;rw[←rX] at HR;have mR:=zh rX;clear rX;obtain⟨q4,rK⟩:∃q4,q4=qM 4 li:=⟨_,rfl⟩;rw[←rK] at HR;have uA:=zh rK;clear rK;obtain⟨p2,hp2⟩:∃p2,p2=decide (nm=ByteArray.empty):=⟨_,rfl⟩;rw[←hp2] at HR;have vQ:=zh hp2;clear hp2;obtain⟨p5,hp5⟩:∃p5,p5=decide (n5=0):=⟨_,rfl⟩;rw[←hp5] at HR;have vS:=zh hp5;clear hp5
 go_enter Tryz.func61,Tryz.ntmps61
 go_wp2_with fail
 refine(qu (k:=4) (c:=105)).mono ?_;rw[show qi 4 105=true by decide];rintro e w1 ⟨rfl,hb1⟩
 (obtain⟨np,hf_w1⟩:=ql hb1;have mH:w.heap.size<w1.heap.size:=(by have:=hb1.size;first|omega|(simp at this;omega)))
 go_wp2_with fail
 refine(Cb (n:=id)).mono ?_;rw[←ng.out];rintro e w2 ⟨rfl,hb2⟩
 (obtain⟨pk,hf_w2⟩:=ql hb2;have nD:w.heap.size<w2.heap.size:=(by have:=hb2.size;first|omega|(simp at this;omega)))
 cases q1 with
 |false=>
  go_wp2
  go_ret
  exact⟨by rw[HR.out];rfl,bz⟩
 |true=>
  go_wp2_with fail
  refine(qu (k:=4) (c:=110)).mono ?_;rw[show qi 4 110=false by decide];rintro e w3 ⟨rfl,hb3⟩
  (obtain⟨pS,hf_w3⟩:=ql hb3;have nR:w.heap.size<w3.heap.size:=(by have:=hb3.size;first|omega|(simp at this;omega)))
  go_wp2_with fail
  refine(qu (k:=4) (c:=100)).mono ?_;rw[show qi 4 100=true by decide];rintro e w4 ⟨rfl,hb4⟩
  (obtain⟨uf,hf_w4⟩:=ql hb4;have pI:w.heap.size<w4.heap.size:=(by have:=hb4.size;first|omega|(simp at this;omega)))
  cases q3 with
  |false=>
   have hd1:=of_decide_eq_false mR.out.symm;go_wp2
   go_ret
   exact⟨by rw[HR.out];rfl,bz⟩
  |true=>
   have hd1:=of_decide_eq_true mR.out.symm;go_wp2_with fail
   refine(qu (k:=4) (c:=108)).mono ?_;rw[show qi 4 108=true by decide];rintro e w5 ⟨rfl,gG⟩
   (obtain⟨ug,hf_w5⟩:=ql gG;have pJ:w.heap.size<w5.heap.size:=(by have:=gG.size;first|omega|(simp at this;omega)))
   go_wp2_with fail
   refine(HL.out _ bz).mono ?_;rw[←uA.out];rintro e w6 ⟨rfl,gp⟩
   (obtain⟨uh,hf_w6⟩:=ql gp;have pK:w.heap.size<w6.heap.size:=(by have:=gp.size;first|omega|(simp at this;omega)))
   cases q4 with
   |false=>
    go_wp2
    go_ret
    exact⟨by rw[HR.out];rfl,bz⟩
   |true=>
    go_wp2_with fail
    refine(qu (k:=4) (c:=115)).mono ?_;rw[show qi 4 115=false by decide];rintro e w7 ⟨rfl,gv⟩
    (obtain⟨ui,hf_w7⟩:=ql gv;have pL:w.heap.size<w7.heap.size:=(by have:=gv.size;first|omega|(simp at this;omega)))
    go_wp2_with fail
    refine(qu (k:=4) (c:=105)).mono ?_;rw[show qi 4 105=true by decide];rintro e w8 ⟨rfl,hb8⟩
    (obtain⟨uj,hf_w8⟩:=ql hb8;have pM:w.heap.size<w8.heap.size:=(by have:=hb8.size;first|omega|(simp at this;omega)))
    go_wp2_with fail
    refine(qu (k:=4) (c:=110)).mono ?_;rw[show qi 4 110=false by decide];rintro e w9 ⟨rfl,gW⟩
    (obtain⟨uk,hf_w9⟩:=ql gW;have pN:w.heap.size<w9.heap.size:=(by have:=gW.size;first|omega|(simp at this;omega)))
    cases p2 with
    |false=>
     have ht:¬nm.toList=[]:=fun e=>of_decide_eq_false vQ.out.symm ((zi _).1 e);go_wp2
     go_ret
     exact⟨by rw[HR.out];rfl,bz⟩
    |true=>
     have ht:nm.toList=[]:=(zi _).2 (of_decide_eq_true vQ.out.symm);go_wp2_with fail
     refine(qu (k:=4) (c:=100)).mono ?_;rw[show qi 4 100=true by decide];rintro e nk ⟨rfl,gT⟩
     (obtain⟨pO,hf_w10⟩:=ql gT;have nS:w.heap.size<nk.heap.size:=(by have:=gT.size;first|omega|(simp at this;omega)))
     go_wp2_with fail
     refine(qu (k:=4) (c:=108)).mono ?_;rw[show qi 4 108=true by decide];rintro e ml ⟨rfl,hb11⟩
     (obtain⟨vd,hf_w11⟩:=ql hb11;have rY:w.heap.size<ml.heap.size:=(by have:=hb11.size;first|omega|(simp at this;omega)))
     go_wp2_with fail
     refine(qu (k:=4) (c:=115)).mono ?_;rw[show qi 4 115=false by decide];rintro e nT ⟨rfl,hb12⟩
     (obtain⟨yC,hf_w12⟩:=ql hb12;have ve:w.heap.size<nT.heap.size:=(by have:=hb12.size;first|omega|(simp at this;omega)))
     cases p5 with
     |false=>
      have ht0:=of_decide_eq_false vS.out.symm;have ht:((n5:Int)==0)=false:=(by simp;omega);clear ht0;go_wp2
      go_ret
      exact⟨by rw[HR.out];rfl,bz⟩
     |true=>
      have ht:=of_decide_eq_true vS.out.symm;subst ht;go_wp2
      go_ret
      exact⟨by rw[HR.out];rfl,bz⟩
theorem Jh {tg:Bool}{S:Nat→Prop}{w:World}{A4 A5:Option Addr}{n4 c4 n5 c5:Nat}{id:Int}{nm dg:ByteArray}{li:List Int}{sl:List Slot}(hl:Sl tg 3 qD w S A4 n4 c4 li) (hs:Sl tg 88 qp w S A5 n5 c5 sl):
  Calls Tryz.prog 61 #[.agg #[.int .i64 5,.int .i64 id,.string nm,.string dg,.slice A4 n4 c4,.slice A5 n5 c5]] w (Bf (.bool (qy ⟨5,id,nm,dg,li,sl⟩)) w):=by
 have ni:=zh hl.len;have yB:=zh hs.len;have nu:n4≤9223372036854775807:=Nat.le_trans hl.le hl.cap;have nH:n5≤9223372036854775807:=Nat.le_trans hs.le hs.cap;have HL:=zh (fun W (hW:Below w.heap.size w W)=>jt (kd:=5) (id:=id) (nm:=nm) (dg:=dg) (B:=A5) (n5:=n5) (c5:=c5) (hl.all hW));have HS:=zh (fun W (hW:Below w.heap.size w W)=>xA (hs.all hW));obtain⟨R,hR⟩:∃R,R=qy ⟨5,id,nm,dg,li,sl⟩:=⟨_,rfl⟩;rw[←hR]
 have HR:Hid (R=(qg id&&(decide (dg.size=32)&&(qM 5 li&&(decide (nm=ByteArray.empty)&&(decide (n5=0))))))):=zh (by
  rw[hR];unfold qy;simp only[show qi 5 105=true by decide,show qi 5 110=false by decide,show qi 5 100=true by decide,show qi 5 108=true by decide,show qi 5 115=false by decide,ni.out,yB.out]
  simp)
 clear hR hl hs;obtain⟨q1,hq1⟩:∃q1,q1=qg id:=⟨_,rfl⟩;rw[←hq1] at HR;have ng:=zh hq1;clear hq1;obtain⟨q3,rX⟩:∃q3,q3=decide (dg.size=32):=⟨_,rfl⟩;rw[←rX] at HR;have mR:=zh rX;clear rX;obtain⟨q4,rK⟩:∃q4,q4=qM 5 li:=⟨_,rfl⟩;rw[←rK] at HR;have uA:=zh rK;clear rK;obtain⟨p2,hp2⟩:∃p2,p2=decide (nm=ByteArray.empty):=⟨_,rfl⟩;rw[←hp2] at HR;have vQ:=zh hp2;clear hp2;obtain⟨p5,hp5⟩:∃p5,p5=decide (n5=0):=⟨_,rfl⟩;rw[←hp5] at HR;have vS:=zh hp5;clear hp5
 go_enter Tryz.func61,Tryz.ntmps61
 go_wp2_with fail
 refine(qu (k:=5) (c:=105)).mono ?_;rw[show qi 5 105=true by decide];rintro e w1 ⟨rfl,hb1⟩
 (obtain⟨np,hf_w1⟩:=ql hb1;have mH:w.heap.size<w1.heap.size:=(by have:=hb1.size;first|omega|(simp at this;omega)))
 go_wp2_with fail
 refine(Cb (n:=id)).mono ?_;rw[←ng.out];rintro e w2 ⟨rfl,hb2⟩
 (obtain⟨pk,hf_w2⟩:=ql hb2;have nD:w.heap.size<w2.heap.size:=(by have:=hb2.size;first|omega|(simp at this;omega)))
 cases q1 with
 |false=>
  go_wp2
  go_ret
  exact⟨by rw[HR.out];rfl,bz⟩
 |true=>
  go_wp2_with fail
  refine(qu (k:=5) (c:=110)).mono ?_;rw[show qi 5 110=false by decide];rintro e w3 ⟨rfl,hb3⟩
  (obtain⟨pS,hf_w3⟩:=ql hb3;have nR:w.heap.size<w3.heap.size:=(by have:=hb3.size;first|omega|(simp at this;omega)))
  go_wp2_with fail
  refine(qu (k:=5) (c:=100)).mono ?_;rw[show qi 5 100=true by decide];rintro e w4 ⟨rfl,hb4⟩
  (obtain⟨uf,hf_w4⟩:=ql hb4;have pI:w.heap.size<w4.heap.size:=(by have:=hb4.size;first|omega|(simp at this;omega)))
  cases q3 with
  |false=>
   have hd1:=of_decide_eq_false mR.out.symm;go_wp2
   go_ret
   exact⟨by rw[HR.out];rfl,bz⟩
  |true=>
   have hd1:=of_decide_eq_true mR.out.symm;go_wp2_with fail
   refine(qu (k:=5) (c:=108)).mono ?_;rw[show qi 5 108=true by decide];rintro e w5 ⟨rfl,gG⟩
   (obtain⟨ug,hf_w5⟩:=ql gG;have pJ:w.heap.size<w5.heap.size:=(by have:=gG.size;first|omega|(simp at this;omega)))
   go_wp2_with fail
   refine(HL.out _ bz).mono ?_;rw[←uA.out];rintro e w6 ⟨rfl,gp⟩
   (obtain⟨uh,hf_w6⟩:=ql gp;have pK:w.heap.size<w6.heap.size:=(by have:=gp.size;first|omega|(simp at this;omega)))
   cases q4 with
   |false=>
    go_wp2
    go_ret
    exact⟨by rw[HR.out];rfl,bz⟩
   |true=>
    go_wp2_with fail
    refine(qu (k:=5) (c:=115)).mono ?_;rw[show qi 5 115=false by decide];rintro e w7 ⟨rfl,gv⟩
    (obtain⟨ui,hf_w7⟩:=ql gv;have pL:w.heap.size<w7.heap.size:=(by have:=gv.size;first|omega|(simp at this;omega)))
    go_wp2_with fail
    refine(qu (k:=5) (c:=105)).mono ?_;rw[show qi 5 105=true by decide];rintro e w8 ⟨rfl,hb8⟩
    (obtain⟨uj,hf_w8⟩:=ql hb8;have pM:w.heap.size<w8.heap.size:=(by have:=hb8.size;first|omega|(simp at this;omega)))
    go_wp2_with fail
    refine(qu (k:=5) (c:=110)).mono ?_;rw[show qi 5 110=false by decide];rintro e w9 ⟨rfl,gW⟩
    (obtain⟨uk,hf_w9⟩:=ql gW;have pN:w.heap.size<w9.heap.size:=(by have:=gW.size;first|omega|(simp at this;omega)))
    cases p2 with
    |false=>
     have ht:¬nm.toList=[]:=fun e=>of_decide_eq_false vQ.out.symm ((zi _).1 e);go_wp2
     go_ret
     exact⟨by rw[HR.out];rfl,bz⟩
    |true=>
     have ht:nm.toList=[]:=(zi _).2 (of_decide_eq_true vQ.out.symm);go_wp2_with fail
     refine(qu (k:=5) (c:=100)).mono ?_;rw[show qi 5 100=true by decide];rintro e nk ⟨rfl,gT⟩
     (obtain⟨pO,hf_w10⟩:=ql gT;have nS:w.heap.size<nk.heap.size:=(by have:=gT.size;first|omega|(simp at this;omega)))
     go_wp2_with fail
     refine(qu (k:=5) (c:=108)).mono ?_;rw[show qi 5 108=true by decide];rintro e ml ⟨rfl,hb11⟩
     (obtain⟨vd,hf_w11⟩:=ql hb11;have rY:w.heap.size<ml.heap.size:=(by have:=hb11.size;first|omega|(simp at this;omega)))
     go_wp2_with fail
     refine(qu (k:=5) (c:=115)).mono ?_;rw[show qi 5 115=false by decide];rintro e nT ⟨rfl,hb12⟩
     (obtain⟨yC,hf_w12⟩:=ql hb12;have ve:w.heap.size<nT.heap.size:=(by have:=hb12.size;first|omega|(simp at this;omega)))
     cases p5 with
     |false=>
      have ht0:=of_decide_eq_false vS.out.symm;have ht:((n5:Int)==0)=false:=(by simp;omega);clear ht0;go_wp2
      go_ret
      exact⟨by rw[HR.out];rfl,bz⟩
     |true=>
      have ht:=of_decide_eq_true vS.out.symm;subst ht;go_wp2
      go_ret
      exact⟨by rw[HR.out];rfl,bz⟩
theorem Ji {tg:Bool}{S:Nat→Prop}{w:World}{A4 A5:Option Addr}{n4 c4 n5 c5:Nat}{id:Int}{nm dg:ByteArray}{li:List Int}{sl:List Slot}(hl:Sl tg 3 qD w S A4 n4 c4 li) (hs:Sl tg 88 qp w S A5 n5 c5 sl):
  Calls Tryz.prog 61 #[.agg #[.int .i64 6,.int .i64 id,.string nm,.string dg,.slice A4 n4 c4,.slice A5 n5 c5]] w (Bf (.bool (qy ⟨6,id,nm,dg,li,sl⟩)) w):=by
 have ni:=zh hl.len;have yB:=zh hs.len;have nu:n4≤9223372036854775807:=Nat.le_trans hl.le hl.cap;have nH:n5≤9223372036854775807:=Nat.le_trans hs.le hs.cap;have HL:=zh (fun W (hW:Below w.heap.size w W)=>jt (kd:=6) (id:=id) (nm:=nm) (dg:=dg) (B:=A5) (n5:=n5) (c5:=c5) (hl.all hW));have HS:=zh (fun W (hW:Below w.heap.size w W)=>xA (hs.all hW));obtain⟨R,hR⟩:∃R,R=qy ⟨6,id,nm,dg,li,sl⟩:=⟨_,rfl⟩;rw[←hR]
 have HR:Hid (R=(decide (dg.size=32)&&(decide (id=0)&&(decide (nm=ByteArray.empty)&&(decide (n4=0)&&(decide (n5=0))))))):=zh (by
  rw[hR];unfold qy;simp only[show qi 6 105=false by decide,show qi 6 110=false by decide,show qi 6 100=true by decide,show qi 6 108=false by decide,show qi 6 115=false by decide,ni.out,yB.out]
  simp)
 clear hR hl hs;obtain⟨q3,rX⟩:∃q3,q3=decide (dg.size=32):=⟨_,rfl⟩;rw[←rX] at HR;have mR:=zh rX;clear rX;obtain⟨p1,hp1⟩:∃p1,p1=decide (id=0):=⟨_,rfl⟩;rw[←hp1] at HR;have J6:=zh hp1;clear hp1;obtain⟨p2,hp2⟩:∃p2,p2=decide (nm=ByteArray.empty):=⟨_,rfl⟩;rw[←hp2] at HR;have vQ:=zh hp2;clear hp2;obtain⟨p4,hp4⟩:∃p4,p4=decide (n4=0):=⟨_,rfl⟩;rw[←hp4] at HR;have vR:=zh hp4;clear hp4;obtain⟨p5,hp5⟩:∃p5,p5=decide (n5=0):=⟨_,rfl⟩;rw[←hp5] at HR;have vS:=zh hp5;clear hp5
 go_enter Tryz.func61,Tryz.ntmps61
 go_wp2_with fail
 refine(qu (k:=6) (c:=105)).mono ?_;rw[show qi 6 105=false by decide];rintro e w1 ⟨rfl,hb1⟩
 (obtain⟨np,hf_w1⟩:=ql hb1;have mH:w.heap.size<w1.heap.size:=(by have:=hb1.size;first|omega|(simp at this;omega)))
 go_wp2_with fail
 refine(qu (k:=6) (c:=110)).mono ?_;rw[show qi 6 110=false by decide];rintro e w2 ⟨rfl,hb2⟩
 (obtain⟨pk,hf_w2⟩:=ql hb2;have nD:w.heap.size<w2.heap.size:=(by have:=hb2.size;first|omega|(simp at this;omega)))
 go_wp2_with fail
 refine(qu (k:=6) (c:=100)).mono ?_;rw[show qi 6 100=true by decide];rintro e w3 ⟨rfl,hb3⟩
 (obtain⟨pS,hf_w3⟩:=ql hb3;have nR:w.heap.size<w3.heap.size:=(by have:=hb3.size;first|omega|(simp at this;omega)))
 cases q3 with
 |false=>
  have hd1:=of_decide_eq_false mR.out.symm;go_wp2
  go_ret
  exact⟨by rw[HR.out];rfl,bz⟩
 |true=>
  have hd1:=of_decide_eq_true mR.out.symm;go_wp2_with fail
  refine(qu (k:=6) (c:=108)).mono ?_;rw[show qi 6 108=false by decide];rintro e w4 ⟨rfl,hb4⟩
  (obtain⟨uf,hf_w4⟩:=ql hb4;have pI:w.heap.size<w4.heap.size:=(by have:=hb4.size;first|omega|(simp at this;omega)))
  go_wp2_with fail
  refine(qu (k:=6) (c:=115)).mono ?_;rw[show qi 6 115=false by decide];rintro e w5 ⟨rfl,gG⟩
  (obtain⟨ug,hf_w5⟩:=ql gG;have pJ:w.heap.size<w5.heap.size:=(by have:=gG.size;first|omega|(simp at this;omega)))
  go_wp2_with fail
  refine(qu (k:=6) (c:=105)).mono ?_;rw[show qi 6 105=false by decide];rintro e w6 ⟨rfl,gp⟩
  (obtain⟨uh,hf_w6⟩:=ql gp;have pK:w.heap.size<w6.heap.size:=(by have:=gp.size;first|omega|(simp at this;omega)))
  cases p1 with
  |false=>
   have ht:=of_decide_eq_false J6.out.symm;go_wp2
   go_ret
   exact⟨by rw[HR.out];rfl,bz⟩
  |true=>
   have ht:=of_decide_eq_true J6.out.symm;subst ht;go_wp2_with fail
   refine(qu (k:=6) (c:=110)).mono ?_;rw[show qi 6 110=false by decide];rintro e w7 ⟨rfl,gv⟩
   (obtain⟨ui,hf_w7⟩:=ql gv;have pL:w.heap.size<w7.heap.size:=(by have:=gv.size;first|omega|(simp at this;omega)))
   cases p2 with
   |false=>
    have ht:¬nm.toList=[]:=fun e=>of_decide_eq_false vQ.out.symm ((zi _).1 e);go_wp2
    go_ret
    exact⟨by rw[HR.out];rfl,bz⟩
   |true=>
    have ht:nm.toList=[]:=(zi _).2 (of_decide_eq_true vQ.out.symm);go_wp2_with fail
    refine(qu (k:=6) (c:=100)).mono ?_;rw[show qi 6 100=true by decide];rintro e w8 ⟨rfl,hb8⟩
    (obtain⟨uj,hf_w8⟩:=ql hb8;have pM:w.heap.size<w8.heap.size:=(by have:=hb8.size;first|omega|(simp at this;omega)))
    go_wp2_with fail
    refine(qu (k:=6) (c:=108)).mono ?_;rw[show qi 6 108=false by decide];rintro e w9 ⟨rfl,gW⟩
    (obtain⟨uk,hf_w9⟩:=ql gW;have pN:w.heap.size<w9.heap.size:=(by have:=gW.size;first|omega|(simp at this;omega)))
    cases p4 with
    |false=>
     have ht:=of_decide_eq_false vR.out.symm;go_wp2
     go_ret
     exact⟨by rw[HR.out];rfl,bz⟩
    |true=>
     have ht:=of_decide_eq_true vR.out.symm;subst ht;go_wp2_with fail
     refine(qu (k:=6) (c:=115)).mono ?_;rw[show qi 6 115=false by decide];rintro e nk ⟨rfl,gT⟩
     (obtain⟨pO,hf_w10⟩:=ql gT;have nS:w.heap.size<nk.heap.size:=(by have:=gT.size;first|omega|(simp at this;omega)))
     cases p5 with
     |false=>
      have ht0:=of_decide_eq_false vS.out.symm;have ht:((n5:Int)==0)=false:=(by simp;omega);clear ht0;go_wp2
      go_ret
      exact⟨by rw[HR.out];rfl,bz⟩
     |true=>
      have ht:=of_decide_eq_true vS.out.symm;subst ht;go_wp2
      go_ret
      exact⟨by rw[HR.out];rfl,bz⟩
theorem Jj {tg:Bool}{S:Nat→Prop}{w:World}{A4 A5:Option Addr}{n4 c4 n5 c5:Nat}{id:Int}{nm dg:ByteArray}{li:List Int}{sl:List Slot}(hl:Sl tg 3 qD w S A4 n4 c4 li) (hs:Sl tg 88 qp w S A5 n5 c5 sl):
  Calls Tryz.prog 61 #[.agg #[.int .i64 7,.int .i64 id,.string nm,.string dg,.slice A4 n4 c4,.slice A5 n5 c5]] w (Bf (.bool (qy ⟨7,id,nm,dg,li,sl⟩)) w):=by
 have ni:=zh hl.len;have yB:=zh hs.len;have nu:n4≤9223372036854775807:=Nat.le_trans hl.le hl.cap;have nH:n5≤9223372036854775807:=Nat.le_trans hs.le hs.cap;have HL:=zh (fun W (hW:Below w.heap.size w W)=>jt (kd:=7) (id:=id) (nm:=nm) (dg:=dg) (B:=A5) (n5:=n5) (c5:=c5) (hl.all hW));have HS:=zh (fun W (hW:Below w.heap.size w W)=>xA (hs.all hW));obtain⟨R,hR⟩:∃R,R=qy ⟨7,id,nm,dg,li,sl⟩:=⟨_,rfl⟩;rw[←hR]
 have HR:Hid (R=(decide (1≤nm.size∧nm.size≤40)&&(decide (dg.size=32)&&(decide (id=0)&&(decide (n4=0)&&(decide (n5=0))))))):=zh (by
  rw[hR];unfold qy;simp only[show qi 7 105=false by decide,show qi 7 110=true by decide,show qi 7 100=true by decide,show qi 7 108=false by decide,show qi 7 115=false by decide,ni.out,yB.out]
  simp)
 clear hR hl hs;obtain⟨q2,hq2⟩:∃q2,q2=decide (1≤nm.size∧nm.size≤40):=⟨_,rfl⟩;rw[←hq2] at HR;have mG:=zh hq2;clear hq2;obtain⟨q3,rX⟩:∃q3,q3=decide (dg.size=32):=⟨_,rfl⟩;rw[←rX] at HR;have mR:=zh rX;clear rX;obtain⟨p1,hp1⟩:∃p1,p1=decide (id=0):=⟨_,rfl⟩;rw[←hp1] at HR;have J6:=zh hp1;clear hp1;obtain⟨p4,hp4⟩:∃p4,p4=decide (n4=0):=⟨_,rfl⟩;rw[←hp4] at HR;have vR:=zh hp4;clear hp4;obtain⟨p5,hp5⟩:∃p5,p5=decide (n5=0):=⟨_,rfl⟩;rw[←hp5] at HR;have vS:=zh hp5;clear hp5
 go_enter Tryz.func61,Tryz.ntmps61
 go_wp2_with fail
 refine(qu (k:=7) (c:=105)).mono ?_;rw[show qi 7 105=false by decide];rintro e w1 ⟨rfl,hb1⟩
 (obtain⟨np,hf_w1⟩:=ql hb1;have mH:w.heap.size<w1.heap.size:=(by have:=hb1.size;first|omega|(simp at this;omega)))
 go_wp2_with fail
 refine(qu (k:=7) (c:=110)).mono ?_;rw[show qi 7 110=true by decide];rintro e w2 ⟨rfl,hb2⟩
 (obtain⟨pk,hf_w2⟩:=ql hb2;have nD:w.heap.size<w2.heap.size:=(by have:=hb2.size;first|omega|(simp at this;omega)))
 cases q2 with
 |false=>
  have hz:=of_decide_eq_false mG.out.symm;by_cases hz1:nm.size<1
  ·have hz2:nm.size=0:=(by omega);clear hz hz1;go_wp2
   go_ret
   exact⟨by rw[HR.out];rfl,bz⟩
  have hz2:¬nm.size≤40:=by omega
  clear hz;go_wp2
  go_ret
  exact⟨by rw[HR.out];rfl,bz⟩
 |true=>
  have hz1:=(of_decide_eq_true mG.out.symm).1;have hz2:=(of_decide_eq_true mG.out.symm).2;go_wp2_with fail
  refine(qu (k:=7) (c:=100)).mono ?_;rw[show qi 7 100=true by decide];rintro e w3 ⟨rfl,hb3⟩
  (obtain⟨pS,hf_w3⟩:=ql hb3;have nR:w.heap.size<w3.heap.size:=(by have:=hb3.size;first|omega|(simp at this;omega)))
  cases q3 with
  |false=>
   have hd1:=of_decide_eq_false mR.out.symm;have hd2:((dg.size:Int) !=32)=true:=(by simp;omega);clear hd1;go_wp2
   go_ret
   exact⟨by rw[HR.out];rfl,bz⟩
  |true=>
   have hd1:=of_decide_eq_true mR.out.symm;go_wp2_with fail
   refine(qu (k:=7) (c:=108)).mono ?_;rw[show qi 7 108=false by decide];rintro e w4 ⟨rfl,hb4⟩
   (obtain⟨uf,hf_w4⟩:=ql hb4;have pI:w.heap.size<w4.heap.size:=(by have:=hb4.size;first|omega|(simp at this;omega)))
   go_wp2_with fail
   refine(qu (k:=7) (c:=115)).mono ?_;rw[show qi 7 115=false by decide];rintro e w5 ⟨rfl,gG⟩
   (obtain⟨ug,hf_w5⟩:=ql gG;have pJ:w.heap.size<w5.heap.size:=(by have:=gG.size;first|omega|(simp at this;omega)))
   go_wp2_with fail
   refine(qu (k:=7) (c:=105)).mono ?_;rw[show qi 7 105=false by decide];rintro e w6 ⟨rfl,gp⟩
   (obtain⟨uh,hf_w6⟩:=ql gp;have pK:w.heap.size<w6.heap.size:=(by have:=gp.size;first|omega|(simp at this;omega)))
   cases p1 with
   |false=>
    have ht:=of_decide_eq_false J6.out.symm;go_wp2
    go_ret
    exact⟨by rw[HR.out];rfl,bz⟩
   |true=>
    have ht:=of_decide_eq_true J6.out.symm;subst ht;go_wp2_with fail
    refine(qu (k:=7) (c:=110)).mono ?_;rw[show qi 7 110=true by decide];rintro e w7 ⟨rfl,gv⟩
    (obtain⟨ui,hf_w7⟩:=ql gv;have pL:w.heap.size<w7.heap.size:=(by have:=gv.size;first|omega|(simp at this;omega)))
    go_wp2_with fail
    refine(qu (k:=7) (c:=100)).mono ?_;rw[show qi 7 100=true by decide];rintro e w8 ⟨rfl,hb8⟩
    (obtain⟨uj,hf_w8⟩:=ql hb8;have pM:w.heap.size<w8.heap.size:=(by have:=hb8.size;first|omega|(simp at this;omega)))
    go_wp2_with fail
    refine(qu (k:=7) (c:=108)).mono ?_;rw[show qi 7 108=false by decide];rintro e w9 ⟨rfl,gW⟩
    (obtain⟨uk,hf_w9⟩:=ql gW;have pN:w.heap.size<w9.heap.size:=(by have:=gW.size;first|omega|(simp at this;omega)))
    cases p4 with
    |false=>
     have ht:=of_decide_eq_false vR.out.symm;go_wp2
     go_ret
     exact⟨by rw[HR.out];rfl,bz⟩
    |true=>
     have ht:=of_decide_eq_true vR.out.symm;subst ht;go_wp2_with fail
     refine(qu (k:=7) (c:=115)).mono ?_;rw[show qi 7 115=false by decide];rintro e nk ⟨rfl,gT⟩
     (obtain⟨pO,hf_w10⟩:=ql gT;have nS:w.heap.size<nk.heap.size:=(by have:=gT.size;first|omega|(simp at this;omega)))
     cases p5 with
     |false=>
      have ht0:=of_decide_eq_false vS.out.symm;have ht:((n5:Int)==0)=false:=(by simp;omega);clear ht0;go_wp2
      go_ret
      exact⟨by rw[HR.out];rfl,bz⟩
     |true=>
      have ht:=of_decide_eq_true vS.out.symm;subst ht;go_wp2
      go_ret
      exact⟨by rw[HR.out];rfl,bz⟩
theorem Jk {tg:Bool}{S:Nat→Prop}{w:World}{A4 A5:Option Addr}{n4 c4 n5 c5:Nat}{id:Int}{nm dg:ByteArray}{li:List Int}{sl:List Slot}(hl:Sl tg 3 qD w S A4 n4 c4 li) (hs:Sl tg 88 qp w S A5 n5 c5 sl):
  Calls Tryz.prog 61 #[.agg #[.int .i64 8,.int .i64 id,.string nm,.string dg,.slice A4 n4 c4,.slice A5 n5 c5]] w (Bf (.bool (qy ⟨8,id,nm,dg,li,sl⟩)) w):=by
 have ni:=zh hl.len;have yB:=zh hs.len;have nu:n4≤9223372036854775807:=Nat.le_trans hl.le hl.cap;have nH:n5≤9223372036854775807:=Nat.le_trans hs.le hs.cap;have HL:=zh (fun W (hW:Below w.heap.size w W)=>jt (kd:=8) (id:=id) (nm:=nm) (dg:=dg) (B:=A5) (n5:=n5) (c5:=c5) (hl.all hW));have HS:=zh (fun W (hW:Below w.heap.size w W)=>xA (hs.all hW));obtain⟨R,hR⟩:∃R,R=qy ⟨8,id,nm,dg,li,sl⟩:=⟨_,rfl⟩;rw[←hR]
 have HR:Hid (R=(decide (1≤nm.size∧nm.size≤40)&&(decide (id=0)&&(decide (dg=ByteArray.empty)&&(decide (n4=0)&&(decide (n5=0))))))):=zh (by
  rw[hR];unfold qy;simp only[show qi 8 105=false by decide,show qi 8 110=true by decide,show qi 8 100=false by decide,show qi 8 108=false by decide,show qi 8 115=false by decide,ni.out,yB.out]
  simp)
 clear hR hl hs;obtain⟨q2,hq2⟩:∃q2,q2=decide (1≤nm.size∧nm.size≤40):=⟨_,rfl⟩;rw[←hq2] at HR;have mG:=zh hq2;clear hq2;obtain⟨p1,hp1⟩:∃p1,p1=decide (id=0):=⟨_,rfl⟩;rw[←hp1] at HR;have J6:=zh hp1;clear hp1;obtain⟨p3,hp3⟩:∃p3,p3=decide (dg=ByteArray.empty):=⟨_,rfl⟩;rw[←hp3] at HR;have yZ:=zh hp3;clear hp3;obtain⟨p4,hp4⟩:∃p4,p4=decide (n4=0):=⟨_,rfl⟩;rw[←hp4] at HR;have vR:=zh hp4;clear hp4;obtain⟨p5,hp5⟩:∃p5,p5=decide (n5=0):=⟨_,rfl⟩;rw[←hp5] at HR;have vS:=zh hp5;clear hp5
 go_enter Tryz.func61,Tryz.ntmps61
 go_wp2_with fail
 refine(qu (k:=8) (c:=105)).mono ?_;rw[show qi 8 105=false by decide];rintro e w1 ⟨rfl,hb1⟩
 (obtain⟨np,hf_w1⟩:=ql hb1;have mH:w.heap.size<w1.heap.size:=(by have:=hb1.size;first|omega|(simp at this;omega)))
 go_wp2_with fail
 refine(qu (k:=8) (c:=110)).mono ?_;rw[show qi 8 110=true by decide];rintro e w2 ⟨rfl,hb2⟩
 (obtain⟨pk,hf_w2⟩:=ql hb2;have nD:w.heap.size<w2.heap.size:=(by have:=hb2.size;first|omega|(simp at this;omega)))
 cases q2 with
 |false=>
  have hz:=of_decide_eq_false mG.out.symm;by_cases hz1:nm.size<1
  ·have hz2:nm.size=0:=(by omega);clear hz hz1;go_wp2
   go_ret
   exact⟨by rw[HR.out];rfl,bz⟩
  have hz2:¬nm.size≤40:=by omega
  clear hz;go_wp2
  go_ret
  exact⟨by rw[HR.out];rfl,bz⟩
 |true=>
  have hz1:=(of_decide_eq_true mG.out.symm).1;have hz2:=(of_decide_eq_true mG.out.symm).2;go_wp2_with fail
  refine(qu (k:=8) (c:=100)).mono ?_;rw[show qi 8 100=false by decide];rintro e w3 ⟨rfl,hb3⟩
  (obtain⟨pS,hf_w3⟩:=ql hb3;have nR:w.heap.size<w3.heap.size:=(by have:=hb3.size;first|omega|(simp at this;omega)))
  go_wp2_with fail
  refine(qu (k:=8) (c:=108)).mono ?_;rw[show qi 8 108=false by decide];rintro e w4 ⟨rfl,hb4⟩
  (obtain⟨uf,hf_w4⟩:=ql hb4;have pI:w.heap.size<w4.heap.size:=(by have:=hb4.size;first|omega|(simp at this;omega)))
  go_wp2_with fail
  refine(qu (k:=8) (c:=115)).mono ?_;rw[show qi 8 115=false by decide];rintro e w5 ⟨rfl,gG⟩
  (obtain⟨ug,hf_w5⟩:=ql gG;have pJ:w.heap.size<w5.heap.size:=(by have:=gG.size;first|omega|(simp at this;omega)))
  go_wp2_with fail
  refine(qu (k:=8) (c:=105)).mono ?_;rw[show qi 8 105=false by decide];rintro e w6 ⟨rfl,gp⟩
  (obtain⟨uh,hf_w6⟩:=ql gp;have pK:w.heap.size<w6.heap.size:=(by have:=gp.size;first|omega|(simp at this;omega)))
  cases p1 with
  |false=>
   have ht:=of_decide_eq_false J6.out.symm;go_wp2
   go_ret
   exact⟨by rw[HR.out];rfl,bz⟩
  |true=>
   have ht:=of_decide_eq_true J6.out.symm;subst ht;go_wp2_with fail
   refine(qu (k:=8) (c:=110)).mono ?_;rw[show qi 8 110=true by decide];rintro e w7 ⟨rfl,gv⟩
   (obtain⟨ui,hf_w7⟩:=ql gv;have pL:w.heap.size<w7.heap.size:=(by have:=gv.size;first|omega|(simp at this;omega)))
   go_wp2_with fail
   refine(qu (k:=8) (c:=100)).mono ?_;rw[show qi 8 100=false by decide];rintro e w8 ⟨rfl,hb8⟩
   (obtain⟨uj,hf_w8⟩:=ql hb8;have pM:w.heap.size<w8.heap.size:=(by have:=hb8.size;first|omega|(simp at this;omega)))
   cases p3 with
   |false=>
    have ht:¬dg.toList=[]:=fun e=>of_decide_eq_false yZ.out.symm ((zi _).1 e);go_wp2
    go_ret
    exact⟨by rw[HR.out];rfl,bz⟩
   |true=>
    have ht:dg.toList=[]:=(zi _).2 (of_decide_eq_true yZ.out.symm);go_wp2_with fail
    refine(qu (k:=8) (c:=108)).mono ?_;rw[show qi 8 108=false by decide];rintro e w9 ⟨rfl,gW⟩
    (obtain⟨uk,hf_w9⟩:=ql gW;have pN:w.heap.size<w9.heap.size:=(by have:=gW.size;first|omega|(simp at this;omega)))
    cases p4 with
    |false=>
     have ht:=of_decide_eq_false vR.out.symm;go_wp2
     go_ret
     exact⟨by rw[HR.out];rfl,bz⟩
    |true=>
     have ht:=of_decide_eq_true vR.out.symm;subst ht;go_wp2_with fail
     refine(qu (k:=8) (c:=115)).mono ?_;rw[show qi 8 115=false by decide];rintro e nk ⟨rfl,gT⟩
     (obtain⟨pO,hf_w10⟩:=ql gT;have nS:w.heap.size<nk.heap.size:=(by have:=gT.size;first|omega|(simp at this;omega)))
     cases p5 with
     |false=>
      have ht0:=of_decide_eq_false vS.out.symm;have ht:((n5:Int)==0)=false:=(by simp;omega);clear ht0;go_wp2
      go_ret
      exact⟨by rw[HR.out];rfl,bz⟩
     |true=>
      have ht:=of_decide_eq_true vS.out.symm;subst ht;go_wp2
      go_ret
      exact⟨by rw[HR.out];rfl,bz⟩
theorem Kc {tg:Bool}{S:Nat→Prop}{w:World}{A4 A5:Option Addr}{n4 c4 n5 c5:Nat}{r:Bb}(hl:Sl tg 3 qD w S A4 n4 c4 r.list) (hs:Sl tg 88 qp w S A5 n5 c5 r.slots):
  Calls Tryz.prog 61 #[.agg #[.int .i64 r.kind,.int .i64 r.id,.string r.name,.string r.digest,.slice A4 n4 c4,.slice A5 n5 c5]] w (Bf (.bool (qy r)) w):=by
 obtain⟨k,id,nm,dg,li,sl⟩:=r;simp only at hl hs⊢;by_cases h1:k<1
 ·have HE:Hid (qy ⟨k,id,nm,dg,li,sl⟩=false):=zh (by unfold qy;rw[decide_eq_false (by simp only;omega)];rfl);generalize qy ⟨k,id,nm,dg,li,sl⟩=R at *;clear hl hs
  go_enter Tryz.func61,Tryz.ntmps61
  go_wp2
  go_ret
  exact⟨by rw[HE.out];rfl,bz⟩
 by_cases h2:8<k
 ·have HE:Hid (qy ⟨k,id,nm,dg,li,sl⟩=false):=zh (by unfold qy;rw[decide_eq_false (by simp only;omega)];rfl);generalize qy ⟨k,id,nm,dg,li,sl⟩=R at *;clear hl hs
  go_enter Tryz.func61,Tryz.ntmps61
  go_wp2
  go_ret
  exact⟨by rw[HE.out];rfl,bz⟩
 rcases (by omega:k=1∨k=2∨k=3∨k=4∨k=5∨k=6∨k=7∨k=8) with h|h|h|h|h|h|h|h<;>subst h
 ·exact Jd hl hs
 ·exact Je hl hs
 ·exact Jf hl hs
 ·exact Jg hl hs
 ·exact Jh hl hs
 ·exact Ji hl hs
 ·exact Jj hl hs
 exact Jk hl hs
end Go.Proofs.YtipecejghioicaaGreat
