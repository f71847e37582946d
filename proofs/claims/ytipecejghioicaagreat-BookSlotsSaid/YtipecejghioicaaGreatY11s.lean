/- Record.May, kind by kind. -/
import Derived.Test.YtipecejghioicaaGreatY10s
import Derived.Lib.Bytes
import Derived.Test.YtipecejghioicaaGreatP0s
set_option maxHeartbeats 8000000
set_option maxRecDepth 100000
namespace Go.Proofs.YtipecejghioicaaGreat
open Go.RowKit Go.Silo
def qK (r:Bt):Bool:=decide (1≤r.kind∧r.kind≤8)&&
 ((!qh r.kind 105||qM r.id)&&((!qh r.kind 110||decide (1≤r.name.size∧r.name.size≤40))&&((!qh r.kind 100||decide (r.digest.size=32))&&((!qh r.kind 108||xc r.kind r.list)&&((!qh r.kind 115||zU r.slots)&&
   ((qh r.kind 105||decide (r.id=0))&&((qh r.kind 110||decide (r.name=ByteArray.empty))&&((qh r.kind 100||decide (r.digest=ByteArray.empty))&&((qh r.kind 108||decide (r.list.length=0))&&(qh r.kind 115||decide (r.slots.length=0)))))))))))
theorem qR (x:ByteArray):x.toList=[]↔x=ByteArray.empty:=by
 rw[Lib.toList_data];constructor
 ·intro h
  cases x with
  |mk d=>simp only[ByteArray.empty,ByteArray.emptyWithCapacity] at *;congr 1;exact Array.toList_eq_nil_iff.1 h
 intro h;subst h;rfl
theorem XY {tg:Bool}{S:Nat→Prop}{w:World}{A4 A5:Option Addr}{n4 c4 n5 c5:Nat}{id:Int}{nm dg:ByteArray}{li:List Int}{sl:List Slot}(hl:Sl tg 3 Bd w S A4 n4 c4 li) (hs:Sl tg 88 qz w S A5 n5 c5 sl):
  Calls Tryz.prog 61 #[.agg #[.int .i64 1,.int .i64 id,.string nm,.string dg,.slice A4 n4 c4,.slice A5 n5 c5]] w (Bf (.bool (qK ⟨1,id,nm,dg,li,sl⟩)) w):=by
 have mG:=zh hl.len;have ul:=zh hs.len;have nA:n4≤9223372036854775807:=Nat.le_trans hl.le hl.cap;have nS:n5≤9223372036854775807:=Nat.le_trans hs.le hs.cap;have HL:=zh (fun W (hW:Below w.heap.size w W)=>jc (kd:=1) (id:=id) (nm:=nm) (dg:=dg) (B:=A5) (n5:=n5) (c5:=c5) (hl.all hW));have HS:=zh (fun W (hW:Below w.heap.size w W)=>xa (hs.all hW));obtain⟨R,hR⟩:∃R,R=qK ⟨1,id,nm,dg,li,sl⟩:=⟨_,rfl⟩;rw[←hR]
 have HR:Hid (R=(qM id&&(zU sl&&(decide (nm=ByteArray.empty)&&(decide (dg=ByteArray.empty)&&(decide (n4=0))))))):=zh (by
  rw[hR];unfold qK;simp only[show qh 1 105=true by decide,show qh 1 110=false by decide,show qh 1 100=false by decide,show qh 1 108=false by decide,show qh 1 115=true by decide,mG.out,ul.out]
  simp)
 clear hR hl hs;obtain⟨q1,hq1⟩:∃q1,q1=qM id:=⟨_,rfl⟩;rw[←hq1] at HR;have yJ:=zh hq1;clear hq1;obtain⟨q5,hq5⟩:∃q5,q5=zU sl:=⟨_,rfl⟩;rw[←hq5] at HR;have HQ5:=zh hq5;clear hq5;obtain⟨p2,hp2⟩:∃p2,p2=decide (nm=ByteArray.empty):=⟨_,rfl⟩;rw[←hp2] at HR;have rH:=zh hp2;clear hp2;obtain⟨p3,hp3⟩:∃p3,p3=decide (dg=ByteArray.empty):=⟨_,rfl⟩;rw[←hp3] at HR;have pP:=zh hp3;clear hp3;obtain⟨p4,hp4⟩:∃p4,p4=decide (n4=0):=⟨_,rfl⟩;rw[←hp4] at HR;have pB:=zh hp4;clear hp4
 go_enter Tryz.func61,Tryz.ntmps61
 go_wp2_with fail
 refine(qn (k:=1) (c:=105)).mono ?_;rw[show qh 1 105=true by decide];rintro e w1 ⟨rfl,hb1⟩
 (obtain⟨mb,hf_w1⟩:=qg hb1;have gU:w.heap.size<w1.heap.size:=(by have:=hb1.size;first|omega|(simp at this;omega)))
 go_wp2_with fail
 refine(BM (n:=id)).mono ?_;rw[←yJ.out];rintro e w2 ⟨rfl,hb2⟩
 (obtain⟨nT,hf_w2⟩:=qg hb2;have mL:w.heap.size<w2.heap.size:=(by have:=hb2.size;first|omega|(simp at this;omega)))
 cases q1 with
 |false=>
  go_wp2
  go_ret
  exact⟨by rw[HR.out];rfl,bz⟩
 |true=>
  go_wp2_with fail
  refine(qn (k:=1) (c:=110)).mono ?_;rw[show qh 1 110=false by decide];rintro e w3 ⟨rfl,hb3⟩
  (obtain⟨nU,hf_w3⟩:=qg hb3;have mM:w.heap.size<w3.heap.size:=(by have:=hb3.size;first|omega|(simp at this;omega)))
  go_wp2_with fail
  refine(qn (k:=1) (c:=100)).mono ?_;rw[show qh 1 100=false by decide];rintro e w4 ⟨rfl,hb4⟩
  (obtain⟨nV,hf_w4⟩:=qg hb4;have mN:w.heap.size<w4.heap.size:=(by have:=hb4.size;first|omega|(simp at this;omega)))
  go_wp2_with fail
  refine(qn (k:=1) (c:=108)).mono ?_;rw[show qh 1 108=false by decide];rintro e w5 ⟨rfl,gH⟩
  (obtain⟨nW,hf_w5⟩:=qg gH;have mO:w.heap.size<w5.heap.size:=(by have:=gH.size;first|omega|(simp at this;omega)))
  go_wp2_with fail
  refine(qn (k:=1) (c:=115)).mono ?_;rw[show qh 1 115=true by decide];rintro e w6 ⟨rfl,gQ⟩
  (obtain⟨nX,hf_w6⟩:=qg gQ;have mP:w.heap.size<w6.heap.size:=(by have:=gQ.size;first|omega|(simp at this;omega)))
  go_wp2_with fail
  refine(HS.out _ bz).mono ?_;rw[←HQ5.out];rintro e w7 ⟨rfl,gh⟩
  (obtain⟨nY,hf_w7⟩:=qg gh;have mQ:w.heap.size<w7.heap.size:=(by have:=gh.size;first|omega|(simp at this;omega)))
  cases q5 with
  |false=>
   go_wp2
   go_ret
   exact⟨by rw[HR.out];rfl,bz⟩
  |true=>
   go_wp2_with fail
   refine(qn (k:=1) (c:=105)).mono ?_;rw[show qh 1 105=true by decide];rintro e w8 ⟨rfl,hb8⟩
   (obtain⟨nZ,hf_w8⟩:=qg hb8;have mR:w.heap.size<w8.heap.size:=(by have:=hb8.size;first|omega|(simp at this;omega)))
   go_wp2_with fail
   refine(qn (k:=1) (c:=110)).mono ?_;rw[show qh 1 110=false by decide];rintro e w9 ⟨rfl,mh⟩
   (obtain⟨p6,hf_w9⟩:=qg mh;have mS:w.heap.size<w9.heap.size:=(by have:=mh.size;first|omega|(simp at this;omega)))
   cases p2 with
   |false=>
    have ht:¬nm.toList=[]:=fun e=>of_decide_eq_false rH.out.symm ((qR _).1 e);go_wp2
    go_ret
    exact⟨by rw[HR.out];rfl,bz⟩
   |true=>
    have ht:nm.toList=[]:=(qR _).2 (of_decide_eq_true rH.out.symm);go_wp2_with fail
    refine(qn (k:=1) (c:=100)).mono ?_;rw[show qh 1 100=false by decide];rintro e nB ⟨rfl,gD⟩
    (obtain⟨mU,hf_w10⟩:=qg gD;have ma:w.heap.size<nB.heap.size:=(by have:=gD.size;first|omega|(simp at this;omega)))
    cases p3 with
    |false=>
     have ht:¬dg.toList=[]:=fun e=>of_decide_eq_false pP.out.symm ((qR _).1 e);go_wp2
     go_ret
     exact⟨by rw[HR.out];rfl,bz⟩
    |true=>
     have ht:dg.toList=[]:=(qR _).2 (of_decide_eq_true pP.out.symm);go_wp2_with fail
     refine(qn (k:=1) (c:=108)).mono ?_;rw[show qh 1 108=false by decide];rintro e pc ⟨rfl,hb11⟩
     (obtain⟨pV,hf_w11⟩:=qg hb11;have nH:w.heap.size<pc.heap.size:=(by have:=hb11.size;first|omega|(simp at this;omega)))
     cases p4 with
     |false=>
      have ht:=of_decide_eq_false pB.out.symm;go_wp2
      go_ret
      exact⟨by rw[HR.out];rfl,bz⟩
     |true=>
      have ht:=of_decide_eq_true pB.out.symm;subst ht;go_wp2_with fail
      refine(qn (k:=1) (c:=115)).mono ?_;rw[show qh 1 115=true by decide];rintro e z6 ⟨rfl,hb12⟩
      (obtain⟨um,hf_w12⟩:=qg hb12;have pW:w.heap.size<z6.heap.size:=(by have:=hb12.size;first|omega|(simp at this;omega)))
      go_wp2
      go_ret
      exact⟨by rw[HR.out];rfl,bz⟩
theorem XZ {tg:Bool}{S:Nat→Prop}{w:World}{A4 A5:Option Addr}{n4 c4 n5 c5:Nat}{id:Int}{nm dg:ByteArray}{li:List Int}{sl:List Slot}(hl:Sl tg 3 Bd w S A4 n4 c4 li) (hs:Sl tg 88 qz w S A5 n5 c5 sl):
  Calls Tryz.prog 61 #[.agg #[.int .i64 2,.int .i64 id,.string nm,.string dg,.slice A4 n4 c4,.slice A5 n5 c5]] w (Bf (.bool (qK ⟨2,id,nm,dg,li,sl⟩)) w):=by
 have mG:=zh hl.len;have ul:=zh hs.len;have nA:n4≤9223372036854775807:=Nat.le_trans hl.le hl.cap;have nS:n5≤9223372036854775807:=Nat.le_trans hs.le hs.cap;have HL:=zh (fun W (hW:Below w.heap.size w W)=>jc (kd:=2) (id:=id) (nm:=nm) (dg:=dg) (B:=A5) (n5:=n5) (c5:=c5) (hl.all hW));have HS:=zh (fun W (hW:Below w.heap.size w W)=>xa (hs.all hW));obtain⟨R,hR⟩:∃R,R=qK ⟨2,id,nm,dg,li,sl⟩:=⟨_,rfl⟩;rw[←hR]
 have HR:Hid (R=(qM id&&(xc 2 li&&(zU sl&&(decide (nm=ByteArray.empty)&&(decide (dg=ByteArray.empty))))))):=zh (by
  rw[hR];unfold qK;simp only[show qh 2 105=true by decide,show qh 2 110=false by decide,show qh 2 100=false by decide,show qh 2 108=true by decide,show qh 2 115=true by decide,mG.out,ul.out]
  simp)
 clear hR hl hs;obtain⟨q1,hq1⟩:∃q1,q1=qM id:=⟨_,rfl⟩;rw[←hq1] at HR;have yJ:=zh hq1;clear hq1;obtain⟨q4,uw⟩:∃q4,q4=xc 2 li:=⟨_,rfl⟩;rw[←uw] at HR;have HQ4:=zh uw;clear uw;obtain⟨q5,hq5⟩:∃q5,q5=zU sl:=⟨_,rfl⟩;rw[←hq5] at HR;have HQ5:=zh hq5;clear hq5;obtain⟨p2,hp2⟩:∃p2,p2=decide (nm=ByteArray.empty):=⟨_,rfl⟩;rw[←hp2] at HR;have rH:=zh hp2;clear hp2;obtain⟨p3,hp3⟩:∃p3,p3=decide (dg=ByteArray.empty):=⟨_,rfl⟩;rw[←hp3] at HR;have pP:=zh hp3;clear hp3
 go_enter Tryz.func61,Tryz.ntmps61
 go_wp2_with fail
 refine(qn (k:=2) (c:=105)).mono ?_;rw[show qh 2 105=true by decide];rintro e w1 ⟨rfl,hb1⟩
 (obtain⟨mb,hf_w1⟩:=qg hb1;have gU:w.heap.size<w1.heap.size:=(by have:=hb1.size;first|omega|(simp at this;omega)))
 go_wp2_with fail
 refine(BM (n:=id)).mono ?_;rw[←yJ.out];rintro e w2 ⟨rfl,hb2⟩
 (obtain⟨nT,hf_w2⟩:=qg hb2;have mL:w.heap.size<w2.heap.size:=(by have:=hb2.size;first|omega|(simp at this;omega)))
 cases q1 with
 |false=>
  go_wp2
  go_ret
  exact⟨by rw[HR.out];rfl,bz⟩
 |true=>
  go_wp2_with fail
  refine(qn (k:=2) (c:=110)).mono ?_;rw[show qh 2 110=false by decide];rintro e w3 ⟨rfl,hb3⟩
  (obtain⟨nU,hf_w3⟩:=qg hb3;have mM:w.heap.size<w3.heap.size:=(by have:=hb3.size;first|omega|(simp at this;omega)))
  go_wp2_with fail
  refine(qn (k:=2) (c:=100)).mono ?_;rw[show qh 2 100=false by decide];rintro e w4 ⟨rfl,hb4⟩
  (obtain⟨nV,hf_w4⟩:=qg hb4;have mN:w.heap.size<w4.heap.size:=(by have:=hb4.size;first|omega|(simp at this;omega)))
  go_wp2_with fail
  refine(qn (k:=2) (c:=108)).mono ?_;rw[show qh 2 108=true by decide];rintro e w5 ⟨rfl,gH⟩
  (obtain⟨nW,hf_w5⟩:=qg gH;have mO:w.heap.size<w5.heap.size:=(by have:=gH.size;first|omega|(simp at this;omega)))
  go_wp2_with fail
  refine(HL.out _ bz).mono ?_;rw[←HQ4.out];rintro e w6 ⟨rfl,gQ⟩
  (obtain⟨nX,hf_w6⟩:=qg gQ;have mP:w.heap.size<w6.heap.size:=(by have:=gQ.size;first|omega|(simp at this;omega)))
  cases q4 with
  |false=>
   go_wp2
   go_ret
   exact⟨by rw[HR.out];rfl,bz⟩
  |true=>
   go_wp2_with fail
   refine(qn (k:=2) (c:=115)).mono ?_;rw[show qh 2 115=true by decide];rintro e w7 ⟨rfl,gh⟩
   (obtain⟨nY,hf_w7⟩:=qg gh;have mQ:w.heap.size<w7.heap.size:=(by have:=gh.size;first|omega|(simp at this;omega)))
   go_wp2_with fail
   refine(HS.out _ bz).mono ?_;rw[←HQ5.out];rintro e w8 ⟨rfl,hb8⟩
   (obtain⟨nZ,hf_w8⟩:=qg hb8;have mR:w.heap.size<w8.heap.size:=(by have:=hb8.size;first|omega|(simp at this;omega)))
   cases q5 with
   |false=>
    go_wp2
    go_ret
    exact⟨by rw[HR.out];rfl,bz⟩
   |true=>
    go_wp2_with fail
    refine(qn (k:=2) (c:=105)).mono ?_;rw[show qh 2 105=true by decide];rintro e w9 ⟨rfl,mh⟩
    (obtain⟨p6,hf_w9⟩:=qg mh;have mS:w.heap.size<w9.heap.size:=(by have:=mh.size;first|omega|(simp at this;omega)))
    go_wp2_with fail
    refine(qn (k:=2) (c:=110)).mono ?_;rw[show qh 2 110=false by decide];rintro e nB ⟨rfl,gD⟩
    (obtain⟨mU,hf_w10⟩:=qg gD;have ma:w.heap.size<nB.heap.size:=(by have:=gD.size;first|omega|(simp at this;omega)))
    cases p2 with
    |false=>
     have ht:¬nm.toList=[]:=fun e=>of_decide_eq_false rH.out.symm ((qR _).1 e);go_wp2
     go_ret
     exact⟨by rw[HR.out];rfl,bz⟩
    |true=>
     have ht:nm.toList=[]:=(qR _).2 (of_decide_eq_true rH.out.symm);go_wp2_with fail
     refine(qn (k:=2) (c:=100)).mono ?_;rw[show qh 2 100=false by decide];rintro e pc ⟨rfl,hb11⟩
     (obtain⟨pV,hf_w11⟩:=qg hb11;have nH:w.heap.size<pc.heap.size:=(by have:=hb11.size;first|omega|(simp at this;omega)))
     cases p3 with
     |false=>
      have ht:¬dg.toList=[]:=fun e=>of_decide_eq_false pP.out.symm ((qR _).1 e);go_wp2
      go_ret
      exact⟨by rw[HR.out];rfl,bz⟩
     |true=>
      have ht:dg.toList=[]:=(qR _).2 (of_decide_eq_true pP.out.symm);go_wp2_with fail
      refine(qn (k:=2) (c:=108)).mono ?_;rw[show qh 2 108=true by decide];rintro e z6 ⟨rfl,hb12⟩
      (obtain⟨um,hf_w12⟩:=qg hb12;have pW:w.heap.size<z6.heap.size:=(by have:=hb12.size;first|omega|(simp at this;omega)))
      go_wp2_with fail
      refine(qn (k:=2) (c:=115)).mono ?_;rw[show qh 2 115=true by decide];rintro e w13 ⟨rfl,pq⟩
      (obtain⟨hc_w13,hf_w13⟩:=qg pq;have z_w13_0:w.heap.size<w13.heap.size:=(by have:=pq.size;first|omega|(simp at this;omega)))
      go_wp2
      go_ret
      exact⟨by rw[HR.out];rfl,bz⟩
theorem Ja {tg:Bool}{S:Nat→Prop}{w:World}{A4 A5:Option Addr}{n4 c4 n5 c5:Nat}{id:Int}{nm dg:ByteArray}{li:List Int}{sl:List Slot}(hl:Sl tg 3 Bd w S A4 n4 c4 li) (hs:Sl tg 88 qz w S A5 n5 c5 sl):
  Calls Tryz.prog 61 #[.agg #[.int .i64 3,.int .i64 id,.string nm,.string dg,.slice A4 n4 c4,.slice A5 n5 c5]] w (Bf (.bool (qK ⟨3,id,nm,dg,li,sl⟩)) w):=by
 have mG:=zh hl.len;have ul:=zh hs.len;have nA:n4≤9223372036854775807:=Nat.le_trans hl.le hl.cap;have nS:n5≤9223372036854775807:=Nat.le_trans hs.le hs.cap;have HL:=zh (fun W (hW:Below w.heap.size w W)=>jc (kd:=3) (id:=id) (nm:=nm) (dg:=dg) (B:=A5) (n5:=n5) (c5:=c5) (hl.all hW));have HS:=zh (fun W (hW:Below w.heap.size w W)=>xa (hs.all hW));obtain⟨R,hR⟩:∃R,R=qK ⟨3,id,nm,dg,li,sl⟩:=⟨_,rfl⟩;rw[←hR]
 have HR:Hid (R=(qM id&&(decide (nm=ByteArray.empty)&&(decide (dg=ByteArray.empty)&&(decide (n4=0)&&(decide (n5=0))))))):=zh (by
  rw[hR];unfold qK;simp only[show qh 3 105=true by decide,show qh 3 110=false by decide,show qh 3 100=false by decide,show qh 3 108=false by decide,show qh 3 115=false by decide,mG.out,ul.out]
  simp)
 clear hR hl hs;obtain⟨q1,hq1⟩:∃q1,q1=qM id:=⟨_,rfl⟩;rw[←hq1] at HR;have yJ:=zh hq1;clear hq1;obtain⟨p2,hp2⟩:∃p2,p2=decide (nm=ByteArray.empty):=⟨_,rfl⟩;rw[←hp2] at HR;have rH:=zh hp2;clear hp2;obtain⟨p3,hp3⟩:∃p3,p3=decide (dg=ByteArray.empty):=⟨_,rfl⟩;rw[←hp3] at HR;have pP:=zh hp3;clear hp3;obtain⟨p4,hp4⟩:∃p4,p4=decide (n4=0):=⟨_,rfl⟩;rw[←hp4] at HR;have pB:=zh hp4;clear hp4;obtain⟨p5,hp5⟩:∃p5,p5=decide (n5=0):=⟨_,rfl⟩;rw[←hp5] at HR;have rI:=zh hp5;clear hp5
 go_enter Tryz.func61,Tryz.ntmps61
 go_wp2_with fail
 refine(qn (k:=3) (c:=105)).mono ?_;rw[show qh 3 105=true by decide];rintro e w1 ⟨rfl,hb1⟩
 (obtain⟨mb,hf_w1⟩:=qg hb1;have gU:w.heap.size<w1.heap.size:=(by have:=hb1.size;first|omega|(simp at this;omega)))
 go_wp2_with fail
 refine(BM (n:=id)).mono ?_;rw[←yJ.out];rintro e w2 ⟨rfl,hb2⟩
 (obtain⟨nT,hf_w2⟩:=qg hb2;have mL:w.heap.size<w2.heap.size:=(by have:=hb2.size;first|omega|(simp at this;omega)))
 cases q1 with
 |false=>
  go_wp2
  go_ret
  exact⟨by rw[HR.out];rfl,bz⟩
 |true=>
  go_wp2_with fail
  refine(qn (k:=3) (c:=110)).mono ?_;rw[show qh 3 110=false by decide];rintro e w3 ⟨rfl,hb3⟩
  (obtain⟨nU,hf_w3⟩:=qg hb3;have mM:w.heap.size<w3.heap.size:=(by have:=hb3.size;first|omega|(simp at this;omega)))
  go_wp2_with fail
  refine(qn (k:=3) (c:=100)).mono ?_;rw[show qh 3 100=false by decide];rintro e w4 ⟨rfl,hb4⟩
  (obtain⟨nV,hf_w4⟩:=qg hb4;have mN:w.heap.size<w4.heap.size:=(by have:=hb4.size;first|omega|(simp at this;omega)))
  go_wp2_with fail
  refine(qn (k:=3) (c:=108)).mono ?_;rw[show qh 3 108=false by decide];rintro e w5 ⟨rfl,gH⟩
  (obtain⟨nW,hf_w5⟩:=qg gH;have mO:w.heap.size<w5.heap.size:=(by have:=gH.size;first|omega|(simp at this;omega)))
  go_wp2_with fail
  refine(qn (k:=3) (c:=115)).mono ?_;rw[show qh 3 115=false by decide];rintro e w6 ⟨rfl,gQ⟩
  (obtain⟨nX,hf_w6⟩:=qg gQ;have mP:w.heap.size<w6.heap.size:=(by have:=gQ.size;first|omega|(simp at this;omega)))
  go_wp2_with fail
  refine(qn (k:=3) (c:=105)).mono ?_;rw[show qh 3 105=true by decide];rintro e w7 ⟨rfl,gh⟩
  (obtain⟨nY,hf_w7⟩:=qg gh;have mQ:w.heap.size<w7.heap.size:=(by have:=gh.size;first|omega|(simp at this;omega)))
  go_wp2_with fail
  refine(qn (k:=3) (c:=110)).mono ?_;rw[show qh 3 110=false by decide];rintro e w8 ⟨rfl,hb8⟩
  (obtain⟨nZ,hf_w8⟩:=qg hb8;have mR:w.heap.size<w8.heap.size:=(by have:=hb8.size;first|omega|(simp at this;omega)))
  cases p2 with
  |false=>
   have ht:¬nm.toList=[]:=fun e=>of_decide_eq_false rH.out.symm ((qR _).1 e);go_wp2
   go_ret
   exact⟨by rw[HR.out];rfl,bz⟩
  |true=>
   have ht:nm.toList=[]:=(qR _).2 (of_decide_eq_true rH.out.symm);go_wp2_with fail
   refine(qn (k:=3) (c:=100)).mono ?_;rw[show qh 3 100=false by decide];rintro e w9 ⟨rfl,mh⟩
   (obtain⟨p6,hf_w9⟩:=qg mh;have mS:w.heap.size<w9.heap.size:=(by have:=mh.size;first|omega|(simp at this;omega)))
   cases p3 with
   |false=>
    have ht:¬dg.toList=[]:=fun e=>of_decide_eq_false pP.out.symm ((qR _).1 e);go_wp2
    go_ret
    exact⟨by rw[HR.out];rfl,bz⟩
   |true=>
    have ht:dg.toList=[]:=(qR _).2 (of_decide_eq_true pP.out.symm);go_wp2_with fail
    refine(qn (k:=3) (c:=108)).mono ?_;rw[show qh 3 108=false by decide];rintro e nB ⟨rfl,gD⟩
    (obtain⟨mU,hf_w10⟩:=qg gD;have ma:w.heap.size<nB.heap.size:=(by have:=gD.size;first|omega|(simp at this;omega)))
    cases p4 with
    |false=>
     have ht:=of_decide_eq_false pB.out.symm;go_wp2
     go_ret
     exact⟨by rw[HR.out];rfl,bz⟩
    |true=>
     have ht:=of_decide_eq_true pB.out.symm;subst ht;go_wp2_with fail
     refine(qn (k:=3) (c:=115)).mono ?_;rw[show qh 3 115=false by decide];rintro e pc ⟨rfl,hb11⟩
     (obtain⟨pV,hf_w11⟩:=qg hb11;have nH:w.heap.size<pc.heap.size:=(by have:=hb11.size;first|omega|(simp at this;omega)))
     cases p5 with
     |false=>
      have ht0:=of_decide_eq_false rI.out.symm;have ht:((n5:Int)==0)=false:=(by simp;omega);clear ht0;go_wp2
      go_ret
      exact⟨by rw[HR.out];rfl,bz⟩
     |true=>
      have ht:=of_decide_eq_true rI.out.symm;subst ht;go_wp2
      go_ret
      exact⟨by rw[HR.out];rfl,bz⟩
theorem Jb {tg:Bool}{S:Nat→Prop}{w:World}{A4 A5:Option Addr}{n4 c4 n5 c5:Nat}{id:Int}{nm dg:ByteArray}{li:List Int}{sl:List Slot}(hl:Sl tg 3 Bd w S A4 n4 c4 li) (hs:Sl tg 88 qz w S A5 n5 c5 sl):
  Calls Tryz.prog 61 #[.agg #[.int .i64 4,.int .i64 id,.string nm,.string dg,.slice A4 n4 c4,.slice A5 n5 c5]] w (Bf (.bool (qK ⟨4,id,nm,dg,li,sl⟩)) w):=by
 have mG:=zh hl.len;have ul:=zh hs.len;have nA:n4≤9223372036854775807:=Nat.le_trans hl.le hl.cap;have nS:n5≤9223372036854775807:=Nat.le_trans hs.le hs.cap;have HL:=zh (fun W (hW:Below w.heap.size w W)=>jc (kd:=4) (id:=id) (nm:=nm) (dg:=dg) (B:=A5) (n5:=n5) (c5:=c5) (hl.all hW));have HS:=zh (fun W (hW:Below w.heap.size w W)=>xa (hs.all hW));obtain⟨R,hR⟩:∃R,R=qK ⟨4,id,nm,dg,li,sl⟩:=⟨_,rfl⟩;rw[←hR]
 have HR:Hid (R=(qM id&&(decide (dg.size=32)&&(xc 4 li&&(decide (nm=ByteArray.empty)&&(decide (n5=0))))))):=zh (by
  rw[hR];unfold qK;simp only[show qh 4 105=true by decide,show qh 4 110=false by decide,show qh 4 100=true by decide,show qh 4 108=true by decide,show qh 4 115=false by decide,mG.out,ul.out]
  simp)
 clear hR hl hs;obtain⟨q1,hq1⟩:∃q1,q1=qM id:=⟨_,rfl⟩;rw[←hq1] at HR;have yJ:=zh hq1;clear hq1;obtain⟨q3,pz⟩:∃q3,q3=decide (dg.size=32):=⟨_,rfl⟩;rw[←pz] at HR;have uT:=zh pz;clear pz;obtain⟨q4,uw⟩:∃q4,q4=xc 4 li:=⟨_,rfl⟩;rw[←uw] at HR;have HQ4:=zh uw;clear uw;obtain⟨p2,hp2⟩:∃p2,p2=decide (nm=ByteArray.empty):=⟨_,rfl⟩;rw[←hp2] at HR;have rH:=zh hp2;clear hp2;obtain⟨p5,hp5⟩:∃p5,p5=decide (n5=0):=⟨_,rfl⟩;rw[←hp5] at HR;have rI:=zh hp5;clear hp5
 go_enter Tryz.func61,Tryz.ntmps61
 go_wp2_with fail
 refine(qn (k:=4) (c:=105)).mono ?_;rw[show qh 4 105=true by decide];rintro e w1 ⟨rfl,hb1⟩
 (obtain⟨mb,hf_w1⟩:=qg hb1;have gU:w.heap.size<w1.heap.size:=(by have:=hb1.size;first|omega|(simp at this;omega)))
 go_wp2_with fail
 refine(BM (n:=id)).mono ?_;rw[←yJ.out];rintro e w2 ⟨rfl,hb2⟩
 (obtain⟨nT,hf_w2⟩:=qg hb2;have mL:w.heap.size<w2.heap.size:=(by have:=hb2.size;first|omega|(simp at this;omega)))
 cases q1 with
 |false=>
  go_wp2
  go_ret
  exact⟨by rw[HR.out];rfl,bz⟩
 |true=>
  go_wp2_with fail
  refine(qn (k:=4) (c:=110)).mono ?_;rw[show qh 4 110=false by decide];rintro e w3 ⟨rfl,hb3⟩
  (obtain⟨nU,hf_w3⟩:=qg hb3;have mM:w.heap.size<w3.heap.size:=(by have:=hb3.size;first|omega|(simp at this;omega)))
  go_wp2_with fail
  refine(qn (k:=4) (c:=100)).mono ?_;rw[show qh 4 100=true by decide];rintro e w4 ⟨rfl,hb4⟩
  (obtain⟨nV,hf_w4⟩:=qg hb4;have mN:w.heap.size<w4.heap.size:=(by have:=hb4.size;first|omega|(simp at this;omega)))
  cases q3 with
  |false=>
   have hd1:=of_decide_eq_false uT.out.symm;go_wp2
   go_ret
   exact⟨by rw[HR.out];rfl,bz⟩
  |true=>
   have hd1:=of_decide_eq_true uT.out.symm;go_wp2_with fail
   refine(qn (k:=4) (c:=108)).mono ?_;rw[show qh 4 108=true by decide];rintro e w5 ⟨rfl,gH⟩
   (obtain⟨nW,hf_w5⟩:=qg gH;have mO:w.heap.size<w5.heap.size:=(by have:=gH.size;first|omega|(simp at this;omega)))
   go_wp2_with fail
   refine(HL.out _ bz).mono ?_;rw[←HQ4.out];rintro e w6 ⟨rfl,gQ⟩
   (obtain⟨nX,hf_w6⟩:=qg gQ;have mP:w.heap.size<w6.heap.size:=(by have:=gQ.size;first|omega|(simp at this;omega)))
   cases q4 with
   |false=>
    go_wp2
    go_ret
    exact⟨by rw[HR.out];rfl,bz⟩
   |true=>
    go_wp2_with fail
    refine(qn (k:=4) (c:=115)).mono ?_;rw[show qh 4 115=false by decide];rintro e w7 ⟨rfl,gh⟩
    (obtain⟨nY,hf_w7⟩:=qg gh;have mQ:w.heap.size<w7.heap.size:=(by have:=gh.size;first|omega|(simp at this;omega)))
    go_wp2_with fail
    refine(qn (k:=4) (c:=105)).mono ?_;rw[show qh 4 105=true by decide];rintro e w8 ⟨rfl,hb8⟩
    (obtain⟨nZ,hf_w8⟩:=qg hb8;have mR:w.heap.size<w8.heap.size:=(by have:=hb8.size;first|omega|(simp at this;omega)))
    go_wp2_with fail
    refine(qn (k:=4) (c:=110)).mono ?_;rw[show qh 4 110=false by decide];rintro e w9 ⟨rfl,mh⟩
    (obtain⟨p6,hf_w9⟩:=qg mh;have mS:w.heap.size<w9.heap.size:=(by have:=mh.size;first|omega|(simp at this;omega)))
    cases p2 with
    |false=>
     have ht:¬nm.toList=[]:=fun e=>of_decide_eq_false rH.out.symm ((qR _).1 e);go_wp2
     go_ret
     exact⟨by rw[HR.out];rfl,bz⟩
    |true=>
     have ht:nm.toList=[]:=(qR _).2 (of_decide_eq_true rH.out.symm);go_wp2_with fail
     refine(qn (k:=4) (c:=100)).mono ?_;rw[show qh 4 100=true by decide];rintro e nB ⟨rfl,gD⟩
     (obtain⟨mU,hf_w10⟩:=qg gD;have ma:w.heap.size<nB.heap.size:=(by have:=gD.size;first|omega|(simp at this;omega)))
     go_wp2_with fail
     refine(qn (k:=4) (c:=108)).mono ?_;rw[show qh 4 108=true by decide];rintro e pc ⟨rfl,hb11⟩
     (obtain⟨pV,hf_w11⟩:=qg hb11;have nH:w.heap.size<pc.heap.size:=(by have:=hb11.size;first|omega|(simp at this;omega)))
     go_wp2_with fail
     refine(qn (k:=4) (c:=115)).mono ?_;rw[show qh 4 115=false by decide];rintro e z6 ⟨rfl,hb12⟩
     (obtain⟨um,hf_w12⟩:=qg hb12;have pW:w.heap.size<z6.heap.size:=(by have:=hb12.size;first|omega|(simp at this;omega)))
     cases p5 with
     |false=>
      have ht0:=of_decide_eq_false rI.out.symm;have ht:((n5:Int)==0)=false:=(by simp;omega);clear ht0;go_wp2
      go_ret
      exact⟨by rw[HR.out];rfl,bz⟩
     |true=>
      have ht:=of_decide_eq_true rI.out.symm;subst ht;go_wp2
      go_ret
      exact⟨by rw[HR.out];rfl,bz⟩
theorem Jc {tg:Bool}{S:Nat→Prop}{w:World}{A4 A5:Option Addr}{n4 c4 n5 c5:Nat}{id:Int}{nm dg:ByteArray}{li:List Int}{sl:List Slot}(hl:Sl tg 3 Bd w S A4 n4 c4 li) (hs:Sl tg 88 qz w S A5 n5 c5 sl):
  Calls Tryz.prog 61 #[.agg #[.int .i64 5,.int .i64 id,.string nm,.string dg,.slice A4 n4 c4,.slice A5 n5 c5]] w (Bf (.bool (qK ⟨5,id,nm,dg,li,sl⟩)) w):=by
 have mG:=zh hl.len;have ul:=zh hs.len;have nA:n4≤9223372036854775807:=Nat.le_trans hl.le hl.cap;have nS:n5≤9223372036854775807:=Nat.le_trans hs.le hs.cap;have HL:=zh (fun W (hW:Below w.heap.size w W)=>jc (kd:=5) (id:=id) (nm:=nm) (dg:=dg) (B:=A5) (n5:=n5) (c5:=c5) (hl.all hW));have HS:=zh (fun W (hW:Below w.heap.size w W)=>xa (hs.all hW));obtain⟨R,hR⟩:∃R,R=qK ⟨5,id,nm,dg,li,sl⟩:=⟨_,rfl⟩;rw[←hR]
 have HR:Hid (R=(qM id&&(decide (dg.size=32)&&(xc 5 li&&(decide (nm=ByteArray.empty)&&(decide (n5=0))))))):=zh (by
  rw[hR];unfold qK;simp only[show qh 5 105=true by decide,show qh 5 110=false by decide,show qh 5 100=true by decide,show qh 5 108=true by decide,show qh 5 115=false by decide,mG.out,ul.out]
  simp)
 clear hR hl hs;obtain⟨q1,hq1⟩:∃q1,q1=qM id:=⟨_,rfl⟩;rw[←hq1] at HR;have yJ:=zh hq1;clear hq1;obtain⟨q3,pz⟩:∃q3,q3=decide (dg.size=32):=⟨_,rfl⟩;rw[←pz] at HR;have uT:=zh pz;clear pz;obtain⟨q4,uw⟩:∃q4,q4=xc 5 li:=⟨_,rfl⟩;rw[←uw] at HR;have HQ4:=zh uw;clear uw;obtain⟨p2,hp2⟩:∃p2,p2=decide (nm=ByteArray.empty):=⟨_,rfl⟩;rw[←hp2] at HR;have rH:=zh hp2;clear hp2;obtain⟨p5,hp5⟩:∃p5,p5=decide (n5=0):=⟨_,rfl⟩;rw[←hp5] at HR;have rI:=zh hp5;clear hp5
 go_enter Tryz.func61,Tryz.ntmps61
 go_wp2_with fail
 refine(qn (k:=5) (c:=105)).mono ?_;rw[show qh 5 105=true by decide];rintro e w1 ⟨rfl,hb1⟩
 (obtain⟨mb,hf_w1⟩:=qg hb1;have gU:w.heap.size<w1.heap.size:=(by have:=hb1.size;first|omega|(simp at this;omega)))
 go_wp2_with fail
 refine(BM (n:=id)).mono ?_;rw[←yJ.out];rintro e w2 ⟨rfl,hb2⟩
 (obtain⟨nT,hf_w2⟩:=qg hb2;have mL:w.heap.size<w2.heap.size:=(by have:=hb2.size;first|omega|(simp at this;omega)))
 cases q1 with
 |false=>
  go_wp2
  go_ret
  exact⟨by rw[HR.out];rfl,bz⟩
 |true=>
  go_wp2_with fail
  refine(qn (k:=5) (c:=110)).mono ?_;rw[show qh 5 110=false by decide];rintro e w3 ⟨rfl,hb3⟩
  (obtain⟨nU,hf_w3⟩:=qg hb3;have mM:w.heap.size<w3.heap.size:=(by have:=hb3.size;first|omega|(simp at this;omega)))
  go_wp2_with fail
  refine(qn (k:=5) (c:=100)).mono ?_;rw[show qh 5 100=true by decide];rintro e w4 ⟨rfl,hb4⟩
  (obtain⟨nV,hf_w4⟩:=qg hb4;have mN:w.heap.size<w4.heap.size:=(by have:=hb4.size;first|omega|(simp at this;omega)))
  cases q3 with
  |false=>
   have hd1:=of_decide_eq_false uT.out.symm;go_wp2
   go_ret
   exact⟨by rw[HR.out];rfl,bz⟩
  |true=>
   have hd1:=of_decide_eq_true uT.out.symm;go_wp2_with fail
   refine(qn (k:=5) (c:=108)).mono ?_;rw[show qh 5 108=true by decide];rintro e w5 ⟨rfl,gH⟩
   (obtain⟨nW,hf_w5⟩:=qg gH;have mO:w.heap.size<w5.heap.size:=(by have:=gH.size;first|omega|(simp at this;omega)))
   go_wp2_with fail
   refine(HL.out _ bz).mono ?_;rw[←HQ4.out];rintro e w6 ⟨rfl,gQ⟩
   (obtain⟨nX,hf_w6⟩:=qg gQ;have mP:w.heap.size<w6.heap.size:=(by have:=gQ.size;first|omega|(simp at this;omega)))
   cases q4 with
   |false=>
    go_wp2
    go_ret
    exact⟨by rw[HR.out];rfl,bz⟩
   |true=>
    go_wp2_with fail
    refine(qn (k:=5) (c:=115)).mono ?_;rw[show qh 5 115=false by decide];rintro e w7 ⟨rfl,gh⟩
    (obtain⟨nY,hf_w7⟩:=qg gh;have mQ:w.heap.size<w7.heap.size:=(by have:=gh.size;first|omega|(simp at this;omega)))
    go_wp2_with fail
    refine(qn (k:=5) (c:=105)).mono ?_;rw[show qh 5 105=true by decide];rintro e w8 ⟨rfl,hb8⟩
    (obtain⟨nZ,hf_w8⟩:=qg hb8;have mR:w.heap.size<w8.heap.size:=(by have:=hb8.size;first|omega|(simp at this;omega)))
    go_wp2_with fail
    refine(qn (k:=5) (c:=110)).mono ?_;rw[show qh 5 110=false by decide];rintro e w9 ⟨rfl,mh⟩
    (obtain⟨p6,hf_w9⟩:=qg mh;have mS:w.heap.size<w9.heap.size:=(by have:=mh.size;first|omega|(simp at this;omega)))
    cases p2 with
    |false=>
     have ht:¬nm.toList=[]:=fun e=>of_decide_eq_false rH.out.symm ((qR _).1 e);go_wp2
     go_ret
     exact⟨by rw[HR.out];rfl,bz⟩
    |true=>
     have ht:nm.toList=[]:=(qR _).2 (of_decide_eq_true rH.out.symm);go_wp2_with fail
     refine(qn (k:=5) (c:=100)).mono ?_;rw[show qh 5 100=true by decide];rintro e nB ⟨rfl,gD⟩
     (obtain⟨mU,hf_w10⟩:=qg gD;have ma:w.heap.size<nB.heap.size:=(by have:=gD.size;first|omega|(simp at this;omega)))
     go_wp2_with fail
     refine(qn (k:=5) (c:=108)).mono ?_;rw[show qh 5 108=true by decide];rintro e pc ⟨rfl,hb11⟩
     (obtain⟨pV,hf_w11⟩:=qg hb11;have nH:w.heap.size<pc.heap.size:=(by have:=hb11.size;first|omega|(simp at this;omega)))
     go_wp2_with fail
     refine(qn (k:=5) (c:=115)).mono ?_;rw[show qh 5 115=false by decide];rintro e z6 ⟨rfl,hb12⟩
     (obtain⟨um,hf_w12⟩:=qg hb12;have pW:w.heap.size<z6.heap.size:=(by have:=hb12.size;first|omega|(simp at this;omega)))
     cases p5 with
     |false=>
      have ht0:=of_decide_eq_false rI.out.symm;have ht:((n5:Int)==0)=false:=(by simp;omega);clear ht0;go_wp2
      go_ret
      exact⟨by rw[HR.out];rfl,bz⟩
     |true=>
      have ht:=of_decide_eq_true rI.out.symm;subst ht;go_wp2
      go_ret
      exact⟨by rw[HR.out];rfl,bz⟩
theorem Jd {tg:Bool}{S:Nat→Prop}{w:World}{A4 A5:Option Addr}{n4 c4 n5 c5:Nat}{id:Int}{nm dg:ByteArray}{li:List Int}{sl:List Slot}(hl:Sl tg 3 Bd w S A4 n4 c4 li) (hs:Sl tg 88 qz w S A5 n5 c5 sl):
  Calls Tryz.prog 61 #[.agg #[.int .i64 6,.int .i64 id,.string nm,.string dg,.slice A4 n4 c4,.slice A5 n5 c5]] w (Bf (.bool (qK ⟨6,id,nm,dg,li,sl⟩)) w):=by
 have mG:=zh hl.len;have ul:=zh hs.len;have nA:n4≤9223372036854775807:=Nat.le_trans hl.le hl.cap;have nS:n5≤9223372036854775807:=Nat.le_trans hs.le hs.cap;have HL:=zh (fun W (hW:Below w.heap.size w W)=>jc (kd:=6) (id:=id) (nm:=nm) (dg:=dg) (B:=A5) (n5:=n5) (c5:=c5) (hl.all hW));have HS:=zh (fun W (hW:Below w.heap.size w W)=>xa (hs.all hW));obtain⟨R,hR⟩:∃R,R=qK ⟨6,id,nm,dg,li,sl⟩:=⟨_,rfl⟩;rw[←hR]
 have HR:Hid (R=(decide (dg.size=32)&&(decide (id=0)&&(decide (nm=ByteArray.empty)&&(decide (n4=0)&&(decide (n5=0))))))):=zh (by
  rw[hR];unfold qK;simp only[show qh 6 105=false by decide,show qh 6 110=false by decide,show qh 6 100=true by decide,show qh 6 108=false by decide,show qh 6 115=false by decide,mG.out,ul.out]
  simp)
 clear hR hl hs;obtain⟨q3,pz⟩:∃q3,q3=decide (dg.size=32):=⟨_,rfl⟩;rw[←pz] at HR;have uT:=zh pz;clear pz;obtain⟨p1,hp1⟩:∃p1,p1=decide (id=0):=⟨_,rfl⟩;rw[←hp1] at HR;have z7:=zh hp1;clear hp1;obtain⟨p2,hp2⟩:∃p2,p2=decide (nm=ByteArray.empty):=⟨_,rfl⟩;rw[←hp2] at HR;have rH:=zh hp2;clear hp2;obtain⟨p4,hp4⟩:∃p4,p4=decide (n4=0):=⟨_,rfl⟩;rw[←hp4] at HR;have pB:=zh hp4;clear hp4;obtain⟨p5,hp5⟩:∃p5,p5=decide (n5=0):=⟨_,rfl⟩;rw[←hp5] at HR;have rI:=zh hp5;clear hp5
 go_enter Tryz.func61,Tryz.ntmps61
 go_wp2_with fail
 refine(qn (k:=6) (c:=105)).mono ?_;rw[show qh 6 105=false by decide];rintro e w1 ⟨rfl,hb1⟩
 (obtain⟨mb,hf_w1⟩:=qg hb1;have gU:w.heap.size<w1.heap.size:=(by have:=hb1.size;first|omega|(simp at this;omega)))
 go_wp2_with fail
 refine(qn (k:=6) (c:=110)).mono ?_;rw[show qh 6 110=false by decide];rintro e w2 ⟨rfl,hb2⟩
 (obtain⟨nT,hf_w2⟩:=qg hb2;have mL:w.heap.size<w2.heap.size:=(by have:=hb2.size;first|omega|(simp at this;omega)))
 go_wp2_with fail
 refine(qn (k:=6) (c:=100)).mono ?_;rw[show qh 6 100=true by decide];rintro e w3 ⟨rfl,hb3⟩
 (obtain⟨nU,hf_w3⟩:=qg hb3;have mM:w.heap.size<w3.heap.size:=(by have:=hb3.size;first|omega|(simp at this;omega)))
 cases q3 with
 |false=>
  have hd1:=of_decide_eq_false uT.out.symm;go_wp2
  go_ret
  exact⟨by rw[HR.out];rfl,bz⟩
 |true=>
  have hd1:=of_decide_eq_true uT.out.symm;go_wp2_with fail
  refine(qn (k:=6) (c:=108)).mono ?_;rw[show qh 6 108=false by decide];rintro e w4 ⟨rfl,hb4⟩
  (obtain⟨nV,hf_w4⟩:=qg hb4;have mN:w.heap.size<w4.heap.size:=(by have:=hb4.size;first|omega|(simp at this;omega)))
  go_wp2_with fail
  refine(qn (k:=6) (c:=115)).mono ?_;rw[show qh 6 115=false by decide];rintro e w5 ⟨rfl,gH⟩
  (obtain⟨nW,hf_w5⟩:=qg gH;have mO:w.heap.size<w5.heap.size:=(by have:=gH.size;first|omega|(simp at this;omega)))
  go_wp2_with fail
  refine(qn (k:=6) (c:=105)).mono ?_;rw[show qh 6 105=false by decide];rintro e w6 ⟨rfl,gQ⟩
  (obtain⟨nX,hf_w6⟩:=qg gQ;have mP:w.heap.size<w6.heap.size:=(by have:=gQ.size;first|omega|(simp at this;omega)))
  cases p1 with
  |false=>
   have ht:=of_decide_eq_false z7.out.symm;go_wp2
   go_ret
   exact⟨by rw[HR.out];rfl,bz⟩
  |true=>
   have ht:=of_decide_eq_true z7.out.symm;subst ht;go_wp2_with fail
   refine(qn (k:=6) (c:=110)).mono ?_;rw[show qh 6 110=false by decide];rintro e w7 ⟨rfl,gh⟩
   (obtain⟨nY,hf_w7⟩:=qg gh;have mQ:w.heap.size<w7.heap.size:=(by have:=gh.size;first|omega|(simp at this;omega)))
   cases p2 with
   |false=>
    have ht:¬nm.toList=[]:=fun e=>of_decide_eq_false rH.out.symm ((qR _).1 e);go_wp2
    go_ret
    exact⟨by rw[HR.out];rfl,bz⟩
   |true=>
    have ht:nm.toList=[]:=(qR _).2 (of_decide_eq_true rH.out.symm);go_wp2_with fail
    refine(qn (k:=6) (c:=100)).mono ?_;rw[show qh 6 100=true by decide];rintro e w8 ⟨rfl,hb8⟩
    (obtain⟨nZ,hf_w8⟩:=qg hb8;have mR:w.heap.size<w8.heap.size:=(by have:=hb8.size;first|omega|(simp at this;omega)))
    go_wp2_with fail
    refine(qn (k:=6) (c:=108)).mono ?_;rw[show qh 6 108=false by decide];rintro e w9 ⟨rfl,mh⟩
    (obtain⟨p6,hf_w9⟩:=qg mh;have mS:w.heap.size<w9.heap.size:=(by have:=mh.size;first|omega|(simp at this;omega)))
    cases p4 with
    |false=>
     have ht:=of_decide_eq_false pB.out.symm;go_wp2
     go_ret
     exact⟨by rw[HR.out];rfl,bz⟩
    |true=>
     have ht:=of_decide_eq_true pB.out.symm;subst ht;go_wp2_with fail
     refine(qn (k:=6) (c:=115)).mono ?_;rw[show qh 6 115=false by decide];rintro e nB ⟨rfl,gD⟩
     (obtain⟨mU,hf_w10⟩:=qg gD;have ma:w.heap.size<nB.heap.size:=(by have:=gD.size;first|omega|(simp at this;omega)))
     cases p5 with
     |false=>
      have ht0:=of_decide_eq_false rI.out.symm;have ht:((n5:Int)==0)=false:=(by simp;omega);clear ht0;go_wp2
      go_ret
      exact⟨by rw[HR.out];rfl,bz⟩
     |true=>
      have ht:=of_decide_eq_true rI.out.symm;subst ht;go_wp2
      go_ret
      exact⟨by rw[HR.out];rfl,bz⟩
theorem Je {tg:Bool}{S:Nat→Prop}{w:World}{A4 A5:Option Addr}{n4 c4 n5 c5:Nat}{id:Int}{nm dg:ByteArray}{li:List Int}{sl:List Slot}(hl:Sl tg 3 Bd w S A4 n4 c4 li) (hs:Sl tg 88 qz w S A5 n5 c5 sl):
  Calls Tryz.prog 61 #[.agg #[.int .i64 7,.int .i64 id,.string nm,.string dg,.slice A4 n4 c4,.slice A5 n5 c5]] w (Bf (.bool (qK ⟨7,id,nm,dg,li,sl⟩)) w):=by
 have mG:=zh hl.len;have ul:=zh hs.len;have nA:n4≤9223372036854775807:=Nat.le_trans hl.le hl.cap;have nS:n5≤9223372036854775807:=Nat.le_trans hs.le hs.cap;have HL:=zh (fun W (hW:Below w.heap.size w W)=>jc (kd:=7) (id:=id) (nm:=nm) (dg:=dg) (B:=A5) (n5:=n5) (c5:=c5) (hl.all hW));have HS:=zh (fun W (hW:Below w.heap.size w W)=>xa (hs.all hW));obtain⟨R,hR⟩:∃R,R=qK ⟨7,id,nm,dg,li,sl⟩:=⟨_,rfl⟩;rw[←hR]
 have HR:Hid (R=(decide (1≤nm.size∧nm.size≤40)&&(decide (dg.size=32)&&(decide (id=0)&&(decide (n4=0)&&(decide (n5=0))))))):=zh (by
  rw[hR];unfold qK;simp only[show qh 7 105=false by decide,show qh 7 110=true by decide,show qh 7 100=true by decide,show qh 7 108=false by decide,show qh 7 115=false by decide,mG.out,ul.out]
  simp)
 clear hR hl hs;obtain⟨q2,hq2⟩:∃q2,q2=decide (1≤nm.size∧nm.size≤40):=⟨_,rfl⟩;rw[←hq2] at HR;have yg:=zh hq2;clear hq2;obtain⟨q3,pz⟩:∃q3,q3=decide (dg.size=32):=⟨_,rfl⟩;rw[←pz] at HR;have uT:=zh pz;clear pz;obtain⟨p1,hp1⟩:∃p1,p1=decide (id=0):=⟨_,rfl⟩;rw[←hp1] at HR;have z7:=zh hp1;clear hp1;obtain⟨p4,hp4⟩:∃p4,p4=decide (n4=0):=⟨_,rfl⟩;rw[←hp4] at HR;have pB:=zh hp4;clear hp4;obtain⟨p5,hp5⟩:∃p5,p5=decide (n5=0):=⟨_,rfl⟩;rw[←hp5] at HR;have rI:=zh hp5;clear hp5
 go_enter Tryz.func61,Tryz.ntmps61
 go_wp2_with fail
 refine(qn (k:=7) (c:=105)).mono ?_;rw[show qh 7 105=false by decide];rintro e w1 ⟨rfl,hb1⟩
 (obtain⟨mb,hf_w1⟩:=qg hb1;have gU:w.heap.size<w1.heap.size:=(by have:=hb1.size;first|omega|(simp at this;omega)))
 go_wp2_with fail
 refine(qn (k:=7) (c:=110)).mono ?_;rw[show qh 7 110=true by decide];rintro e w2 ⟨rfl,hb2⟩
 (obtain⟨nT,hf_w2⟩:=qg hb2;have mL:w.heap.size<w2.heap.size:=(by have:=hb2.size;first|omega|(simp at this;omega)))
 cases q2 with
 |false=>
  have hz:=of_decide_eq_false yg.out.symm;by_cases hz1:nm.size<1
  ·have hz2:nm.size=0:=(by omega);clear hz hz1;go_wp2
   go_ret
   exact⟨by rw[HR.out];rfl,bz⟩
  have hz2:¬nm.size≤40:=by omega
  clear hz;go_wp2
  go_ret
  exact⟨by rw[HR.out];rfl,bz⟩
 |true=>
  have hz1:=(of_decide_eq_true yg.out.symm).1;have hz2:=(of_decide_eq_true yg.out.symm).2;go_wp2_with fail
  refine(qn (k:=7) (c:=100)).mono ?_;rw[show qh 7 100=true by decide];rintro e w3 ⟨rfl,hb3⟩
  (obtain⟨nU,hf_w3⟩:=qg hb3;have mM:w.heap.size<w3.heap.size:=(by have:=hb3.size;first|omega|(simp at this;omega)))
  cases q3 with
  |false=>
   have hd1:=of_decide_eq_false uT.out.symm;have hd2:((dg.size:Int) !=32)=true:=(by simp;omega);clear hd1;go_wp2
   go_ret
   exact⟨by rw[HR.out];rfl,bz⟩
  |true=>
   have hd1:=of_decide_eq_true uT.out.symm;go_wp2_with fail
   refine(qn (k:=7) (c:=108)).mono ?_;rw[show qh 7 108=false by decide];rintro e w4 ⟨rfl,hb4⟩
   (obtain⟨nV,hf_w4⟩:=qg hb4;have mN:w.heap.size<w4.heap.size:=(by have:=hb4.size;first|omega|(simp at this;omega)))
   go_wp2_with fail
   refine(qn (k:=7) (c:=115)).mono ?_;rw[show qh 7 115=false by decide];rintro e w5 ⟨rfl,gH⟩
   (obtain⟨nW,hf_w5⟩:=qg gH;have mO:w.heap.size<w5.heap.size:=(by have:=gH.size;first|omega|(simp at this;omega)))
   go_wp2_with fail
   refine(qn (k:=7) (c:=105)).mono ?_;rw[show qh 7 105=false by decide];rintro e w6 ⟨rfl,gQ⟩
   (obtain⟨nX,hf_w6⟩:=qg gQ;have mP:w.heap.size<w6.heap.size:=(by have:=gQ.size;first|omega|(simp at this;omega)))
   cases p1 with
   |false=>
    have ht:=of_decide_eq_false z7.out.symm;go_wp2
    go_ret
    exact⟨by rw[HR.out];rfl,bz⟩
   |true=>
    have ht:=of_decide_eq_true z7.out.symm;subst ht;go_wp2_with fail
    refine(qn (k:=7) (c:=110)).mono ?_;rw[show qh 7 110=true by decide];rintro e w7 ⟨rfl,gh⟩
    (obtain⟨nY,hf_w7⟩:=qg gh;have mQ:w.heap.size<w7.heap.size:=(by have:=gh.size;first|omega|(simp at this;omega)))
    go_wp2_with fail
    refine(qn (k:=7) (c:=100)).mono ?_;rw[show qh 7 100=true by decide];rintro e w8 ⟨rfl,hb8⟩
    (obtain⟨nZ,hf_w8⟩:=qg hb8;have mR:w.heap.size<w8.heap.size:=(by have:=hb8.size;first|omega|(simp at this;omega)))
    go_wp2_with fail
    refine(qn (k:=7) (c:=108)).mono ?_;rw[show qh 7 108=false by decide];rintro e w9 ⟨rfl,mh⟩
    (obtain⟨p6,hf_w9⟩:=qg mh;have mS:w.heap.size<w9.heap.size:=(by have:=mh.size;first|omega|(simp at this;omega)))
    cases p4 with
    |false=>
     have ht:=of_decide_eq_false pB.out.symm;go_wp2
     go_ret
     exact⟨by rw[HR.out];rfl,bz⟩
    |true=>
     have ht:=of_decide_eq_true pB.out.symm;subst ht;go_wp2_with fail
     refine(qn (k:=7) (c:=115)).mono ?_;rw[show qh 7 115=false by decide];rintro e nB ⟨rfl,gD⟩
     (obtain⟨mU,hf_w10⟩:=qg gD;have ma:w.heap.size<nB.heap.size:=(by have:=gD.size;first|omega|(simp at this;omega)))
     cases p5 with
     |false=>
      have ht0:=of_decide_eq_false rI.out.symm;have ht:((n5:Int)==0)=false:=(by simp;omega);clear ht0;go_wp2
      go_ret
      exact⟨by rw[HR.out];rfl,bz⟩
     |true=>
      have ht:=of_decide_eq_true rI.out.symm;subst ht;go_wp2
      go_ret
      exact⟨by rw[HR.out];rfl,bz⟩
theorem Jf {tg:Bool}{S:Nat→Prop}{w:World}{A4 A5:Option Addr}{n4 c4 n5 c5:Nat}{id:Int}{nm dg:ByteArray}{li:List Int}{sl:List Slot}(hl:Sl tg 3 Bd w S A4 n4 c4 li) (hs:Sl tg 88 qz w S A5 n5 c5 sl):
  Calls Tryz.prog 61 #[.agg #[.int .i64 8,.int .i64 id,.string nm,.string dg,.slice A4 n4 c4,.slice A5 n5 c5]] w (Bf (.bool (qK ⟨8,id,nm,dg,li,sl⟩)) w):=by
 have mG:=zh hl.len;have ul:=zh hs.len;have nA:n4≤9223372036854775807:=Nat.le_trans hl.le hl.cap;have nS:n5≤9223372036854775807:=Nat.le_trans hs.le hs.cap;have HL:=zh (fun W (hW:Below w.heap.size w W)=>jc (kd:=8) (id:=id) (nm:=nm) (dg:=dg) (B:=A5) (n5:=n5) (c5:=c5) (hl.all hW));have HS:=zh (fun W (hW:Below w.heap.size w W)=>xa (hs.all hW));obtain⟨R,hR⟩:∃R,R=qK ⟨8,id,nm,dg,li,sl⟩:=⟨_,rfl⟩;rw[←hR]
 have HR:Hid (R=(decide (1≤nm.size∧nm.size≤40)&&(decide (id=0)&&(decide (dg=ByteArray.empty)&&(decide (n4=0)&&(decide (n5=0))))))):=zh (by
  rw[hR];unfold qK;simp only[show qh 8 105=false by decide,show qh 8 110=true by decide,show qh 8 100=false by decide,show qh 8 108=false by decide,show qh 8 115=false by decide,mG.out,ul.out]
  simp)
 clear hR hl hs;obtain⟨q2,hq2⟩:∃q2,q2=decide (1≤nm.size∧nm.size≤40):=⟨_,rfl⟩;rw[←hq2] at HR;have yg:=zh hq2;clear hq2;obtain⟨p1,hp1⟩:∃p1,p1=decide (id=0):=⟨_,rfl⟩;rw[←hp1] at HR;have z7:=zh hp1;clear hp1;obtain⟨p3,hp3⟩:∃p3,p3=decide (dg=ByteArray.empty):=⟨_,rfl⟩;rw[←hp3] at HR;have pP:=zh hp3;clear hp3;obtain⟨p4,hp4⟩:∃p4,p4=decide (n4=0):=⟨_,rfl⟩;rw[←hp4] at HR;have pB:=zh hp4;clear hp4;obtain⟨p5,hp5⟩:∃p5,p5=decide (n5=0):=⟨_,rfl⟩;rw[←hp5] at HR;have rI:=zh hp5;clear hp5
 go_enter Tryz.func61,Tryz.ntmps61
 go_wp2_with fail
 refine(qn (k:=8) (c:=105)).mono ?_;rw[show qh 8 105=false by decide];rintro e w1 ⟨rfl,hb1⟩
 (obtain⟨mb,hf_w1⟩:=qg hb1;have gU:w.heap.size<w1.heap.size:=(by have:=hb1.size;first|omega|(simp at this;omega)))
 go_wp2_with fail
 refine(qn (k:=8) (c:=110)).mono ?_;rw[show qh 8 110=true by decide];rintro e w2 ⟨rfl,hb2⟩
 (obtain⟨nT,hf_w2⟩:=qg hb2;have mL:w.heap.size<w2.heap.size:=(by have:=hb2.size;first|omega|(simp at this;omega)))
 cases q2 with
 |false=>
  have hz:=of_decide_eq_false yg.out.symm;by_cases hz1:nm.size<1
  ·have hz2:nm.size=0:=(by omega);clear hz hz1;go_wp2
   go_ret
   exact⟨by rw[HR.out];rfl,bz⟩
  have hz2:¬nm.size≤40:=by omega
  clear hz;go_wp2
  go_ret
  exact⟨by rw[HR.out];rfl,bz⟩
 |true=>
  have hz1:=(of_decide_eq_true yg.out.symm).1;have hz2:=(of_decide_eq_true yg.out.symm).2;go_wp2_with fail
  refine(qn (k:=8) (c:=100)).mono ?_;rw[show qh 8 100=false by decide];rintro e w3 ⟨rfl,hb3⟩
  (obtain⟨nU,hf_w3⟩:=qg hb3;have mM:w.heap.size<w3.heap.size:=(by have:=hb3.size;first|omega|(simp at this;omega)))
  go_wp2_with fail
  refine(qn (k:=8) (c:=108)).mono ?_;rw[show qh 8 108=false by decide];rintro e w4 ⟨rfl,hb4⟩
  (obtain⟨nV,hf_w4⟩:=qg hb4;have mN:w.heap.size<w4.heap.size:=(by have:=hb4.size;first|omega|(simp at this;omega)))
  go_wp2_with fail
  refine(qn (k:=8) (c:=115)).mono ?_;rw[show qh 8 115=false by decide];rintro e w5 ⟨rfl,gH⟩
  (obtain⟨nW,hf_w5⟩:=qg gH;have mO:w.heap.size<w5.heap.size:=(by have:=gH.size;first|omega|(simp at this;omega)))
  go_wp2_with fail
  refine(qn (k:=8) (c:=105)).mono ?_;rw[show qh 8 105=false by decide];rintro e w6 ⟨rfl,gQ⟩
  (obtain⟨nX,hf_w6⟩:=qg gQ;have mP:w.heap.size<w6.heap.size:=(by have:=gQ.size;first|omega|(simp at this;omega)))
  cases p1 with
  |false=>
   have ht:=of_decide_eq_false z7.out.symm;go_wp2
   go_ret
   exact⟨by rw[HR.out];rfl,bz⟩
  |true=>
   have ht:=of_decide_eq_true z7.out.symm;subst ht;go_wp2_with fail
   refine(qn (k:=8) (c:=110)).mono ?_;rw[show qh 8 110=true by decide];rintro e w7 ⟨rfl,gh⟩
   (obtain⟨nY,hf_w7⟩:=qg gh;have mQ:w.heap.size<w7.heap.size:=(by have:=gh.size;first|omega|(simp at this;omega)))
   go_wp2_with fail
   refine(qn (k:=8) (c:=100)).mono ?_;rw[show qh 8 100=false by decide];rintro e w8 ⟨rfl,hb8⟩
   (obtain⟨nZ,hf_w8⟩:=qg hb8;have mR:w.heap.size<w8.heap.size:=(by have:=hb8.size;first|omega|(simp at this;omega)))
   cases p3 with
   |false=>
    have ht:¬dg.toList=[]:=fun e=>of_decide_eq_false pP.out.symm ((qR _).1 e);go_wp2
    go_ret
    exact⟨by rw[HR.out];rfl,bz⟩
   |true=>
    have ht:dg.toList=[]:=(qR _).2 (of_decide_eq_true pP.out.symm);go_wp2_with fail
    refine(qn (k:=8) (c:=108)).mono ?_;rw[show qh 8 108=false by decide];rintro e w9 ⟨rfl,mh⟩
    (obtain⟨p6,hf_w9⟩:=qg mh;have mS:w.heap.size<w9.heap.size:=(by have:=mh.size;first|omega|(simp at this;omega)))
    cases p4 with
    |false=>
     have ht:=of_decide_eq_false pB.out.symm;go_wp2
     go_ret
     exact⟨by rw[HR.out];rfl,bz⟩
    |true=>
     have ht:=of_decide_eq_true pB.out.symm;subst ht;go_wp2_with fail
     refine(qn (k:=8) (c:=115)).mono ?_;rw[show qh 8 115=false by decide];rintro e nB ⟨rfl,gD⟩
     (obtain⟨mU,hf_w10⟩:=qg gD;have ma:w.heap.size<nB.heap.size:=(by have:=gD.size;first|omega|(simp at this;omega)))
     cases p5 with
     |false=>
      have ht0:=of_decide_eq_false rI.out.symm;have ht:((n5:Int)==0)=false:=(by simp;omega);clear ht0;go_wp2
      go_ret
      exact⟨by rw[HR.out];rfl,bz⟩
     |true=>
      have ht:=of_decide_eq_true rI.out.symm;subst ht;go_wp2
      go_ret
      exact⟨by rw[HR.out];rfl,bz⟩
theorem JS {tg:Bool}{S:Nat→Prop}{w:World}{A4 A5:Option Addr}{n4 c4 n5 c5:Nat}{r:Bt}(hl:Sl tg 3 Bd w S A4 n4 c4 r.list) (hs:Sl tg 88 qz w S A5 n5 c5 r.slots):
  Calls Tryz.prog 61 #[.agg #[.int .i64 r.kind,.int .i64 r.id,.string r.name,.string r.digest,.slice A4 n4 c4,.slice A5 n5 c5]] w (Bf (.bool (qK r)) w):=by
 obtain⟨k,id,nm,dg,li,sl⟩:=r;simp only at hl hs⊢;by_cases h1:k<1
 ·have HE:Hid (qK ⟨k,id,nm,dg,li,sl⟩=false):=zh (by unfold qK;rw[decide_eq_false (by simp only;omega)];rfl);generalize qK ⟨k,id,nm,dg,li,sl⟩=R at *;clear hl hs
  go_enter Tryz.func61,Tryz.ntmps61
  go_wp2
  go_ret
  exact⟨by rw[HE.out];rfl,bz⟩
 by_cases h2:8<k
 ·have HE:Hid (qK ⟨k,id,nm,dg,li,sl⟩=false):=zh (by unfold qK;rw[decide_eq_false (by simp only;omega)];rfl);generalize qK ⟨k,id,nm,dg,li,sl⟩=R at *;clear hl hs
  go_enter Tryz.func61,Tryz.ntmps61
  go_wp2
  go_ret
  exact⟨by rw[HE.out];rfl,bz⟩
 rcases (by omega:k=1∨k=2∨k=3∨k=4∨k=5∨k=6∨k=7∨k=8) with h|h|h|h|h|h|h|h<;>subst h
 ·exact XY hl hs
 ·exact XZ hl hs
 ·exact Ja hl hs
 ·exact Jb hl hs
 ·exact Jc hl hs
 ·exact Jd hl hs
 ·exact Je hl hs
 exact Jf hl hs
end Go.Proofs.YtipecejghioicaaGreat
