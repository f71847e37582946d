/- Book.things: may a book's things be? -/
import Derived.Test.YtipecejghioicaaGreatDatap
import Derived.Test.YtipecejghioicaaGreatQ2p
import Derived.Test.YtipecejghioicaaGreatQ4p
import Derived.Test.YtipecejghioicaaGreatR4p
import Derived.Deep.CutBlock
import Derived.Deep.Cut
import Derived.Test.YtipecejghioicaaGreatB6p
set_option maxHeartbeats 16000000
set_option maxRecDepth 100000
namespace Go.Proofs.YtipecejghioicaaGreat
open Go.RowKit Go.Silo
def qI (s:Shape) (l:List Bc) (xs:List Entry) (k:Nat):Bool:=
 decide ((xs.getD k default).digest.size=32)&&((decide (k=0)||qo (xs.getD (k - 1) default).digest (xs.getD k default).digest)&&(decide (0≤(xs.getD k default).len)&&(decide ((xs.getD k default).len≤2000)&&
  (decide ((xs.getD k default).list.length=zJ s (xs.getD k default).len)&&zA (s.K* s.size) l (xs.getD k default).list (xs.getD k default).len))))
def qr (xs:List Entry) (k:Nat):List Int:=(xs.take k).flatMap (fun x=>x.list)
def zg (s:Shape) (l:List Bc) (xs:List Entry):Bool:=(List.range xs.length).all (qI s l xs)&&(decide (qr xs xs.length).Nodup&&decide (xs.length≤60))
theorem jj {s:Shape}{l:List Bc}{xs:List Entry}{k:Nat}(h:k<xs.length) (hk:qI s l xs k=false):zg s l xs=false:=by
 unfold zg
 have:(List.range xs.length).all (qI s l xs)=false:=by
  rw[List.all_eq_false];exact⟨k,List.mem_range.2 h,by simp[hk]⟩
 rw[this];rfl
theorem xf {xs:List Entry}{k:Nat}(h:k<xs.length):qr xs (k+1)=qr xs k++(xs.getD k default).list:=by
 unfold qr;rw[List.take_add_one,List.flatMap_append,List.getElem?_eq_getElem h,List.getD_eq_getElem?_getD,List.getElem?_eq_getElem h];simp
theorem Qf {xs:List Entry}{k:Nat}(_h:k≤xs.length):∃r,qr xs xs.length=qr xs k++r:=by
 refine⟨(xs.drop k).flatMap (fun x=>x.list),?_⟩;unfold qr;rw[List.take_length,←List.flatMap_append,List.take_append_drop]
theorem js {s:Shape}{l:List Bc}{xs:List Entry}{k j:Nat}(h:k<xs.length) (hj:j<(xs.getD k default).list.length) (hm:(xs.getD k default).list.getD j 0∈qr xs k++(xs.getD k default).list.take j):zg s l xs=false:=by
 have hnd:¬(qr xs xs.length).Nodup:=by
  obtain⟨r,hr⟩:=Qf (xs:=xs) (k:=k+1) (by omega);rw[hr,xf h];intro hn;have h1:=(List.nodup_append.1 hn).1;generalize (xs.getD k default).list=L at *
  have hL:L=L.take j++L.getD j 0::L.drop (j+1):=by
   rw[List.getD_eq_getElem?_getD,List.getElem?_eq_getElem hj,Option.getD_some,←List.drop_eq_getElem_cons hj,List.take_append_drop]
  rw[hL,←List.append_assoc] at h1;have hm':L.getD j 0∈qr xs k++L.take j:=hm;exact(List.nodup_append.1 h1).2.2 _ hm' _ (List.mem_cons_self ..) rfl
 unfold zg;rw[decide_eq_false hnd];simp
theorem jZ {s:Shape}{l:List Bc}{xs:List Entry}(h:∀k,k<xs.length→qI s l xs k=true) (hn:(qr xs xs.length).Nodup):zg s l xs=decide (xs.length≤60):=by
 unfold zg;rw[List.all_eq_true.2 (fun k hk=>h k (List.mem_range.1 hk)),decide_eq_true hn];rfl
def QN (l:List Int):List Value:=l.map (fun a=>.int .i64 a)
theorem QO {l:List Int}{a:Int}:Value.int .i64 a∈QN l↔a∈l:=by
 unfold QN;constructor
 ·intro h;obtain⟨b,hb,e⟩:=List.mem_map.1 h;injection e with _ e;subst e;exact hb
 intro h;exact List.mem_map.2 ⟨a,h,rfl⟩
theorem JV {tg tg0 tg1 tg2:Bool}{S S1:Nat→Prop}{w:World}{A0 A1 A2:Option Addr}{n0 c0 n1 c1 n2 c2:Nat}{s:Shape}{l:List Bc}{nx:Int}{xs:List Entry}(hsh:qt s=true)
  (h:Sl tg 86 (qc tg0) w S A0 n0 c0 l) (hn:n0<4611686018427387904) (hs:∀i j,i<j→j<n0→(l.getD i default).id<(l.getD j default).id) (h1:Sl tg1 90 (qj tg2) w S1 A1 n1 c1 xs) (hfew:(qr xs xs.length).length≤1000000):
  Calls Tryz.prog 77 #[.agg #[.int .i64 s.K,.int .i64 s.M,.int .i64 s.size],.agg #[.slice A0 n0 c0,.slice A1 n1 c1,.slice A2 n2 c2,.int .i64 nx]] w (Bf (.bool (zg s l xs)) w):=by
 have rJ:=zh h1.len;have HL:=zh h.len;have hcap:n1≤9223372036854775807:=Nat.le_trans h1.le h1.cap;have HLE:=zh (fun W (hW:Below w.heap.size w W) (len:Int) (h0:0≤len) (h2:len≤2000) (dg:ByteArray) (BO:Bool) (A3:Option Addr) (n3 c3:Nat) (ys:List Int) (tg3:Bool) (S3:Nat→Prop) (h3:Sl tg3 3 qD W S3 A3 n3 c3 ys)=>ES (w:=W) (A1:=A1) (A2:=A2) (n1:=n1) (c1:=c1) (n2:=n2) (c2:=c2) (nx:=nx) (dg:=dg) (BO:=BO) hsh h0 h2 (h.all hW) hn hs h3);clear hs;have H8:=zh (fun W (hW:Below w.heap.size w W)=>h1.all hW);have HMA:=zh (fun(W:World) (len:Int) (h0:0≤len) (h2:len≤2000)=>EX (w:=W) hsh h0 (by omega:len≤100000));obtain⟨R,hR⟩:∃R,R=zg s l xs:=⟨_,rfl⟩;rw[←hR];have HR:=zh hR;clear hR;clear h h1
 go_enter Tryz.func77,Tryz.ntmps77
 have hmk:=fun W:World=>run_makeMap (P:=Tryz.prog) 99 W
 go_upto_region 2 with (fail)
 clear hmk;have rH:Below w.heap.size w (((w.alloc (.cells #[.int .i64 s.K,.int .i64 s.M,.int .i64 s.size] 23)).alloc (.cells #[.slice A0 n0 c0,.slice A1 n1 c1,.slice A2 n2 c2,.int .i64 nx] 28)).alloc (.map #[] 0)):=bz
 have r0:(((w.alloc (.cells #[.int .i64 s.K,.int .i64 s.M,.int .i64 s.size] 23)).alloc (.cells #[.slice A0 n0 c0,.slice A1 n1 c1,.slice A2 n2 c2,.int .i64 nx] 28)).alloc (.map #[] 0)).heap[w.heap.size]?=some (.cells #[.int .i64 s.K,.int .i64 s.M,.int .i64 s.size] 23 (0,0)):=by
  rw[Below.heap_alloc _ _ _ (by simp;omega),Below.heap_alloc _ _ _ (by simp)];exact heap_alloc_new _ _
 have r1:(((w.alloc (.cells #[.int .i64 s.K,.int .i64 s.M,.int .i64 s.size] 23)).alloc (.cells #[.slice A0 n0 c0,.slice A1 n1 c1,.slice A2 n2 c2,.int .i64 nx] 28)).alloc (.map #[] 0)).heap[w.heap.size+1]?=some (.cells #[.slice A0 n0 c0,.slice A1 n1 c1,.slice A2 n2 c2,.int .i64 nx] 28 (0,0)):=by
  rw[Below.heap_alloc _ _ _ (by simp)];have:=heap_alloc_new (w.alloc (.cells #[.int .i64 s.K,.int .i64 s.M,.int .i64 s.size] 23)) (.cells #[.slice A0 n0 c0,.slice A1 n1 c1,.slice A2 n2 c2,.int .i64 nx] 28)
  rwa [World.size_alloc] at this
 have gD:=BR.made (P:=Tryz.prog) (k:=3) (e:=4) (w:=((w.alloc (.cells #[.int .i64 s.K,.int .i64 s.M,.int .i64 s.size] 23)).alloc (.cells #[.slice A0 n0 c0,.slice A1 n1 c1,.slice A2 n2 c2,.int .i64 nx] 28)));have hsz:(((w.alloc (.cells #[.int .i64 s.K,.int .i64 s.M,.int .i64 s.size] 23)).alloc (.cells #[.slice A0 n0 c0,.slice A1 n1 c1,.slice A2 n2 c2,.int .i64 nx] 28)).alloc (.map #[] 0)).heap.size=w.heap.size+3:=by simp
 simp only[World.size_alloc] at gD;generalize (((w.alloc (.cells #[.int .i64 s.K,.int .i64 s.M,.int .i64 s.size] 23)).alloc (.cells #[.slice A0 n0 c0,.slice A1 n1 c1,.slice A2 n2 c2,.int .i64 nx] 28)).alloc (.map #[] 0))=w2 at *;generalize hm:w.heap.size+1+1=m at *;have hmw:w.heap.size≤m:=by omega
 have p9:w.heap.size+1<m:=by omega
 have hm2:m<w2.heap.size:=by omega
 have Hd:w.heap.size<m:=by omega
 clear hm hsz;have mq:=zh (fun V (hV:Below m w2 V)=>rH.trans (hV.mono hmw));clear rH;have mb:=zh (fun V (hV:Below m w2 V)=>And.intro ((hV.block _ Hd).trans r0) ((hV.block _ p9).trans r1));have Gp:=zh gD;clear gD;have q1:=zo 1 r1;clear r0 r1;go_wp2_with fail
 clear q1
 go_loopw [14] (fun iv wr=>∃k:Nat,k≤n1∧iv=.int .i64 k∧Hid (Below m w2 wr)∧Hid (BR Tryz.prog 3 4 wr m (qr xs k).length (QN (qr xs k)))∧Hid (∀j,j<k→qI s l xs j=true)∧Hid (qr xs k).Nodup) (fun iv _=>n1 - (intOf iv).toNat)
 case atStart=>exact⟨0,Nat.zero_le _,rfl,zh (Below.refl _ _),Gp,zh (fun j hj=>by omega),zh (by simp[qr])⟩
 case round=>
  rename World=>wo
  clear Gp;obtain⟨k,hk,rfl,HB,HST,HA,HND⟩:=hrel;by_cases hlt:k<n1
  ·obtain⟨bE,oE,A3,n3,c3,rfl,_,mF,so,i64l,yR,u0,u1,u2,u3,_⟩:=(H8.out wo (mq.out wo HB.out)).BP hlt;obtain⟨bE',oE',A3',n3',c3',eE,_,hbE',_,_,hl3',_,_,_,u3',_⟩:=(H8.out w (Below.refl _ _)).BP hlt;injection eE with eE;injection eE with e1 e2 _;subst e1;subst e2
   have e3:=(((mq.out wo HB.out).cell (p:=⟨bE,oE+k* 4+3,none⟩) hbE').trans u3').symm.trans u3;injection e3 with e3;injection e3 with pm ry uN;have pm:=pm.symm;have ry:=ry.symm;have uN:=uN.symm;subst pm;subst ry;subst uN
   clear hbE' u3'
   have hp:0<k→wo.cell? ⟨bE,oE+(k - 1)* 4,none⟩=some (.string (xs.getD (k - 1) default).digest):=fun h0=>by
    obtain⟨b',off',A',n',c',e,_,_,_,_,_,hd,_⟩:=(H8.out wo (mq.out wo HB.out)).BP (k:=k - 1) (by omega);injection e with e;injection e with e1 e2 _;subst e1;subst e2
    exact hd
   obtain⟨pd,uO⟩:∃y,y=(xs.getD (k - 1) default).digest:=⟨_,rfl⟩;rw[←uO] at hp;have hat:qI s l xs k=(decide ((xs.getD k default).digest.size=32)&&((decide (k=0)||qo pd (xs.getD k default).digest)&&(decide (0≤(xs.getD k default).len)&&(decide ((xs.getD k default).len≤2000)&&(decide ((xs.getD k default).list.length=zJ s (xs.getD k default).len)&&zA (s.K* s.size) l (xs.getD k default).list (xs.getD k default).len))))):=(by rw[uO];rfl);have nE:=yR.len;rw[nE] at hat;have vZ:=zh yR;clear yR;have ni:=zh nE;clear nE;obtain⟨ys,hys⟩:∃ys,ys=(xs.getD k default).list:=⟨_,rfl⟩;rw[←hys] at hat vZ ni hl3';have HLW:=zh (fun V (hV:Below m w2 V)=>hl3'.all (mq.out V hV));clear hl3';have HYS:=zh hys;clear hys;generalize (xs.getD k default).digest=dg at *;generalize (xs.getD k default).len=len at *;generalize (xs.getD k default).BO=BO at *;unfold Bn at i64l;clear uO;have nr:=zh hat;clear hat
   go_upto_region 5 with (fail)
   have hal:Below wo.heap.size wo (wo.alloc (.cells #[.string dg,.int .i64 len,.bool BO,.slice A3 n3 c3] 90)):=(Below.refl _ _).alloc (Nat.le_refl _) _;have hrow:=heap_alloc_new wo (.cells #[.string dg,.int .i64 len,.bool BO,.slice A3 n3 c3] 90);have hzl:wo.heap.size<(wo.alloc (.cells #[.string dg,.int .i64 len,.bool BO,.slice A3 n3 c3] 90)).heap.size:=(by simp);generalize (wo.alloc (.cells #[.string dg,.int .i64 len,.bool BO,.slice A3 n3 c3] 90))=w4 at *;have hmo:m≤wo.heap.size:=(by have:=HB.out.size;omega);have nK:m≤w4.heap.size:=(by have:=hal.size;omega);have ma:=zh (HB.out.trans (hal.mono hmo));have Gr:=zh (HST.out.all hal);have rz:=zh (vZ.out.all hal);have hbE4:bE<w4.heap.size:=(by omega);have hp2:=fun h0=>(hal.cell (p:=⟨bE,oE+(k - 1)* 4,none⟩) mF).trans (hp h0);clear hal u0 u1 u2 u3 hp HST vZ;generalize wo.heap.size=g7 at *;have gu:=zh (fun V (hV:Below w4.heap.size w4 V)=>(hV.block _ hzl).trans hrow);clear hrow mF
   go_cut [65] from 19 to 65 (fun t V=>t=.bool (!qI s l xs k)∧Hid (Below w4.heap.size w4 V))
   case first=>
    clear HA HND;by_cases hd:(dg.size:Int)=32
    ·have hd':((dg.size:Int) !=32)=false:=(by simp[hd]);have mi:=nr.out;rw[decide_eq_true (by omega:dg.size=32)] at mi;clear nr hd;by_cases u5:k=0
     ·have pB:Hid (qI s l xs k=(decide (0≤len)&&(decide (len≤2000)&&(decide (n3=zJ s len)&&zA (s.K* s.size) l ys len)))):=zh (by rw[mi,decide_eq_true u5];rfl);have ye:¬0<(k:Int):=(by omega);clear mi hp2 u5;by_cases cC:len<0
      ·have mD:Hid (qI s l xs k=false):=zh (by rw[pB.out,decide_eq_false (by omega)];rfl);clear pB;go_wp2_with fail
       refine rF 84 rfl [19,20,21,22,23,24,25,26,27,28,29,30,31,32,33,34,35,36,37,38,39,40,41,42,43,44,45,46,47,48,49,50,51,52,53,54,55,56,57,58,59,60,61,62,63,64,65] []
         [kq 19 g7 0,kp 20 (.string dg),kp 21 (.int .i64 (dg.size:Int)),kf 22,kf 23,ki 24 k,kf 25,kf 26,kf 37,kf 38,kf 39,kq 40 g7 1,kp 41 (.int .i64 len),kt 42,kt 43,kt 44,kt 48,kt 49,kt 58,kt 59,kt 65]
         [] [] (BZ w4 (fun _ _ _=>True)) .init ⟨.a,.l fun us w6 hW _=>zo 0 (gu.out w6 hW.1),.n (.string dg),?_,.a,.a,?_,.a,.b,.b,.b,.b,.b,.b,.b,.b,.b,.b,.a,.a,.a,.a,.l fun us w6 hW _=>zo 1 (gu.out w6 hW.1),?_,.a,.a,.b,.b,.b,.a,.a,.b,.b,.b,.b,.b,.b,.b,.b,.a,.a,.b,.b,.b,.b,.b,.a,trivial⟩ ?_
       ·(refine .r1 (.int .i64 (dg.size:Int)) fun _ _ _ nY _ _ _ _=>?_;simp only[execOp,nY];go_simp;try rfl)
       ·(refine .r1 (.int .i64 (k:Int)) fun _ _ _ rD _ _ _ _=>?_;simp only[execOp,rD];go_simp;exact congrArg Value.bool (decide_eq_false (by omega)))
       ·(refine .r1 (.int .i64 len) fun _ _ _ uP _ _ _ _=>?_;simp only[execOp,uP];go_simp;try rfl)
       intro us w9 hmem hW;simp only[qa,BG,BH,BI,BJ,Act.put,BC,BD,BF];generalize mh:qx _ _ us=sv;have hq:sv 65=(.bool true:Value):=(by rw[←mh];rfl);rw[hq];have gF:=zh hW.1;clear mh hq hmem hW;go_wp2
       go_meet
       case rel=>exact⟨by rw[mD.out];rfl,gF⟩
      by_cases cD:2000<len
      ·have mD:Hid (qI s l xs k=false):=zh (by rw[pB.out,decide_eq_true (by omega:0≤len),decide_eq_false (by omega)];rfl);clear pB;go_wp2_with fail
       refine rF 84 rfl [19,20,21,22,23,24,25,26,27,28,29,30,31,32,33,34,35,36,37,38,39,40,41,42,43,44,45,46,47,48,49,50,51,52,53,54,55,56,57,58,59,60,61,62,63,64,65] []
         [kq 19 g7 0,kp 20 (.string dg),kp 21 (.int .i64 (dg.size:Int)),kf 22,kf 23,ki 24 k,kf 25,kf 26,kf 37,kf 38,kf 39,kq 40 g7 1,kp 41 (.int .i64 len),kf 42,kf 43,kf 44,kq 45 g7 1,kp 46 (.int .i64 len),kt 47,kt 48,kt 49,kt 58,kt 59,kt 65]
         [] [] (BZ w4 (fun _ _ _=>True)) .init ⟨.a,.l fun us w6 hW _=>zo 0 (gu.out w6 hW.1),.n (.string dg),?_,.a,.a,?_,.a,.b,.b,.b,.b,.b,.b,.b,.b,.b,.b,.a,.a,.a,.a,.l fun us w6 hW _=>zo 1 (gu.out w6 hW.1),?_,.a,.a,.a,.l fun us w6 hW _=>zo 1 (gu.out w6 hW.1),?_,.a,.a,.b,.b,.b,.b,.b,.b,.b,.b,.a,.a,.b,.b,.b,.b,.b,.a,trivial⟩ ?_
       ·(refine .r1 (.int .i64 (dg.size:Int)) fun _ _ _ nY _ _ _ _=>?_;simp only[execOp,nY];go_simp;try rfl)
       ·(refine .r1 (.int .i64 (k:Int)) fun _ _ _ rD _ _ _ _=>?_;simp only[execOp,rD];go_simp;exact congrArg Value.bool (decide_eq_false (by omega)))
       ·(refine .r1 (.int .i64 len) fun _ _ _ uP _ _ _ _=>?_;simp only[execOp,uP];go_simp;exact congrArg Value.bool (decide_eq_false (by omega)))
       ·(refine .r1 (.int .i64 len) fun _ _ _ vE _ _ _ _=>?_;simp only[execOp,vE];go_simp;try rfl)
       intro us w9 hmem hW;simp only[qa,BG,BH,BI,BJ,Act.put,BC,BD,BF];generalize mh:qx _ _ us=sv;have hq:sv 65=(.bool true:Value):=(by rw[←mh];rfl);rw[hq];have gF:=zh hW.1;clear mh hq hmem hW;go_wp2
       go_meet
       case rel=>exact⟨by rw[mD.out];rfl,gF⟩
      have pC:qI s l xs k=(decide (n3=zJ s len)&&zA (s.K* s.size) l ys len):=(by rw[pB.out,decide_eq_true (by omega:0≤len),decide_eq_true (by omega:len≤2000)];rfl);clear pB;obtain⟨mn,rC⟩:∃mn,mn=zJ s len:=⟨_,rfl⟩;rw[←rC] at pC;have yf:=zh rC.symm;clear rC;by_cases cE:n3=mn
      ·have cE':((n3:Int) !=(mn:Int))=false:=(by simp[cE]);rw[decide_eq_true cE] at pC;clear cE;generalize Gu:zA (s.K* s.size) l ys len=lf at *;have HLF:=zh Gu;clear Gu
       cases lf with
       |true=>
        have mD:Hid (qI s l xs k=true):=zh pC;clear pC;go_wp2_with fail
        refine rF 84 rfl [19,20,21,22,23,24,25,26,27,28,29,30,31,32,33,34,35,36,37,38,39,40,41,42,43,44,45,46,47,48,49,50,51,52,53,54,55,56,57,58,59,60,61,62,63,64,65] [37,44]
          [kq 19 g7 0,kp 20 (.string dg),kp 21 (.int .i64 (dg.size:Int)),kf 22,kf 23,ki 24 k,kf 25,kf 26,kf 37,kf 38,kf 39,kq 40 g7 1,kp 41 (.int .i64 len),kf 42,kf 43,kf 44,kq 45 g7 1,kp 46 (.int .i64 len),kf 47,kf 48,kf 49,kq 50 g7 3,kp 51 (.slice A3 n3 c3),ki 52 n3,kp 53 (.agg #[.int .i64 s.K,.int .i64 s.M,.int .i64 s.size]),kq 54 g7 1,kp 55 (.int .i64 len),(57,[37],fun _=>.bool false),kf 58,kf 59,kp 60 (.agg #[.int .i64 s.K,.int .i64 s.M,.int .i64 s.size]),kp 61 (.agg #[.slice A0 n0 c0,.slice (some ⟨bE,oE,none⟩) n1 c1,.slice A2 n2 c2,.int .i64 nx]),kp 62 (.agg #[.string dg,.int .i64 len,.bool BO,.slice A3 n3 c3]),(64,[44],fun _=>.bool false),kf 65]
          [] [] (BZ w4 (fun i v _=>(i=37→v=.int .i64 (mn:Int))∧(i=44→v=.bool true))) .init ⟨.a,.l fun us w6 hW _=>zo 0 (gu.out w6 hW.1),.n (.string dg),?_,.a,.a,?_,.a,.b,.b,.b,.b,.b,.b,.b,.b,.b,.b,.a,.a,.a,.a,.l fun us w6 hW _=>zo 1 (gu.out w6 hW.1),?_,.a,.a,.a,.l fun us w6 hW _=>zo 1 (gu.out w6 hW.1),?_,.a,.a,.a,.l fun us w6 hW _=>zo 3 (gu.out w6 hW.1),.n (.slice A3 n3 c3),?_,.a,.l fun us w6 hW _=>zo 1 (gu.out w6 hW.1),?_,?_,.a,.a,?_,?_,?_,?_,?_,.a,trivial⟩ ?_
        ·(refine .r1 (.int .i64 (dg.size:Int)) fun _ _ _ nY _ _ _ _=>?_;simp only[execOp,nY];go_simp;try rfl)
        ·(refine .r1 (.int .i64 (k:Int)) fun _ _ _ rD _ _ _ _=>?_;simp only[execOp,rD];go_simp;exact congrArg Value.bool (decide_eq_false (by omega)))
        ·(refine .r1 (.int .i64 len) fun _ _ _ uP _ _ _ _=>?_;simp only[execOp,uP];go_simp;exact congrArg Value.bool (decide_eq_false (by omega)))
        ·(refine .r1 (.int .i64 len) fun _ _ _ vE _ _ _ _=>?_;simp only[execOp,vE];go_simp;exact congrArg Value.bool (decide_eq_false (by omega)))
        ·(refine .r1 (.pointer (some ⟨w.heap.size,0,none⟩)) fun _ _ w6 e2 _ _ _ hW=>?_;have rr:=mb.out w6 (ma.out.trans (hW.1.mono nK));have z0:=zo 0 rr.1;have z1:=zo 1 rr.1;have z2:=zo 2 rr.1;have x0:=zo 0 rr.2;have x1:=zo 1 rr.2;have x2:=zo 2 rr.2;have x3:=zo 3 rr.2;clear rr;simp only[execOp,e2];go_simp;try rfl)
        ·refine Bh.wr rfl (fun Z us w6 ho ht hni hlim gi hW K hK=>?_);have yh:=zv (ht 53 (by decide)) (.agg #[.int .i64 s.K,.int .i64 s.M,.int .i64 s.size]) rfl;have Gd:=zv (ht 55 (by decide)) (.int .i64 len) rfl;have hcl:=HMA.out w6 len (by omega) (by omega);rw[yf.out] at hcl;have eg:=zv (ht 49 (by decide)) (.bool false) rfl;refine qz (Bp.wanted (.at_ (j:=30) (t:=49) (b:=false) rfl rfl eg)) 111 #[.tmp 53,.tmp 55] #[23,3] rfl Tryz.func111 (by kernel_rfl) (by kernel_rfl) #[.agg #[.int .i64 s.K,.int .i64 s.M,.int .i64 s.size],.int .i64 len] (by simp[yh,Gd];try rfl) hcl ?_;rintro e w7 ⟨rfl,gv⟩;exact⟨_,rfl,hK _ _ (hW.snoc gv (fun j v h=>h) (⟨fun _=>rfl,fun h=>absurd h (by decide)⟩))⟩
        ·(refine Bh.Cs rfl 30 49 false rfl rfl (by decide) (fun _ _ _=>rfl) (fun ρ us w6 ho ht hc hl hsrc hW=>?_);have Gv:=zv (ht 52 (by decide)) (.int .i64 (n3:Int)) rfl;have vF:=zv (ht 56 (by decide)) ((us.lookup 37).getD undef) rfl;rw[(hW.at_ (hsrc 37 (by exact(List.mem_singleton.2 rfl:(37:Nat)∈[37])))).1 rfl] at vF;clear ht ho;simp only[execOp,Gv,vF];go_simp;try rfl)
        ·(refine .r1 (.pointer (some ⟨w.heap.size,0,none⟩)) fun _ _ w6 e2 _ _ _ hW=>?_;have rr:=mb.out w6 (ma.out.trans (hW.1.mono nK));have z0:=zo 0 rr.1;have z1:=zo 1 rr.1;have z2:=zo 2 rr.1;have x0:=zo 0 rr.2;have x1:=zo 1 rr.2;have x2:=zo 2 rr.2;have x3:=zo 3 rr.2;clear rr;simp only[execOp,e2];go_simp;try rfl)
        ·(refine .r1 (.pointer (some ⟨w.heap.size+1,0,none⟩)) fun _ _ w6 e3 _ _ _ hW=>?_;have rr:=mb.out w6 (ma.out.trans (hW.1.mono nK));have z0:=zo 0 rr.1;have z1:=zo 1 rr.1;have z2:=zo 2 rr.1;have x0:=zo 0 rr.2;have x1:=zo 1 rr.2;have x2:=zo 2 rr.2;have x3:=zo 3 rr.2;clear rr;simp only[execOp,e3];go_simp;try rfl)
        ·(refine .r1 (.pointer (some ⟨g7,0,none⟩)) fun _ _ w6 e7 _ _ _ hW=>?_;have r7:=gu.out w6 hW.1;have z0:=zo 0 r7;have z1:=zo 1 r7;have z2:=zo 2 r7;have z3:=zo 3 r7;clear r7;simp only[execOp,e7];go_simp;try rfl)
        ·refine Bh.wr rfl (fun Z us w6 ho ht hni hlim gi hW K hK=>?_);have e60:=zv (ht 60 (by decide)) (.agg #[.int .i64 s.K,.int .i64 s.M,.int .i64 s.size]) rfl;have Hh:=zv (ht 61 (by decide)) (.agg #[.slice A0 n0 c0,.slice (some ⟨bE,oE,none⟩) n1 c1,.slice A2 n2 c2,.int .i64 nx]) rfl;have Hi:=zv (ht 62 (by decide)) (.agg #[.string dg,.int .i64 len,.bool BO,.slice A3 n3 c3]) rfl;have hcl:=HLE.out w6 (mq.out w6 (ma.out.trans (hW.1.mono nK))) len (by omega) (by omega) dg BO A3 n3 c3 ys _ _ (rz.out.all hW.1);rw[HLF.out] at hcl;have eg:=zv (ht 59 (by decide)) (.bool false) rfl;refine qz (Bp.wanted (.at_ (j:=40) (t:=59) (b:=false) rfl rfl eg)) 112 #[.tmp 60,.tmp 61,.tmp 62] #[23,28,90] rfl Tryz.func112 (by kernel_rfl) (by kernel_rfl) #[.agg #[.int .i64 s.K,.int .i64 s.M,.int .i64 s.size],.agg #[.slice A0 n0 c0,.slice (some ⟨bE,oE,none⟩) n1 c1,.slice A2 n2 c2,.int .i64 nx],.agg #[.string dg,.int .i64 len,.bool BO,.slice A3 n3 c3]] (by simp[e60,Hh,Hi];try rfl) hcl ?_;rintro e w7 ⟨rfl,gv⟩;exact⟨_,rfl,hK _ _ (hW.snoc gv (fun j v h=>h) (⟨fun h=>absurd h (by decide),fun _=>rfl⟩))⟩
        ·(refine Bh.Cs rfl 40 59 false rfl rfl (by decide) (fun _ _ _=>rfl) (fun ρ us w6 ho ht hc hl hsrc hW=>?_);have yj:=zv (ht 63 (by decide)) ((us.lookup 44).getD undef) rfl;rw[(hW.at_ (hsrc 44 (by exact(List.mem_singleton.2 rfl:(44:Nat)∈[44])))).2 rfl] at yj;clear ht ho;simp only[execOp,yj];go_simp;try rfl)
        intro us w9 hmem hW;simp only[qa,BG,BH,BI,BJ,Act.put,BC,BD,BF];generalize mh:qx _ _ us=sv;have hq:sv 65=(.bool false:Value):=(by rw[←mh];rfl);rw[hq];have gF:=zh hW.1;clear mh hq hmem hW;go_wp2
        go_meet
        case rel=>exact⟨by rw[mD.out];rfl,gF⟩
       |false=>
        have mD:Hid (qI s l xs k=false):=zh pC;clear pC;go_wp2_with fail
        refine rF 84 rfl [19,20,21,22,23,24,25,26,27,28,29,30,31,32,33,34,35,36,37,38,39,40,41,42,43,44,45,46,47,48,49,50,51,52,53,54,55,56,57,58,59,60,61,62,63,64,65] [37,44]
          [kq 19 g7 0,kp 20 (.string dg),kp 21 (.int .i64 (dg.size:Int)),kf 22,kf 23,ki 24 k,kf 25,kf 26,kf 37,kf 38,kf 39,kq 40 g7 1,kp 41 (.int .i64 len),kf 42,kf 43,kf 44,kq 45 g7 1,kp 46 (.int .i64 len),kf 47,kf 48,kf 49,kq 50 g7 3,kp 51 (.slice A3 n3 c3),ki 52 n3,kp 53 (.agg #[.int .i64 s.K,.int .i64 s.M,.int .i64 s.size]),kq 54 g7 1,kp 55 (.int .i64 len),(57,[37],fun _=>.bool false),kf 58,kf 59,kp 60 (.agg #[.int .i64 s.K,.int .i64 s.M,.int .i64 s.size]),kp 61 (.agg #[.slice A0 n0 c0,.slice (some ⟨bE,oE,none⟩) n1 c1,.slice A2 n2 c2,.int .i64 nx]),kp 62 (.agg #[.string dg,.int .i64 len,.bool BO,.slice A3 n3 c3]),(64,[44],fun _=>.bool true),kt 65]
          [] [] (BZ w4 (fun i v _=>(i=37→v=.int .i64 (mn:Int))∧(i=44→v=.bool false))) .init ⟨.a,.l fun us w6 hW _=>zo 0 (gu.out w6 hW.1),.n (.string dg),?_,.a,.a,?_,.a,.b,.b,.b,.b,.b,.b,.b,.b,.b,.b,.a,.a,.a,.a,.l fun us w6 hW _=>zo 1 (gu.out w6 hW.1),?_,.a,.a,.a,.l fun us w6 hW _=>zo 1 (gu.out w6 hW.1),?_,.a,.a,.a,.l fun us w6 hW _=>zo 3 (gu.out w6 hW.1),.n (.slice A3 n3 c3),?_,.a,.l fun us w6 hW _=>zo 1 (gu.out w6 hW.1),?_,?_,.a,.a,?_,?_,?_,?_,?_,.a,trivial⟩ ?_
        ·(refine .r1 (.int .i64 (dg.size:Int)) fun _ _ _ nY _ _ _ _=>?_;simp only[execOp,nY];go_simp;try rfl)
        ·(refine .r1 (.int .i64 (k:Int)) fun _ _ _ rD _ _ _ _=>?_;simp only[execOp,rD];go_simp;exact congrArg Value.bool (decide_eq_false (by omega)))
        ·(refine .r1 (.int .i64 len) fun _ _ _ uP _ _ _ _=>?_;simp only[execOp,uP];go_simp;exact congrArg Value.bool (decide_eq_false (by omega)))
        ·(refine .r1 (.int .i64 len) fun _ _ _ vE _ _ _ _=>?_;simp only[execOp,vE];go_simp;exact congrArg Value.bool (decide_eq_false (by omega)))
        ·(refine .r1 (.pointer (some ⟨w.heap.size,0,none⟩)) fun _ _ w6 e2 _ _ _ hW=>?_;have rr:=mb.out w6 (ma.out.trans (hW.1.mono nK));have z0:=zo 0 rr.1;have z1:=zo 1 rr.1;have z2:=zo 2 rr.1;have x0:=zo 0 rr.2;have x1:=zo 1 rr.2;have x2:=zo 2 rr.2;have x3:=zo 3 rr.2;clear rr;simp only[execOp,e2];go_simp;try rfl)
        ·refine Bh.wr rfl (fun Z us w6 ho ht hni hlim gi hW K hK=>?_);have yh:=zv (ht 53 (by decide)) (.agg #[.int .i64 s.K,.int .i64 s.M,.int .i64 s.size]) rfl;have Gd:=zv (ht 55 (by decide)) (.int .i64 len) rfl;have hcl:=HMA.out w6 len (by omega) (by omega);rw[yf.out] at hcl;have eg:=zv (ht 49 (by decide)) (.bool false) rfl;refine qz (Bp.wanted (.at_ (j:=30) (t:=49) (b:=false) rfl rfl eg)) 111 #[.tmp 53,.tmp 55] #[23,3] rfl Tryz.func111 (by kernel_rfl) (by kernel_rfl) #[.agg #[.int .i64 s.K,.int .i64 s.M,.int .i64 s.size],.int .i64 len] (by simp[yh,Gd];try rfl) hcl ?_;rintro e w7 ⟨rfl,gv⟩;exact⟨_,rfl,hK _ _ (hW.snoc gv (fun j v h=>h) (⟨fun _=>rfl,fun h=>absurd h (by decide)⟩))⟩
        ·(refine Bh.Cs rfl 30 49 false rfl rfl (by decide) (fun _ _ _=>rfl) (fun ρ us w6 ho ht hc hl hsrc hW=>?_);have Gv:=zv (ht 52 (by decide)) (.int .i64 (n3:Int)) rfl;have vF:=zv (ht 56 (by decide)) ((us.lookup 37).getD undef) rfl;rw[(hW.at_ (hsrc 37 (by exact(List.mem_singleton.2 rfl:(37:Nat)∈[37])))).1 rfl] at vF;clear ht ho;simp only[execOp,Gv,vF];go_simp;try rfl)
        ·(refine .r1 (.pointer (some ⟨w.heap.size,0,none⟩)) fun _ _ w6 e2 _ _ _ hW=>?_;have rr:=mb.out w6 (ma.out.trans (hW.1.mono nK));have z0:=zo 0 rr.1;have z1:=zo 1 rr.1;have z2:=zo 2 rr.1;have x0:=zo 0 rr.2;have x1:=zo 1 rr.2;have x2:=zo 2 rr.2;have x3:=zo 3 rr.2;clear rr;simp only[execOp,e2];go_simp;try rfl)
        ·(refine .r1 (.pointer (some ⟨w.heap.size+1,0,none⟩)) fun _ _ w6 e3 _ _ _ hW=>?_;have rr:=mb.out w6 (ma.out.trans (hW.1.mono nK));have z0:=zo 0 rr.1;have z1:=zo 1 rr.1;have z2:=zo 2 rr.1;have x0:=zo 0 rr.2;have x1:=zo 1 rr.2;have x2:=zo 2 rr.2;have x3:=zo 3 rr.2;clear rr;simp only[execOp,e3];go_simp;try rfl)
        ·(refine .r1 (.pointer (some ⟨g7,0,none⟩)) fun _ _ w6 e7 _ _ _ hW=>?_;have r7:=gu.out w6 hW.1;have z0:=zo 0 r7;have z1:=zo 1 r7;have z2:=zo 2 r7;have z3:=zo 3 r7;clear r7;simp only[execOp,e7];go_simp;try rfl)
        ·refine Bh.wr rfl (fun Z us w6 ho ht hni hlim gi hW K hK=>?_);have e60:=zv (ht 60 (by decide)) (.agg #[.int .i64 s.K,.int .i64 s.M,.int .i64 s.size]) rfl;have Hh:=zv (ht 61 (by decide)) (.agg #[.slice A0 n0 c0,.slice (some ⟨bE,oE,none⟩) n1 c1,.slice A2 n2 c2,.int .i64 nx]) rfl;have Hi:=zv (ht 62 (by decide)) (.agg #[.string dg,.int .i64 len,.bool BO,.slice A3 n3 c3]) rfl;have hcl:=HLE.out w6 (mq.out w6 (ma.out.trans (hW.1.mono nK))) len (by omega) (by omega) dg BO A3 n3 c3 ys _ _ (rz.out.all hW.1);rw[HLF.out] at hcl;have eg:=zv (ht 59 (by decide)) (.bool false) rfl;refine qz (Bp.wanted (.at_ (j:=40) (t:=59) (b:=false) rfl rfl eg)) 112 #[.tmp 60,.tmp 61,.tmp 62] #[23,28,90] rfl Tryz.func112 (by kernel_rfl) (by kernel_rfl) #[.agg #[.int .i64 s.K,.int .i64 s.M,.int .i64 s.size],.agg #[.slice A0 n0 c0,.slice (some ⟨bE,oE,none⟩) n1 c1,.slice A2 n2 c2,.int .i64 nx],.agg #[.string dg,.int .i64 len,.bool BO,.slice A3 n3 c3]] (by simp[e60,Hh,Hi];try rfl) hcl ?_;rintro e w7 ⟨rfl,gv⟩;exact⟨_,rfl,hK _ _ (hW.snoc gv (fun j v h=>h) (⟨fun h=>absurd h (by decide),fun _=>rfl⟩))⟩
        ·(refine Bh.Cs rfl 40 59 false rfl rfl (by decide) (fun _ _ _=>rfl) (fun ρ us w6 ho ht hc hl hsrc hW=>?_);have yj:=zv (ht 63 (by decide)) ((us.lookup 44).getD undef) rfl;rw[(hW.at_ (hsrc 44 (by exact(List.mem_singleton.2 rfl:(44:Nat)∈[44])))).2 rfl] at yj;clear ht ho;simp only[execOp,yj];go_simp;try rfl)
        intro us w9 hmem hW;simp only[qa,BG,BH,BI,BJ,Act.put,BC,BD,BF];generalize mh:qx _ _ us=sv;have hq:sv 65=(.bool true:Value):=(by rw[←mh];rfl);rw[hq];have gF:=zh hW.1;clear mh hq hmem hW;go_wp2
        go_meet
        case rel=>exact⟨by rw[mD.out];rfl,gF⟩
      have cE':((n3:Int) !=(mn:Int))=true:=(by simp;omega);rw[decide_eq_false cE] at pC;have mD:Hid (qI s l xs k=false):=zh pC;clear pC cE;go_wp2_with fail
      refine rF 84 rfl [19,20,21,22,23,24,25,26,27,28,29,30,31,32,33,34,35,36,37,38,39,40,41,42,43,44,45,46,47,48,49,50,51,52,53,54,55,56,57,58,59,60,61,62,63,64,65] [37]
        [kq 19 g7 0,kp 20 (.string dg),kp 21 (.int .i64 (dg.size:Int)),kf 22,kf 23,ki 24 k,kf 25,kf 26,kf 37,kf 38,kf 39,kq 40 g7 1,kp 41 (.int .i64 len),kf 42,kf 43,kf 44,kq 45 g7 1,kp 46 (.int .i64 len),kf 47,kf 48,kf 49,kq 50 g7 3,kp 51 (.slice A3 n3 c3),ki 52 n3,kp 53 (.agg #[.int .i64 s.K,.int .i64 s.M,.int .i64 s.size]),kq 54 g7 1,kp 55 (.int .i64 len),(57,[37],fun _=>.bool true),kt 58,kt 59,kt 65]
        [] [] (BZ w4 (fun i v _=>(i=37→v=.int .i64 (mn:Int))∧(i=44→v=.bool false))) .init ⟨.a,.l fun us w6 hW _=>zo 0 (gu.out w6 hW.1),.n (.string dg),?_,.a,.a,?_,.a,.b,.b,.b,.b,.b,.b,.b,.b,.b,.b,.a,.a,.a,.a,.l fun us w6 hW _=>zo 1 (gu.out w6 hW.1),?_,.a,.a,.a,.l fun us w6 hW _=>zo 1 (gu.out w6 hW.1),?_,.a,.a,.a,.l fun us w6 hW _=>zo 3 (gu.out w6 hW.1),.n (.slice A3 n3 c3),?_,.a,.l fun us w6 hW _=>zo 1 (gu.out w6 hW.1),?_,?_,.a,.a,.b,.b,.b,.b,.b,.a,trivial⟩ ?_
      ·(refine .r1 (.int .i64 (dg.size:Int)) fun _ _ _ nY _ _ _ _=>?_;simp only[execOp,nY];go_simp;try rfl)
      ·(refine .r1 (.int .i64 (k:Int)) fun _ _ _ rD _ _ _ _=>?_;simp only[execOp,rD];go_simp;exact congrArg Value.bool (decide_eq_false (by omega)))
      ·(refine .r1 (.int .i64 len) fun _ _ _ uP _ _ _ _=>?_;simp only[execOp,uP];go_simp;exact congrArg Value.bool (decide_eq_false (by omega)))
      ·(refine .r1 (.int .i64 len) fun _ _ _ vE _ _ _ _=>?_;simp only[execOp,vE];go_simp;exact congrArg Value.bool (decide_eq_false (by omega)))
      ·(refine .r1 (.pointer (some ⟨w.heap.size,0,none⟩)) fun _ _ w6 e2 _ _ _ hW=>?_;have rr:=mb.out w6 (ma.out.trans (hW.1.mono nK));have z0:=zo 0 rr.1;have z1:=zo 1 rr.1;have z2:=zo 2 rr.1;have x0:=zo 0 rr.2;have x1:=zo 1 rr.2;have x2:=zo 2 rr.2;have x3:=zo 3 rr.2;clear rr;simp only[execOp,e2];go_simp;try rfl)
      ·refine Bh.wr rfl (fun Z us w6 ho ht hni hlim gi hW K hK=>?_);have yh:=zv (ht 53 (by decide)) (.agg #[.int .i64 s.K,.int .i64 s.M,.int .i64 s.size]) rfl;have Gd:=zv (ht 55 (by decide)) (.int .i64 len) rfl;have hcl:=HMA.out w6 len (by omega) (by omega);rw[yf.out] at hcl;have eg:=zv (ht 49 (by decide)) (.bool false) rfl;refine qz (Bp.wanted (.at_ (j:=30) (t:=49) (b:=false) rfl rfl eg)) 111 #[.tmp 53,.tmp 55] #[23,3] rfl Tryz.func111 (by kernel_rfl) (by kernel_rfl) #[.agg #[.int .i64 s.K,.int .i64 s.M,.int .i64 s.size],.int .i64 len] (by simp[yh,Gd];try rfl) hcl ?_;rintro e w7 ⟨rfl,gv⟩;exact⟨_,rfl,hK _ _ (hW.snoc gv (fun j v h=>h) (⟨fun _=>rfl,fun h=>absurd h (by decide)⟩))⟩
      ·(refine Bh.Cs rfl 30 49 false rfl rfl (by decide) (fun _ _ _=>rfl) (fun ρ us w6 ho ht hc hl hsrc hW=>?_);have Gv:=zv (ht 52 (by decide)) (.int .i64 (n3:Int)) rfl;have vF:=zv (ht 56 (by decide)) ((us.lookup 37).getD undef) rfl;rw[(hW.at_ (hsrc 37 (by exact(List.mem_singleton.2 rfl:(37:Nat)∈[37])))).1 rfl] at vF;clear ht ho;simp only[execOp,Gv,vF];go_simp;try rfl)
      intro us w9 hmem hW;simp only[qa,BG,BH,BI,BJ,Act.put,BC,BD,BF];generalize mh:qx _ _ us=sv;have hq:sv 65=(.bool true:Value):=(by rw[←mh];rfl);rw[hq];have gF:=zh hW.1;clear mh hq hmem hW;go_wp2
      go_meet
      case rel=>exact⟨by rw[mD.out];rfl,gF⟩
     have ye:0<(k:Int):=(by omega);have hc:=hp2 (by omega);have e1:(k:Int) - 1=((k - 1:Nat):Int):=(by omega);have hle:=XI pd dg;have vD:=zh (fun V (hV:Below w4.heap.size w4 V)=>(hV.cell (p:=⟨bE,oE+(k - 1)* 4,none⟩) hbE4).trans hc);rw[decide_eq_false u5] at mi;generalize qo pd dg=sl at *;clear hp2 u5 hc
     cases sl with
     |false=>
      have mD:Hid (qI s l xs k=false):=zh mi;rw[show(!false)=true from rfl] at hle;clear mi;go_wp2_with fail
      refine rF 84 rfl [19,20,21,22,23,24,25,26,27,28,29,30,31,32,33,34,35,36,37,38,39,40,41,42,43,44,45,46,47,48,49,50,51,52,53,54,55,56,57,58,59,60,61,62,63,64,65] []
        [kq 19 g7 0,kp 20 (.string dg),kp 21 (.int .i64 (dg.size:Int)),kf 22,kf 23,ki 24 k,kt 25,kt 26,kq 27 g7 0,kp 28 (.string dg),kq 29 (w.heap.size+1) (1),kp 30 (.slice (some ⟨bE,oE,none⟩) n1 c1),ki 31 k,kp 32 (.int .i64 ((k - 1:Nat):Int)),kp 33 (pt (bE) (oE+(k - 1)* 4)),kp 34 (pt (bE) (oE+(k - 1)* 4)),kp 35 (.string pd),kt 36,kt 37,kt 38,kt 39,kt 43,kt 44,kt 48,kt 49,kt 58,kt 59,kt 65]
        [] [] (BZ w4 (fun _ _ _=>True)) .init ⟨.a,.l fun us w6 hW _=>zo 0 (gu.out w6 hW.1),.n (.string dg),?_,.a,.a,?_,.a,.a,.l fun us w6 hW _=>zo 0 (gu.out w6 hW.1),.a,?_,.a,?_,?_,.a,.l fun us w6 hW _=>vD.out w6 hW.1,?_,.a,.a,.a,.b,.b,.b,.a,.a,.b,.b,.b,.a,.a,.b,.b,.b,.b,.b,.b,.b,.b,.a,.a,.b,.b,.b,.b,.b,.a,trivial⟩ ?_
      ·(refine .r1 (.int .i64 (dg.size:Int)) fun _ _ _ nY _ _ _ _=>?_;simp only[execOp,nY];go_simp;try rfl)
      ·(refine .r1 (.int .i64 (k:Int)) fun _ _ _ rD _ _ _ _=>?_;simp only[execOp,rD];go_simp;exact congrArg Value.bool (decide_eq_true (by omega)))
      ·(refine .r1 (.pointer (some ⟨w.heap.size+1,1,none⟩)) fun _ _ w6 rB _ _ _ hW=>?_;have rr:=mb.out w6 (ma.out.trans (hW.1.mono nK));have z0:=zo 0 rr.1;have z1:=zo 1 rr.1;have z2:=zo 2 rr.1;have x0:=zo 0 rr.2;have x1:=zo 1 rr.2;have x2:=zo 2 rr.2;have x3:=zo 3 rr.2;clear rr;simp only[execOp,rB];go_simp;try rfl)
      ·(refine .r1 (.int .i64 (k:Int)) fun _ _ _ pm _ _ _ _=>?_;simp only[execOp,pm];go_simp;rw[Go.IntWalk.i64_in _ (by omega)];rfl)
      ·(refine .r2 (.slice (some ⟨bE,oE,none⟩) n1 c1) (.int .i64 ((k - 1:Nat):Int)) fun _ _ _ uD ry _ _ _ _=>?_;simp only[execOp,uD,ry];go_simp;rw[if_pos (by omega)];rfl)
      ·(refine .r2 (.string dg) (.string pd) fun _ _ _ uQ rA _ _ _ _=>?_;simp only[execOp,uQ,rA];go_simp;rw[xQ];simp only[Result.andThen,hle];rfl)
      intro us w9 hmem hW;simp only[qa,BG,BH,BI,BJ,Act.put,BC,BD,BF];generalize mh:qx _ _ us=sv;have hq:sv 65=(.bool true:Value):=(by rw[←mh];rfl);rw[hq];have gF:=zh hW.1;clear mh hq hmem hW;go_wp2
      go_meet
      case rel=>exact⟨by rw[mD.out];rfl,gF⟩
     |true=>
      have pB:Hid (qI s l xs k=(decide (0≤len)&&(decide (len≤2000)&&(decide (n3=zJ s len)&&zA (s.K* s.size) l ys len)))):=zh mi;rw[show(!true)=false from rfl] at hle;clear mi;by_cases cC:len<0
      ·have mD:Hid (qI s l xs k=false):=zh (by rw[pB.out,decide_eq_false (by omega)];rfl);clear pB;go_wp2_with fail
       refine rF 84 rfl [19,20,21,22,23,24,25,26,27,28,29,30,31,32,33,34,35,36,37,38,39,40,41,42,43,44,45,46,47,48,49,50,51,52,53,54,55,56,57,58,59,60,61,62,63,64,65] []
         [kq 19 g7 0,kp 20 (.string dg),kp 21 (.int .i64 (dg.size:Int)),kf 22,kf 23,ki 24 k,kt 25,kt 26,kq 27 g7 0,kp 28 (.string dg),kq 29 (w.heap.size+1) (1),kp 30 (.slice (some ⟨bE,oE,none⟩) n1 c1),ki 31 k,kp 32 (.int .i64 ((k - 1:Nat):Int)),kp 33 (pt (bE) (oE+(k - 1)* 4)),kp 34 (pt (bE) (oE+(k - 1)* 4)),kp 35 (.string pd),kf 36,kf 37,kf 38,kf 39,kq 40 g7 1,kp 41 (.int .i64 len),kt 42,kt 43,kt 44,kt 48,kt 49,kt 58,kt 59,kt 65]
         [] [] (BZ w4 (fun _ _ _=>True)) .init ⟨.a,.l fun us w6 hW _=>zo 0 (gu.out w6 hW.1),.n (.string dg),?_,.a,.a,?_,.a,.a,.l fun us w6 hW _=>zo 0 (gu.out w6 hW.1),.a,?_,.a,?_,?_,.a,.l fun us w6 hW _=>vD.out w6 hW.1,?_,.a,.a,.a,.a,.l fun us w6 hW _=>zo 1 (gu.out w6 hW.1),?_,.a,.a,.b,.b,.b,.a,.a,.b,.b,.b,.b,.b,.b,.b,.b,.a,.a,.b,.b,.b,.b,.b,.a,trivial⟩ ?_
       ·(refine .r1 (.int .i64 (dg.size:Int)) fun _ _ _ nY _ _ _ _=>?_;simp only[execOp,nY];go_simp;try rfl)
       ·(refine .r1 (.int .i64 (k:Int)) fun _ _ _ rD _ _ _ _=>?_;simp only[execOp,rD];go_simp;exact congrArg Value.bool (decide_eq_true (by omega)))
       ·(refine .r1 (.pointer (some ⟨w.heap.size+1,1,none⟩)) fun _ _ w6 rB _ _ _ hW=>?_;have rr:=mb.out w6 (ma.out.trans (hW.1.mono nK));have z0:=zo 0 rr.1;have z1:=zo 1 rr.1;have z2:=zo 2 rr.1;have x0:=zo 0 rr.2;have x1:=zo 1 rr.2;have x2:=zo 2 rr.2;have x3:=zo 3 rr.2;clear rr;simp only[execOp,rB];go_simp;try rfl)
       ·(refine .r1 (.int .i64 (k:Int)) fun _ _ _ pm _ _ _ _=>?_;simp only[execOp,pm];go_simp;rw[Go.IntWalk.i64_in _ (by omega)];rfl)
       ·(refine .r2 (.slice (some ⟨bE,oE,none⟩) n1 c1) (.int .i64 ((k - 1:Nat):Int)) fun _ _ _ uD ry _ _ _ _=>?_;simp only[execOp,uD,ry];go_simp;rw[if_pos (by omega)];rfl)
       ·(refine .r2 (.string dg) (.string pd) fun _ _ _ uQ rA _ _ _ _=>?_;simp only[execOp,uQ,rA];go_simp;rw[xQ];simp only[Result.andThen,hle];rfl)
       ·(refine .r1 (.int .i64 len) fun _ _ _ uP _ _ _ _=>?_;simp only[execOp,uP];go_simp;try rfl)
       intro us w9 hmem hW;simp only[qa,BG,BH,BI,BJ,Act.put,BC,BD,BF];generalize mh:qx _ _ us=sv;have hq:sv 65=(.bool true:Value):=(by rw[←mh];rfl);rw[hq];have gF:=zh hW.1;clear mh hq hmem hW;go_wp2
       go_meet
       case rel=>exact⟨by rw[mD.out];rfl,gF⟩
      by_cases cD:2000<len
      ·have mD:Hid (qI s l xs k=false):=zh (by rw[pB.out,decide_eq_true (by omega:0≤len),decide_eq_false (by omega)];rfl);clear pB;go_wp2_with fail
       refine rF 84 rfl [19,20,21,22,23,24,25,26,27,28,29,30,31,32,33,34,35,36,37,38,39,40,41,42,43,44,45,46,47,48,49,50,51,52,53,54,55,56,57,58,59,60,61,62,63,64,65] []
         [kq 19 g7 0,kp 20 (.string dg),kp 21 (.int .i64 (dg.size:Int)),kf 22,kf 23,ki 24 k,kt 25,kt 26,kq 27 g7 0,kp 28 (.string dg),kq 29 (w.heap.size+1) (1),kp 30 (.slice (some ⟨bE,oE,none⟩) n1 c1),ki 31 k,kp 32 (.int .i64 ((k - 1:Nat):Int)),kp 33 (pt (bE) (oE+(k - 1)* 4)),kp 34 (pt (bE) (oE+(k - 1)* 4)),kp 35 (.string pd),kf 36,kf 37,kf 38,kf 39,kq 40 g7 1,kp 41 (.int .i64 len),kf 42,kf 43,kf 44,kq 45 g7 1,kp 46 (.int .i64 len),kt 47,kt 48,kt 49,kt 58,kt 59,kt 65]
         [] [] (BZ w4 (fun _ _ _=>True)) .init ⟨.a,.l fun us w6 hW _=>zo 0 (gu.out w6 hW.1),.n (.string dg),?_,.a,.a,?_,.a,.a,.l fun us w6 hW _=>zo 0 (gu.out w6 hW.1),.a,?_,.a,?_,?_,.a,.l fun us w6 hW _=>vD.out w6 hW.1,?_,.a,.a,.a,.a,.l fun us w6 hW _=>zo 1 (gu.out w6 hW.1),?_,.a,.a,.a,.l fun us w6 hW _=>zo 1 (gu.out w6 hW.1),?_,.a,.a,.b,.b,.b,.b,.b,.b,.b,.b,.a,.a,.b,.b,.b,.b,.b,.a,trivial⟩ ?_
       ·(refine .r1 (.int .i64 (dg.size:Int)) fun _ _ _ nY _ _ _ _=>?_;simp only[execOp,nY];go_simp;try rfl)
       ·(refine .r1 (.int .i64 (k:Int)) fun _ _ _ rD _ _ _ _=>?_;simp only[execOp,rD];go_simp;exact congrArg Value.bool (decide_eq_true (by omega)))
       ·(refine .r1 (.pointer (some ⟨w.heap.size+1,1,none⟩)) fun _ _ w6 rB _ _ _ hW=>?_;have rr:=mb.out w6 (ma.out.trans (hW.1.mono nK));have z0:=zo 0 rr.1;have z1:=zo 1 rr.1;have z2:=zo 2 rr.1;have x0:=zo 0 rr.2;have x1:=zo 1 rr.2;have x2:=zo 2 rr.2;have x3:=zo 3 rr.2;clear rr;simp only[execOp,rB];go_simp;try rfl)
       ·(refine .r1 (.int .i64 (k:Int)) fun _ _ _ pm _ _ _ _=>?_;simp only[execOp,pm];go_simp;rw[Go.IntWalk.i64_in _ (by omega)];rfl)
       ·(refine .r2 (.slice (some ⟨bE,oE,none⟩) n1 c1) (.int .i64 ((k - 1:Nat):Int)) fun _ _ _ uD ry _ _ _ _=>?_;simp only[execOp,uD,ry];go_simp;rw[if_pos (by omega)];rfl)
       ·(refine .r2 (.string dg) (.string pd) fun _ _ _ uQ rA _ _ _ _=>?_;simp only[execOp,uQ,rA];go_simp;rw[xQ];simp only[Result.andThen,hle];rfl)
       ·(refine .r1 (.int .i64 len) fun _ _ _ uP _ _ _ _=>?_;simp only[execOp,uP];go_simp;exact congrArg Value.bool (decide_eq_false (by omega)))
       ·(refine .r1 (.int .i64 len) fun _ _ _ vE _ _ _ _=>?_;simp only[execOp,vE];go_simp;try rfl)
       intro us w9 hmem hW;simp only[qa,BG,BH,BI,BJ,Act.put,BC,BD,BF];generalize mh:qx _ _ us=sv;have hq:sv 65=(.bool true:Value):=(by rw[←mh];rfl);rw[hq];have gF:=zh hW.1;clear mh hq hmem hW;go_wp2
       go_meet
       case rel=>exact⟨by rw[mD.out];rfl,gF⟩
      have pC:qI s l xs k=(decide (n3=zJ s len)&&zA (s.K* s.size) l ys len):=(by rw[pB.out,decide_eq_true (by omega:0≤len),decide_eq_true (by omega:len≤2000)];rfl);clear pB;obtain⟨mn,rC⟩:∃mn,mn=zJ s len:=⟨_,rfl⟩;rw[←rC] at pC;have yf:=zh rC.symm;clear rC;by_cases cE:n3=mn
      ·have cE':((n3:Int) !=(mn:Int))=false:=(by simp[cE]);rw[decide_eq_true cE] at pC;clear cE;generalize Gu:zA (s.K* s.size) l ys len=lf at *;have HLF:=zh Gu;clear Gu
       cases lf with
       |true=>
        have mD:Hid (qI s l xs k=true):=zh pC;clear pC;go_wp2_with fail
        refine rF 84 rfl [19,20,21,22,23,24,25,26,27,28,29,30,31,32,33,34,35,36,37,38,39,40,41,42,43,44,45,46,47,48,49,50,51,52,53,54,55,56,57,58,59,60,61,62,63,64,65] [37,44]
          [kq 19 g7 0,kp 20 (.string dg),kp 21 (.int .i64 (dg.size:Int)),kf 22,kf 23,ki 24 k,kt 25,kt 26,kq 27 g7 0,kp 28 (.string dg),kq 29 (w.heap.size+1) (1),kp 30 (.slice (some ⟨bE,oE,none⟩) n1 c1),ki 31 k,kp 32 (.int .i64 ((k - 1:Nat):Int)),kp 33 (pt (bE) (oE+(k - 1)* 4)),kp 34 (pt (bE) (oE+(k - 1)* 4)),kp 35 (.string pd),kf 36,kf 37,kf 38,kf 39,kq 40 g7 1,kp 41 (.int .i64 len),kf 42,kf 43,kf 44,kq 45 g7 1,kp 46 (.int .i64 len),kf 47,kf 48,kf 49,kq 50 g7 3,kp 51 (.slice A3 n3 c3),ki 52 n3,kp 53 (.agg #[.int .i64 s.K,.int .i64 s.M,.int .i64 s.size]),kq 54 g7 1,kp 55 (.int .i64 len),(57,[37],fun _=>.bool false),kf 58,kf 59,kp 60 (.agg #[.int .i64 s.K,.int .i64 s.M,.int .i64 s.size]),kp 61 (.agg #[.slice A0 n0 c0,.slice (some ⟨bE,oE,none⟩) n1 c1,.slice A2 n2 c2,.int .i64 nx]),kp 62 (.agg #[.string dg,.int .i64 len,.bool BO,.slice A3 n3 c3]),(64,[44],fun _=>.bool false),kf 65]
          [] [] (BZ w4 (fun i v _=>(i=37→v=.int .i64 (mn:Int))∧(i=44→v=.bool true))) .init ⟨.a,.l fun us w6 hW _=>zo 0 (gu.out w6 hW.1),.n (.string dg),?_,.a,.a,?_,.a,.a,.l fun us w6 hW _=>zo 0 (gu.out w6 hW.1),.a,?_,.a,?_,?_,.a,.l fun us w6 hW _=>vD.out w6 hW.1,?_,.a,.a,.a,.a,.l fun us w6 hW _=>zo 1 (gu.out w6 hW.1),?_,.a,.a,.a,.l fun us w6 hW _=>zo 1 (gu.out w6 hW.1),?_,.a,.a,.a,.l fun us w6 hW _=>zo 3 (gu.out w6 hW.1),.n (.slice A3 n3 c3),?_,.a,.l fun us w6 hW _=>zo 1 (gu.out w6 hW.1),?_,?_,.a,.a,?_,?_,?_,?_,?_,.a,trivial⟩ ?_
        ·(refine .r1 (.int .i64 (dg.size:Int)) fun _ _ _ nY _ _ _ _=>?_;simp only[execOp,nY];go_simp;try rfl)
        ·(refine .r1 (.int .i64 (k:Int)) fun _ _ _ rD _ _ _ _=>?_;simp only[execOp,rD];go_simp;exact congrArg Value.bool (decide_eq_true (by omega)))
        ·(refine .r1 (.pointer (some ⟨w.heap.size+1,1,none⟩)) fun _ _ w6 rB _ _ _ hW=>?_;have rr:=mb.out w6 (ma.out.trans (hW.1.mono nK));have z0:=zo 0 rr.1;have z1:=zo 1 rr.1;have z2:=zo 2 rr.1;have x0:=zo 0 rr.2;have x1:=zo 1 rr.2;have x2:=zo 2 rr.2;have x3:=zo 3 rr.2;clear rr;simp only[execOp,rB];go_simp;try rfl)
        ·(refine .r1 (.int .i64 (k:Int)) fun _ _ _ pm _ _ _ _=>?_;simp only[execOp,pm];go_simp;rw[Go.IntWalk.i64_in _ (by omega)];rfl)
        ·(refine .r2 (.slice (some ⟨bE,oE,none⟩) n1 c1) (.int .i64 ((k - 1:Nat):Int)) fun _ _ _ uD ry _ _ _ _=>?_;simp only[execOp,uD,ry];go_simp;rw[if_pos (by omega)];rfl)
        ·(refine .r2 (.string dg) (.string pd) fun _ _ _ uQ rA _ _ _ _=>?_;simp only[execOp,uQ,rA];go_simp;rw[xQ];simp only[Result.andThen,hle];rfl)
        ·(refine .r1 (.int .i64 len) fun _ _ _ uP _ _ _ _=>?_;simp only[execOp,uP];go_simp;exact congrArg Value.bool (decide_eq_false (by omega)))
        ·(refine .r1 (.int .i64 len) fun _ _ _ vE _ _ _ _=>?_;simp only[execOp,vE];go_simp;exact congrArg Value.bool (decide_eq_false (by omega)))
        ·(refine .r1 (.pointer (some ⟨w.heap.size,0,none⟩)) fun _ _ w6 e2 _ _ _ hW=>?_;have rr:=mb.out w6 (ma.out.trans (hW.1.mono nK));have z0:=zo 0 rr.1;have z1:=zo 1 rr.1;have z2:=zo 2 rr.1;have x0:=zo 0 rr.2;have x1:=zo 1 rr.2;have x2:=zo 2 rr.2;have x3:=zo 3 rr.2;clear rr;simp only[execOp,e2];go_simp;try rfl)
        ·refine Bh.wr rfl (fun Z us w6 ho ht hni hlim gi hW K hK=>?_);have yh:=zv (ht 53 (by decide)) (.agg #[.int .i64 s.K,.int .i64 s.M,.int .i64 s.size]) rfl;have Gd:=zv (ht 55 (by decide)) (.int .i64 len) rfl;have hcl:=HMA.out w6 len (by omega) (by omega);rw[yf.out] at hcl;have eg:=zv (ht 49 (by decide)) (.bool false) rfl;refine qz (Bp.wanted (.at_ (j:=30) (t:=49) (b:=false) rfl rfl eg)) 111 #[.tmp 53,.tmp 55] #[23,3] rfl Tryz.func111 (by kernel_rfl) (by kernel_rfl) #[.agg #[.int .i64 s.K,.int .i64 s.M,.int .i64 s.size],.int .i64 len] (by simp[yh,Gd];try rfl) hcl ?_;rintro e w7 ⟨rfl,gv⟩;exact⟨_,rfl,hK _ _ (hW.snoc gv (fun j v h=>h) (⟨fun _=>rfl,fun h=>absurd h (by decide)⟩))⟩
        ·(refine Bh.Cs rfl 30 49 false rfl rfl (by decide) (fun _ _ _=>rfl) (fun ρ us w6 ho ht hc hl hsrc hW=>?_);have Gv:=zv (ht 52 (by decide)) (.int .i64 (n3:Int)) rfl;have vF:=zv (ht 56 (by decide)) ((us.lookup 37).getD undef) rfl;rw[(hW.at_ (hsrc 37 (by exact(List.mem_singleton.2 rfl:(37:Nat)∈[37])))).1 rfl] at vF;clear ht ho;simp only[execOp,Gv,vF];go_simp;try rfl)
        ·(refine .r1 (.pointer (some ⟨w.heap.size,0,none⟩)) fun _ _ w6 e2 _ _ _ hW=>?_;have rr:=mb.out w6 (ma.out.trans (hW.1.mono nK));have z0:=zo 0 rr.1;have z1:=zo 1 rr.1;have z2:=zo 2 rr.1;have x0:=zo 0 rr.2;have x1:=zo 1 rr.2;have x2:=zo 2 rr.2;have x3:=zo 3 rr.2;clear rr;simp only[execOp,e2];go_simp;try rfl)
        ·(refine .r1 (.pointer (some ⟨w.heap.size+1,0,none⟩)) fun _ _ w6 e3 _ _ _ hW=>?_;have rr:=mb.out w6 (ma.out.trans (hW.1.mono nK));have z0:=zo 0 rr.1;have z1:=zo 1 rr.1;have z2:=zo 2 rr.1;have x0:=zo 0 rr.2;have x1:=zo 1 rr.2;have x2:=zo 2 rr.2;have x3:=zo 3 rr.2;clear rr;simp only[execOp,e3];go_simp;try rfl)
        ·(refine .r1 (.pointer (some ⟨g7,0,none⟩)) fun _ _ w6 e7 _ _ _ hW=>?_;have r7:=gu.out w6 hW.1;have z0:=zo 0 r7;have z1:=zo 1 r7;have z2:=zo 2 r7;have z3:=zo 3 r7;clear r7;simp only[execOp,e7];go_simp;try rfl)
        ·refine Bh.wr rfl (fun Z us w6 ho ht hni hlim gi hW K hK=>?_);have e60:=zv (ht 60 (by decide)) (.agg #[.int .i64 s.K,.int .i64 s.M,.int .i64 s.size]) rfl;have Hh:=zv (ht 61 (by decide)) (.agg #[.slice A0 n0 c0,.slice (some ⟨bE,oE,none⟩) n1 c1,.slice A2 n2 c2,.int .i64 nx]) rfl;have Hi:=zv (ht 62 (by decide)) (.agg #[.string dg,.int .i64 len,.bool BO,.slice A3 n3 c3]) rfl;have hcl:=HLE.out w6 (mq.out w6 (ma.out.trans (hW.1.mono nK))) len (by omega) (by omega) dg BO A3 n3 c3 ys _ _ (rz.out.all hW.1);rw[HLF.out] at hcl;have eg:=zv (ht 59 (by decide)) (.bool false) rfl;refine qz (Bp.wanted (.at_ (j:=40) (t:=59) (b:=false) rfl rfl eg)) 112 #[.tmp 60,.tmp 61,.tmp 62] #[23,28,90] rfl Tryz.func112 (by kernel_rfl) (by kernel_rfl) #[.agg #[.int .i64 s.K,.int .i64 s.M,.int .i64 s.size],.agg #[.slice A0 n0 c0,.slice (some ⟨bE,oE,none⟩) n1 c1,.slice A2 n2 c2,.int .i64 nx],.agg #[.string dg,.int .i64 len,.bool BO,.slice A3 n3 c3]] (by simp[e60,Hh,Hi];try rfl) hcl ?_;rintro e w7 ⟨rfl,gv⟩;exact⟨_,rfl,hK _ _ (hW.snoc gv (fun j v h=>h) (⟨fun h=>absurd h (by decide),fun _=>rfl⟩))⟩
        ·(refine Bh.Cs rfl 40 59 false rfl rfl (by decide) (fun _ _ _=>rfl) (fun ρ us w6 ho ht hc hl hsrc hW=>?_);have yj:=zv (ht 63 (by decide)) ((us.lookup 44).getD undef) rfl;rw[(hW.at_ (hsrc 44 (by exact(List.mem_singleton.2 rfl:(44:Nat)∈[44])))).2 rfl] at yj;clear ht ho;simp only[execOp,yj];go_simp;try rfl)
        intro us w9 hmem hW;simp only[qa,BG,BH,BI,BJ,Act.put,BC,BD,BF];generalize mh:qx _ _ us=sv;have hq:sv 65=(.bool false:Value):=(by rw[←mh];rfl);rw[hq];have gF:=zh hW.1;clear mh hq hmem hW;go_wp2
        go_meet
        case rel=>exact⟨by rw[mD.out];rfl,gF⟩
       |false=>
        have mD:Hid (qI s l xs k=false):=zh pC;clear pC;go_wp2_with fail
        refine rF 84 rfl [19,20,21,22,23,24,25,26,27,28,29,30,31,32,33,34,35,36,37,38,39,40,41,42,43,44,45,46,47,48,49,50,51,52,53,54,55,56,57,58,59,60,61,62,63,64,65] [37,44]
          [kq 19 g7 0,kp 20 (.string dg),kp 21 (.int .i64 (dg.size:Int)),kf 22,kf 23,ki 24 k,kt 25,kt 26,kq 27 g7 0,kp 28 (.string dg),kq 29 (w.heap.size+1) (1),kp 30 (.slice (some ⟨bE,oE,none⟩) n1 c1),ki 31 k,kp 32 (.int .i64 ((k - 1:Nat):Int)),kp 33 (pt (bE) (oE+(k - 1)* 4)),kp 34 (pt (bE) (oE+(k - 1)* 4)),kp 35 (.string pd),kf 36,kf 37,kf 38,kf 39,kq 40 g7 1,kp 41 (.int .i64 len),kf 42,kf 43,kf 44,kq 45 g7 1,kp 46 (.int .i64 len),kf 47,kf 48,kf 49,kq 50 g7 3,kp 51 (.slice A3 n3 c3),ki 52 n3,kp 53 (.agg #[.int .i64 s.K,.int .i64 s.M,.int .i64 s.size]),kq 54 g7 1,kp 55 (.int .i64 len),(57,[37],fun _=>.bool false),kf 58,kf 59,kp 60 (.agg #[.int .i64 s.K,.int .i64 s.M,.int .i64 s.size]),kp 61 (.agg #[.slice A0 n0 c0,.slice (some ⟨bE,oE,none⟩) n1 c1,.slice A2 n2 c2,.int .i64 nx]),kp 62 (.agg #[.string dg,.int .i64 len,.bool BO,.slice A3 n3 c3]),(64,[44],fun _=>.bool true),kt 65]
          [] [] (BZ w4 (fun i v _=>(i=37→v=.int .i64 (mn:Int))∧(i=44→v=.bool false))) .init ⟨.a,.l fun us w6 hW _=>zo 0 (gu.out w6 hW.1),.n (.string dg),?_,.a,.a,?_,.a,.a,.l fun us w6 hW _=>zo 0 (gu.out w6 hW.1),.a,?_,.a,?_,?_,.a,.l fun us w6 hW _=>vD.out w6 hW.1,?_,.a,.a,.a,.a,.l fun us w6 hW _=>zo 1 (gu.out w6 hW.1),?_,.a,.a,.a,.l fun us w6 hW _=>zo 1 (gu.out w6 hW.1),?_,.a,.a,.a,.l fun us w6 hW _=>zo 3 (gu.out w6 hW.1),.n (.slice A3 n3 c3),?_,.a,.l fun us w6 hW _=>zo 1 (gu.out w6 hW.1),?_,?_,.a,.a,?_,?_,?_,?_,?_,.a,trivial⟩ ?_
        ·(refine .r1 (.int .i64 (dg.size:Int)) fun _ _ _ nY _ _ _ _=>?_;simp only[execOp,nY];go_simp;try rfl)
        ·(refine .r1 (.int .i64 (k:Int)) fun _ _ _ rD _ _ _ _=>?_;simp only[execOp,rD];go_simp;exact congrArg Value.bool (decide_eq_true (by omega)))
        ·(refine .r1 (.pointer (some ⟨w.heap.size+1,1,none⟩)) fun _ _ w6 rB _ _ _ hW=>?_;have rr:=mb.out w6 (ma.out.trans (hW.1.mono nK));have z0:=zo 0 rr.1;have z1:=zo 1 rr.1;have z2:=zo 2 rr.1;have x0:=zo 0 rr.2;have x1:=zo 1 rr.2;have x2:=zo 2 rr.2;have x3:=zo 3 rr.2;clear rr;simp only[execOp,rB];go_simp;try rfl)
        ·(refine .r1 (.int .i64 (k:Int)) fun _ _ _ pm _ _ _ _=>?_;simp only[execOp,pm];go_simp;rw[Go.IntWalk.i64_in _ (by omega)];rfl)
        ·(refine .r2 (.slice (some ⟨bE,oE,none⟩) n1 c1) (.int .i64 ((k - 1:Nat):Int)) fun _ _ _ uD ry _ _ _ _=>?_;simp only[execOp,uD,ry];go_simp;rw[if_pos (by omega)];rfl)
        ·(refine .r2 (.string dg) (.string pd) fun _ _ _ uQ rA _ _ _ _=>?_;simp only[execOp,uQ,rA];go_simp;rw[xQ];simp only[Result.andThen,hle];rfl)
        ·(refine .r1 (.int .i64 len) fun _ _ _ uP _ _ _ _=>?_;simp only[execOp,uP];go_simp;exact congrArg Value.bool (decide_eq_false (by omega)))
        ·(refine .r1 (.int .i64 len) fun _ _ _ vE _ _ _ _=>?_;simp only[execOp,vE];go_simp;exact congrArg Value.bool (decide_eq_false (by omega)))
        ·(refine .r1 (.pointer (some ⟨w.heap.size,0,none⟩)) fun _ _ w6 e2 _ _ _ hW=>?_;have rr:=mb.out w6 (ma.out.trans (hW.1.mono nK));have z0:=zo 0 rr.1;have z1:=zo 1 rr.1;have z2:=zo 2 rr.1;have x0:=zo 0 rr.2;have x1:=zo 1 rr.2;have x2:=zo 2 rr.2;have x3:=zo 3 rr.2;clear rr;simp only[execOp,e2];go_simp;try rfl)
        ·refine Bh.wr rfl (fun Z us w6 ho ht hni hlim gi hW K hK=>?_);have yh:=zv (ht 53 (by decide)) (.agg #[.int .i64 s.K,.int .i64 s.M,.int .i64 s.size]) rfl;have Gd:=zv (ht 55 (by decide)) (.int .i64 len) rfl;have hcl:=HMA.out w6 len (by omega) (by omega);rw[yf.out] at hcl;have eg:=zv (ht 49 (by decide)) (.bool false) rfl;refine qz (Bp.wanted (.at_ (j:=30) (t:=49) (b:=false) rfl rfl eg)) 111 #[.tmp 53,.tmp 55] #[23,3] rfl Tryz.func111 (by kernel_rfl) (by kernel_rfl) #[.agg #[.int .i64 s.K,.int .i64 s.M,.int .i64 s.size],.int .i64 len] (by simp[yh,Gd];try rfl) hcl ?_;rintro e w7 ⟨rfl,gv⟩;exact⟨_,rfl,hK _ _ (hW.snoc gv (fun j v h=>h) (⟨fun _=>rfl,fun h=>absurd h (by decide)⟩))⟩
        ·(refine Bh.Cs rfl 30 49 false rfl rfl (by decide) (fun _ _ _=>rfl) (fun ρ us w6 ho ht hc hl hsrc hW=>?_);have Gv:=zv (ht 52 (by decide)) (.int .i64 (n3:Int)) rfl;have vF:=zv (ht 56 (by decide)) ((us.lookup 37).getD undef) rfl;rw[(hW.at_ (hsrc 37 (by exact(List.mem_singleton.2 rfl:(37:Nat)∈[37])))).1 rfl] at vF;clear ht ho;simp only[execOp,Gv,vF];go_simp;try rfl)
        ·(refine .r1 (.pointer (some ⟨w.heap.size,0,none⟩)) fun _ _ w6 e2 _ _ _ hW=>?_;have rr:=mb.out w6 (ma.out.trans (hW.1.mono nK));have z0:=zo 0 rr.1;have z1:=zo 1 rr.1;have z2:=zo 2 rr.1;have x0:=zo 0 rr.2;have x1:=zo 1 rr.2;have x2:=zo 2 rr.2;have x3:=zo 3 rr.2;clear rr;simp only[execOp,e2];go_simp;try rfl)
        ·(refine .r1 (.pointer (some ⟨w.heap.size+1,0,none⟩)) fun _ _ w6 e3 _ _ _ hW=>?_;have rr:=mb.out w6 (ma.out.trans (hW.1.mono nK));have z0:=zo 0 rr.1;have z1:=zo 1 rr.1;have z2:=zo 2 rr.1;have x0:=zo 0 rr.2;have x1:=zo 1 rr.2;have x2:=zo 2 rr.2;have x3:=zo 3 rr.2;clear rr;simp only[execOp,e3];go_simp;try rfl)
        ·(refine .r1 (.pointer (some ⟨g7,0,none⟩)) fun _ _ w6 e7 _ _ _ hW=>?_;have r7:=gu.out w6 hW.1;have z0:=zo 0 r7;have z1:=zo 1 r7;have z2:=zo 2 r7;have z3:=zo 3 r7;clear r7;simp only[execOp,e7];go_simp;try rfl)
        ·refine Bh.wr rfl (fun Z us w6 ho ht hni hlim gi hW K hK=>?_);have e60:=zv (ht 60 (by decide)) (.agg #[.int .i64 s.K,.int .i64 s.M,.int .i64 s.size]) rfl;have Hh:=zv (ht 61 (by decide)) (.agg #[.slice A0 n0 c0,.slice (some ⟨bE,oE,none⟩) n1 c1,.slice A2 n2 c2,.int .i64 nx]) rfl;have Hi:=zv (ht 62 (by decide)) (.agg #[.string dg,.int .i64 len,.bool BO,.slice A3 n3 c3]) rfl;have hcl:=HLE.out w6 (mq.out w6 (ma.out.trans (hW.1.mono nK))) len (by omega) (by omega) dg BO A3 n3 c3 ys _ _ (rz.out.all hW.1);rw[HLF.out] at hcl;have eg:=zv (ht 59 (by decide)) (.bool false) rfl;refine qz (Bp.wanted (.at_ (j:=40) (t:=59) (b:=false) rfl rfl eg)) 112 #[.tmp 60,.tmp 61,.tmp 62] #[23,28,90] rfl Tryz.func112 (by kernel_rfl) (by kernel_rfl) #[.agg #[.int .i64 s.K,.int .i64 s.M,.int .i64 s.size],.agg #[.slice A0 n0 c0,.slice (some ⟨bE,oE,none⟩) n1 c1,.slice A2 n2 c2,.int .i64 nx],.agg #[.string dg,.int .i64 len,.bool BO,.slice A3 n3 c3]] (by simp[e60,Hh,Hi];try rfl) hcl ?_;rintro e w7 ⟨rfl,gv⟩;exact⟨_,rfl,hK _ _ (hW.snoc gv (fun j v h=>h) (⟨fun h=>absurd h (by decide),fun _=>rfl⟩))⟩
        ·(refine Bh.Cs rfl 40 59 false rfl rfl (by decide) (fun _ _ _=>rfl) (fun ρ us w6 ho ht hc hl hsrc hW=>?_);have yj:=zv (ht 63 (by decide)) ((us.lookup 44).getD undef) rfl;rw[(hW.at_ (hsrc 44 (by exact(List.mem_singleton.2 rfl:(44:Nat)∈[44])))).2 rfl] at yj;clear ht ho;simp only[execOp,yj];go_simp;try rfl)
        intro us w9 hmem hW;simp only[qa,BG,BH,BI,BJ,Act.put,BC,BD,BF];generalize mh:qx _ _ us=sv;have hq:sv 65=(.bool true:Value):=(by rw[←mh];rfl);rw[hq];have gF:=zh hW.1;clear mh hq hmem hW;go_wp2
        go_meet
        case rel=>exact⟨by rw[mD.out];rfl,gF⟩
      have cE':((n3:Int) !=(mn:Int))=true:=(by simp;omega);rw[decide_eq_false cE] at pC;have mD:Hid (qI s l xs k=false):=zh pC;clear pC cE;go_wp2_with fail
      refine rF 84 rfl [19,20,21,22,23,24,25,26,27,28,29,30,31,32,33,34,35,36,37,38,39,40,41,42,43,44,45,46,47,48,49,50,51,52,53,54,55,56,57,58,59,60,61,62,63,64,65] [37]
        [kq 19 g7 0,kp 20 (.string dg),kp 21 (.int .i64 (dg.size:Int)),kf 22,kf 23,ki 24 k,kt 25,kt 26,kq 27 g7 0,kp 28 (.string dg),kq 29 (w.heap.size+1) (1),kp 30 (.slice (some ⟨bE,oE,none⟩) n1 c1),ki 31 k,kp 32 (.int .i64 ((k - 1:Nat):Int)),kp 33 (pt (bE) (oE+(k - 1)* 4)),kp 34 (pt (bE) (oE+(k - 1)* 4)),kp 35 (.string pd),kf 36,kf 37,kf 38,kf 39,kq 40 g7 1,kp 41 (.int .i64 len),kf 42,kf 43,kf 44,kq 45 g7 1,kp 46 (.int .i64 len),kf 47,kf 48,kf 49,kq 50 g7 3,kp 51 (.slice A3 n3 c3),ki 52 n3,kp 53 (.agg #[.int .i64 s.K,.int .i64 s.M,.int .i64 s.size]),kq 54 g7 1,kp 55 (.int .i64 len),(57,[37],fun _=>.bool true),kt 58,kt 59,kt 65]
        [] [] (BZ w4 (fun i v _=>(i=37→v=.int .i64 (mn:Int))∧(i=44→v=.bool false))) .init ⟨.a,.l fun us w6 hW _=>zo 0 (gu.out w6 hW.1),.n (.string dg),?_,.a,.a,?_,.a,.a,.l fun us w6 hW _=>zo 0 (gu.out w6 hW.1),.a,?_,.a,?_,?_,.a,.l fun us w6 hW _=>vD.out w6 hW.1,?_,.a,.a,.a,.a,.l fun us w6 hW _=>zo 1 (gu.out w6 hW.1),?_,.a,.a,.a,.l fun us w6 hW _=>zo 1 (gu.out w6 hW.1),?_,.a,.a,.a,.l fun us w6 hW _=>zo 3 (gu.out w6 hW.1),.n (.slice A3 n3 c3),?_,.a,.l fun us w6 hW _=>zo 1 (gu.out w6 hW.1),?_,?_,.a,.a,.b,.b,.b,.b,.b,.a,trivial⟩ ?_
      ·(refine .r1 (.int .i64 (dg.size:Int)) fun _ _ _ nY _ _ _ _=>?_;simp only[execOp,nY];go_simp;try rfl)
      ·(refine .r1 (.int .i64 (k:Int)) fun _ _ _ rD _ _ _ _=>?_;simp only[execOp,rD];go_simp;exact congrArg Value.bool (decide_eq_true (by omega)))
      ·(refine .r1 (.pointer (some ⟨w.heap.size+1,1,none⟩)) fun _ _ w6 rB _ _ _ hW=>?_;have rr:=mb.out w6 (ma.out.trans (hW.1.mono nK));have z0:=zo 0 rr.1;have z1:=zo 1 rr.1;have z2:=zo 2 rr.1;have x0:=zo 0 rr.2;have x1:=zo 1 rr.2;have x2:=zo 2 rr.2;have x3:=zo 3 rr.2;clear rr;simp only[execOp,rB];go_simp;try rfl)
      ·(refine .r1 (.int .i64 (k:Int)) fun _ _ _ pm _ _ _ _=>?_;simp only[execOp,pm];go_simp;rw[Go.IntWalk.i64_in _ (by omega)];rfl)
      ·(refine .r2 (.slice (some ⟨bE,oE,none⟩) n1 c1) (.int .i64 ((k - 1:Nat):Int)) fun _ _ _ uD ry _ _ _ _=>?_;simp only[execOp,uD,ry];go_simp;rw[if_pos (by omega)];rfl)
      ·(refine .r2 (.string dg) (.string pd) fun _ _ _ uQ rA _ _ _ _=>?_;simp only[execOp,uQ,rA];go_simp;rw[xQ];simp only[Result.andThen,hle];rfl)
      ·(refine .r1 (.int .i64 len) fun _ _ _ uP _ _ _ _=>?_;simp only[execOp,uP];go_simp;exact congrArg Value.bool (decide_eq_false (by omega)))
      ·(refine .r1 (.int .i64 len) fun _ _ _ vE _ _ _ _=>?_;simp only[execOp,vE];go_simp;exact congrArg Value.bool (decide_eq_false (by omega)))
      ·(refine .r1 (.pointer (some ⟨w.heap.size,0,none⟩)) fun _ _ w6 e2 _ _ _ hW=>?_;have rr:=mb.out w6 (ma.out.trans (hW.1.mono nK));have z0:=zo 0 rr.1;have z1:=zo 1 rr.1;have z2:=zo 2 rr.1;have x0:=zo 0 rr.2;have x1:=zo 1 rr.2;have x2:=zo 2 rr.2;have x3:=zo 3 rr.2;clear rr;simp only[execOp,e2];go_simp;try rfl)
      ·refine Bh.wr rfl (fun Z us w6 ho ht hni hlim gi hW K hK=>?_);have yh:=zv (ht 53 (by decide)) (.agg #[.int .i64 s.K,.int .i64 s.M,.int .i64 s.size]) rfl;have Gd:=zv (ht 55 (by decide)) (.int .i64 len) rfl;have hcl:=HMA.out w6 len (by omega) (by omega);rw[yf.out] at hcl;have eg:=zv (ht 49 (by decide)) (.bool false) rfl;refine qz (Bp.wanted (.at_ (j:=30) (t:=49) (b:=false) rfl rfl eg)) 111 #[.tmp 53,.tmp 55] #[23,3] rfl Tryz.func111 (by kernel_rfl) (by kernel_rfl) #[.agg #[.int .i64 s.K,.int .i64 s.M,.int .i64 s.size],.int .i64 len] (by simp[yh,Gd];try rfl) hcl ?_;rintro e w7 ⟨rfl,gv⟩;exact⟨_,rfl,hK _ _ (hW.snoc gv (fun j v h=>h) (⟨fun _=>rfl,fun h=>absurd h (by decide)⟩))⟩
      ·(refine Bh.Cs rfl 30 49 false rfl rfl (by decide) (fun _ _ _=>rfl) (fun ρ us w6 ho ht hc hl hsrc hW=>?_);have Gv:=zv (ht 52 (by decide)) (.int .i64 (n3:Int)) rfl;have vF:=zv (ht 56 (by decide)) ((us.lookup 37).getD undef) rfl;rw[(hW.at_ (hsrc 37 (by exact(List.mem_singleton.2 rfl:(37:Nat)∈[37])))).1 rfl] at vF;clear ht ho;simp only[execOp,Gv,vF];go_simp;try rfl)
      intro us w9 hmem hW;simp only[qa,BG,BH,BI,BJ,Act.put,BC,BD,BF];generalize mh:qx _ _ us=sv;have hq:sv 65=(.bool true:Value):=(by rw[←mh];rfl);rw[hq];have gF:=zh hW.1;clear mh hq hmem hW;go_wp2
      go_meet
      case rel=>exact⟨by rw[mD.out];rfl,gF⟩
    have hd':((dg.size:Int) !=32)=true:=(by simp[hd]);have mD:Hid (qI s l xs k=false):=zh (by rw[nr.out,decide_eq_false (by omega)];rfl);clear nr hd hp2;go_wp2_with fail
    refine rF 84 rfl [19,20,21,22,23,24,25,26,27,28,29,30,31,32,33,34,35,36,37,38,39,40,41,42,43,44,45,46,47,48,49,50,51,52,53,54,55,56,57,58,59,60,61,62,63,64,65] []
      [kq 19 g7 0,kp 20 (.string dg),kp 21 (.int .i64 (dg.size:Int)),kt 22,kt 23,kt 38,kt 39,kt 43,kt 44,kt 48,kt 49,kt 58,kt 59,kt 65]
      [] [] (BZ w4 (fun _ _ _=>True)) .init ⟨.a,.l fun us w6 hW _=>zo 0 (gu.out w6 hW.1),.n (.string dg),?_,.a,.b,.b,.b,.c,.c,.c,.c,.c,.c,.c,.c,.c,.c,.b,.a,.a,.b,.b,.b,.a,.a,.b,.b,.b,.a,.a,.b,.b,.b,.b,.b,.b,.b,.b,.a,.a,.b,.b,.b,.b,.b,.a,trivial⟩ ?_
    ·(refine .r1 (.int .i64 (dg.size:Int)) fun _ _ _ nY _ _ _ _=>?_;simp only[execOp,nY];go_simp;try rfl)
    intro us w9 hmem hW;simp only[qa,BG,BH,BI,BJ,Act.put,BC,BD,BF];generalize mh:qx _ _ us=sv;have hq:sv 65=(.bool true:Value):=(by rw[←mh];rfl);rw[hq];have gF:=zh hW.1;clear mh hq hmem hW;go_wp2
    go_meet
    case rel=>exact⟨by rw[mD.out];rfl,gF⟩
   case rest=>
    rename World=>wc
    obtain⟨rfl,HBc⟩:=hcut;have hmc:m≤wc.heap.size:=(by have:=HBc.out.size;omega);have mB:=zh (ma.out.trans (HBc.out.mono nK));have Gs:=zh (Gr.out.all HBc.out);have HL35:=zh (rz.out.all HBc.out);have pU:=zh (gu.out wc HBc.out);generalize htk:qI s l xs k=tk at *;have H7:=zh htk;clear htk Gr rz gu ma HBc
    cases tk with
    |false=>
     have HE:Hid (R=false):=zh (by rw[HR.out,jj (k:=k) (by have:=rJ.out;omega) H7.out]);go_wp2
     go_ret
     exact⟨by rw[HE.out];rfl,mq.out _ mB.out⟩
    |true=>
     have z3:=zo 3 pU.out;have yS:n3≤9223372036854775807:=Nat.le_trans HL35.out.le HL35.out.cap
     have hlen:(qr xs k).length+ys.length≤1000000:=by
      obtain⟨r,hr⟩:=Qf (xs:=xs) (k:=k+1) (by have:=rJ.out;omega);have h2:=hfew;rw[hr,xf (by have:=rJ.out;omega),←HYS.out,List.length_append,List.length_append] at h2;omega
     have hml:1000000<maxLen:=(by decide);go_wp2_with fail
     clear z3
     go_loopw [69] (fun iv wr=>∃j:Nat,j≤n3∧iv=.int .i64 j∧Hid (Below m w2 wr)∧Hid (BR Tryz.prog 3 4 wr m (qr xs k++ys.take j).length (QN (qr xs k++ys.take j)))∧Hid (qr xs k++ys.take j).Nodup) (fun iv _=>n3 - (intOf iv).toNat)
     case atStart=>exact⟨0,Nat.zero_le _,rfl,mB,by simpa using Gs,by simpa using HND⟩
     case round=>
      rename World=>wj
      clear mB Gs HND HL35 pU;obtain⟨j,hj,rfl,HBj,HSj,HNj⟩:=hrel;by_cases hjl:j<n3
      ·obtain⟨b3,o3,rfl,_,hb3,i64d,hc3,_⟩:=(HLW.out wj HBj.out).BN hjl;have Gb:j<ys.length:=(by have:=ni.out;omega);have hyj:ys[j]?=some (ys.getD j 0):=(by rw[List.getD_eq_getElem?_getD,List.getElem?_eq_getElem Gb];rfl);have rR:ys.take (j+1)=ys.take j++[ys.getD j 0]:=(by rw[List.take_add_one,hyj];rfl);have htl:(ys.take j).length≤ys.length:=(by rw[List.length_take];omega);have nv:(qr xs k++ys.take j).length<maxLen:=(by rw[List.length_append];omega);have Hg:=zh (fun(hm:ys.getD j 0∈qr xs k++ys.take j)=>js (s:=s) (l:=l) (xs:=xs) (k:=k) (j:=j) (by have:=rJ.out;omega) (by rw[←HYS.out];exact Gb) (by rw[←HYS.out];exact hm));generalize ys.getD j 0=id at *
       have hwf:(Lit.int .i64 id).wf=true:=by
        unfold Bn at i64d;simp[Lit.wf,IntKind.min,IntKind.max,IntKind.signed,IntKind.bits];omega
       have hkey:=Maps.keyOf_int_mk (P:=Tryz.prog) Tryz.underlying3 hwf;have pA:=zh rR;clear rR hyj;go_wp2_with (at_lookup;refine kI _ rfl _ _ 99 rfl (Maps.int_keyed Tryz.underlying3) Tryz.underlying99 Tryz.underlying4 (Tryz.zeroValue4 _) m _ _ rfl HSj.out _ (.int .i64 id) rfl hkey ?_)
       refine⟨?_,?_⟩
       ·intro hx;rw[QO] at hx
        have Gi:Hid (qr xs k++ys.take (j+1)).Nodup:=zh (by
         rw[pA.out,←List.append_assoc]
         exact List.nodup_append.2 ⟨HNj.out,by simp,fun a ha b hb e=>by
          rw[List.mem_singleton.1 hb] at e;subst e
          exact hx ha⟩)
        clear hx;go_wp2_with (at_mapUpdate;refine xE _ rfl _ _ _ 99 rfl (Maps.int_keyed Tryz.underlying3) Tryz.underlying99 Tryz.underlying4 m _ _ rfl HSj.out nv _ (.int .i64 id) rfl rfl hkey ?_)
        intro w6 rI Gj;have gB:=zh (HBj.out.grown Gj (by have:=HBj.out.size;omega) (fun r hr=>by injection hr with hr;omega))
        have HS6:Hid (BR Tryz.prog 3 4 w6 m (qr xs k++ys.take (j+1)).length (QN (qr xs k++ys.take (j+1)))):=zh (by
         rw[pA.out,←List.append_assoc,List.length_append (bs:=[id])];unfold QN;rw[List.map_append (l₂:=[id]),List.length_append,List.length_take]
         exact rI)
        clear rI Gj;go_wp2
        exact⟨⟨j+1,by omega,by go_num,gB,HS6,Gi⟩,by simp[intOf];omega⟩
       intro hx;rw[QO] at hx;have HE:Hid (R=false):=zh (by rw[HR.out,Hg.out hx]);clear hx;go_wp2
       go_ret
       exact⟨by rw[HE.out];rfl,mq.out _ HBj.out⟩
      obtain rfl:j=n3:=by omega
      have pB:=zh (fun j' (hj':j'<k+1)=>(show qI s l xs j'=true from by
       by_cases e:j'=k
       ·rw[e];exact H7.out
       exact HA.out j' (by omega)))
      have na:Hid (qr xs (k+1)=qr xs k++ys.take j):=zh (by rw[xf (by have:=rJ.out;omega),←HYS.out,List.take_of_length_le (by have:=ni.out;omega)]);go_wp2
      exact⟨⟨k+1,by omega,by go_num,HBj,by rw[na.out];exact HSj,pB,by rw[na.out];exact HNj⟩,by simp[intOf];omega⟩
  obtain rfl:k=n1:=by omega
  obtain⟨_,r1⟩:=mb.out wo HB.out;have q1:=zo 1 r1;have HE:Hid (R=decide (k≤60)):=zh (by rw[HR.out,jZ (fun j hj=>HA.out j (by have:=rJ.out;omega)) (by rw[rJ.out];exact HND.out),rJ.out]);clear r1;go_wp2
  go_ret
  exact⟨by rw[HE.out];congr 2;simp;omega,mq.out _ HB.out⟩
end Go.Proofs.YtipecejghioicaaGreat
