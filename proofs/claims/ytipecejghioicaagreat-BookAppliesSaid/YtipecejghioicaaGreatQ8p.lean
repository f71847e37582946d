/- Book.stripes: may a book's stripes be? -/
import Derived.Test.YtipecejghioicaaGreatB3p
import Derived.Test.YtipecejghioicaaGreatE2p
import Derived.Test.YtipecejghioicaaGreatB6p
import Derived.Deep.CutBlock
import Derived.Deep.Cut
set_option maxHeartbeats 16000000
set_option maxRecDepth 100000
namespace Go.Proofs.YtipecejghioicaaGreat
open Go.RowKit Go.Silo
theorem QA {tg tg0:Bool}{S:Nat→Prop}{w:World}{A0 A1 A2:Option Addr}{n0 c0 n1 c1 n2 c2:Nat}{s:Shape}{l:List Bc}{nx:Int}(hsi:Bn s.K∧Bn s.M∧Bn s.size)
  (h:Sl tg 86 (qc tg0) w S A0 n0 c0 l) (hfew:(qh l l.length).length≤1000000):
  Calls Tryz.prog 76 #[.agg #[.int .i64 s.K,.int .i64 s.M,.int .i64 s.size],.agg #[.slice A0 n0 c0,.slice A1 n1 c1,.slice A2 n2 c2,.int .i64 nx]] w (Bf (.bool (qH s nx l)) w):=by
 have HL:=zh h.len;have hcap:n0≤9223372036854775807:=Nat.le_trans h.le h.cap;have Gh:=zh (fun W (hW:Below w.heap.size w W)=>h.all hW);have vC:=zh hsi;clear hsi;obtain⟨R,hR⟩:∃R,R=qH s nx l:=⟨_,rfl⟩;rw[←hR];have HR:=zh hR;clear hR;clear h
 go_enter Tryz.func76,Tryz.ntmps76
 have hmk:=fun W:World=>run_makeMap (P:=Tryz.prog) 145 W
 go_upto_region 2 with (fail)
 clear hmk;have rH:Below w.heap.size w (((w.alloc (.cells #[.int .i64 s.K,.int .i64 s.M,.int .i64 s.size] 23)).alloc (.cells #[.slice A0 n0 c0,.slice A1 n1 c1,.slice A2 n2 c2,.int .i64 nx] 28)).alloc (.map #[] 0)):=bz
 have r0:(((w.alloc (.cells #[.int .i64 s.K,.int .i64 s.M,.int .i64 s.size] 23)).alloc (.cells #[.slice A0 n0 c0,.slice A1 n1 c1,.slice A2 n2 c2,.int .i64 nx] 28)).alloc (.map #[] 0)).heap[w.heap.size]?=some (.cells #[.int .i64 s.K,.int .i64 s.M,.int .i64 s.size] 23 (0,0)):=by
  rw[Below.heap_alloc _ _ _ (by simp;omega),Below.heap_alloc _ _ _ (by simp)];exact heap_alloc_new _ _
 have r1:(((w.alloc (.cells #[.int .i64 s.K,.int .i64 s.M,.int .i64 s.size] 23)).alloc (.cells #[.slice A0 n0 c0,.slice A1 n1 c1,.slice A2 n2 c2,.int .i64 nx] 28)).alloc (.map #[] 0)).heap[w.heap.size+1]?=some (.cells #[.slice A0 n0 c0,.slice A1 n1 c1,.slice A2 n2 c2,.int .i64 nx] 28 (0,0)):=by
  rw[Below.heap_alloc _ _ _ (by simp)];have:=heap_alloc_new (w.alloc (.cells #[.int .i64 s.K,.int .i64 s.M,.int .i64 s.size] 23)) (.cells #[.slice A0 n0 c0,.slice A1 n1 c1,.slice A2 n2 c2,.int .i64 nx] 28)
  rwa [World.size_alloc] at this
 have gD:=BR.made (P:=Tryz.prog) (k:=88) (e:=4) (w:=((w.alloc (.cells #[.int .i64 s.K,.int .i64 s.M,.int .i64 s.size] 23)).alloc (.cells #[.slice A0 n0 c0,.slice A1 n1 c1,.slice A2 n2 c2,.int .i64 nx] 28)));have hsz:(((w.alloc (.cells #[.int .i64 s.K,.int .i64 s.M,.int .i64 s.size] 23)).alloc (.cells #[.slice A0 n0 c0,.slice A1 n1 c1,.slice A2 n2 c2,.int .i64 nx] 28)).alloc (.map #[] 0)).heap.size=w.heap.size+3:=by simp
 simp only[World.size_alloc] at gD;generalize (((w.alloc (.cells #[.int .i64 s.K,.int .i64 s.M,.int .i64 s.size] 23)).alloc (.cells #[.slice A0 n0 c0,.slice A1 n1 c1,.slice A2 n2 c2,.int .i64 nx] 28)).alloc (.map #[] 0))=w2 at *;generalize hm:w.heap.size+1+1=m at *;have hmw:w.heap.size≤m:=by omega
 have p9:w.heap.size+1<m:=by omega
 have hm2:m<w2.heap.size:=by omega
 have Hd:w.heap.size<m:=by omega
 clear hm hsz;have mq:=zh (fun V (hV:Below m w2 V)=>rH.trans (hV.mono hmw));clear rH;have mb:=zh (fun V (hV:Below m w2 V)=>And.intro ((hV.block _ Hd).trans r0) ((hV.block _ p9).trans r1));have Gp:=zh gD;clear gD;have q1:=zo 0 r1;clear r0 r1;go_wp2_with fail
 clear q1
 go_loopw [14] (fun iv wr=>∃k:Nat,k≤n0∧iv=.int .i64 k∧Hid (Below m w2 wr)∧Hid (BR Tryz.prog 88 4 wr m (qh l k).length (kB (qh l k)))∧Hid (∀j,j<k→qU s nx l j=true)∧Hid (zM (qh l k)=true)) (fun iv _=>n0 - (intOf iv).toNat)
 case atStart=>exact⟨0,Nat.zero_le _,rfl,zh (Below.refl _ _),Gp,zh (fun j hj=>by omega),zh (by simp[qh,zM])⟩
 case round=>
  rename World=>wo
  clear Gp;obtain⟨k,hk,rfl,HB,HST,HA,HND⟩:=hrel;by_cases hlt:k<n0
  ·obtain⟨bE,oE,A3,n3,c3,rfl,_,mF,i0,i1,i2,yR,u0,u1,u2,u3,_⟩:=(Gh.out wo (mq.out wo HB.out)).Bu hlt;obtain⟨bE',oE',A3',n3',c3',eE,_,hbE',_,_,_,hl3',_,_,_,u3',_⟩:=(Gh.out w (Below.refl _ _)).Bu hlt;injection eE with eE;injection eE with e1 e2 _;subst e1;subst e2
   have e3:=(((mq.out wo HB.out).cell (p:=⟨bE,oE+k* 4+3,none⟩) hbE').trans u3').symm.trans u3;injection e3 with e3;injection e3 with pm ry uN;have pm:=pm.symm;have ry:=ry.symm;have uN:=uN.symm;subst pm;subst ry;subst uN
   clear hbE' u3'
   have hp:0<k→wo.cell? ⟨bE,oE+(k - 1)* 4,none⟩=some (.int .i64 (l.getD (k - 1) default).id):=fun h0=>by
    obtain⟨b',off',A',n',c',e,_,_,_,_,_,_,hd,_⟩:=(Gh.out wo (mq.out wo HB.out)).Bu (k:=k - 1) (by omega);injection e with e;injection e with e1 e2 _;subst e1;subst e2
    exact hd
   obtain⟨pd,uO⟩:∃y,y=(l.getD (k - 1) default).id:=⟨_,rfl⟩;rw[←uO] at hp;have hat:qU s nx l k=(ze s (l.getD k default)&&(decide ((l.getD k default).id<nx)&&(decide (k=0)||decide (pd<(l.getD k default).id)))):=(by rw[uO];rfl);have ni:=zh yR.len;have HXE:∃x,x=l.getD k default:=⟨_,rfl⟩;obtain⟨x,hx⟩:=HXE;rw[←hx] at hat ni yR hl3' i0 i1 i2 u0 u1 u2;have Gq:=zh hx;clear hx uO;have HLW:=zh (fun V (hV:Below m w2 V)=>hl3'.all (mq.out V hV));clear hl3';have HI:=zh (And.intro i0 (And.intro i1 i2));clear i0 i1 i2;have nr:=zh hat;clear hat
   go_upto_region 5 with (fail)
   have hal:Below wo.heap.size wo (wo.alloc (.cells #[.int .i64 x.id,.int .i64 x.len,.int .i64 x.gen,.slice A3 n3 c3] 86)):=(Below.refl _ _).alloc (Nat.le_refl _) _;have hrow:=heap_alloc_new wo (.cells #[.int .i64 x.id,.int .i64 x.len,.int .i64 x.gen,.slice A3 n3 c3] 86);have hzl:wo.heap.size<(wo.alloc (.cells #[.int .i64 x.id,.int .i64 x.len,.int .i64 x.gen,.slice A3 n3 c3] 86)).heap.size:=(by simp);generalize (wo.alloc (.cells #[.int .i64 x.id,.int .i64 x.len,.int .i64 x.gen,.slice A3 n3 c3] 86))=w4 at *;have hmo:m≤wo.heap.size:=(by have:=HB.out.size;omega);have nK:m≤w4.heap.size:=(by have:=hal.size;omega);have ma:=zh (HB.out.trans (hal.mono hmo));have Gr:=zh (HST.out.all hal);have rz:=zh (yR.all hal);clear yR;have hbE4:bE<w4.heap.size:=(by omega);have hp2:=fun h0=>(hal.cell (p:=⟨bE,oE+(k - 1)* 4,none⟩) mF).trans (hp h0);clear hal u0 u1 u2 u3 hp HST;generalize wo.heap.size=g7 at *;have gu:=zh (fun V (hV:Below w4.heap.size w4 V)=>(hV.block _ hzl).trans hrow);clear hrow mF
   go_cut [45] from 19 to 45 (fun t V=>t=.bool (!qU s nx l k)∧Hid (Below w4.heap.size w4 V))
   case first=>
    clear HA HND;generalize mW:ze s x=so at *;have pc:=zh mW;clear mW;have mi:=nr.out;clear nr
    cases so with
    |false=>
     have mD:Hid (qU s nx l k=false):=zh mi;clear mi hp2;go_wp2_with fail
     refine rF 65 rfl [19,20,21,22,23,24,25,26,27,28,29,30,31,32,33,34,35,36,37,38,39,40,41,42,43,44,45] [2]
       [kp 19 (.agg #[.int .i64 s.K,.int .i64 s.M,.int .i64 s.size]),kp 20 (.agg #[.int .i64 x.id,.int .i64 x.len,.int .i64 x.gen,.slice A3 n3 c3]),(22,[2],fun _=>.bool true),(23,[2],fun _=>.bool true),kt 29,kt 30,kt 45]
       [] [] (BZ w4 (fun i v _=>i=2→v=.bool false)) .init ⟨?_,?_,?_,?_,.a,.b,.b,.b,.b,.b,.a,.a,.b,.b,.b,.c,.c,.c,.c,.c,.c,.c,.c,.c,.c,.b,.a,trivial⟩ ?_
     ·(refine .r1 (.pointer (some ⟨w.heap.size,0,none⟩)) fun _ _ w6 e2 _ _ _ hW=>?_;have rr:=mb.out w6 (ma.out.trans (hW.1.mono nK));have z0:=zo 0 rr.1;have z1:=zo 1 rr.1;have z2:=zo 2 rr.1;have x0:=zo 0 rr.2;have x3:=zo 3 rr.2;clear rr;simp only[execOp,e2];go_simp;try rfl)
     ·(refine .r1 (.pointer (some ⟨g7,0,none⟩)) fun _ _ w6 e7 _ _ _ hW=>?_;have r7:=gu.out w6 hW.1;have z0:=zo 0 r7;have z1:=zo 1 r7;have z2:=zo 2 r7;have z3:=zo 3 r7;clear r7;simp only[execOp,e7];go_simp;try rfl)
     ·refine Bh.wr rfl (fun Z us w6 ho ht hni hlim gi hW K hK=>?_);have e19:=zv (ht 19 (by decide)) (.agg #[.int .i64 s.K,.int .i64 s.M,.int .i64 s.size]) rfl;have yb:=zv (ht 20 (by decide)) (.agg #[.int .i64 x.id,.int .i64 x.len,.int .i64 x.gen,.slice A3 n3 c3]) rfl;have hcl:=xH (w:=w6) (s:=s) (x:=x) vC.out HI.out (rz.out.all hW.1);rw[pc.out] at hcl;refine qn rfl 110 #[.tmp 19,.tmp 20] #[23,86] rfl Tryz.func110 (by kernel_rfl) (by kernel_rfl) #[.agg #[.int .i64 s.K,.int .i64 s.M,.int .i64 s.size],.agg #[.int .i64 x.id,.int .i64 x.len,.int .i64 x.gen,.slice A3 n3 c3]] (by simp[e19,yb];try first|done|rfl|exact⟨rfl,rfl⟩) (hcl) ?_;rintro e w7 ⟨rfl,gv⟩;exact⟨_,rfl,hK _ _ (hW.snoc gv (fun j v h=>h) (fun _=>rfl))⟩
     ·(refine Bh.rd rfl rfl (fun ρ us w6 ho ht hc hl hsrc hW=>?_);have nY:=zv (ht 21 (by decide)) ((us.lookup 2).getD undef) rfl;rw[(hW.at_ (hsrc 2 (by exact(List.mem_singleton.2 rfl:(2:Nat)∈[2])))) rfl] at nY;clear ht ho;simp only[execOp,nY];go_simp;try rfl)
     intro us w9 hmem hW;simp only[qa,BG,BH,BI,BJ,Act.put,BC,BD,BF];generalize mh:qx _ _ us=sv;have hq:sv 45=(.bool true:Value):=(by rw[←mh];rfl);rw[hq];have gF:=zh hW.1;clear mh hq hmem hW;go_wp2
     go_meet
     case rel=>exact⟨by rw[mD.out];rfl,gF⟩
    |true=>
     by_cases cB:nx≤x.id
     ·have mD:Hid (qU s nx l k=false):=zh (by rw[mi,decide_eq_false (by omega:¬x.id<nx)];rfl);clear mi hp2;go_wp2_with fail
      refine rF 65 rfl [19,20,21,22,23,24,25,26,27,28,29,30,31,32,33,34,35,36,37,38,39,40,41,42,43,44,45] [2]
        [kp 19 (.agg #[.int .i64 s.K,.int .i64 s.M,.int .i64 s.size]),kp 20 (.agg #[.int .i64 x.id,.int .i64 x.len,.int .i64 x.gen,.slice A3 n3 c3]),(22,[2],fun _=>.bool false),(23,[2],fun _=>.bool false),kq 24 g7 0,kp 25 (.int .i64 x.id),kq 26 (w.heap.size+1) (3),kp 27 (.int .i64 nx),kt 28,kt 29,kt 30,kt 45]
        [] [] (BZ w4 (fun i v _=>i=2→v=.bool true)) .init ⟨?_,?_,?_,?_,.a,.a,.l fun us w6 hW _=>zo 0 (gu.out w6 hW.1),.a,.l fun us w6 hW _=>zo 3 ((mb.out w6 (ma.out.trans (hW.1.mono nK))).2),?_,.a,.a,.b,.b,.b,.c,.c,.c,.c,.c,.c,.c,.c,.c,.c,.b,.a,trivial⟩ ?_
      ·(refine .r1 (.pointer (some ⟨w.heap.size,0,none⟩)) fun _ _ w6 e2 _ _ _ hW=>?_;have rr:=mb.out w6 (ma.out.trans (hW.1.mono nK));have z0:=zo 0 rr.1;have z1:=zo 1 rr.1;have z2:=zo 2 rr.1;have x0:=zo 0 rr.2;have x3:=zo 3 rr.2;clear rr;simp only[execOp,e2];go_simp;try rfl)
      ·(refine .r1 (.pointer (some ⟨g7,0,none⟩)) fun _ _ w6 e7 _ _ _ hW=>?_;have r7:=gu.out w6 hW.1;have z0:=zo 0 r7;have z1:=zo 1 r7;have z2:=zo 2 r7;have z3:=zo 3 r7;clear r7;simp only[execOp,e7];go_simp;try rfl)
      ·refine Bh.wr rfl (fun Z us w6 ho ht hni hlim gi hW K hK=>?_);have e19:=zv (ht 19 (by decide)) (.agg #[.int .i64 s.K,.int .i64 s.M,.int .i64 s.size]) rfl;have yb:=zv (ht 20 (by decide)) (.agg #[.int .i64 x.id,.int .i64 x.len,.int .i64 x.gen,.slice A3 n3 c3]) rfl;have hcl:=xH (w:=w6) (s:=s) (x:=x) vC.out HI.out (rz.out.all hW.1);rw[pc.out] at hcl;refine qn rfl 110 #[.tmp 19,.tmp 20] #[23,86] rfl Tryz.func110 (by kernel_rfl) (by kernel_rfl) #[.agg #[.int .i64 s.K,.int .i64 s.M,.int .i64 s.size],.agg #[.int .i64 x.id,.int .i64 x.len,.int .i64 x.gen,.slice A3 n3 c3]] (by simp[e19,yb];try first|done|rfl|exact⟨rfl,rfl⟩) (hcl) ?_;rintro e w7 ⟨rfl,gv⟩;exact⟨_,rfl,hK _ _ (hW.snoc gv (fun j v h=>h) (fun _=>rfl))⟩
      ·(refine Bh.rd rfl rfl (fun ρ us w6 ho ht hc hl hsrc hW=>?_);have nY:=zv (ht 21 (by decide)) ((us.lookup 2).getD undef) rfl;rw[(hW.at_ (hsrc 2 (by exact(List.mem_singleton.2 rfl:(2:Nat)∈[2])))) rfl] at nY;clear ht ho;simp only[execOp,nY];go_simp;try rfl)
      ·(refine .r2 (.int .i64 x.id) (.int .i64 nx) fun _ _ _ rQ yc _ _ _ _=>?_;simp only[execOp,rQ,yc];go_simp;all_goals (first|rfl|exact congrArg Value.bool (decide_eq_false (by omega))|exact congrArg Value.bool (decide_eq_true (by omega))))
      intro us w9 hmem hW;simp only[qa,BG,BH,BI,BJ,Act.put,BC,BD,BF];generalize mh:qx _ _ us=sv;have hq:sv 45=(.bool true:Value):=(by rw[←mh];rfl);rw[hq];have gF:=zh hW.1;clear mh hq hmem hW;go_wp2
      go_meet
      case rel=>exact⟨by rw[mD.out];rfl,gF⟩
     rw[decide_eq_true (by omega:x.id<nx)] at mi;by_cases u5:k=0
     ·have mD:Hid (qU s nx l k=true):=zh (by rw[mi,decide_eq_true u5];rfl);have ye:¬0<(k:Int):=(by omega);clear mi hp2 u5;go_wp2_with fail
      refine rF 65 rfl [19,20,21,22,23,24,25,26,27,28,29,30,31,32,33,34,35,36,37,38,39,40,41,42,43,44,45] [2]
        [kp 19 (.agg #[.int .i64 s.K,.int .i64 s.M,.int .i64 s.size]),kp 20 (.agg #[.int .i64 x.id,.int .i64 x.len,.int .i64 x.gen,.slice A3 n3 c3]),(22,[2],fun _=>.bool false),(23,[2],fun _=>.bool false),kq 24 g7 0,kp 25 (.int .i64 x.id),kq 26 (w.heap.size+1) (3),kp 27 (.int .i64 nx),kf 28,kf 29,kf 30,ki 31 k,kf 32,kf 33,kf 44,kf 45]
        [] [] (BZ w4 (fun i v _=>i=2→v=.bool true)) .init ⟨?_,?_,?_,?_,.a,.a,.l fun us w6 hW _=>zo 0 (gu.out w6 hW.1),.a,.l fun us w6 hW _=>zo 3 ((mb.out w6 (ma.out.trans (hW.1.mono nK))).2),?_,.a,.a,.a,?_,.a,.b,.b,.b,.b,.b,.b,.b,.b,.b,.b,.a,.a,trivial⟩ ?_
      ·(refine .r1 (.pointer (some ⟨w.heap.size,0,none⟩)) fun _ _ w6 e2 _ _ _ hW=>?_;have rr:=mb.out w6 (ma.out.trans (hW.1.mono nK));have z0:=zo 0 rr.1;have z1:=zo 1 rr.1;have z2:=zo 2 rr.1;have x0:=zo 0 rr.2;have x3:=zo 3 rr.2;clear rr;simp only[execOp,e2];go_simp;try rfl)
      ·(refine .r1 (.pointer (some ⟨g7,0,none⟩)) fun _ _ w6 e7 _ _ _ hW=>?_;have r7:=gu.out w6 hW.1;have z0:=zo 0 r7;have z1:=zo 1 r7;have z2:=zo 2 r7;have z3:=zo 3 r7;clear r7;simp only[execOp,e7];go_simp;try rfl)
      ·refine Bh.wr rfl (fun Z us w6 ho ht hni hlim gi hW K hK=>?_);have e19:=zv (ht 19 (by decide)) (.agg #[.int .i64 s.K,.int .i64 s.M,.int .i64 s.size]) rfl;have yb:=zv (ht 20 (by decide)) (.agg #[.int .i64 x.id,.int .i64 x.len,.int .i64 x.gen,.slice A3 n3 c3]) rfl;have hcl:=xH (w:=w6) (s:=s) (x:=x) vC.out HI.out (rz.out.all hW.1);rw[pc.out] at hcl;refine qn rfl 110 #[.tmp 19,.tmp 20] #[23,86] rfl Tryz.func110 (by kernel_rfl) (by kernel_rfl) #[.agg #[.int .i64 s.K,.int .i64 s.M,.int .i64 s.size],.agg #[.int .i64 x.id,.int .i64 x.len,.int .i64 x.gen,.slice A3 n3 c3]] (by simp[e19,yb];try first|done|rfl|exact⟨rfl,rfl⟩) (hcl) ?_;rintro e w7 ⟨rfl,gv⟩;exact⟨_,rfl,hK _ _ (hW.snoc gv (fun j v h=>h) (fun _=>rfl))⟩
      ·(refine Bh.rd rfl rfl (fun ρ us w6 ho ht hc hl hsrc hW=>?_);have nY:=zv (ht 21 (by decide)) ((us.lookup 2).getD undef) rfl;rw[(hW.at_ (hsrc 2 (by exact(List.mem_singleton.2 rfl:(2:Nat)∈[2])))) rfl] at nY;clear ht ho;simp only[execOp,nY];go_simp;try rfl)
      ·(refine .r2 (.int .i64 x.id) (.int .i64 nx) fun _ _ _ rQ yc _ _ _ _=>?_;simp only[execOp,rQ,yc];go_simp;all_goals (first|rfl|exact congrArg Value.bool (decide_eq_false (by omega))|exact congrArg Value.bool (decide_eq_true (by omega))))
      ·(refine .r1 (.int .i64 (k:Int)) fun _ _ _ pm _ _ _ _=>?_;simp only[execOp,pm];go_simp;all_goals (first|rfl|exact congrArg Value.bool (decide_eq_false (by omega))|exact congrArg Value.bool (decide_eq_true (by omega))))
      intro us w9 hmem hW;simp only[qa,BG,BH,BI,BJ,Act.put,BC,BD,BF];generalize mh:qx _ _ us=sv;have hq:sv 45=(.bool false:Value):=(by rw[←mh];rfl);rw[hq];have gF:=zh hW.1;clear mh hq hmem hW;go_wp2
      go_meet
      case rel=>exact⟨by rw[mD.out];rfl,gF⟩
     have ye:0<(k:Int):=(by omega);have hc:=hp2 (by omega);have e1:(k:Int) - 1=((k - 1:Nat):Int):=(by omega);have vD:=zh (fun V (hV:Below w4.heap.size w4 V)=>(hV.cell (p:=⟨bE,oE+(k - 1)* 4,none⟩) hbE4).trans hc);rw[decide_eq_false u5] at mi;clear hp2 u5 hc;by_cases cD:x.id≤pd
     ·have mD:Hid (qU s nx l k=false):=zh (by rw[mi,decide_eq_false (by omega:¬pd<x.id)];rfl);clear mi;go_wp2_with fail
      refine rF 65 rfl [19,20,21,22,23,24,25,26,27,28,29,30,31,32,33,34,35,36,37,38,39,40,41,42,43,44,45] [2]
        [kp 19 (.agg #[.int .i64 s.K,.int .i64 s.M,.int .i64 s.size]),kp 20 (.agg #[.int .i64 x.id,.int .i64 x.len,.int .i64 x.gen,.slice A3 n3 c3]),(22,[2],fun _=>.bool false),(23,[2],fun _=>.bool false),kq 24 g7 0,kp 25 (.int .i64 x.id),kq 26 (w.heap.size+1) (3),kp 27 (.int .i64 nx),kf 28,kf 29,kf 30,ki 31 k,kt 32,kt 33,kq 34 g7 0,kp 35 (.int .i64 x.id),kq 36 (w.heap.size+1) (0),kp 37 (.slice (some ⟨bE,oE,none⟩) n0 c0),ki 38 k,kp 39 (.int .i64 ((k - 1:Nat):Int)),kp 40 (pt (bE) (oE+(k - 1)* 4)),kp 41 (pt (bE) (oE+(k - 1)* 4)),kp 42 (.int .i64 pd),kt 43,kt 44,kt 45]
        [] [] (BZ w4 (fun i v _=>i=2→v=.bool true)) .init ⟨?_,?_,?_,?_,.a,.a,.l fun us w6 hW _=>zo 0 (gu.out w6 hW.1),.a,.l fun us w6 hW _=>zo 3 ((mb.out w6 (ma.out.trans (hW.1.mono nK))).2),?_,.a,.a,.a,?_,.a,.a,.l fun us w6 hW _=>zo 0 (gu.out w6 hW.1),.a,?_,.a,?_,?_,.a,.l fun us w6 hW _=>vD.out w6 hW.1,?_,.a,.a,trivial⟩ ?_
      ·(refine .r1 (.pointer (some ⟨w.heap.size,0,none⟩)) fun _ _ w6 e2 _ _ _ hW=>?_;have rr:=mb.out w6 (ma.out.trans (hW.1.mono nK));have z0:=zo 0 rr.1;have z1:=zo 1 rr.1;have z2:=zo 2 rr.1;have x0:=zo 0 rr.2;have x3:=zo 3 rr.2;clear rr;simp only[execOp,e2];go_simp;try rfl)
      ·(refine .r1 (.pointer (some ⟨g7,0,none⟩)) fun _ _ w6 e7 _ _ _ hW=>?_;have r7:=gu.out w6 hW.1;have z0:=zo 0 r7;have z1:=zo 1 r7;have z2:=zo 2 r7;have z3:=zo 3 r7;clear r7;simp only[execOp,e7];go_simp;try rfl)
      ·refine Bh.wr rfl (fun Z us w6 ho ht hni hlim gi hW K hK=>?_);have e19:=zv (ht 19 (by decide)) (.agg #[.int .i64 s.K,.int .i64 s.M,.int .i64 s.size]) rfl;have yb:=zv (ht 20 (by decide)) (.agg #[.int .i64 x.id,.int .i64 x.len,.int .i64 x.gen,.slice A3 n3 c3]) rfl;have hcl:=xH (w:=w6) (s:=s) (x:=x) vC.out HI.out (rz.out.all hW.1);rw[pc.out] at hcl;refine qn rfl 110 #[.tmp 19,.tmp 20] #[23,86] rfl Tryz.func110 (by kernel_rfl) (by kernel_rfl) #[.agg #[.int .i64 s.K,.int .i64 s.M,.int .i64 s.size],.agg #[.int .i64 x.id,.int .i64 x.len,.int .i64 x.gen,.slice A3 n3 c3]] (by simp[e19,yb];try first|done|rfl|exact⟨rfl,rfl⟩) (hcl) ?_;rintro e w7 ⟨rfl,gv⟩;exact⟨_,rfl,hK _ _ (hW.snoc gv (fun j v h=>h) (fun _=>rfl))⟩
      ·(refine Bh.rd rfl rfl (fun ρ us w6 ho ht hc hl hsrc hW=>?_);have nY:=zv (ht 21 (by decide)) ((us.lookup 2).getD undef) rfl;rw[(hW.at_ (hsrc 2 (by exact(List.mem_singleton.2 rfl:(2:Nat)∈[2])))) rfl] at nY;clear ht ho;simp only[execOp,nY];go_simp;try rfl)
      ·(refine .r2 (.int .i64 x.id) (.int .i64 nx) fun _ _ _ rQ yc _ _ _ _=>?_;simp only[execOp,rQ,yc];go_simp;all_goals (first|rfl|exact congrArg Value.bool (decide_eq_false (by omega))|exact congrArg Value.bool (decide_eq_true (by omega))))
      ·(refine .r1 (.int .i64 (k:Int)) fun _ _ _ pm _ _ _ _=>?_;simp only[execOp,pm];go_simp;all_goals (first|rfl|exact congrArg Value.bool (decide_eq_false (by omega))|exact congrArg Value.bool (decide_eq_true (by omega))))
      ·(refine .r1 (.pointer (some ⟨w.heap.size+1,0,none⟩)) fun _ _ w6 He _ _ _ hW=>?_;have rr:=mb.out w6 (ma.out.trans (hW.1.mono nK));have z0:=zo 0 rr.1;have z1:=zo 1 rr.1;have z2:=zo 2 rr.1;have x0:=zo 0 rr.2;have x3:=zo 3 rr.2;clear rr;simp only[execOp,He];go_simp;try rfl)
      ·(refine .r1 (.int .i64 (k:Int)) fun _ _ _ e38 _ _ _ _=>?_;simp only[execOp,e38];go_simp;rw[Go.IntWalk.i64_in _ (by omega)];rfl)
      ·(refine .r2 (.slice (some ⟨bE,oE,none⟩) n0 c0) (.int .i64 ((k - 1:Nat):Int)) fun _ _ _ Hf e39 _ _ _ _=>?_;simp only[execOp,Hf,e39];go_simp;rw[if_pos (by omega)];rfl)
      ·(refine .r2 (.int .i64 x.id) (.int .i64 pd) fun _ _ _ rA e42 _ _ _ _=>?_;simp only[execOp,rA,e42];go_simp;all_goals (first|rfl|exact congrArg Value.bool (decide_eq_false (by omega))|exact congrArg Value.bool (decide_eq_true (by omega))))
      intro us w9 hmem hW;simp only[qa,BG,BH,BI,BJ,Act.put,BC,BD,BF];generalize mh:qx _ _ us=sv;have hq:sv 45=(.bool true:Value):=(by rw[←mh];rfl);rw[hq];have gF:=zh hW.1;clear mh hq hmem hW;go_wp2
      go_meet
      case rel=>exact⟨by rw[mD.out];rfl,gF⟩
     have mD:Hid (qU s nx l k=true):=zh (by rw[mi,decide_eq_true (by omega:pd<x.id)];rfl);clear mi;go_wp2_with fail
     refine rF 65 rfl [19,20,21,22,23,24,25,26,27,28,29,30,31,32,33,34,35,36,37,38,39,40,41,42,43,44,45] [2]
       [kp 19 (.agg #[.int .i64 s.K,.int .i64 s.M,.int .i64 s.size]),kp 20 (.agg #[.int .i64 x.id,.int .i64 x.len,.int .i64 x.gen,.slice A3 n3 c3]),(22,[2],fun _=>.bool false),(23,[2],fun _=>.bool false),kq 24 g7 0,kp 25 (.int .i64 x.id),kq 26 (w.heap.size+1) (3),kp 27 (.int .i64 nx),kf 28,kf 29,kf 30,ki 31 k,kt 32,kt 33,kq 34 g7 0,kp 35 (.int .i64 x.id),kq 36 (w.heap.size+1) (0),kp 37 (.slice (some ⟨bE,oE,none⟩) n0 c0),ki 38 k,kp 39 (.int .i64 ((k - 1:Nat):Int)),kp 40 (pt (bE) (oE+(k - 1)* 4)),kp 41 (pt (bE) (oE+(k - 1)* 4)),kp 42 (.int .i64 pd),kf 43,kf 44,kf 45]
       [] [] (BZ w4 (fun i v _=>i=2→v=.bool true)) .init ⟨?_,?_,?_,?_,.a,.a,.l fun us w6 hW _=>zo 0 (gu.out w6 hW.1),.a,.l fun us w6 hW _=>zo 3 ((mb.out w6 (ma.out.trans (hW.1.mono nK))).2),?_,.a,.a,.a,?_,.a,.a,.l fun us w6 hW _=>zo 0 (gu.out w6 hW.1),.a,?_,.a,?_,?_,.a,.l fun us w6 hW _=>vD.out w6 hW.1,?_,.a,.a,trivial⟩ ?_
     ·(refine .r1 (.pointer (some ⟨w.heap.size,0,none⟩)) fun _ _ w6 e2 _ _ _ hW=>?_;have rr:=mb.out w6 (ma.out.trans (hW.1.mono nK));have z0:=zo 0 rr.1;have z1:=zo 1 rr.1;have z2:=zo 2 rr.1;have x0:=zo 0 rr.2;have x3:=zo 3 rr.2;clear rr;simp only[execOp,e2];go_simp;try rfl)
     ·(refine .r1 (.pointer (some ⟨g7,0,none⟩)) fun _ _ w6 e7 _ _ _ hW=>?_;have r7:=gu.out w6 hW.1;have z0:=zo 0 r7;have z1:=zo 1 r7;have z2:=zo 2 r7;have z3:=zo 3 r7;clear r7;simp only[execOp,e7];go_simp;try rfl)
     ·refine Bh.wr rfl (fun Z us w6 ho ht hni hlim gi hW K hK=>?_);have e19:=zv (ht 19 (by decide)) (.agg #[.int .i64 s.K,.int .i64 s.M,.int .i64 s.size]) rfl;have yb:=zv (ht 20 (by decide)) (.agg #[.int .i64 x.id,.int .i64 x.len,.int .i64 x.gen,.slice A3 n3 c3]) rfl;have hcl:=xH (w:=w6) (s:=s) (x:=x) vC.out HI.out (rz.out.all hW.1);rw[pc.out] at hcl;refine qn rfl 110 #[.tmp 19,.tmp 20] #[23,86] rfl Tryz.func110 (by kernel_rfl) (by kernel_rfl) #[.agg #[.int .i64 s.K,.int .i64 s.M,.int .i64 s.size],.agg #[.int .i64 x.id,.int .i64 x.len,.int .i64 x.gen,.slice A3 n3 c3]] (by simp[e19,yb];try first|done|rfl|exact⟨rfl,rfl⟩) (hcl) ?_;rintro e w7 ⟨rfl,gv⟩;exact⟨_,rfl,hK _ _ (hW.snoc gv (fun j v h=>h) (fun _=>rfl))⟩
     ·(refine Bh.rd rfl rfl (fun ρ us w6 ho ht hc hl hsrc hW=>?_);have nY:=zv (ht 21 (by decide)) ((us.lookup 2).getD undef) rfl;rw[(hW.at_ (hsrc 2 (by exact(List.mem_singleton.2 rfl:(2:Nat)∈[2])))) rfl] at nY;clear ht ho;simp only[execOp,nY];go_simp;try rfl)
     ·(refine .r2 (.int .i64 x.id) (.int .i64 nx) fun _ _ _ rQ yc _ _ _ _=>?_;simp only[execOp,rQ,yc];go_simp;all_goals (first|rfl|exact congrArg Value.bool (decide_eq_false (by omega))|exact congrArg Value.bool (decide_eq_true (by omega))))
     ·(refine .r1 (.int .i64 (k:Int)) fun _ _ _ pm _ _ _ _=>?_;simp only[execOp,pm];go_simp;all_goals (first|rfl|exact congrArg Value.bool (decide_eq_false (by omega))|exact congrArg Value.bool (decide_eq_true (by omega))))
     ·(refine .r1 (.pointer (some ⟨w.heap.size+1,0,none⟩)) fun _ _ w6 He _ _ _ hW=>?_;have rr:=mb.out w6 (ma.out.trans (hW.1.mono nK));have z0:=zo 0 rr.1;have z1:=zo 1 rr.1;have z2:=zo 2 rr.1;have x0:=zo 0 rr.2;have x3:=zo 3 rr.2;clear rr;simp only[execOp,He];go_simp;try rfl)
     ·(refine .r1 (.int .i64 (k:Int)) fun _ _ _ e38 _ _ _ _=>?_;simp only[execOp,e38];go_simp;rw[Go.IntWalk.i64_in _ (by omega)];rfl)
     ·(refine .r2 (.slice (some ⟨bE,oE,none⟩) n0 c0) (.int .i64 ((k - 1:Nat):Int)) fun _ _ _ Hf e39 _ _ _ _=>?_;simp only[execOp,Hf,e39];go_simp;rw[if_pos (by omega)];rfl)
     ·(refine .r2 (.int .i64 x.id) (.int .i64 pd) fun _ _ _ rA e42 _ _ _ _=>?_;simp only[execOp,rA,e42];go_simp;all_goals (first|rfl|exact congrArg Value.bool (decide_eq_false (by omega))|exact congrArg Value.bool (decide_eq_true (by omega))))
     intro us w9 hmem hW;simp only[qa,BG,BH,BI,BJ,Act.put,BC,BD,BF];generalize mh:qx _ _ us=sv;have hq:sv 45=(.bool false:Value):=(by rw[←mh];rfl);rw[hq];have gF:=zh hW.1;clear mh hq hmem hW;go_wp2
     go_meet
     case rel=>exact⟨by rw[mD.out];rfl,gF⟩
   case rest=>
    rename World=>wc
    obtain⟨rfl,HBc⟩:=hcut;have hmc:m≤wc.heap.size:=(by have:=HBc.out.size;omega);have mB:=zh (ma.out.trans (HBc.out.mono nK));have Gs:=zh (Gr.out.all HBc.out);have pU:=zh (gu.out wc HBc.out);generalize htk:qU s nx l k=tk at *;have H7:=zh htk;clear htk Gr rz gu ma HBc
    cases tk with
    |false=>
     have HE:Hid (R=false):=zh (by rw[HR.out,jE (k:=k) (by have:=HL.out;omega) H7.out]);go_wp2
     go_ret
     exact⟨by rw[HE.out];rfl,mq.out _ mB.out⟩
    |true=>
     have z3:=zo 3 pU.out;have hn3l:=(HLW.out wc mB.out);have yS:n3≤9223372036854775807:=Nat.le_trans hn3l.le hn3l.cap;clear hn3l
     have hlen:(qh l k).length+x.place.length≤1000000:=by
      obtain⟨r,hr⟩:=jP (l:=l) (k+1);have h2:=hfew;rw[hr,zS (by have:=HL.out;omega),←Gq.out,List.length_append,List.length_append] at h2;omega
     have hml:1000000<maxLen:=(by decide);go_wp2_with fail
     clear z3
     go_loopw [49] (fun iv wr=>∃j:Nat,j≤n3∧iv=.int .i64 j∧Hid (Below m w2 wr)∧Hid (BR Tryz.prog 88 4 wr m (qh l k++x.place.take j).length (kB (qh l k++x.place.take j)))∧Hid (zM (qh l k++x.place.take j)=true)) (fun iv _=>n3 - (intOf iv).toNat)
     case atStart=>exact⟨0,Nat.zero_le _,rfl,mB,by simpa using Gs,by simpa using HND⟩
     case round=>
      rename World=>wj
      clear mB Gs HND pU;obtain⟨j,hj,rfl,HBj,HSj,HNj⟩:=hrel;by_cases hjl:j<n3
      ·obtain⟨b3,o3,rfl,_,hb3,g1,g2,v1,v2,_⟩:=(HLW.out wj HBj.out).BA hjl;have Gb:j<x.place.length:=(by have:=ni.out;omega);have hyj:x.place[j]?=some (x.place.getD j default):=(by rw[List.getD_eq_getElem?_getD,List.getElem?_eq_getElem Gb];rfl);have rR:x.place.take (j+1)=x.place.take j++[x.place.getD j default]:=(by rw[List.take_add_one,hyj];rfl);have htl:(x.place.take j).length≤x.place.length:=(by rw[List.length_take];omega);have nv:(qh l k++x.place.take j).length<maxLen:=(by rw[List.length_append];omega);have Hg:=zh (fun(hd:0≤(x.place.getD j default).disk) (hm:x.place.getD j default∈qh l k++x.place.take j)=>jm (s:=s) (nx:=nx) (l:=l) (k:=k) (j:=j) (by have:=HL.out;omega) (by rw[←Gq.out];exact Gb) (by rw[←Gq.out];exact hd) (by rw[←Gq.out];exact hm));have pA:=zh rR;clear rR hyj;generalize x.place.getD j default=p at *;obtain⟨kl,hkey⟩:=JL g1 g2
       go_upto_region 10 with (fail)
       have hal:Below wj.heap.size wj (wj.alloc (.cells #[.int .i64 p.disk,.int .i64 p.pos] 88)):=(Below.refl _ _).alloc (Nat.le_refl _) _;have hrow:=heap_alloc_new wj (.cells #[.int .i64 p.disk,.int .i64 p.pos] 88);generalize (wj.alloc (.cells #[.int .i64 p.disk,.int .i64 p.pos] 88))=wp at *;have hmj:m≤wj.heap.size:=(by have:=HBj.out.size;omega);have hmp:m≤wp.heap.size:=(by have:=hal.size;omega);have px:=zh (HBj.out.trans (hal.mono hmj));have HSp:=zh (HSj.out.all hal);clear hal v1 v2 HSj HBj;generalize wj.heap.size=g9 at *;have z0:=zo 0 hrow;have z1:=zo 1 hrow;clear hrow;by_cases uO:0≤p.disk
       ·go_wp2_with (at_lookup;refine jU _ (by first|rfl|simp[Region.wanted,yielded]) _ _ 145 rfl jN Tryz.underlying145 Tryz.underlying4 (Tryz.zeroValue4 _) m _ _ rfl HSp.out _ kl rfl hkey ?_)
        refine⟨?_,?_⟩
        ·intro hx;rw[QL] at hx
         have Gi:Hid (zM (qh l k++x.place.take (j+1))=true):=zh (by
          rw[pA.out,←List.append_assoc]
          exact xP HNj.out (fun _=>hx))
         clear hx;go_wp2_with (at_mapUpdate;refine xE _ rfl _ _ _ 145 rfl jN Tryz.underlying145 Tryz.underlying4 m _ _ rfl HSp.out nv _ kl rfl rfl hkey ?_)
         intro w6 rI Gj;have gB:=zh (px.out.grown Gj (by have:=px.out.size;omega) (fun r hr=>by injection hr with hr;omega))
         have HS6:Hid (BR Tryz.prog 88 4 w6 m (qh l k++x.place.take (j+1)).length (kB (qh l k++x.place.take (j+1)))):=zh (by
          rw[pA.out,←List.append_assoc,List.length_append (bs:=[p])];unfold kB;rw[List.map_append (l₂:=[p]),List.length_append,List.length_take]
          exact rI)
         clear rI Gj;go_wp2
         exact⟨⟨j+1,by omega,by go_num,gB,HS6,Gi⟩,by simp[intOf];omega⟩
        intro hx;rw[QL] at hx;have HE:Hid (R=false):=zh (by rw[HR.out,Hg.out uO hx]);clear hx;go_wp2
        go_ret
        exact⟨by rw[HE.out];rfl,mq.out _ px.out⟩
       have Gi:Hid (zM (qh l k++x.place.take (j+1))=true):=zh (by
        rw[pA.out,←List.append_assoc]
        exact xP HNj.out (fun h=>absurd h uO))
       go_wp2_with (at_mapUpdate;refine xE _ rfl _ _ _ 145 rfl jN Tryz.underlying145 Tryz.underlying4 m _ _ rfl HSp.out nv _ kl rfl rfl hkey ?_)
       intro w6 rI Gj;have gB:=zh (px.out.grown Gj (by have:=px.out.size;omega) (fun r hr=>by injection hr with hr;omega))
       have HS6:Hid (BR Tryz.prog 88 4 w6 m (qh l k++x.place.take (j+1)).length (kB (qh l k++x.place.take (j+1)))):=zh (by
        rw[pA.out,←List.append_assoc,List.length_append (bs:=[p])];unfold kB;rw[List.map_append (l₂:=[p]),List.length_append,List.length_take]
        exact rI)
       clear rI Gj;go_wp2
       exact⟨⟨j+1,by omega,by go_num,gB,HS6,Gi⟩,by simp[intOf];omega⟩
      obtain rfl:j=n3:=by omega
      have pB:=zh (fun j' (hj':j'<k+1)=>(show qU s nx l j'=true from by
       by_cases e:j'=k
       ·rw[e];exact H7.out
       exact HA.out j' (by omega)))
      have na:Hid (qh l (k+1)=qh l k++x.place.take j):=zh (by rw[zS (by have:=HL.out;omega),←Gq.out,List.take_of_length_le (by have:=ni.out;omega)]);go_wp2
      exact⟨⟨k+1,by omega,by go_num,HBj,by rw[na.out];exact HSj,pB,by rw[na.out];exact HNj⟩,by simp[intOf];omega⟩
  obtain rfl:k=n0:=by omega
  have HE:Hid (R=true):=zh (by rw[HR.out,jF (fun j hj=>HA.out j (by have:=HL.out;omega)) (by rw[HL.out];exact HND.out)]);go_wp2
  go_ret
  exact⟨by rw[HE.out];rfl,mq.out _ HB.out⟩
end Go.Proofs.YtipecejghioicaaGreat
