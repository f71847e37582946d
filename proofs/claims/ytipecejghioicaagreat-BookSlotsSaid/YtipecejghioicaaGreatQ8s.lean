/- Book.stripes: may a book's stripes be? -/
import Derived.Test.YtipecejghioicaaGreatT1s
import Derived.Test.YtipecejghioicaaGreatE2s
import Derived.Test.YtipecejghioicaaGreatQ1s
import Derived.Deep.CutBlock
import Derived.Deep.Cut
set_option maxHeartbeats 16000000
set_option maxRecDepth 100000
namespace Go.Proofs.YtipecejghioicaaGreat
open Go.RowKit Go.Silo
theorem Qp {tg tg0:Bool}{S:Nat→Prop}{w:World}{A0 A1 A2:Option Addr}{n0 c0 n1 c1 n2 c2:Nat}{s:Shape}{l:List Bb}{nx:Int}(hsi:Bo s.K∧Bo s.M∧Bo s.size)
  (h:Sl tg 86 (qe tg0) w S A0 n0 c0 l) (hfew:(qd l l.length).length≤1000000):
  Calls Tryz.prog 76 #[.agg #[.int .i64 s.K,.int .i64 s.M,.int .i64 s.size],.agg #[.slice A0 n0 c0,.slice A1 n1 c1,.slice A2 n2 c2,.int .i64 nx]] w (Bf (.bool (qw s nx l)) w):=by
 have HL:=zh h.len;have hcap:n0≤9223372036854775807:=Nat.le_trans h.le h.cap;have uS:=zh (fun W (hW:Below w.heap.size w W)=>h.all hW);have yT:=zh hsi;clear hsi;obtain⟨R,hR⟩:∃R,R=qw s nx l:=⟨_,rfl⟩;rw[←hR];have HR:=zh hR;clear hR;clear h
 go_enter Tryz.func76,Tryz.ntmps76
 have hmk:=fun W:World=>run_makeMap (P:=Tryz.prog) 145 W
 go_upto_region 2 with (fail)
 clear hmk;have p8:Below w.heap.size w (((w.alloc (.cells #[.int .i64 s.K,.int .i64 s.M,.int .i64 s.size] 23)).alloc (.cells #[.slice A0 n0 c0,.slice A1 n1 c1,.slice A2 n2 c2,.int .i64 nx] 28)).alloc (.map #[] 0)):=bz
 have r0:(((w.alloc (.cells #[.int .i64 s.K,.int .i64 s.M,.int .i64 s.size] 23)).alloc (.cells #[.slice A0 n0 c0,.slice A1 n1 c1,.slice A2 n2 c2,.int .i64 nx] 28)).alloc (.map #[] 0)).heap[w.heap.size]?=some (.cells #[.int .i64 s.K,.int .i64 s.M,.int .i64 s.size] 23 (0,0)):=by
  rw[Below.heap_alloc _ _ _ (by simp;omega),Below.heap_alloc _ _ _ (by simp)];exact heap_alloc_new _ _
 have r1:(((w.alloc (.cells #[.int .i64 s.K,.int .i64 s.M,.int .i64 s.size] 23)).alloc (.cells #[.slice A0 n0 c0,.slice A1 n1 c1,.slice A2 n2 c2,.int .i64 nx] 28)).alloc (.map #[] 0)).heap[w.heap.size+1]?=some (.cells #[.slice A0 n0 c0,.slice A1 n1 c1,.slice A2 n2 c2,.int .i64 nx] 28 (0,0)):=by
  rw[Below.heap_alloc _ _ _ (by simp)];have:=heap_alloc_new (w.alloc (.cells #[.int .i64 s.K,.int .i64 s.M,.int .i64 s.size] 23)) (.cells #[.slice A0 n0 c0,.slice A1 n1 c1,.slice A2 n2 c2,.int .i64 nx] 28)
  rwa [World.size_alloc] at this
 have gz:=Bu.made (P:=Tryz.prog) (k:=88) (e:=4) (w:=((w.alloc (.cells #[.int .i64 s.K,.int .i64 s.M,.int .i64 s.size] 23)).alloc (.cells #[.slice A0 n0 c0,.slice A1 n1 c1,.slice A2 n2 c2,.int .i64 nx] 28)));have hsz:(((w.alloc (.cells #[.int .i64 s.K,.int .i64 s.M,.int .i64 s.size] 23)).alloc (.cells #[.slice A0 n0 c0,.slice A1 n1 c1,.slice A2 n2 c2,.int .i64 nx] 28)).alloc (.map #[] 0)).heap.size=w.heap.size+3:=by simp
 simp only[World.size_alloc] at gz;generalize (((w.alloc (.cells #[.int .i64 s.K,.int .i64 s.M,.int .i64 s.size] 23)).alloc (.cells #[.slice A0 n0 c0,.slice A1 n1 c1,.slice A2 n2 c2,.int .i64 nx] 28)).alloc (.map #[] 0))=w2 at *;generalize hm:w.heap.size+1+1=m at *;have hmw:w.heap.size≤m:=by omega
 have pX:w.heap.size+1<m:=by omega
 have hm2:m<w2.heap.size:=by omega
 have yx:w.heap.size<m:=by omega
 clear hm hsz;have gK:=zh (fun V (hV:Below m w2 V)=>p8.trans (hV.mono hmw));clear p8;have gj:=zh (fun V (hV:Below m w2 V)=>And.intro ((hV.block _ yx).trans r0) ((hV.block _ pX).trans r1));have r9:=zh gz;clear gz;have q1:=zo 0 r1;clear r0 r1;go_wp2_with fail
 clear q1
 go_loopw [14] (fun iv wr=>∃k:Nat,k≤n0∧iv=.int .i64 k∧Hid (Below m w2 wr)∧Hid (Bu Tryz.prog 88 4 wr m (qd l k).length (kj (qd l k)))∧Hid (∀j,j<k→qH s nx l j=true)∧Hid (zy (qd l k)=true)) (fun iv _=>n0 - (intOf iv).toNat)
 case atStart=>exact⟨0,Nat.zero_le _,rfl,zh (Below.refl _ _),r9,zh (fun j hj=>by omega),zh (by simp[qd,zy])⟩
 case round=>
  rename World=>wo
  clear r9;obtain⟨k,hk,rfl,HB,HST,HA,HND⟩:=hrel;by_cases hlt:k<n0
  ·obtain⟨bE,oE,A3,n3,c3,rfl,_,hbE,i0,i1,i2,nK,u0,u1,u2,u3,_⟩:=(uS.out wo (gK.out wo HB.out)).Bq hlt;obtain⟨bE',oE',A3',n3',c3',eE,_,hbE',_,_,_,hl3',_,_,_,u3',_⟩:=(uS.out w (Below.refl _ _)).Bq hlt;injection eE with eE;injection eE with e1 e2 _;subst e1;subst e2
   have e3:=(((gK.out wo HB.out).cell (p:=⟨bE,oE+k* 4+3,none⟩) hbE').trans u3').symm.trans u3;injection e3 with e3;injection e3 with mg mD q9;have mg:=mg.symm;have mD:=mD.symm;have q9:=q9.symm;subst mg;subst mD;subst q9
   clear hbE' u3'
   have hp:0<k→wo.cell? ⟨bE,oE+(k - 1)* 4,none⟩=some (.int .i64 (l.getD (k - 1) default).id):=fun h0=>by
    obtain⟨b',off',A',n',c',e,_,_,_,_,_,_,hd,_⟩:=(uS.out wo (gK.out wo HB.out)).Bq (k:=k - 1) (by omega);injection e with e;injection e with e1 e2 _;subst e1;subst e2
    exact hd
   obtain⟨pd,pG⟩:∃y,y=(l.getD (k - 1) default).id:=⟨_,rfl⟩;rw[←pG] at hp;have hat:qH s nx l k=(qO s (l.getD k default)&&(decide ((l.getD k default).id<nx)&&(decide (k=0)||decide (pd<(l.getD k default).id)))):=(by rw[pG];rfl);have mG:=zh nK.len;have HXE:∃x,x=l.getD k default:=⟨_,rfl⟩;obtain⟨x,hx⟩:=HXE;rw[←hx] at hat mG nK hl3' i0 i1 i2 u0 u1 u2;have vr:=zh hx;clear hx pG;have HLW:=zh (fun V (hV:Below m w2 V)=>hl3'.all (gK.out V hV));clear hl3';have HI:=zh (And.intro i0 (And.intro i1 i2));clear i0 i1 i2;have gV:=zh hat;clear hat
   go_upto_region 5 with (fail)
   have hal:Below wo.heap.size wo (wo.alloc (.cells #[.int .i64 x.id,.int .i64 x.len,.int .i64 x.gen,.slice A3 n3 c3] 86)):=(Below.refl _ _).alloc (Nat.le_refl _) _;have hrow:=heap_alloc_new wo (.cells #[.int .i64 x.id,.int .i64 x.len,.int .i64 x.gen,.slice A3 n3 c3] 86);have hzl:wo.heap.size<(wo.alloc (.cells #[.int .i64 x.id,.int .i64 x.len,.int .i64 x.gen,.slice A3 n3 c3] 86)).heap.size:=(by simp);generalize (wo.alloc (.cells #[.int .i64 x.id,.int .i64 x.len,.int .i64 x.gen,.slice A3 n3 c3] 86))=w4 at *;have hmo:m≤wo.heap.size:=(by have:=HB.out.size;omega);have mf:m≤w4.heap.size:=(by have:=hal.size;omega);have gv:=zh (HB.out.trans (hal.mono hmo));have vh:=zh (HST.out.all hal);have nj:=zh (nK.all hal);clear nK;have hbE4:bE<w4.heap.size:=(by omega);have hp2:=fun h0=>(hal.cell (p:=⟨bE,oE+(k - 1)* 4,none⟩) hbE).trans (hp h0);clear hal u0 u1 u2 u3 hp HST;generalize wo.heap.size=g7 at *;have gf:=zh (fun V (hV:Below w4.heap.size w4 V)=>(hV.block _ hzl).trans hrow);clear hrow hbE
   go_cut [45] from 19 to 45 (fun t V=>t=.bool (!qH s nx l k)∧Hid (Below w4.heap.size w4 V))
   case first=>
    clear HA HND;generalize py:qO s x=so at *;have pm:=zh py;clear py;have gX:=gV.out;clear gV
    cases so with
    |false=>
     have gA:Hid (qH s nx l k=false):=zh gX;clear gX hp2;go_wp2_with fail
     refine rF 65 rfl [19,20,21,22,23,24,25,26,27,28,29,30,31,32,33,34,35,36,37,38,39,40,41,42,43,44,45] [2]
       [kp 19 (.agg #[.int .i64 s.K,.int .i64 s.M,.int .i64 s.size]),kp 20 (.agg #[.int .i64 x.id,.int .i64 x.len,.int .i64 x.gen,.slice A3 n3 c3]),(22,[2],fun _=>.bool true),(23,[2],fun _=>.bool true),kt 29,kt 30,kt 45]
       [] [] (BL w4 (fun i v _=>i=2→v=.bool false)) .init ⟨?_,?_,?_,?_,.a,.b,.b,.b,.b,.b,.a,.a,.b,.b,.b,.c,.c,.c,.c,.c,.c,.c,.c,.c,.c,.b,.a,trivial⟩ ?_
     ·(refine .r1 (.pointer (some ⟨w.heap.size,0,none⟩)) fun _ _ w6 e2 _ _ _ hW=>?_;have rr:=gj.out w6 (gv.out.trans (hW.1.mono mf));have z0:=zo 0 rr.1;have z1:=zo 1 rr.1;have z2:=zo 2 rr.1;have x0:=zo 0 rr.2;have x3:=zo 3 rr.2;clear rr;simp only[execOp,e2];go_simp;try rfl)
     ·(refine .r1 (.pointer (some ⟨g7,0,none⟩)) fun _ _ w6 e7 _ _ _ hW=>?_;have r7:=gf.out w6 hW.1;have z0:=zo 0 r7;have z1:=zo 1 r7;have z2:=zo 2 r7;have z3:=zo 3 r7;clear r7;simp only[execOp,e7];go_simp;try rfl)
     ·refine Bc.wr rfl (fun Z us w6 ho ht hni hlim gb hW K hK=>?_);have e19:=zv (ht 19 (by decide)) (.agg #[.int .i64 s.K,.int .i64 s.M,.int .i64 s.size]) rfl;have pH:=zv (ht 20 (by decide)) (.agg #[.int .i64 x.id,.int .i64 x.len,.int .i64 x.gen,.slice A3 n3 c3]) rfl;have hcl:=xh (w:=w6) (s:=s) (x:=x) yT.out HI.out (nj.out.all hW.1);rw[pm.out] at hcl;refine qi rfl 110 #[.tmp 19,.tmp 20] #[23,86] rfl Tryz.func110 (by kernel_rfl) (by kernel_rfl) #[.agg #[.int .i64 s.K,.int .i64 s.M,.int .i64 s.size],.agg #[.int .i64 x.id,.int .i64 x.len,.int .i64 x.gen,.slice A3 n3 c3]] (by simp[e19,pH];try first|done|rfl|exact⟨rfl,rfl⟩) (hcl) ?_;rintro e w7 ⟨rfl,gh⟩;exact⟨_,rfl,hK _ _ (hW.snoc gh (fun j v h=>h) (fun _=>rfl))⟩
     ·(refine Bc.rd rfl rfl (fun ρ us w6 ho ht hc hl hsrc hW=>?_);have gW:=zv (ht 21 (by decide)) ((us.lookup 2).getD undef) rfl;rw[(hW.at_ (hsrc 2 (by exact(List.mem_singleton.2 rfl:(2:Nat)∈[2])))) rfl] at gW;clear ht ho;simp only[execOp,gW];go_simp;try rfl)
     intro us w9 hmem hW;simp only[qc,BR,BS,BU,BV,Act.put,BO,BP,BQ];generalize gp:qp _ _ us=sv;have hq:sv 45=(.bool true:Value):=(by rw[←gp];rfl);rw[hq];have gy:=zh hW.1;clear gp hq hmem hW;go_wp2
     go_meet
     case rel=>exact⟨by rw[gA.out];rfl,gy⟩
    |true=>
     by_cases cB:nx≤x.id
     ·have gA:Hid (qH s nx l k=false):=zh (by rw[gX,decide_eq_false (by omega:¬x.id<nx)];rfl);clear gX hp2;go_wp2_with fail
      refine rF 65 rfl [19,20,21,22,23,24,25,26,27,28,29,30,31,32,33,34,35,36,37,38,39,40,41,42,43,44,45] [2]
        [kp 19 (.agg #[.int .i64 s.K,.int .i64 s.M,.int .i64 s.size]),kp 20 (.agg #[.int .i64 x.id,.int .i64 x.len,.int .i64 x.gen,.slice A3 n3 c3]),(22,[2],fun _=>.bool false),(23,[2],fun _=>.bool false),kq 24 g7 0,kp 25 (.int .i64 x.id),kq 26 (w.heap.size+1) (3),kp 27 (.int .i64 nx),kt 28,kt 29,kt 30,kt 45]
        [] [] (BL w4 (fun i v _=>i=2→v=.bool true)) .init ⟨?_,?_,?_,?_,.a,.a,.l fun us w6 hW _=>zo 0 (gf.out w6 hW.1),.a,.l fun us w6 hW _=>zo 3 ((gj.out w6 (gv.out.trans (hW.1.mono mf))).2),?_,.a,.a,.b,.b,.b,.c,.c,.c,.c,.c,.c,.c,.c,.c,.c,.b,.a,trivial⟩ ?_
      ·(refine .r1 (.pointer (some ⟨w.heap.size,0,none⟩)) fun _ _ w6 e2 _ _ _ hW=>?_;have rr:=gj.out w6 (gv.out.trans (hW.1.mono mf));have z0:=zo 0 rr.1;have z1:=zo 1 rr.1;have z2:=zo 2 rr.1;have x0:=zo 0 rr.2;have x3:=zo 3 rr.2;clear rr;simp only[execOp,e2];go_simp;try rfl)
      ·(refine .r1 (.pointer (some ⟨g7,0,none⟩)) fun _ _ w6 e7 _ _ _ hW=>?_;have r7:=gf.out w6 hW.1;have z0:=zo 0 r7;have z1:=zo 1 r7;have z2:=zo 2 r7;have z3:=zo 3 r7;clear r7;simp only[execOp,e7];go_simp;try rfl)
      ·refine Bc.wr rfl (fun Z us w6 ho ht hni hlim gb hW K hK=>?_);have e19:=zv (ht 19 (by decide)) (.agg #[.int .i64 s.K,.int .i64 s.M,.int .i64 s.size]) rfl;have pH:=zv (ht 20 (by decide)) (.agg #[.int .i64 x.id,.int .i64 x.len,.int .i64 x.gen,.slice A3 n3 c3]) rfl;have hcl:=xh (w:=w6) (s:=s) (x:=x) yT.out HI.out (nj.out.all hW.1);rw[pm.out] at hcl;refine qi rfl 110 #[.tmp 19,.tmp 20] #[23,86] rfl Tryz.func110 (by kernel_rfl) (by kernel_rfl) #[.agg #[.int .i64 s.K,.int .i64 s.M,.int .i64 s.size],.agg #[.int .i64 x.id,.int .i64 x.len,.int .i64 x.gen,.slice A3 n3 c3]] (by simp[e19,pH];try first|done|rfl|exact⟨rfl,rfl⟩) (hcl) ?_;rintro e w7 ⟨rfl,gh⟩;exact⟨_,rfl,hK _ _ (hW.snoc gh (fun j v h=>h) (fun _=>rfl))⟩
      ·(refine Bc.rd rfl rfl (fun ρ us w6 ho ht hc hl hsrc hW=>?_);have gW:=zv (ht 21 (by decide)) ((us.lookup 2).getD undef) rfl;rw[(hW.at_ (hsrc 2 (by exact(List.mem_singleton.2 rfl:(2:Nat)∈[2])))) rfl] at gW;clear ht ho;simp only[execOp,gW];go_simp;try rfl)
      ·(refine .r2 (.int .i64 x.id) (.int .i64 nx) fun _ _ _ pk rZ _ _ _ _=>?_;simp only[execOp,pk,rZ];go_simp;all_goals (first|rfl|exact congrArg Value.bool (decide_eq_false (by omega))|exact congrArg Value.bool (decide_eq_true (by omega))))
      intro us w9 hmem hW;simp only[qc,BR,BS,BU,BV,Act.put,BO,BP,BQ];generalize gp:qp _ _ us=sv;have hq:sv 45=(.bool true:Value):=(by rw[←gp];rfl);rw[hq];have gy:=zh hW.1;clear gp hq hmem hW;go_wp2
      go_meet
      case rel=>exact⟨by rw[gA.out];rfl,gy⟩
     rw[decide_eq_true (by omega:x.id<nx)] at gX;by_cases nL:k=0
     ·have gA:Hid (qH s nx l k=true):=zh (by rw[gX,decide_eq_true nL];rfl);have rX:¬0<(k:Int):=(by omega);clear gX hp2 nL;go_wp2_with fail
      refine rF 65 rfl [19,20,21,22,23,24,25,26,27,28,29,30,31,32,33,34,35,36,37,38,39,40,41,42,43,44,45] [2]
        [kp 19 (.agg #[.int .i64 s.K,.int .i64 s.M,.int .i64 s.size]),kp 20 (.agg #[.int .i64 x.id,.int .i64 x.len,.int .i64 x.gen,.slice A3 n3 c3]),(22,[2],fun _=>.bool false),(23,[2],fun _=>.bool false),kq 24 g7 0,kp 25 (.int .i64 x.id),kq 26 (w.heap.size+1) (3),kp 27 (.int .i64 nx),kf 28,kf 29,kf 30,ki 31 k,kf 32,kf 33,kf 44,kf 45]
        [] [] (BL w4 (fun i v _=>i=2→v=.bool true)) .init ⟨?_,?_,?_,?_,.a,.a,.l fun us w6 hW _=>zo 0 (gf.out w6 hW.1),.a,.l fun us w6 hW _=>zo 3 ((gj.out w6 (gv.out.trans (hW.1.mono mf))).2),?_,.a,.a,.a,?_,.a,.b,.b,.b,.b,.b,.b,.b,.b,.b,.b,.a,.a,trivial⟩ ?_
      ·(refine .r1 (.pointer (some ⟨w.heap.size,0,none⟩)) fun _ _ w6 e2 _ _ _ hW=>?_;have rr:=gj.out w6 (gv.out.trans (hW.1.mono mf));have z0:=zo 0 rr.1;have z1:=zo 1 rr.1;have z2:=zo 2 rr.1;have x0:=zo 0 rr.2;have x3:=zo 3 rr.2;clear rr;simp only[execOp,e2];go_simp;try rfl)
      ·(refine .r1 (.pointer (some ⟨g7,0,none⟩)) fun _ _ w6 e7 _ _ _ hW=>?_;have r7:=gf.out w6 hW.1;have z0:=zo 0 r7;have z1:=zo 1 r7;have z2:=zo 2 r7;have z3:=zo 3 r7;clear r7;simp only[execOp,e7];go_simp;try rfl)
      ·refine Bc.wr rfl (fun Z us w6 ho ht hni hlim gb hW K hK=>?_);have e19:=zv (ht 19 (by decide)) (.agg #[.int .i64 s.K,.int .i64 s.M,.int .i64 s.size]) rfl;have pH:=zv (ht 20 (by decide)) (.agg #[.int .i64 x.id,.int .i64 x.len,.int .i64 x.gen,.slice A3 n3 c3]) rfl;have hcl:=xh (w:=w6) (s:=s) (x:=x) yT.out HI.out (nj.out.all hW.1);rw[pm.out] at hcl;refine qi rfl 110 #[.tmp 19,.tmp 20] #[23,86] rfl Tryz.func110 (by kernel_rfl) (by kernel_rfl) #[.agg #[.int .i64 s.K,.int .i64 s.M,.int .i64 s.size],.agg #[.int .i64 x.id,.int .i64 x.len,.int .i64 x.gen,.slice A3 n3 c3]] (by simp[e19,pH];try first|done|rfl|exact⟨rfl,rfl⟩) (hcl) ?_;rintro e w7 ⟨rfl,gh⟩;exact⟨_,rfl,hK _ _ (hW.snoc gh (fun j v h=>h) (fun _=>rfl))⟩
      ·(refine Bc.rd rfl rfl (fun ρ us w6 ho ht hc hl hsrc hW=>?_);have gW:=zv (ht 21 (by decide)) ((us.lookup 2).getD undef) rfl;rw[(hW.at_ (hsrc 2 (by exact(List.mem_singleton.2 rfl:(2:Nat)∈[2])))) rfl] at gW;clear ht ho;simp only[execOp,gW];go_simp;try rfl)
      ·(refine .r2 (.int .i64 x.id) (.int .i64 nx) fun _ _ _ pk rZ _ _ _ _=>?_;simp only[execOp,pk,rZ];go_simp;all_goals (first|rfl|exact congrArg Value.bool (decide_eq_false (by omega))|exact congrArg Value.bool (decide_eq_true (by omega))))
      ·(refine .r1 (.int .i64 (k:Int)) fun _ _ _ mg _ _ _ _=>?_;simp only[execOp,mg];go_simp;all_goals (first|rfl|exact congrArg Value.bool (decide_eq_false (by omega))|exact congrArg Value.bool (decide_eq_true (by omega))))
      intro us w9 hmem hW;simp only[qc,BR,BS,BU,BV,Act.put,BO,BP,BQ];generalize gp:qp _ _ us=sv;have hq:sv 45=(.bool false:Value):=(by rw[←gp];rfl);rw[hq];have gy:=zh hW.1;clear gp hq hmem hW;go_wp2
      go_meet
      case rel=>exact⟨by rw[gA.out];rfl,gy⟩
     have rX:0<(k:Int):=(by omega);have hc:=hp2 (by omega);have e1:(k:Int) - 1=((k - 1:Nat):Int):=(by omega);have q7:=zh (fun V (hV:Below w4.heap.size w4 V)=>(hV.cell (p:=⟨bE,oE+(k - 1)* 4,none⟩) hbE4).trans hc);rw[decide_eq_false nL] at gX;clear hp2 nL hc;by_cases cD:x.id≤pd
     ·have gA:Hid (qH s nx l k=false):=zh (by rw[gX,decide_eq_false (by omega:¬pd<x.id)];rfl);clear gX;go_wp2_with fail
      refine rF 65 rfl [19,20,21,22,23,24,25,26,27,28,29,30,31,32,33,34,35,36,37,38,39,40,41,42,43,44,45] [2]
        [kp 19 (.agg #[.int .i64 s.K,.int .i64 s.M,.int .i64 s.size]),kp 20 (.agg #[.int .i64 x.id,.int .i64 x.len,.int .i64 x.gen,.slice A3 n3 c3]),(22,[2],fun _=>.bool false),(23,[2],fun _=>.bool false),kq 24 g7 0,kp 25 (.int .i64 x.id),kq 26 (w.heap.size+1) (3),kp 27 (.int .i64 nx),kf 28,kf 29,kf 30,ki 31 k,kt 32,kt 33,kq 34 g7 0,kp 35 (.int .i64 x.id),kq 36 (w.heap.size+1) (0),kp 37 (.slice (some ⟨bE,oE,none⟩) n0 c0),ki 38 k,kp 39 (.int .i64 ((k - 1:Nat):Int)),kp 40 (pt (bE) (oE+(k - 1)* 4)),kp 41 (pt (bE) (oE+(k - 1)* 4)),kp 42 (.int .i64 pd),kt 43,kt 44,kt 45]
        [] [] (BL w4 (fun i v _=>i=2→v=.bool true)) .init ⟨?_,?_,?_,?_,.a,.a,.l fun us w6 hW _=>zo 0 (gf.out w6 hW.1),.a,.l fun us w6 hW _=>zo 3 ((gj.out w6 (gv.out.trans (hW.1.mono mf))).2),?_,.a,.a,.a,?_,.a,.a,.l fun us w6 hW _=>zo 0 (gf.out w6 hW.1),.a,?_,.a,?_,?_,.a,.l fun us w6 hW _=>q7.out w6 hW.1,?_,.a,.a,trivial⟩ ?_
      ·(refine .r1 (.pointer (some ⟨w.heap.size,0,none⟩)) fun _ _ w6 e2 _ _ _ hW=>?_;have rr:=gj.out w6 (gv.out.trans (hW.1.mono mf));have z0:=zo 0 rr.1;have z1:=zo 1 rr.1;have z2:=zo 2 rr.1;have x0:=zo 0 rr.2;have x3:=zo 3 rr.2;clear rr;simp only[execOp,e2];go_simp;try rfl)
      ·(refine .r1 (.pointer (some ⟨g7,0,none⟩)) fun _ _ w6 e7 _ _ _ hW=>?_;have r7:=gf.out w6 hW.1;have z0:=zo 0 r7;have z1:=zo 1 r7;have z2:=zo 2 r7;have z3:=zo 3 r7;clear r7;simp only[execOp,e7];go_simp;try rfl)
      ·refine Bc.wr rfl (fun Z us w6 ho ht hni hlim gb hW K hK=>?_);have e19:=zv (ht 19 (by decide)) (.agg #[.int .i64 s.K,.int .i64 s.M,.int .i64 s.size]) rfl;have pH:=zv (ht 20 (by decide)) (.agg #[.int .i64 x.id,.int .i64 x.len,.int .i64 x.gen,.slice A3 n3 c3]) rfl;have hcl:=xh (w:=w6) (s:=s) (x:=x) yT.out HI.out (nj.out.all hW.1);rw[pm.out] at hcl;refine qi rfl 110 #[.tmp 19,.tmp 20] #[23,86] rfl Tryz.func110 (by kernel_rfl) (by kernel_rfl) #[.agg #[.int .i64 s.K,.int .i64 s.M,.int .i64 s.size],.agg #[.int .i64 x.id,.int .i64 x.len,.int .i64 x.gen,.slice A3 n3 c3]] (by simp[e19,pH];try first|done|rfl|exact⟨rfl,rfl⟩) (hcl) ?_;rintro e w7 ⟨rfl,gh⟩;exact⟨_,rfl,hK _ _ (hW.snoc gh (fun j v h=>h) (fun _=>rfl))⟩
      ·(refine Bc.rd rfl rfl (fun ρ us w6 ho ht hc hl hsrc hW=>?_);have gW:=zv (ht 21 (by decide)) ((us.lookup 2).getD undef) rfl;rw[(hW.at_ (hsrc 2 (by exact(List.mem_singleton.2 rfl:(2:Nat)∈[2])))) rfl] at gW;clear ht ho;simp only[execOp,gW];go_simp;try rfl)
      ·(refine .r2 (.int .i64 x.id) (.int .i64 nx) fun _ _ _ pk rZ _ _ _ _=>?_;simp only[execOp,pk,rZ];go_simp;all_goals (first|rfl|exact congrArg Value.bool (decide_eq_false (by omega))|exact congrArg Value.bool (decide_eq_true (by omega))))
      ·(refine .r1 (.int .i64 (k:Int)) fun _ _ _ mg _ _ _ _=>?_;simp only[execOp,mg];go_simp;all_goals (first|rfl|exact congrArg Value.bool (decide_eq_false (by omega))|exact congrArg Value.bool (decide_eq_true (by omega))))
      ·(refine .r1 (.pointer (some ⟨w.heap.size+1,0,none⟩)) fun _ _ w6 ve _ _ _ hW=>?_;have rr:=gj.out w6 (gv.out.trans (hW.1.mono mf));have z0:=zo 0 rr.1;have z1:=zo 1 rr.1;have z2:=zo 2 rr.1;have x0:=zo 0 rr.2;have x3:=zo 3 rr.2;clear rr;simp only[execOp,ve];go_simp;try rfl)
      ·(refine .r1 (.int .i64 (k:Int)) fun _ _ _ e38 _ _ _ _=>?_;simp only[execOp,e38];go_simp;rw[Go.IntWalk.i64_in _ (by omega)];rfl)
      ·(refine .r2 (.slice (some ⟨bE,oE,none⟩) n0 c0) (.int .i64 ((k - 1:Nat):Int)) fun _ _ _ vg e39 _ _ _ _=>?_;simp only[execOp,vg,e39];go_simp;rw[if_pos (by omega)];rfl)
      ·(refine .r2 (.int .i64 x.id) (.int .i64 pd) fun _ _ _ mB yu _ _ _ _=>?_;simp only[execOp,mB,yu];go_simp;all_goals (first|rfl|exact congrArg Value.bool (decide_eq_false (by omega))|exact congrArg Value.bool (decide_eq_true (by omega))))
      intro us w9 hmem hW;simp only[qc,BR,BS,BU,BV,Act.put,BO,BP,BQ];generalize gp:qp _ _ us=sv;have hq:sv 45=(.bool true:Value):=(by rw[←gp];rfl);rw[hq];have gy:=zh hW.1;clear gp hq hmem hW;go_wp2
      go_meet
      case rel=>exact⟨by rw[gA.out];rfl,gy⟩
     have gA:Hid (qH s nx l k=true):=zh (by rw[gX,decide_eq_true (by omega:pd<x.id)];rfl);clear gX;go_wp2_with fail
     refine rF 65 rfl [19,20,21,22,23,24,25,26,27,28,29,30,31,32,33,34,35,36,37,38,39,40,41,42,43,44,45] [2]
       [kp 19 (.agg #[.int .i64 s.K,.int .i64 s.M,.int .i64 s.size]),kp 20 (.agg #[.int .i64 x.id,.int .i64 x.len,.int .i64 x.gen,.slice A3 n3 c3]),(22,[2],fun _=>.bool false),(23,[2],fun _=>.bool false),kq 24 g7 0,kp 25 (.int .i64 x.id),kq 26 (w.heap.size+1) (3),kp 27 (.int .i64 nx),kf 28,kf 29,kf 30,ki 31 k,kt 32,kt 33,kq 34 g7 0,kp 35 (.int .i64 x.id),kq 36 (w.heap.size+1) (0),kp 37 (.slice (some ⟨bE,oE,none⟩) n0 c0),ki 38 k,kp 39 (.int .i64 ((k - 1:Nat):Int)),kp 40 (pt (bE) (oE+(k - 1)* 4)),kp 41 (pt (bE) (oE+(k - 1)* 4)),kp 42 (.int .i64 pd),kf 43,kf 44,kf 45]
       [] [] (BL w4 (fun i v _=>i=2→v=.bool true)) .init ⟨?_,?_,?_,?_,.a,.a,.l fun us w6 hW _=>zo 0 (gf.out w6 hW.1),.a,.l fun us w6 hW _=>zo 3 ((gj.out w6 (gv.out.trans (hW.1.mono mf))).2),?_,.a,.a,.a,?_,.a,.a,.l fun us w6 hW _=>zo 0 (gf.out w6 hW.1),.a,?_,.a,?_,?_,.a,.l fun us w6 hW _=>q7.out w6 hW.1,?_,.a,.a,trivial⟩ ?_
     ·(refine .r1 (.pointer (some ⟨w.heap.size,0,none⟩)) fun _ _ w6 e2 _ _ _ hW=>?_;have rr:=gj.out w6 (gv.out.trans (hW.1.mono mf));have z0:=zo 0 rr.1;have z1:=zo 1 rr.1;have z2:=zo 2 rr.1;have x0:=zo 0 rr.2;have x3:=zo 3 rr.2;clear rr;simp only[execOp,e2];go_simp;try rfl)
     ·(refine .r1 (.pointer (some ⟨g7,0,none⟩)) fun _ _ w6 e7 _ _ _ hW=>?_;have r7:=gf.out w6 hW.1;have z0:=zo 0 r7;have z1:=zo 1 r7;have z2:=zo 2 r7;have z3:=zo 3 r7;clear r7;simp only[execOp,e7];go_simp;try rfl)
     ·refine Bc.wr rfl (fun Z us w6 ho ht hni hlim gb hW K hK=>?_);have e19:=zv (ht 19 (by decide)) (.agg #[.int .i64 s.K,.int .i64 s.M,.int .i64 s.size]) rfl;have pH:=zv (ht 20 (by decide)) (.agg #[.int .i64 x.id,.int .i64 x.len,.int .i64 x.gen,.slice A3 n3 c3]) rfl;have hcl:=xh (w:=w6) (s:=s) (x:=x) yT.out HI.out (nj.out.all hW.1);rw[pm.out] at hcl;refine qi rfl 110 #[.tmp 19,.tmp 20] #[23,86] rfl Tryz.func110 (by kernel_rfl) (by kernel_rfl) #[.agg #[.int .i64 s.K,.int .i64 s.M,.int .i64 s.size],.agg #[.int .i64 x.id,.int .i64 x.len,.int .i64 x.gen,.slice A3 n3 c3]] (by simp[e19,pH];try first|done|rfl|exact⟨rfl,rfl⟩) (hcl) ?_;rintro e w7 ⟨rfl,gh⟩;exact⟨_,rfl,hK _ _ (hW.snoc gh (fun j v h=>h) (fun _=>rfl))⟩
     ·(refine Bc.rd rfl rfl (fun ρ us w6 ho ht hc hl hsrc hW=>?_);have gW:=zv (ht 21 (by decide)) ((us.lookup 2).getD undef) rfl;rw[(hW.at_ (hsrc 2 (by exact(List.mem_singleton.2 rfl:(2:Nat)∈[2])))) rfl] at gW;clear ht ho;simp only[execOp,gW];go_simp;try rfl)
     ·(refine .r2 (.int .i64 x.id) (.int .i64 nx) fun _ _ _ pk rZ _ _ _ _=>?_;simp only[execOp,pk,rZ];go_simp;all_goals (first|rfl|exact congrArg Value.bool (decide_eq_false (by omega))|exact congrArg Value.bool (decide_eq_true (by omega))))
     ·(refine .r1 (.int .i64 (k:Int)) fun _ _ _ mg _ _ _ _=>?_;simp only[execOp,mg];go_simp;all_goals (first|rfl|exact congrArg Value.bool (decide_eq_false (by omega))|exact congrArg Value.bool (decide_eq_true (by omega))))
     ·(refine .r1 (.pointer (some ⟨w.heap.size+1,0,none⟩)) fun _ _ w6 ve _ _ _ hW=>?_;have rr:=gj.out w6 (gv.out.trans (hW.1.mono mf));have z0:=zo 0 rr.1;have z1:=zo 1 rr.1;have z2:=zo 2 rr.1;have x0:=zo 0 rr.2;have x3:=zo 3 rr.2;clear rr;simp only[execOp,ve];go_simp;try rfl)
     ·(refine .r1 (.int .i64 (k:Int)) fun _ _ _ e38 _ _ _ _=>?_;simp only[execOp,e38];go_simp;rw[Go.IntWalk.i64_in _ (by omega)];rfl)
     ·(refine .r2 (.slice (some ⟨bE,oE,none⟩) n0 c0) (.int .i64 ((k - 1:Nat):Int)) fun _ _ _ vg e39 _ _ _ _=>?_;simp only[execOp,vg,e39];go_simp;rw[if_pos (by omega)];rfl)
     ·(refine .r2 (.int .i64 x.id) (.int .i64 pd) fun _ _ _ mB yu _ _ _ _=>?_;simp only[execOp,mB,yu];go_simp;all_goals (first|rfl|exact congrArg Value.bool (decide_eq_false (by omega))|exact congrArg Value.bool (decide_eq_true (by omega))))
     intro us w9 hmem hW;simp only[qc,BR,BS,BU,BV,Act.put,BO,BP,BQ];generalize gp:qp _ _ us=sv;have hq:sv 45=(.bool false:Value):=(by rw[←gp];rfl);rw[hq];have gy:=zh hW.1;clear gp hq hmem hW;go_wp2
     go_meet
     case rel=>exact⟨by rw[gA.out];rfl,gy⟩
   case rest=>
    rename World=>wc
    obtain⟨rfl,HBc⟩:=hcut;have hmc:m≤wc.heap.size:=(by have:=HBc.out.size;omega);have mi:=zh (gv.out.trans (HBc.out.mono mf));have vp:=zh (vh.out.all HBc.out);have mX:=zh (gf.out wc HBc.out);generalize htk:qH s nx l k=tk at *;have uo:=zh htk;clear htk vh nj gf gv HBc
    cases tk with
    |false=>
     have HE:Hid (R=false):=zh (by rw[HR.out,jj (k:=k) (by have:=HL.out;omega) uo.out]);go_wp2
     go_ret
     exact⟨by rw[HE.out];rfl,gK.out _ mi.out⟩
    |true=>
     have z3:=zo 3 mX.out;have hn3l:=(HLW.out wc mi.out);have vq:n3≤9223372036854775807:=Nat.le_trans hn3l.le hn3l.cap;clear hn3l
     have hlen:(qd l k).length+x.place.length≤1000000:=by
      obtain⟨r,hr⟩:=ju (l:=l) (k+1);have h2:=hfew;rw[hr,zI (by have:=HL.out;omega),←vr.out,List.length_append,List.length_append] at h2;omega
     have hml:1000000<maxLen:=(by decide);go_wp2_with fail
     clear z3
     go_loopw [49] (fun iv wr=>∃j:Nat,j≤n3∧iv=.int .i64 j∧Hid (Below m w2 wr)∧Hid (Bu Tryz.prog 88 4 wr m (qd l k++x.place.take j).length (kj (qd l k++x.place.take j)))∧Hid (zy (qd l k++x.place.take j)=true)) (fun iv _=>n3 - (intOf iv).toNat)
     case atStart=>exact⟨0,Nat.zero_le _,rfl,mi,by simpa using vp,by simpa using HND⟩
     case round=>
      rename World=>wj
      clear mi vp HND mX;obtain⟨j,hj,rfl,HBj,ye,HNj⟩:=hrel;by_cases hjl:j<n3
      ·obtain⟨b3,o3,rfl,_,hb3,g1,g2,v1,v2,_⟩:=(HLW.out wj HBj.out).BX hjl;have uH:j<x.place.length:=(by have:=mG.out;omega);have hyj:x.place[j]?=some (x.place.getD j default):=(by rw[List.getD_eq_getElem?_getD,List.getElem?_eq_getElem uH];rfl);have nE:x.place.take (j+1)=x.place.take j++[x.place.getD j default]:=(by rw[List.take_add_one,hyj];rfl);have htl:(x.place.take j).length≤x.place.length:=(by rw[List.length_take];omega);have gZ:(qd l k++x.place.take j).length<maxLen:=(by rw[List.length_append];omega);have yB:=zh (fun(hd:0≤(x.place.getD j default).disk) (hm:x.place.getD j default∈qd l k++x.place.take j)=>xU (s:=s) (nx:=nx) (l:=l) (k:=k) (j:=j) (by have:=HL.out;omega) (by rw[←vr.out];exact uH) (by rw[←vr.out];exact hd) (by rw[←vr.out];exact hm));have m9:=zh nE;clear nE hyj;generalize x.place.getD j default=p at *;obtain⟨kl,hkey⟩:=JF g1 g2
       go_upto_region 10 with (fail)
       have hal:Below wj.heap.size wj (wj.alloc (.cells #[.int .i64 p.disk,.int .i64 p.pos] 88)):=(Below.refl _ _).alloc (Nat.le_refl _) _;have hrow:=heap_alloc_new wj (.cells #[.int .i64 p.disk,.int .i64 p.pos] 88);generalize (wj.alloc (.cells #[.int .i64 p.disk,.int .i64 p.pos] 88))=wp at *;have hmj:m≤wj.heap.size:=(by have:=HBj.out.size;omega);have hmp:m≤wp.heap.size:=(by have:=hal.size;omega);have yf:=zh (HBj.out.trans (hal.mono hmj));have HSp:=zh (ye.out.all hal);clear hal v1 v2 ye HBj;generalize wj.heap.size=g9 at *;have z0:=zo 0 hrow;have z1:=zo 1 hrow;clear hrow;by_cases pG:0≤p.disk
       ·go_wp2_with (at_lookup;refine jE _ (by first|rfl|simp[Region.wanted,yielded]) _ _ 145 rfl jt Tryz.underlying145 Tryz.underlying4 (Tryz.zeroValue4 _) m _ _ rfl HSp.out _ kl rfl hkey ?_)
        refine⟨?_,?_⟩
        ·intro hx;rw[QD] at hx
         have uO:Hid (zy (qd l k++x.place.take (j+1))=true):=zh (by
          rw[m9.out,←List.append_assoc]
          exact xu HNj.out (fun _=>hx))
         clear hx;go_wp2_with (at_mapUpdate;refine zQ _ rfl _ _ _ 145 rfl jt Tryz.underlying145 Tryz.underlying4 m _ _ rfl HSp.out gZ _ kl rfl rfl hkey ?_)
         intro w6 mq rQ;have pF:=zh (yf.out.grown rQ (by have:=yf.out.size;omega) (fun r hr=>by injection hr with hr;omega))
         have HS6:Hid (Bu Tryz.prog 88 4 w6 m (qd l k++x.place.take (j+1)).length (kj (qd l k++x.place.take (j+1)))):=zh (by
          rw[m9.out,←List.append_assoc,List.length_append (bs:=[p])];unfold kj;rw[List.map_append (l₂:=[p]),List.length_append,List.length_take]
          exact mq)
         clear mq rQ;go_wp2
         exact⟨⟨j+1,by omega,by go_num,pF,HS6,uO⟩,by simp[intOf];omega⟩
        intro hx;rw[QD] at hx;have HE:Hid (R=false):=zh (by rw[HR.out,yB.out pG hx]);clear hx;go_wp2
        go_ret
        exact⟨by rw[HE.out];rfl,gK.out _ yf.out⟩
       have uO:Hid (zy (qd l k++x.place.take (j+1))=true):=zh (by
        rw[m9.out,←List.append_assoc]
        exact xu HNj.out (fun h=>absurd h pG))
       go_wp2_with (at_mapUpdate;refine zQ _ rfl _ _ _ 145 rfl jt Tryz.underlying145 Tryz.underlying4 m _ _ rfl HSp.out gZ _ kl rfl rfl hkey ?_)
       intro w6 mq rQ;have pF:=zh (yf.out.grown rQ (by have:=yf.out.size;omega) (fun r hr=>by injection hr with hr;omega))
       have HS6:Hid (Bu Tryz.prog 88 4 w6 m (qd l k++x.place.take (j+1)).length (kj (qd l k++x.place.take (j+1)))):=zh (by
        rw[m9.out,←List.append_assoc,List.length_append (bs:=[p])];unfold kj;rw[List.map_append (l₂:=[p]),List.length_append,List.length_take]
        exact mq)
       clear mq rQ;go_wp2
       exact⟨⟨j+1,by omega,by go_num,pF,HS6,uO⟩,by simp[intOf];omega⟩
      obtain rfl:j=n3:=by omega
      have mC:=zh (fun j' (hj':j'<k+1)=>(show qH s nx l j'=true from by
       by_cases e:j'=k
       ·rw[e];exact uo.out
       exact HA.out j' (by omega)))
      have rR:Hid (qd l (k+1)=qd l k++x.place.take j):=zh (by rw[zI (by have:=HL.out;omega),←vr.out,List.take_of_length_le (by have:=mG.out;omega)]);go_wp2
      exact⟨⟨k+1,by omega,by go_num,HBj,by rw[rR.out];exact ye,mC,by rw[rR.out];exact HNj⟩,by simp[intOf];omega⟩
  obtain rfl:k=n0:=by omega
  have HE:Hid (R=true):=zh (by rw[HR.out,jk (fun j hj=>HA.out j (by have:=HL.out;omega)) (by rw[HL.out];exact HND.out)]);go_wp2
  go_ret
  exact⟨by rw[HE.out];rfl,gK.out _ HB.out⟩
end Go.Proofs.YtipecejghioicaaGreat
