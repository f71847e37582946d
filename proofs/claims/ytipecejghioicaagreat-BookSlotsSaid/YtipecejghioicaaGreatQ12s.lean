/- Siloref16.Book's look at a tag. -/
import Derived.Test.YtipecejghioicaaGreatQ10s
import Derived.Test.YtipecejghioicaaGreatN2s
import Derived.Test.YtipecejghioicaaGreatQ1s
set_option maxHeartbeats 8000000
set_option maxRecDepth 100000
namespace Go.Proofs.YtipecejghioicaaGreat
open Go.RowKit Go.Silo
theorem jg (x y:ByteArray) (W:World):(binOp .geq 9 (.string x) (.string y)).run Tryz.prog W=.ok (.bool (!qr x y)) W:=by
 simp[binOp,go_sem,Op.stringOp,qr]
def qm (id:Nat):Code→Option Code
 |.region i ops b=>if i=id then some (.region i ops b) else none
 |.seq a b=>match qm id a with
  |some c=>some c
  |none=>qm id b
 |.block _ c=>qm id c
 |.loop c=>qm id c
 |.scope c=>qm id c
 |.cond _ a b=>match qm id a with
  |some c=>some c
  |none=>qm id b
 |_=>none
noncomputable def Dn:Code:=((Tryz.f16.body.bind (qm 39)).getD .skip)
theorem EL {w W0:World}{A0 A1 A2:Option Addr}{n0 c0 n1 c1 n2 c2:Nat}{s:Shape}{gs:List Tag}{nx:Int}{Q:Exit→Act→World→Prop}{σ:Act}(ROW:Hid (∀V,Below W0.heap.size W0 V→V.heap[w.heap.size]?=some (.cells #[.int .i64 s.K,.int .i64 s.M,.int .i64 s.size] 23 (0,0))∧V.heap[w.heap.size+1]?=some (.cells #[.slice A0 n0 c0,.slice A1 n1 c1,.slice A2 n2 c2,.int .i64 nx] 28 (0,0)))) {wr:World}{k bG oG:Nat}{pn:ByteArray}{x:Tag}(hlt:k<n2) (hn40:n2≤40) (HB:Hid (Below W0.heap.size W0 wr)) (eG:A2=some ⟨bG,oG,none⟩) (hbG:bG<W0.heap.size) (hp:0<k→W0.cell? ⟨bG,oG+(k - 1)* 2,none⟩=some (.string pn)) (ux:Hid (∀V,Below W0.heap.size W0 V→V.cell? ⟨bG,oG+k* 2,none⟩=some (.string x.name)∧V.cell? ⟨bG,oG+k* 2+1,none⟩=some (.string x.digest))) (gV:Hid (Bv gs k=(decide (1≤x.name.size∧x.name.size≤40∧x.digest.size=32)&&(decide (k=0)||qr pn x.name)))) (hσ:σ.tmps.size=251) (s16:σ.eval (.tmp 16)=.int .i64 (k:Int)) (s3:σ.eval (.tmp 3)=.pointer (some ⟨w.heap.size+1,0,none⟩))
  (hend:∀(v:Nat→Value) (wz:World),v 250=.bool (!Bv gs k)→Below wr.heap.size wr wz→Q .normal (qc σ (([212,213,214,215,216,217,218,219,220,221,222,223,224,225,226,227,228,229,230,231,232,233,234,235,236,237,238,239,240,241,242,243,244,245,246,247,248,249,250]:List Nat).map fun d=>(d,v d))) wz):
  Dn.wp Tryz.prog Q σ wr:=by
 conv=>arg 2;whnf
 subst eG;by_cases cA:1≤(x.name.size:Int)∧(x.name.size:Int)≤40
 ·obtain⟨cA1,cA2⟩:=cA;by_cases cB:(x.digest.size:Int)=32
  ·have cB':((x.digest.size:Int) !=32)=false:=(by simp[cB]);have gX:=gV.out;rw[decide_eq_true (by omega:1≤x.name.size∧x.name.size≤40∧x.digest.size=32)] at gX;clear gV cB;by_cases nL:k=0
   ·have gA:Hid (Bv gs k=true):=zh (by rw[gX,decide_eq_true nL];rfl);have rX:¬0<(k:Int):=(by omega);clear gX hp nL
    refine rF 251 hσ [212,213,214,215,216,217,218,219,220,221,222,223,224,225,226,227,228,229,230,231,232,233,234,235,236,237,238,239,240,241,242,243,244,245,246,247,248,249,250] [7]
      [kq 212 (w.heap.size+1) (2),kp 213 (.slice (some ⟨bG,oG,none⟩) n2 c2),ki 214 k,kq 215 (bG) (oG+k* 2),kq 216 (bG) (oG+k* 2),kp 217 (.string x.name),kp 218 (.int .i64 (x.name.size:Int)),(220,[7],fun _=>.bool false),(221,[7],fun _=>.bool false),kq 222 (w.heap.size+1) (2),kp 223 (.slice (some ⟨bG,oG,none⟩) n2 c2),ki 224 k,kq 225 (bG) (oG+k* 2),kq 226 (bG) (oG+k* 2+1),kp 227 (.string x.digest),kp 228 (.int .i64 (x.digest.size:Int)),kf 229,kf 230,kf 231,ki 232 k,kf 233,kf 234,kf 249,kf 250]
      [] [] (BL wr (fun i v _=>i=7→v=.bool true)) .init ⟨.q s3,?_,.q s16,?_,.a,.l (a:=⟨bG,oG+k* 2,none⟩) fun us w6 hW _=>(by obtain⟨y0,y1⟩:=ux.out w6 (zu HB hW.1);assumption),.n (.string x.name),?_,?_,.a,.q s3,?_,.q s16,?_,.a,.l (a:=⟨bG,oG+k* 2+1,none⟩) fun us w6 hW _=>(by obtain⟨y0,y1⟩:=ux.out w6 (zu HB hW.1);assumption),.n (.string x.digest),?_,.a,.a,.q s16,?_,.a,.b,.b,.b,.b,.b,.b,.b,.b,.b,.b,.b,.b,.b,.b,.a,.a,trivial⟩ ?_
    ·(refine .r1 (.pointer (some ⟨w.heap.size+1,2,none⟩)) fun _ _ w6 pI _ _ _ hW=>?_;obtain⟨r0,r1⟩:=ROW.out w6 (zu HB hW.1);have z0:=zo 0 r0;have z1:=zo 1 r0;have z2:=zo 2 r0;have x0:=zo 0 r1;have x1:=zo 1 r1;have x2:=zo 2 r1;have x3:=zo 3 r1;clear r0 r1;simp only[execOp,pI];go_simp;try rfl)
    ·(refine .r2 (.slice (some ⟨bG,oG,none⟩) n2 c2) (.int .i64 (k:Int)) fun _ _ _ pJ pK _ _ _ _=>?_;simp only[execOp,pJ,pK];go_simp;try rfl)
    ·refine Bc.wr rfl (fun Z us w6 ho ht hni hlim gb hW K hK=>?_);have pL:=zv (ht 218 (by decide)) (.int .i64 (x.name.size:Int)) rfl;have hcl:=BH (w:=w6) (n:=(x.name.size:Int)) (l:=1) (m:=40);rw[decide_eq_true (by omega)] at hcl;refine qi rfl 17 #[.tmp 218,.const (.int .i64 1),.const (.int .i64 40)] #[3,3,3] rfl Tryz.func17 (by kernel_rfl) (by kernel_rfl) #[.int .i64 (x.name.size:Int),.int .i64 1,.int .i64 40] (by simp[pL];try first|done|rfl|exact⟨rfl,rfl⟩) (hcl) ?_;rintro e w7 ⟨rfl,gh⟩;exact⟨_,rfl,hK _ _ (hW.snoc gh (fun j v h=>h) (fun _=>rfl))⟩
    ·(refine Bc.rd rfl rfl (fun ρ us w6 ho ht hc hl hsrc hW=>?_);have mY:=zv (ht 219 (by decide)) ((us.lookup 7).getD undef) rfl;rw[(hW.at_ (hsrc 7 (by exact(List.mem_singleton.2 rfl:(7:Nat)∈[7])))) rfl] at mY;clear ht ho;simp only[execOp,mY];go_simp;try rfl)
    ·(refine .r1 (.pointer (some ⟨w.heap.size+1,2,none⟩)) fun _ _ w6 u5 _ _ _ hW=>?_;obtain⟨r0,r1⟩:=ROW.out w6 (zu HB hW.1);have z0:=zo 0 r0;have z1:=zo 1 r0;have z2:=zo 2 r0;have x0:=zo 0 r1;have x1:=zo 1 r1;have x2:=zo 2 r1;have x3:=zo 3 r1;clear r0 r1;simp only[execOp,u5];go_simp;try rfl)
    ·(refine .r2 (.slice (some ⟨bG,oG,none⟩) n2 c2) (.int .i64 (k:Int)) fun _ _ _ u6 u7 _ _ _ _=>?_;simp only[execOp,u6,u7];go_simp;try rfl)
    ·(refine .r1 (.int .i64 (x.digest.size:Int)) fun _ _ _ ua _ _ _ _=>?_;simp only[execOp,ua];go_simp;try rfl)
    ·(refine .r1 (.int .i64 (k:Int)) fun _ _ _ vt _ _ _ _=>?_;simp only[execOp,vt];go_simp;exact congrArg Value.bool (decide_eq_false (by omega)))
    intro us wz hmem hW;refine hend _ wz ?_ hW.1;rw[gA.out];rfl
   have rX:0<(k:Int):=(by omega);have hc:=hp (by omega);have e1:(k:Int) - 1=((k - 1:Nat):Int):=(by omega);have HPG:=zh (fun V (hV:Below W0.heap.size W0 V)=>(hV.cell (p:=⟨bG,oG+(k - 1)* 2,none⟩) hbG).trans hc);rw[decide_eq_false nL] at gX;obtain⟨sl,hsl⟩:∃sl,sl=qr pn x.name:=⟨_,rfl⟩;rw[←hsl] at gX;clear hp nL hc
   cases sl with
   |false=>
    have gA:Hid (Bv gs k=false):=zh gX;have pM:=zh hsl.symm;clear gX hsl
    refine rF 251 hσ [212,213,214,215,216,217,218,219,220,221,222,223,224,225,226,227,228,229,230,231,232,233,234,235,236,237,238,239,240,241,242,243,244,245,246,247,248,249,250] [7]
      [kq 212 (w.heap.size+1) (2),kp 213 (.slice (some ⟨bG,oG,none⟩) n2 c2),ki 214 k,kq 215 (bG) (oG+k* 2),kq 216 (bG) (oG+k* 2),kp 217 (.string x.name),kp 218 (.int .i64 (x.name.size:Int)),(220,[7],fun _=>.bool false),(221,[7],fun _=>.bool false),kq 222 (w.heap.size+1) (2),kp 223 (.slice (some ⟨bG,oG,none⟩) n2 c2),ki 224 k,kq 225 (bG) (oG+k* 2),kq 226 (bG) (oG+k* 2+1),kp 227 (.string x.digest),kp 228 (.int .i64 (x.digest.size:Int)),kf 229,kf 230,kf 231,ki 232 k,kt 233,kt 234,kq 235 (w.heap.size+1) (2),kp 236 (.slice (some ⟨bG,oG,none⟩) n2 c2),ki 237 k,kp 238 (.int .i64 ((k - 1:Nat):Int)),kp 239 (pt (bG) (oG+(k - 1)* 2)),kp 240 (pt (bG) (oG+(k - 1)* 2)),kp 241 (.string pn),kq 242 (w.heap.size+1) (2),kp 243 (.slice (some ⟨bG,oG,none⟩) n2 c2),ki 244 k,kq 245 (bG) (oG+k* 2),kq 246 (bG) (oG+k* 2),kp 247 (.string x.name),kt 248,kt 249,kt 250]
      [] [] (BL wr (fun i v _=>i=7→v=.bool true)) .init ⟨.q s3,?_,.q s16,?_,.a,.l (a:=⟨bG,oG+k* 2,none⟩) fun us w6 hW _=>(by obtain⟨y0,y1⟩:=ux.out w6 (zu HB hW.1);assumption),.n (.string x.name),?_,?_,.a,.q s3,?_,.q s16,?_,.a,.l (a:=⟨bG,oG+k* 2+1,none⟩) fun us w6 hW _=>(by obtain⟨y0,y1⟩:=ux.out w6 (zu HB hW.1);assumption),.n (.string x.digest),?_,.a,.a,.q s16,?_,.a,.q s3,?_,.q s16,?_,?_,.a,.l fun us w6 hW _=>HPG.out w6 (zu HB hW.1),.q s3,?_,.q s16,?_,.a,.l (a:=⟨bG,oG+k* 2,none⟩) fun us w6 hW _=>(by obtain⟨y0,y1⟩:=ux.out w6 (zu HB hW.1);assumption),?_,.a,.a,trivial⟩ ?_
    ·(refine .r1 (.pointer (some ⟨w.heap.size+1,2,none⟩)) fun _ _ w6 pI _ _ _ hW=>?_;obtain⟨r0,r1⟩:=ROW.out w6 (zu HB hW.1);have z0:=zo 0 r0;have z1:=zo 1 r0;have z2:=zo 2 r0;have x0:=zo 0 r1;have x1:=zo 1 r1;have x2:=zo 2 r1;have x3:=zo 3 r1;clear r0 r1;simp only[execOp,pI];go_simp;try rfl)
    ·(refine .r2 (.slice (some ⟨bG,oG,none⟩) n2 c2) (.int .i64 (k:Int)) fun _ _ _ pJ pK _ _ _ _=>?_;simp only[execOp,pJ,pK];go_simp;try rfl)
    ·refine Bc.wr rfl (fun Z us w6 ho ht hni hlim gb hW K hK=>?_);have pL:=zv (ht 218 (by decide)) (.int .i64 (x.name.size:Int)) rfl;have hcl:=BH (w:=w6) (n:=(x.name.size:Int)) (l:=1) (m:=40);rw[decide_eq_true (by omega)] at hcl;refine qi rfl 17 #[.tmp 218,.const (.int .i64 1),.const (.int .i64 40)] #[3,3,3] rfl Tryz.func17 (by kernel_rfl) (by kernel_rfl) #[.int .i64 (x.name.size:Int),.int .i64 1,.int .i64 40] (by simp[pL];try first|done|rfl|exact⟨rfl,rfl⟩) (hcl) ?_;rintro e w7 ⟨rfl,gh⟩;exact⟨_,rfl,hK _ _ (hW.snoc gh (fun j v h=>h) (fun _=>rfl))⟩
    ·(refine Bc.rd rfl rfl (fun ρ us w6 ho ht hc hl hsrc hW=>?_);have mY:=zv (ht 219 (by decide)) ((us.lookup 7).getD undef) rfl;rw[(hW.at_ (hsrc 7 (by exact(List.mem_singleton.2 rfl:(7:Nat)∈[7])))) rfl] at mY;clear ht ho;simp only[execOp,mY];go_simp;try rfl)
    ·(refine .r1 (.pointer (some ⟨w.heap.size+1,2,none⟩)) fun _ _ w6 u5 _ _ _ hW=>?_;obtain⟨r0,r1⟩:=ROW.out w6 (zu HB hW.1);have z0:=zo 0 r0;have z1:=zo 1 r0;have z2:=zo 2 r0;have x0:=zo 0 r1;have x1:=zo 1 r1;have x2:=zo 2 r1;have x3:=zo 3 r1;clear r0 r1;simp only[execOp,u5];go_simp;try rfl)
    ·(refine .r2 (.slice (some ⟨bG,oG,none⟩) n2 c2) (.int .i64 (k:Int)) fun _ _ _ u6 u7 _ _ _ _=>?_;simp only[execOp,u6,u7];go_simp;try rfl)
    ·(refine .r1 (.int .i64 (x.digest.size:Int)) fun _ _ _ ua _ _ _ _=>?_;simp only[execOp,ua];go_simp;try rfl)
    ·(refine .r1 (.int .i64 (k:Int)) fun _ _ _ vt _ _ _ _=>?_;simp only[execOp,vt];go_simp;exact congrArg Value.bool (decide_eq_true (by omega)))
    ·(refine .r1 (.pointer (some ⟨w.heap.size+1,2,none⟩)) fun _ _ w6 e235 _ _ _ hW=>?_;obtain⟨r0,r1⟩:=ROW.out w6 (zu HB hW.1);have z0:=zo 0 r0;have z1:=zo 1 r0;have z2:=zo 2 r0;have x0:=zo 0 r1;have x1:=zo 1 r1;have x2:=zo 2 r1;have x3:=zo 3 r1;clear r0 r1;simp only[execOp,e235];go_simp;try rfl)
    ·(refine .r1 (.int .i64 (k:Int)) fun _ _ _ e237 _ _ _ _=>?_;simp only[execOp,e237];go_simp;rw[Go.IntWalk.i64_in _ (by omega)];rfl)
    ·(refine .r2 (.slice (some ⟨bG,oG,none⟩) n2 c2) (.int .i64 ((k - 1:Nat):Int)) fun _ _ _ e236 e238 _ _ _ _=>?_;simp only[execOp,e236,e238];go_simp;rw[if_pos (by omega)];rfl)
    ·(refine .r1 (.pointer (some ⟨w.heap.size+1,2,none⟩)) fun _ _ w6 e242 _ _ _ hW=>?_;obtain⟨r0,r1⟩:=ROW.out w6 (zu HB hW.1);have z0:=zo 0 r0;have z1:=zo 1 r0;have z2:=zo 2 r0;have x0:=zo 0 r1;have x1:=zo 1 r1;have x2:=zo 2 r1;have x3:=zo 3 r1;clear r0 r1;simp only[execOp,e242];go_simp;try rfl)
    ·(refine .r2 (.slice (some ⟨bG,oG,none⟩) n2 c2) (.int .i64 (k:Int)) fun _ _ _ e243 e244 _ _ _ _=>?_;simp only[execOp,e243,e244];go_simp;try rfl)
    ·(refine .r2 (.string pn) (.string x.name) fun _ _ _ e241 e247 _ _ _ _=>?_;simp only[execOp,e241,e247];go_simp;rw[jg];simp only[Result.andThen,pM.out];rfl)
    intro us wz hmem hW;refine hend _ wz ?_ hW.1;rw[gA.out];rfl
   |true=>
    have gA:Hid (Bv gs k=true):=zh gX;have pM:=zh hsl.symm;clear gX hsl
    refine rF 251 hσ [212,213,214,215,216,217,218,219,220,221,222,223,224,225,226,227,228,229,230,231,232,233,234,235,236,237,238,239,240,241,242,243,244,245,246,247,248,249,250] [7]
      [kq 212 (w.heap.size+1) (2),kp 213 (.slice (some ⟨bG,oG,none⟩) n2 c2),ki 214 k,kq 215 (bG) (oG+k* 2),kq 216 (bG) (oG+k* 2),kp 217 (.string x.name),kp 218 (.int .i64 (x.name.size:Int)),(220,[7],fun _=>.bool false),(221,[7],fun _=>.bool false),kq 222 (w.heap.size+1) (2),kp 223 (.slice (some ⟨bG,oG,none⟩) n2 c2),ki 224 k,kq 225 (bG) (oG+k* 2),kq 226 (bG) (oG+k* 2+1),kp 227 (.string x.digest),kp 228 (.int .i64 (x.digest.size:Int)),kf 229,kf 230,kf 231,ki 232 k,kt 233,kt 234,kq 235 (w.heap.size+1) (2),kp 236 (.slice (some ⟨bG,oG,none⟩) n2 c2),ki 237 k,kp 238 (.int .i64 ((k - 1:Nat):Int)),kp 239 (pt (bG) (oG+(k - 1)* 2)),kp 240 (pt (bG) (oG+(k - 1)* 2)),kp 241 (.string pn),kq 242 (w.heap.size+1) (2),kp 243 (.slice (some ⟨bG,oG,none⟩) n2 c2),ki 244 k,kq 245 (bG) (oG+k* 2),kq 246 (bG) (oG+k* 2),kp 247 (.string x.name),kf 248,kf 249,kf 250]
      [] [] (BL wr (fun i v _=>i=7→v=.bool true)) .init ⟨.q s3,?_,.q s16,?_,.a,.l (a:=⟨bG,oG+k* 2,none⟩) fun us w6 hW _=>(by obtain⟨y0,y1⟩:=ux.out w6 (zu HB hW.1);assumption),.n (.string x.name),?_,?_,.a,.q s3,?_,.q s16,?_,.a,.l (a:=⟨bG,oG+k* 2+1,none⟩) fun us w6 hW _=>(by obtain⟨y0,y1⟩:=ux.out w6 (zu HB hW.1);assumption),.n (.string x.digest),?_,.a,.a,.q s16,?_,.a,.q s3,?_,.q s16,?_,?_,.a,.l fun us w6 hW _=>HPG.out w6 (zu HB hW.1),.q s3,?_,.q s16,?_,.a,.l (a:=⟨bG,oG+k* 2,none⟩) fun us w6 hW _=>(by obtain⟨y0,y1⟩:=ux.out w6 (zu HB hW.1);assumption),?_,.a,.a,trivial⟩ ?_
    ·(refine .r1 (.pointer (some ⟨w.heap.size+1,2,none⟩)) fun _ _ w6 pI _ _ _ hW=>?_;obtain⟨r0,r1⟩:=ROW.out w6 (zu HB hW.1);have z0:=zo 0 r0;have z1:=zo 1 r0;have z2:=zo 2 r0;have x0:=zo 0 r1;have x1:=zo 1 r1;have x2:=zo 2 r1;have x3:=zo 3 r1;clear r0 r1;simp only[execOp,pI];go_simp;try rfl)
    ·(refine .r2 (.slice (some ⟨bG,oG,none⟩) n2 c2) (.int .i64 (k:Int)) fun _ _ _ pJ pK _ _ _ _=>?_;simp only[execOp,pJ,pK];go_simp;try rfl)
    ·refine Bc.wr rfl (fun Z us w6 ho ht hni hlim gb hW K hK=>?_);have pL:=zv (ht 218 (by decide)) (.int .i64 (x.name.size:Int)) rfl;have hcl:=BH (w:=w6) (n:=(x.name.size:Int)) (l:=1) (m:=40);rw[decide_eq_true (by omega)] at hcl;refine qi rfl 17 #[.tmp 218,.const (.int .i64 1),.const (.int .i64 40)] #[3,3,3] rfl Tryz.func17 (by kernel_rfl) (by kernel_rfl) #[.int .i64 (x.name.size:Int),.int .i64 1,.int .i64 40] (by simp[pL];try first|done|rfl|exact⟨rfl,rfl⟩) (hcl) ?_;rintro e w7 ⟨rfl,gh⟩;exact⟨_,rfl,hK _ _ (hW.snoc gh (fun j v h=>h) (fun _=>rfl))⟩
    ·(refine Bc.rd rfl rfl (fun ρ us w6 ho ht hc hl hsrc hW=>?_);have mY:=zv (ht 219 (by decide)) ((us.lookup 7).getD undef) rfl;rw[(hW.at_ (hsrc 7 (by exact(List.mem_singleton.2 rfl:(7:Nat)∈[7])))) rfl] at mY;clear ht ho;simp only[execOp,mY];go_simp;try rfl)
    ·(refine .r1 (.pointer (some ⟨w.heap.size+1,2,none⟩)) fun _ _ w6 u5 _ _ _ hW=>?_;obtain⟨r0,r1⟩:=ROW.out w6 (zu HB hW.1);have z0:=zo 0 r0;have z1:=zo 1 r0;have z2:=zo 2 r0;have x0:=zo 0 r1;have x1:=zo 1 r1;have x2:=zo 2 r1;have x3:=zo 3 r1;clear r0 r1;simp only[execOp,u5];go_simp;try rfl)
    ·(refine .r2 (.slice (some ⟨bG,oG,none⟩) n2 c2) (.int .i64 (k:Int)) fun _ _ _ u6 u7 _ _ _ _=>?_;simp only[execOp,u6,u7];go_simp;try rfl)
    ·(refine .r1 (.int .i64 (x.digest.size:Int)) fun _ _ _ ua _ _ _ _=>?_;simp only[execOp,ua];go_simp;try rfl)
    ·(refine .r1 (.int .i64 (k:Int)) fun _ _ _ vt _ _ _ _=>?_;simp only[execOp,vt];go_simp;exact congrArg Value.bool (decide_eq_true (by omega)))
    ·(refine .r1 (.pointer (some ⟨w.heap.size+1,2,none⟩)) fun _ _ w6 e235 _ _ _ hW=>?_;obtain⟨r0,r1⟩:=ROW.out w6 (zu HB hW.1);have z0:=zo 0 r0;have z1:=zo 1 r0;have z2:=zo 2 r0;have x0:=zo 0 r1;have x1:=zo 1 r1;have x2:=zo 2 r1;have x3:=zo 3 r1;clear r0 r1;simp only[execOp,e235];go_simp;try rfl)
    ·(refine .r1 (.int .i64 (k:Int)) fun _ _ _ e237 _ _ _ _=>?_;simp only[execOp,e237];go_simp;rw[Go.IntWalk.i64_in _ (by omega)];rfl)
    ·(refine .r2 (.slice (some ⟨bG,oG,none⟩) n2 c2) (.int .i64 ((k - 1:Nat):Int)) fun _ _ _ e236 e238 _ _ _ _=>?_;simp only[execOp,e236,e238];go_simp;rw[if_pos (by omega)];rfl)
    ·(refine .r1 (.pointer (some ⟨w.heap.size+1,2,none⟩)) fun _ _ w6 e242 _ _ _ hW=>?_;obtain⟨r0,r1⟩:=ROW.out w6 (zu HB hW.1);have z0:=zo 0 r0;have z1:=zo 1 r0;have z2:=zo 2 r0;have x0:=zo 0 r1;have x1:=zo 1 r1;have x2:=zo 2 r1;have x3:=zo 3 r1;clear r0 r1;simp only[execOp,e242];go_simp;try rfl)
    ·(refine .r2 (.slice (some ⟨bG,oG,none⟩) n2 c2) (.int .i64 (k:Int)) fun _ _ _ e243 e244 _ _ _ _=>?_;simp only[execOp,e243,e244];go_simp;try rfl)
    ·(refine .r2 (.string pn) (.string x.name) fun _ _ _ e241 e247 _ _ _ _=>?_;simp only[execOp,e241,e247];go_simp;rw[jg];simp only[Result.andThen,pM.out];rfl)
    intro us wz hmem hW;refine hend _ wz ?_ hW.1;rw[gA.out];rfl
  have cB':((x.digest.size:Int) !=32)=true:=by simp[cB]
  have gA:Hid (Bv gs k=false):=zh (by rw[gV.out,decide_eq_false (by omega)];rfl);clear gV cB hp
  refine rF 251 hσ [212,213,214,215,216,217,218,219,220,221,222,223,224,225,226,227,228,229,230,231,232,233,234,235,236,237,238,239,240,241,242,243,244,245,246,247,248,249,250] [7]
    [kq 212 (w.heap.size+1) (2),kp 213 (.slice (some ⟨bG,oG,none⟩) n2 c2),ki 214 k,kq 215 (bG) (oG+k* 2),kq 216 (bG) (oG+k* 2),kp 217 (.string x.name),kp 218 (.int .i64 (x.name.size:Int)),(220,[7],fun _=>.bool false),(221,[7],fun _=>.bool false),kq 222 (w.heap.size+1) (2),kp 223 (.slice (some ⟨bG,oG,none⟩) n2 c2),ki 224 k,kq 225 (bG) (oG+k* 2),kq 226 (bG) (oG+k* 2+1),kp 227 (.string x.digest),kp 228 (.int .i64 (x.digest.size:Int)),kt 229,kt 230,kt 231,kt 250]
    [] [] (BL wr (fun i v _=>i=7→v=.bool true)) .init ⟨.q s3,?_,.q s16,?_,.a,.l (a:=⟨bG,oG+k* 2,none⟩) fun us w6 hW _=>(by obtain⟨y0,y1⟩:=ux.out w6 (zu HB hW.1);assumption),.n (.string x.name),?_,?_,.a,.q s3,?_,.q s16,?_,.a,.l (a:=⟨bG,oG+k* 2+1,none⟩) fun us w6 hW _=>(by obtain⟨y0,y1⟩:=ux.out w6 (zu HB hW.1);assumption),.n (.string x.digest),?_,.a,.a,.b,.b,.b,.c,.c,.c,.c,.c,.c,.c,.c,.c,.c,.c,.c,.c,.c,.b,.a,trivial⟩ ?_
  ·(refine .r1 (.pointer (some ⟨w.heap.size+1,2,none⟩)) fun _ _ w6 pI _ _ _ hW=>?_;obtain⟨r0,r1⟩:=ROW.out w6 (zu HB hW.1);have z0:=zo 0 r0;have z1:=zo 1 r0;have z2:=zo 2 r0;have x0:=zo 0 r1;have x1:=zo 1 r1;have x2:=zo 2 r1;have x3:=zo 3 r1;clear r0 r1;simp only[execOp,pI];go_simp;try rfl)
  ·(refine .r2 (.slice (some ⟨bG,oG,none⟩) n2 c2) (.int .i64 (k:Int)) fun _ _ _ pJ pK _ _ _ _=>?_;simp only[execOp,pJ,pK];go_simp;try rfl)
  ·refine Bc.wr rfl (fun Z us w6 ho ht hni hlim gb hW K hK=>?_);have pL:=zv (ht 218 (by decide)) (.int .i64 (x.name.size:Int)) rfl;have hcl:=BH (w:=w6) (n:=(x.name.size:Int)) (l:=1) (m:=40);rw[decide_eq_true (by omega)] at hcl;refine qi rfl 17 #[.tmp 218,.const (.int .i64 1),.const (.int .i64 40)] #[3,3,3] rfl Tryz.func17 (by kernel_rfl) (by kernel_rfl) #[.int .i64 (x.name.size:Int),.int .i64 1,.int .i64 40] (by simp[pL];try first|done|rfl|exact⟨rfl,rfl⟩) (hcl) ?_;rintro e w7 ⟨rfl,gh⟩;exact⟨_,rfl,hK _ _ (hW.snoc gh (fun j v h=>h) (fun _=>rfl))⟩
  ·(refine Bc.rd rfl rfl (fun ρ us w6 ho ht hc hl hsrc hW=>?_);have mY:=zv (ht 219 (by decide)) ((us.lookup 7).getD undef) rfl;rw[(hW.at_ (hsrc 7 (by exact(List.mem_singleton.2 rfl:(7:Nat)∈[7])))) rfl] at mY;clear ht ho;simp only[execOp,mY];go_simp;try rfl)
  ·(refine .r1 (.pointer (some ⟨w.heap.size+1,2,none⟩)) fun _ _ w6 u5 _ _ _ hW=>?_;obtain⟨r0,r1⟩:=ROW.out w6 (zu HB hW.1);have z0:=zo 0 r0;have z1:=zo 1 r0;have z2:=zo 2 r0;have x0:=zo 0 r1;have x1:=zo 1 r1;have x2:=zo 2 r1;have x3:=zo 3 r1;clear r0 r1;simp only[execOp,u5];go_simp;try rfl)
  ·(refine .r2 (.slice (some ⟨bG,oG,none⟩) n2 c2) (.int .i64 (k:Int)) fun _ _ _ u6 u7 _ _ _ _=>?_;simp only[execOp,u6,u7];go_simp;try rfl)
  ·(refine .r1 (.int .i64 (x.digest.size:Int)) fun _ _ _ ua _ _ _ _=>?_;simp only[execOp,ua];go_simp;try rfl)
  intro us wz hmem hW;refine hend _ wz ?_ hW.1;rw[gA.out];rfl
 have gA:Hid (Bv gs k=false):=zh (by rw[gV.out,decide_eq_false (by omega)];rfl);clear gV hp
 refine rF 251 hσ [212,213,214,215,216,217,218,219,220,221,222,223,224,225,226,227,228,229,230,231,232,233,234,235,236,237,238,239,240,241,242,243,244,245,246,247,248,249,250] [7]
   [kq 212 (w.heap.size+1) (2),kp 213 (.slice (some ⟨bG,oG,none⟩) n2 c2),ki 214 k,kq 215 (bG) (oG+k* 2),kq 216 (bG) (oG+k* 2),kp 217 (.string x.name),kp 218 (.int .i64 (x.name.size:Int)),(220,[7],fun _=>.bool true),(221,[7],fun _=>.bool true),kt 230,kt 231,kt 250]
   [] [] (BL wr (fun i v _=>i=7→v=.bool false)) .init ⟨.q s3,?_,.q s16,?_,.a,.l (a:=⟨bG,oG+k* 2,none⟩) fun us w6 hW _=>(by obtain⟨y0,y1⟩:=ux.out w6 (zu HB hW.1);assumption),.n (.string x.name),?_,?_,.a,.b,.b,.b,.b,.b,.b,.b,.b,.a,.a,.b,.b,.b,.c,.c,.c,.c,.c,.c,.c,.c,.c,.c,.c,.c,.c,.c,.b,.a,trivial⟩ ?_
 ·(refine .r1 (.pointer (some ⟨w.heap.size+1,2,none⟩)) fun _ _ w6 pI _ _ _ hW=>?_;obtain⟨r0,r1⟩:=ROW.out w6 (zu HB hW.1);have z0:=zo 0 r0;have z1:=zo 1 r0;have z2:=zo 2 r0;have x0:=zo 0 r1;have x1:=zo 1 r1;have x2:=zo 2 r1;have x3:=zo 3 r1;clear r0 r1;simp only[execOp,pI];go_simp;try rfl)
 ·(refine .r2 (.slice (some ⟨bG,oG,none⟩) n2 c2) (.int .i64 (k:Int)) fun _ _ _ pJ pK _ _ _ _=>?_;simp only[execOp,pJ,pK];go_simp;try rfl)
 ·refine Bc.wr rfl (fun Z us w6 ho ht hni hlim gb hW K hK=>?_);have pL:=zv (ht 218 (by decide)) (.int .i64 (x.name.size:Int)) rfl;have hcl:=BH (w:=w6) (n:=(x.name.size:Int)) (l:=1) (m:=40);rw[decide_eq_false (by omega)] at hcl;refine qi rfl 17 #[.tmp 218,.const (.int .i64 1),.const (.int .i64 40)] #[3,3,3] rfl Tryz.func17 (by kernel_rfl) (by kernel_rfl) #[.int .i64 (x.name.size:Int),.int .i64 1,.int .i64 40] (by simp[pL];try first|done|rfl|exact⟨rfl,rfl⟩) (hcl) ?_;rintro e w7 ⟨rfl,gh⟩;exact⟨_,rfl,hK _ _ (hW.snoc gh (fun j v h=>h) (fun _=>rfl))⟩
 ·(refine Bc.rd rfl rfl (fun ρ us w6 ho ht hc hl hsrc hW=>?_);have mY:=zv (ht 219 (by decide)) ((us.lookup 7).getD undef) rfl;rw[(hW.at_ (hsrc 7 (by exact(List.mem_singleton.2 rfl:(7:Nat)∈[7])))) rfl] at mY;clear ht ho;simp only[execOp,mY];go_simp;try rfl)
 intro us wz hmem hW;refine hend _ wz ?_ hW.1;rw[gA.out];rfl
end Go.Proofs.YtipecejghioicaaGreat
