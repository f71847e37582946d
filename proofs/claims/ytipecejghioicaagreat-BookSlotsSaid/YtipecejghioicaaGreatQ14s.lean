/- Siloref16.Book's looks at a stripe of a thing. -/
import Derived.Test.YtipecejghioicaaGreatQ12s
import Derived.Test.YtipecejghioicaaGreatN2s
import Derived.Test.YtipecejghioicaaGreatQ1s
set_option maxHeartbeats 8000000
set_option maxRecDepth 100000
namespace Go.Proofs.YtipecejghioicaaGreat
open Go.RowKit Go.Silo
noncomputable def Dt:Code:=((Tryz.f16.body.bind (qm 31)).getD .skip)
theorem EW {w W0:World}{A0 A1 A2:Option Addr}{n0 c0 n1 c1 n2 c2:Nat}{s:Shape}{l:List Bb}{nx:Int}{tg tg0:Bool}{S:Nat→Prop}{Q:Exit→Act→World→Prop}{σ:Act}(ROW:Hid (∀V,Below W0.heap.size W0 V→V.heap[w.heap.size]?=some (.cells #[.int .i64 s.K,.int .i64 s.M,.int .i64 s.size] 23 (0,0))∧V.heap[w.heap.size+1]?=some (.cells #[.slice A0 n0 c0,.slice A1 n1 c1,.slice A2 n2 c2,.int .i64 nx] 28 (0,0)))) {wj:World}{j b4 o4 g7 n4 c4:Nat}{id:Int}{en:Entry}(hjl:j<n4) (HBj:Hid (Below W0.heap.size W0 wj)) (HS0:Hid (∀W,Below W0.heap.size W0 W→Sl tg 86 (qe tg0) W S A0 n0 c0 l)) (pO:g7<wj.heap.size) (HRj:Hid (wj.heap[g7]?=some (.cells #[.string en.digest,.int .i64 en.len,.bool en.BC,.slice (some ⟨b4,o4,none⟩) n4 c4] 90 (0,0)))) (yI:Hid (∀V,Below W0.heap.size W0 V→V.cell? ⟨b4,o4+j,none⟩=some (.int .i64 id))) (hσ:σ.tmps.size=251) (s3:σ.eval (.tmp 3)=.pointer (some ⟨w.heap.size+1,0,none⟩)) (s12:σ.eval (.tmp 12)=.pointer (some ⟨g7,0,none⟩)) (s14:σ.eval (.tmp 14)=.int .i64 (j:Int))
  (hend:∀(v:Nat→Value) (wz:World),v 15=.int .i64 (D6 l id)→Below wj.heap.size wj wz→Q .normal (qc σ (([162,163,164,165,166,167,168,169,15]:List Nat).map fun d=>(d,v d))) wz):
  Dt.wp Tryz.prog Q σ wj:=by
 conv=>arg 2;whnf
 refine rF 251 hσ [162,163,164,165,166,167,168,169,15] [7]
   [kq 162 (w.heap.size+1) (0),kp 163 (.slice A0 n0 c0),kq 164 g7 3,kp 165 (.slice (some ⟨b4,o4,none⟩) n4 c4),ki 166 j,kq 167 (b4) (o4+j),kp 168 (.int .i64 id),(15,[7],fun l=>l.getD 0 undef)]
   [] [] (BL wj (fun i v _=>i=7→v=.int .i64 (D6 l id))) .init ⟨.q s3,?_,.q s12,.l fun us w6 hW _=>zo 3 ((hW.1.block _ pO).trans HRj.out),.q s14,?_,.l fun us w6 hW _=>yI.out w6 (zu HBj hW.1),?_,.a,trivial⟩ ?_
 ·(refine .r1 (.pointer (some ⟨w.heap.size+1,0,none⟩)) fun _ _ w6 e162 _ _ _ hW=>?_;obtain⟨r0,r1⟩:=ROW.out w6 (zu HBj hW.1);have z0:=zo 0 r0;have z1:=zo 1 r0;have z2:=zo 2 r0;have x0:=zo 0 r1;have x1:=zo 1 r1;have x2:=zo 2 r1;have x3:=zo 3 r1;clear r0 r1;simp only[execOp,e162];go_simp;try rfl)
 ·(refine .r2 (.slice (some ⟨b4,o4,none⟩) n4 c4) (.int .i64 (j:Int)) fun _ _ _ e165 e166 _ _ _ _=>?_;simp only[execOp,e165,e166];go_simp;try rfl)
 ·refine Bc.wr rfl (fun Z us w6 ho ht hni hlim gb hW K hK=>?_);have e163:=zv (ht 163 (by decide)) (.slice A0 n0 c0) rfl;have e168:=zv (ht 168 (by decide)) (.int .i64 id) rfl;have hcl:=At_c (w:=w6) (x:=id) (HS0.out w6 (zu HBj hW.1));refine qi rfl 51 #[.tmp 163,.tmp 168] #[24,3] rfl Tryz.func51 (by kernel_rfl) (by kernel_rfl) #[.slice A0 n0 c0,.int .i64 id] (by simp[e163,e168];try first|done|rfl|exact⟨rfl,rfl⟩) (hcl) ?_;rintro e w7 ⟨rfl,gh⟩;exact⟨_,rfl,hK _ _ (hW.snoc gh (fun j v h=>h) (fun _=>rfl))⟩
 intro us wz hmem hW;refine hend _ wz ?_ hW.1;exact(hW.at_ (hmem 7 (by decide)) rfl)
noncomputable def Co:Code:=((Tryz.f16.body.bind (qm 32)).getD .skip)
theorem JZ {Q:Exit→Act→World→Prop}{σ:Act}{w9:World}{av:Int}(hav:av<0) (hσ:σ.tmps.size=251) (s15:σ.eval (.tmp 15)=.int .i64 av)
  (hend:∀(v:Nat→Value) (wz:World),v 193=.bool true→Below w9.heap.size w9 wz→Q .normal (qc σ (([170,171,172,173,174,175,176,177,178,179,180,181,182,183,184,185,186,187,188,189,190,191,192,193]:List Nat).map fun d=>(d,v d))) wz):
  Co.wp Tryz.prog Q σ w9:=by
 conv=>arg 2;whnf
 refine rF 251 hσ [170,171,172,173,174,175,176,177,178,179,180,181,182,183,184,185,186,187,188,189,190,191,192,193] []
   [kp 170 (.int .i64 av),kt 171,kt 172,kt 177,kt 178,kt 193]
   [] [] (BL w9 (fun _ _ _=>True)) .init ⟨.q s15,?_,.a,.b,.b,.b,.b,.a,.a,.b,.b,.b,.b,.b,.b,.b,.b,.b,.b,.b,.b,.b,.b,.a,trivial⟩ ?_
 ·(refine .r1 (.int .i64 av) fun _ _ _ uj _ _ _ _=>?_;simp only[execOp,uj];go_simp;all_goals (first|rfl|exact congrArg Value.bool (decide_eq_false (by omega))|exact congrArg Value.bool (decide_eq_true (by omega))))
 intro us wz hmem hW;refine hend _ wz ?_ hW.1;rfl
theorem Ka {n0:Nat}{Q:Exit→Act→World→Prop}{σ:Act}{w9:World}{gN p:Nat}(uW:p<n0) (vT:Hid (∀V,Below w9.heap.size w9 V→V.cell? ⟨gN,p,none⟩=some (.bool true))) (hσ:σ.tmps.size=251) (s15:σ.eval (.tmp 15)=.int .i64 (p:Int)) (s10:σ.eval (.tmp 10)=.slice (some ⟨gN,0,none⟩) n0 n0)
  (hend:∀(v:Nat→Value) (wz:World),v 193=.bool true→Below w9.heap.size w9 wz→Q .normal (qc σ (([170,171,172,173,174,175,176,177,178,179,180,181,182,183,184,185,186,187,188,189,190,191,192,193]:List Nat).map fun d=>(d,v d))) wz):
  Co.wp Tryz.prog Q σ w9:=by
 conv=>arg 2;whnf
 refine rF 251 hσ [170,171,172,173,174,175,176,177,178,179,180,181,182,183,184,185,186,187,188,189,190,191,192,193] []
   [ki 170 p,kf 171,kf 172,kp 173 (.slice (some ⟨gN,0,none⟩) n0 n0),ki 174 p,kq 175 (gN) (p),kt 176,kt 177,kt 178,kt 193]
   [] [] (BL w9 (fun _ _ _=>True)) .init ⟨.q s15,?_,.a,.q s10,.q s15,?_,.l fun us w6 hW _=>vT.out w6 hW.1,.a,.a,.b,.b,.b,.b,.b,.b,.b,.b,.b,.b,.b,.b,.b,.b,.a,trivial⟩ ?_
 ·(refine .r1 (.int .i64 (p:Int)) fun _ _ _ uj _ _ _ _=>?_;simp only[execOp,uj];go_simp;all_goals (first|rfl|exact congrArg Value.bool (decide_eq_false (by omega))|exact congrArg Value.bool (decide_eq_true (by omega))))
 ·(refine .r2 (.slice (some ⟨gN,0,none⟩) n0 n0) (.int .i64 (p:Int)) fun _ _ _ vU pU _ _ _ _=>?_;simp only[execOp,vU,pU];go_simp;try rfl)
 intro us wz hmem hW;refine hend _ wz ?_ hW.1;rfl
theorem Kb {w W0:World}{A0 A1 A2:Option Addr}{n0 c0 n1 c1 n2 c2:Nat}{s:Shape}{nx:Int}{Q:Exit→Act→World→Prop}{σ:Act}(ROW:Hid (∀V,Below W0.heap.size W0 V→V.heap[w.heap.size]?=some (.cells #[.int .i64 s.K,.int .i64 s.M,.int .i64 s.size] 23 (0,0))∧V.heap[w.heap.size+1]?=some (.cells #[.slice A0 n0 c0,.slice A1 n1 c1,.slice A2 n2 c2,.int .i64 nx] 28 (0,0)))) {w9:World}{gN p bE oE:Nat}{lf yl:Int}(gy:Hid (Below W0.heap.size W0 w9)) (uW:p<n0) (eE:A0=some ⟨bE,oE,none⟩) (vT:Hid (∀V,Below w9.heap.size w9 V→V.cell? ⟨gN,p,none⟩=some (.bool false))) (HCY:Hid (∀V,Below W0.heap.size W0 V→V.cell? ⟨bE,oE+p* 4+1,none⟩=some (.int .i64 yl))) (hW1:1≤s.K* s.size) (hW2:s.K* s.size≤960) (hne:(yl !=min lf (s.K* s.size))=true) (hσ:σ.tmps.size=251) (s15:σ.eval (.tmp 15)=.int .i64 (p:Int)) (s10:σ.eval (.tmp 10)=.slice (some ⟨gN,0,none⟩) n0 n0) (s3:σ.eval (.tmp 3)=.pointer (some ⟨w.heap.size+1,0,none⟩)) (s2:σ.eval (.tmp 2)=.pointer (some ⟨w.heap.size,0,none⟩)) (s13:σ.eval (.tmp 13)=.int .i64 lf)
  (hend:∀(v:Nat→Value) (wz:World),v 193=.bool true→Below w9.heap.size w9 wz→Q .normal (qc σ (([170,171,172,173,174,175,176,177,178,179,180,181,182,183,184,185,186,187,188,189,190,191,192,193]:List Nat).map fun d=>(d,v d))) wz):
  Co.wp Tryz.prog Q σ w9:=by
 conv=>arg 2;whnf
 subst eE
 refine rF 251 hσ [170,171,172,173,174,175,176,177,178,179,180,181,182,183,184,185,186,187,188,189,190,191,192,193] []
   [ki 170 p,kf 171,kf 172,kp 173 (.slice (some ⟨gN,0,none⟩) n0 n0),ki 174 p,kq 175 (gN) (p),kf 176,kf 177,kf 178,kq 179 (w.heap.size+1) (0),kp 180 (.slice (some ⟨bE,oE,none⟩) n0 c0),ki 181 p,kq 182 (bE) (oE+p* 4),kq 183 (bE) (oE+p* 4+1),kp 184 (.int .i64 yl),kp 185 (.int .i64 lf),kq 186 w.heap.size 0,kp 187 (.int .i64 s.K),kq 188 w.heap.size 2,kp 189 (.int .i64 s.size),kp 190 (.int .i64 (s.K* s.size)),kp 191 (.int .i64 (min lf (s.K* s.size))),kt 192,kt 193]
   [] [] (BL w9 (fun _ _ _=>True)) .init ⟨.q s15,?_,.a,.q s10,.q s15,?_,.l fun us w6 hW _=>vT.out w6 hW.1,.a,.a,.q s3,?_,.q s15,?_,.a,.l fun us w6 hW _=>HCY.out w6 (zu gy hW.1),.q s13,.q s2,?_,.q s2,?_,?_,?_,?_,.a,trivial⟩ ?_
 ·(refine .r1 (.int .i64 (p:Int)) fun _ _ _ uj _ _ _ _=>?_;simp only[execOp,uj];go_simp;all_goals (first|rfl|exact congrArg Value.bool (decide_eq_false (by omega))|exact congrArg Value.bool (decide_eq_true (by omega))))
 ·(refine .r2 (.slice (some ⟨gN,0,none⟩) n0 n0) (.int .i64 (p:Int)) fun _ _ _ vU pU _ _ _ _=>?_;simp only[execOp,vU,pU];go_simp;try rfl)
 ·(refine .r1 (.pointer (some ⟨w.heap.size+1,0,none⟩)) fun _ _ w6 e179 _ _ _ hW=>?_;obtain⟨r0,r1⟩:=ROW.out w6 (zu gy hW.1);have z0:=zo 0 r0;have z1:=zo 1 r0;have z2:=zo 2 r0;have x0:=zo 0 r1;have x1:=zo 1 r1;have x2:=zo 2 r1;have x3:=zo 3 r1;clear r0 r1;simp only[execOp,e179];go_simp;try rfl)
 ·(refine .r2 (.slice (some ⟨bE,oE,none⟩) n0 c0) (.int .i64 (p:Int)) fun _ _ _ vV e181 _ _ _ _=>?_;simp only[execOp,vV,e181];go_simp;try rfl)
 ·(refine .r1 (.pointer (some ⟨w.heap.size,0,none⟩)) fun _ _ w6 e186 _ _ _ hW=>?_;obtain⟨r0,r1⟩:=ROW.out w6 (zu gy hW.1);have z0:=zo 0 r0;have z1:=zo 1 r0;have z2:=zo 2 r0;have x0:=zo 0 r1;have x1:=zo 1 r1;have x2:=zo 2 r1;have x3:=zo 3 r1;clear r0 r1;simp only[execOp,e186];go_simp;try rfl)
 ·(refine .r1 (.pointer (some ⟨w.heap.size,2,none⟩)) fun _ _ w6 e188 _ _ _ hW=>?_;obtain⟨r0,r1⟩:=ROW.out w6 (zu gy hW.1);have z0:=zo 0 r0;have z1:=zo 1 r0;have z2:=zo 2 r0;have x0:=zo 0 r1;have x1:=zo 1 r1;have x2:=zo 2 r1;have x3:=zo 3 r1;clear r0 r1;simp only[execOp,e188];go_simp;try rfl)
 ·(refine .r2 (.int .i64 s.K) (.int .i64 s.size) fun _ _ _ e187 e189 _ _ _ _=>?_;simp only[execOp,e187,e189];go_simp;rw[Go.IntWalk.i64_in _ (by omega)];rfl)
 ·(refine .r2 (.int .i64 lf) (.int .i64 (s.K* s.size)) fun _ _ _ _ _ _ _ _ _=>?_;simp only[execOp];go_simp;rw[show(if s.K* s.size<lf then s.K* s.size else lf)=min lf (s.K* s.size) by split<;>omega];rfl)
 ·(refine .r2 (.int .i64 yl) (.int .i64 (min lf (s.K* s.size))) fun _ _ _ e184 e191 _ _ _ _=>?_;simp only[execOp,e184,e191];go_simp;try rfl)
 intro us wz hmem hW;refine hend _ wz ?_ hW.1;rfl
theorem Kc {w W0:World}{A0 A1 A2:Option Addr}{n0 c0 n1 c1 n2 c2:Nat}{s:Shape}{nx:Int}{Q:Exit→Act→World→Prop}{σ:Act}(ROW:Hid (∀V,Below W0.heap.size W0 V→V.heap[w.heap.size]?=some (.cells #[.int .i64 s.K,.int .i64 s.M,.int .i64 s.size] 23 (0,0))∧V.heap[w.heap.size+1]?=some (.cells #[.slice A0 n0 c0,.slice A1 n1 c1,.slice A2 n2 c2,.int .i64 nx] 28 (0,0)))) {w9:World}{gN p bE oE:Nat}{lf yl:Int}(gy:Hid (Below W0.heap.size W0 w9)) (uW:p<n0) (eE:A0=some ⟨bE,oE,none⟩) (vT:Hid (∀V,Below w9.heap.size w9 V→V.cell? ⟨gN,p,none⟩=some (.bool false))) (HCY:Hid (∀V,Below W0.heap.size W0 V→V.cell? ⟨bE,oE+p* 4+1,none⟩=some (.int .i64 yl))) (hW1:1≤s.K* s.size) (hW2:s.K* s.size≤960) (hne:(yl !=min lf (s.K* s.size))=false) (hσ:σ.tmps.size=251) (s15:σ.eval (.tmp 15)=.int .i64 (p:Int)) (s10:σ.eval (.tmp 10)=.slice (some ⟨gN,0,none⟩) n0 n0) (s3:σ.eval (.tmp 3)=.pointer (some ⟨w.heap.size+1,0,none⟩)) (s2:σ.eval (.tmp 2)=.pointer (some ⟨w.heap.size,0,none⟩)) (s13:σ.eval (.tmp 13)=.int .i64 lf)
  (hend:∀(v:Nat→Value) (wz:World),v 193=.bool false→Below w9.heap.size w9 wz→Q .normal (qc σ (([170,171,172,173,174,175,176,177,178,179,180,181,182,183,184,185,186,187,188,189,190,191,192,193]:List Nat).map fun d=>(d,v d))) wz):
  Co.wp Tryz.prog Q σ w9:=by
 conv=>arg 2;whnf
 subst eE
 refine rF 251 hσ [170,171,172,173,174,175,176,177,178,179,180,181,182,183,184,185,186,187,188,189,190,191,192,193] []
   [ki 170 p,kf 171,kf 172,kp 173 (.slice (some ⟨gN,0,none⟩) n0 n0),ki 174 p,kq 175 (gN) (p),kf 176,kf 177,kf 178,kq 179 (w.heap.size+1) (0),kp 180 (.slice (some ⟨bE,oE,none⟩) n0 c0),ki 181 p,kq 182 (bE) (oE+p* 4),kq 183 (bE) (oE+p* 4+1),kp 184 (.int .i64 yl),kp 185 (.int .i64 lf),kq 186 w.heap.size 0,kp 187 (.int .i64 s.K),kq 188 w.heap.size 2,kp 189 (.int .i64 s.size),kp 190 (.int .i64 (s.K* s.size)),kp 191 (.int .i64 (min lf (s.K* s.size))),kf 192,kf 193]
   [] [] (BL w9 (fun _ _ _=>True)) .init ⟨.q s15,?_,.a,.q s10,.q s15,?_,.l fun us w6 hW _=>vT.out w6 hW.1,.a,.a,.q s3,?_,.q s15,?_,.a,.l fun us w6 hW _=>HCY.out w6 (zu gy hW.1),.q s13,.q s2,?_,.q s2,?_,?_,?_,?_,.a,trivial⟩ ?_
 ·(refine .r1 (.int .i64 (p:Int)) fun _ _ _ uj _ _ _ _=>?_;simp only[execOp,uj];go_simp;all_goals (first|rfl|exact congrArg Value.bool (decide_eq_false (by omega))|exact congrArg Value.bool (decide_eq_true (by omega))))
 ·(refine .r2 (.slice (some ⟨gN,0,none⟩) n0 n0) (.int .i64 (p:Int)) fun _ _ _ vU pU _ _ _ _=>?_;simp only[execOp,vU,pU];go_simp;try rfl)
 ·(refine .r1 (.pointer (some ⟨w.heap.size+1,0,none⟩)) fun _ _ w6 e179 _ _ _ hW=>?_;obtain⟨r0,r1⟩:=ROW.out w6 (zu gy hW.1);have z0:=zo 0 r0;have z1:=zo 1 r0;have z2:=zo 2 r0;have x0:=zo 0 r1;have x1:=zo 1 r1;have x2:=zo 2 r1;have x3:=zo 3 r1;clear r0 r1;simp only[execOp,e179];go_simp;try rfl)
 ·(refine .r2 (.slice (some ⟨bE,oE,none⟩) n0 c0) (.int .i64 (p:Int)) fun _ _ _ vV e181 _ _ _ _=>?_;simp only[execOp,vV,e181];go_simp;try rfl)
 ·(refine .r1 (.pointer (some ⟨w.heap.size,0,none⟩)) fun _ _ w6 e186 _ _ _ hW=>?_;obtain⟨r0,r1⟩:=ROW.out w6 (zu gy hW.1);have z0:=zo 0 r0;have z1:=zo 1 r0;have z2:=zo 2 r0;have x0:=zo 0 r1;have x1:=zo 1 r1;have x2:=zo 2 r1;have x3:=zo 3 r1;clear r0 r1;simp only[execOp,e186];go_simp;try rfl)
 ·(refine .r1 (.pointer (some ⟨w.heap.size,2,none⟩)) fun _ _ w6 e188 _ _ _ hW=>?_;obtain⟨r0,r1⟩:=ROW.out w6 (zu gy hW.1);have z0:=zo 0 r0;have z1:=zo 1 r0;have z2:=zo 2 r0;have x0:=zo 0 r1;have x1:=zo 1 r1;have x2:=zo 2 r1;have x3:=zo 3 r1;clear r0 r1;simp only[execOp,e188];go_simp;try rfl)
 ·(refine .r2 (.int .i64 s.K) (.int .i64 s.size) fun _ _ _ e187 e189 _ _ _ _=>?_;simp only[execOp,e187,e189];go_simp;rw[Go.IntWalk.i64_in _ (by omega)];rfl)
 ·(refine .r2 (.int .i64 lf) (.int .i64 (s.K* s.size)) fun _ _ _ _ _ _ _ _ _=>?_;simp only[execOp];go_simp;rw[show(if s.K* s.size<lf then s.K* s.size else lf)=min lf (s.K* s.size) by split<;>omega];rfl)
 ·(refine .r2 (.int .i64 yl) (.int .i64 (min lf (s.K* s.size))) fun _ _ _ e184 e191 _ _ _ _=>?_;simp only[execOp,e184,e191];go_simp;try rfl)
 intro us wz hmem hW;refine hend _ wz ?_ hW.1;rfl
end Go.Proofs.YtipecejghioicaaGreat
