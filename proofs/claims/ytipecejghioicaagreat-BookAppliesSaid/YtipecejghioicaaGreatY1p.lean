/- Rows of one's own, of elements of any size: put in, taken out, written over. -/
import Derived.Test.YtipecejghioicaaGreatR4p
import Derived.Test.YtipecejghioicaaGreatE2p
import Derived.Deep.Cut
import Derived.Test.YtipecejghioicaaGreatDatap
import Derived.Test.YtipecejghioicaaGreatQ12p
import Derived.Test.YtipecejghioicaaGreatN2p
import Derived.Test.YtipecejghioicaaGreatB6p
import Derived.Test.YtipecejghioicaaGreatBasep
import Derived.Laws.CopyRow
import Derived.Laws.IdiomCopy
set_option maxHeartbeats 400000
namespace Go.Proofs.YtipecejghioicaaGreat
open Go.RowKit Go.Silo
theorem Qk {tg:Bool}{T:TypeId}{S:Nat→Prop}{w:World}{A:Option Addr}{n c:Nat}{xs:List (Slot)}(h:Sl tg T qp w S A n c xs) (hn:n≤100000000):
  Calls Tryz.prog 94 #[.slice A n c] w (qF 88 qp w xs):=by
 obtain⟨i0,hi,hz0,hz1,hz2⟩:=info_parts Tryz.CB;have HL:=zh h.len;have hq:=fun W:World=>Lib.run_eql_slice_nil (P:=Tryz.prog) W 59 88 A n c 0 0 Tryz.underlying59
 cases A with
 |none=>
  go_enter Tryz.func94,Tryz.ntmps94
  go_wp2
  go_ret
  have hn0:n=0:=by
   rcases Nat.eq_zero_or_pos n with h0|h0
   ·exact h0
   obtain⟨_,_,e,_⟩:=h.2.2.2 h0;cases e
  subst hn0;obtain rfl:xs=[]:=List.eq_nil_of_length_eq_zero HL.out;exact⟨none,0,rfl,Bo.Bz,Below.refl _ _⟩
 |some ad=>
  have pV:Bo 88 qp (w.alloc (.cells #[] 88)) w.heap.size (fun b=>w.heap.size≤b) (some ⟨w.heap.size,0,none⟩) 0 0 []:=Bo.lit [] [] 0 (Nat.le_refl _) (by omega) (by simp) rfl (fun k y hy=>by simp at hy);have hsl:=(h.Bd).frame (Agree.alloc _ w (.cells #[] 88)) (by simp);rcases Nat.eq_zero_or_pos n with h0|h0
  ·subst h0;obtain rfl:xs=[]:=List.eq_nil_of_length_eq_zero HL.out
   go_enter Tryz.func94,Tryz.ntmps94
   go_wp2_with (at_builtin;refine zy rfl _ _ 59 rfl i0 (.agg #[.int .i64 0,.int .i64 0]) 16 Tryz.underlying59 hi hz0 hz1 hz2 rfl (by decide) rfl pV ad 0 _ [] [] rfl (by simp) (fun j u hj=>by simp at hj) rfl (fun k y hy=>by simp at hy) (fun u hu=>by simp at hu) (by omega) (by omega) (by simp) ?_)
   intro A2 c2 w2 hown2 hg2 _;go_wp2
   go_ret
   exact⟨A2,c2,rfl,hown2,((Below.refl _ w).alloc (Nat.le_refl _) _).grown hg2 (by simp) (fun k hk=>by simp[qd] at hk;omega)⟩
  obtain⟨b,off,e,_⟩:=h.2.2.2 h0;injection e with e
  subst e
  go_enter Tryz.func94,Tryz.ntmps94
  go_wp2_with (at_builtin;refine qB rfl _ _ 59 rfl i0 (.agg #[.int .i64 0,.int .i64 0]) 16 Tryz.underlying59 hi hz0 hz1 hz2 rfl (by decide) rfl pV rfl hsl (fun vs y _ hR=>hR) (by omega) (by omega) (by simp) ?_)
  intro A2 c2 w2 hown2 hg2 _
  try simp only[Nat.zero_add,List.nil_append] at hown2
  have e1:=HL.out;subst e1;go_wp2
  go_ret
  exact⟨A2,c2,by simp,hown2,((Below.refl _ w).alloc (Nat.le_refl _) _).grown hg2 (by simp) (fun k hk=>by simp[qd] at hk;omega)⟩
end Go.Proofs.YtipecejghioicaaGreat
set_option maxHeartbeats 8000000
set_option maxRecDepth 100000
namespace Go.Proofs.YtipecejghioicaaGreat
open Go.RowKit Go.Silo
theorem XL (x y:ByteArray) (W:World):(binOp .lss 9 (.string x) (.string y)).run Tryz.prog W=.ok (.bool (qo x y)) W:=by
 simp[binOp,go_sem,Op.stringOp,qo]
theorem Ql (x y:ByteArray):(x.toList==y.toList)=decide (x=y):=by
 rw[Bool.eq_iff_iff];simp[toList_inj]
noncomputable def Db:Code:=((Tryz.f32.body.bind (qm 22)).getD .skip)
theorem EZ {Q:Exit→Act→World→Prop}{σ:Act}{w:World}{g2:Nat}{D0 D1 D2:Option Addr}{d0 e0 d1 e1 d2 e2:Nat}{nx:Int}(R2:Hid (w.heap[g2]?=some (.cells #[.slice D0 d0 e0,.slice D1 d1 e1,.slice D2 d2 e2,.int .i64 nx] 28 (0,0)))) {k:Nat}(hlt:¬k<d0) (hσ:σ.tmps.size=264) (s7:σ.eval (.tmp 7)=.int .i64 (k:Int)) (s2:σ.eval (.tmp 2)=.pointer (some ⟨g2,0,none⟩))
  (hend:∀(v:Nat→Value) (wz:World),v 134=.bool false→Below w.heap.size w wz→Q .normal (qa σ (([119,120,121,122,123,124,125,126,127,128,129,130,131,132,133,134]:List Nat).map fun d=>(d,v d))) wz):
  Db.wp Tryz.prog Q σ w:=by
 conv=>arg 2;whnf
 refine rF 264 hσ [119,120,121,122,123,124,125,126,127,128,129,130,131,132,133,134] []
   [ki 119 k,kq 120 g2 0,kp 121 (.slice D0 d0 e0),ki 122 d0,kf 123,kf 124,kf 134]
   [] [] (BZ w (fun _ _ _=>True)) .init ⟨.q s7,.q s2,.l fun us w6 hW _=>zo 0 (zb hW.1 R2.out),.n (.slice D0 d0 e0),?_,.a,.b,.b,.b,.b,.b,.b,.b,.b,.b,.a,trivial⟩ ?_
 ·(refine .r2 (.int .i64 (k:Int)) (.int .i64 (d0:Int)) fun _ _ _ nG nM _ _ _ _=>?_;simp only[execOp,nG,nM];go_simp;first|rfl|(simp;done)|(simp;omega)|(simp[*];done))
 intro us wz hmem hW;exact hend _ wz rfl hW.1
theorem F3 {Q:Exit→Act→World→Prop}{σ:Act}{w:World}{g2 g3:Nat}{D0 D1 D2 A4 A5:Option Addr}{d0 e0 d1 e1 d2 e2 n4 c4 n5 c5:Nat}{nx kd id:Int}{nm dg:ByteArray}(R2:Hid (w.heap[g2]?=some (.cells #[.slice D0 d0 e0,.slice D1 d1 e1,.slice D2 d2 e2,.int .i64 nx] 28 (0,0)))) (R3:Hid (w.heap[g3]?=some (.cells #[.int .i64 kd,.int .i64 id,.string nm,.string dg,.slice A4 n4 c4,.slice A5 n5 c5] 61 (0,0)))) {k:Nat}{b9 o9:Nat}{yk:Int}(hlt:k<d0) (eD:D0=some ⟨b9,o9,none⟩) (mM:Hid (∀V,Below w.heap.size w V→V.cell? ⟨b9,o9+k* 4,none⟩=some (.int .i64 yk))) (hσ:σ.tmps.size=264) (s7:σ.eval (.tmp 7)=.int .i64 (k:Int)) (s2:σ.eval (.tmp 2)=.pointer (some ⟨g2,0,none⟩)) (s3:σ.eval (.tmp 3)=.pointer (some ⟨g3,0,none⟩))
  (hend:∀(v:Nat→Value) (wz:World),v 134=.bool (decide (yk<id))→Below w.heap.size w wz→Q .normal (qa σ (([119,120,121,122,123,124,125,126,127,128,129,130,131,132,133,134]:List Nat).map fun d=>(d,v d))) wz):
  Db.wp Tryz.prog Q σ w:=by
 conv=>arg 2;whnf
 subst eD
 refine rF 264 hσ [119,120,121,122,123,124,125,126,127,128,129,130,131,132,133,134] []
   [ki 119 k,kq 120 g2 0,kp 121 (.slice (some ⟨b9,o9,none⟩) d0 e0),ki 122 d0,kt 123,kt 124,kq 125 g2 0,kp 126 (.slice (some ⟨b9,o9,none⟩) d0 e0),ki 127 k,kq 128 (b9) (o9+k* 4),kq 129 (b9) (o9+k* 4),kp 130 (.int .i64 yk),kq 131 g3 1,kp 132 (.int .i64 id),kp 133 (.bool (decide (yk<id))),kp 134 (.bool (decide (yk<id)))]
   [] [] (BZ w (fun _ _ _=>True)) .init ⟨.q s7,.q s2,.l fun us w6 hW _=>zo 0 (zb hW.1 R2.out),.n (.slice (some ⟨b9,o9,none⟩) d0 e0),?_,.a,.q s2,.l fun us w6 hW _=>zo 0 (zb hW.1 R2.out),.q s7,?_,.a,.l fun us w6 hW _=>mM.out w6 hW.1,.q s3,.l fun us w6 hW _=>zo 1 (zb hW.1 R3.out),.a,.a,trivial⟩ ?_
 ·(refine .r2 (.int .i64 (k:Int)) (.int .i64 (d0:Int)) fun _ _ _ nG nM _ _ _ _=>?_;simp only[execOp,nG,nM];go_simp;first|rfl|(simp;done)|(simp;omega)|(simp[*];done))
 ·(refine .r2 (.slice (some ⟨b9,o9,none⟩) d0 e0) (.int .i64 (k:Int)) fun _ _ _ uV u7 _ _ _ _=>?_;simp only[execOp,uV,u7];go_simp;first|rfl|(simp;omega)|(congr;omega))
 intro us wz hmem hW;exact hend _ wz rfl hW.1
noncomputable def Dc:Code:=((Tryz.f32.body.bind (qm 25)).getD .skip)
theorem F4 {Q:Exit→Act→World→Prop}{σ:Act}{w:World}{R8:Option Addr}{e8:Nat}(hσ:σ.tmps.size=264) (s8:σ.eval (.tmp 8)=.slice R8 0 e8)
  (hend:∀(v:Nat→Value) (wz:World),v 152=.bool false→Below w.heap.size w wz→Q .normal (qa σ (([141,142,143,144,145,146,147,148,149,150,151,152]:List Nat).map fun d=>(d,v d))) wz):
  Dc.wp Tryz.prog Q σ w:=by
 conv=>arg 2;whnf
 refine rF 264 hσ [141,142,143,144,145,146,147,148,149,150,151,152] []
   [kp 141 (.slice R8 0 e8),ki 142 0,kf 143,kf 144,kf 152]
   [] [] (BZ w (fun _ _ _=>True)) .init ⟨.q s8,.n (.slice R8 0 e8),?_,.a,.b,.b,.b,.b,.b,.b,.b,.a,trivial⟩ ?_
 ·(refine .r1 (.int .i64 (0:Int)) fun _ _ _ e142 _ _ _ _=>?_;simp only[execOp,e142];go_simp;first|rfl|(simp;done)|(simp;omega)|(simp[*];done))
 intro us wz hmem hW;exact hend _ wz rfl hW.1
theorem F5 {Q:Exit→Act→World→Prop}{σ:Act}{w:World}{g3:Nat}{A4 A5:Option Addr}{n4 c4 n5 c5:Nat}{kd id:Int}{nm dg:ByteArray}(R3:Hid (w.heap[g3]?=some (.cells #[.int .i64 kd,.int .i64 id,.string nm,.string dg,.slice A4 n4 c4,.slice A5 n5 c5] 61 (0,0)))) {b9 o9 m8 e8:Nat}{q:Bool}{yk:Int}(hm:0<m8) (hq:decide (yk=id)=q) (mM:Hid (∀V,Below w.heap.size w V→V.cell? ⟨b9,o9,none⟩=some (.int .i64 yk))) (hσ:σ.tmps.size=264) (s8:σ.eval (.tmp 8)=.slice (some ⟨b9,o9,none⟩) m8 e8) (s3:σ.eval (.tmp 3)=.pointer (some ⟨g3,0,none⟩))
  (hend:∀(v:Nat→Value) (wz:World),v 152=.bool q→Below w.heap.size w wz→Q .normal (qa σ (([141,142,143,144,145,146,147,148,149,150,151,152]:List Nat).map fun d=>(d,v d))) wz):
  Dc.wp Tryz.prog Q σ w:=by
 conv=>arg 2;whnf
 refine rF 264 hσ [141,142,143,144,145,146,147,148,149,150,151,152] []
   [kp 141 (.slice (some ⟨b9,o9,none⟩) m8 e8),ki 142 m8,kt 143,kt 144,kp 145 (.slice (some ⟨b9,o9,none⟩) m8 e8),kq 146 (b9) (o9),kq 147 (b9) (o9),kp 148 (.int .i64 yk),kq 149 g3 1,kp 150 (.int .i64 id),kp 151 (.bool q),kp 152 (.bool q)]
   [] [] (BZ w (fun _ _ _=>True)) .init ⟨.q s8,.n (.slice (some ⟨b9,o9,none⟩) m8 e8),?_,.a,.q s8,?_,.a,.l fun us w6 hW _=>mM.out w6 hW.1,.q s3,.l fun us w6 hW _=>zo 1 (zb hW.1 R3.out),?_,.a,trivial⟩ ?_
 ·(refine .r1 (.int .i64 (m8:Int)) fun _ _ _ e142 _ _ _ _=>?_;simp only[execOp,e142];go_simp;first|rfl|(simp;done)|(simp;omega)|(simp[*];done))
 ·(refine .r1 (.slice (some ⟨b9,o9,none⟩) m8 e8) fun _ _ _ e145 _ _ _ _=>?_;simp only[execOp,e145];go_simp;first|rfl|(simp;omega)|(congr;omega))
 ·(refine .r2 (.int .i64 yk) (.int .i64 id) fun _ _ _ e148 rE _ _ _ _=>?_;simp only[execOp,e148,rE];go_simp;first|rfl|(rw[←hq];rfl)|(rw[←hq];simp;done)|(simp[←hq];done))
 intro us wz hmem hW;exact hend _ wz rfl hW.1
noncomputable def De:Code:=((Tryz.f32.body.bind (qm 37)).getD .skip)
theorem Xk {Q:Exit→Act→World→Prop}{σ:Act}{w:World}{g2:Nat}{D0 D1 D2:Option Addr}{d0 e0 d1 e1 d2 e2:Nat}{nx:Int}(R2:Hid (w.heap[g2]?=some (.cells #[.slice D0 d0 e0,.slice D1 d1 e1,.slice D2 d2 e2,.int .i64 nx] 28 (0,0)))) {k:Nat}(hlt:¬k<d1) (hσ:σ.tmps.size=264) (s10:σ.eval (.tmp 10)=.int .i64 (k:Int)) (s2:σ.eval (.tmp 2)=.pointer (some ⟨g2,0,none⟩))
  (hend:∀(v:Nat→Value) (wz:World),v 207=.bool false→Below w.heap.size w wz→Q .normal (qa σ (([192,193,194,195,196,197,198,199,200,201,202,203,204,205,206,207]:List Nat).map fun d=>(d,v d))) wz):
  De.wp Tryz.prog Q σ w:=by
 conv=>arg 2;whnf
 refine rF 264 hσ [192,193,194,195,196,197,198,199,200,201,202,203,204,205,206,207] []
   [ki 192 k,kq 193 g2 1,kp 194 (.slice D1 d1 e1),ki 195 d1,kf 196,kf 197,kf 207]
   [] [] (BZ w (fun _ _ _=>True)) .init ⟨.q s10,.q s2,.l fun us w6 hW _=>zo 1 (zb hW.1 R2.out),.n (.slice D1 d1 e1),?_,.a,.b,.b,.b,.b,.b,.b,.b,.b,.b,.a,trivial⟩ ?_
 ·(refine .r2 (.int .i64 (k:Int)) (.int .i64 (d1:Int)) fun _ _ _ e192 e195 _ _ _ _=>?_;simp only[execOp,e192,e195];go_simp;first|rfl|(simp;done)|(simp;omega)|(simp[*];done))
 intro us wz hmem hW;exact hend _ wz rfl hW.1
theorem Xl {Q:Exit→Act→World→Prop}{σ:Act}{w:World}{g2 g3:Nat}{D0 D1 D2 A4 A5:Option Addr}{d0 e0 d1 e1 d2 e2 n4 c4 n5 c5:Nat}{nx kd id:Int}{nm dg:ByteArray}(R2:Hid (w.heap[g2]?=some (.cells #[.slice D0 d0 e0,.slice D1 d1 e1,.slice D2 d2 e2,.int .i64 nx] 28 (0,0)))) (R3:Hid (w.heap[g3]?=some (.cells #[.int .i64 kd,.int .i64 id,.string nm,.string dg,.slice A4 n4 c4,.slice A5 n5 c5] 61 (0,0)))) {k:Nat}{b9 o9:Nat}{yk:ByteArray}(hlt:k<d1) (eD:D1=some ⟨b9,o9,none⟩) (mM:Hid (∀V,Below w.heap.size w V→V.cell? ⟨b9,o9+k* 4,none⟩=some (.string yk))) (hσ:σ.tmps.size=264) (s10:σ.eval (.tmp 10)=.int .i64 (k:Int)) (s2:σ.eval (.tmp 2)=.pointer (some ⟨g2,0,none⟩)) (s3:σ.eval (.tmp 3)=.pointer (some ⟨g3,0,none⟩))
  (hend:∀(v:Nat→Value) (wz:World),v 207=.bool (qo yk dg)→Below w.heap.size w wz→Q .normal (qa σ (([192,193,194,195,196,197,198,199,200,201,202,203,204,205,206,207]:List Nat).map fun d=>(d,v d))) wz):
  De.wp Tryz.prog Q σ w:=by
 conv=>arg 2;whnf
 subst eD
 refine rF 264 hσ [192,193,194,195,196,197,198,199,200,201,202,203,204,205,206,207] []
   [ki 192 k,kq 193 g2 1,kp 194 (.slice (some ⟨b9,o9,none⟩) d1 e1),ki 195 d1,kt 196,kt 197,kq 198 g2 1,kp 199 (.slice (some ⟨b9,o9,none⟩) d1 e1),ki 200 k,kq 201 (b9) (o9+k* 4),kq 202 (b9) (o9+k* 4),kp 203 (.string yk),kq 204 g3 3,kp 205 (.string dg),kp 206 (.bool (qo yk dg)),kp 207 (.bool (qo yk dg))]
   [] [] (BZ w (fun _ _ _=>True)) .init ⟨.q s10,.q s2,.l fun us w6 hW _=>zo 1 (zb hW.1 R2.out),.n (.slice (some ⟨b9,o9,none⟩) d1 e1),?_,.a,.q s2,.l fun us w6 hW _=>zo 1 (zb hW.1 R2.out),.q s10,?_,.a,.l fun us w6 hW _=>mM.out w6 hW.1,.q s3,.l fun us w6 hW _=>zo 3 (zb hW.1 R3.out),?_,.a,trivial⟩ ?_
 ·(refine .r2 (.int .i64 (k:Int)) (.int .i64 (d1:Int)) fun _ _ _ e192 e195 _ _ _ _=>?_;simp only[execOp,e192,e195];go_simp;first|rfl|(simp;done)|(simp;omega)|(simp[*];done))
 ·(refine .r2 (.slice (some ⟨b9,o9,none⟩) d1 e1) (.int .i64 (k:Int)) fun _ _ _ e199 e200 _ _ _ _=>?_;simp only[execOp,e199,e200];go_simp;first|rfl|(simp;omega)|(congr;omega))
 ·(refine .r2 (.string yk) (.string dg) fun _ _ _ e203 e205 _ _ _ _=>?_;simp only[execOp,e203,e205];go_simp;first|rfl|exact XL _ _ _|(simp[binOp,go_sem,Op.stringOp,qo];done))
 intro us wz hmem hW;exact hend _ wz rfl hW.1
noncomputable def Df:Code:=((Tryz.f32.body.bind (qm 40)).getD .skip)
theorem Xm {Q:Exit→Act→World→Prop}{σ:Act}{w:World}{R8:Option Addr}{e8:Nat}(hσ:σ.tmps.size=264) (s11:σ.eval (.tmp 11)=.slice R8 0 e8)
  (hend:∀(v:Nat→Value) (wz:World),v 12=.bool false→Below w.heap.size w wz→Q .normal (qa σ (([214,215,216,217,218,219,220,221,222,223,224,225,12]:List Nat).map fun d=>(d,v d))) wz):
  Df.wp Tryz.prog Q σ w:=by
 conv=>arg 2;whnf
 refine rF 264 hσ [214,215,216,217,218,219,220,221,222,223,224,225,12] []
   [kp 214 (.slice R8 0 e8),ki 215 0,kf 216,kf 217,kf 225,kf 12]
   [] [] (BZ w (fun _ _ _=>True)) .init ⟨.q s11,.n (.slice R8 0 e8),?_,.a,.b,.b,.b,.b,.b,.b,.b,.a,.a,trivial⟩ ?_
 ·(refine .r1 (.int .i64 (0:Int)) fun _ _ _ e215 _ _ _ _=>?_;simp only[execOp,e215];go_simp;first|rfl|(simp;done)|(simp;omega)|(simp[*];done))
 intro us wz hmem hW;exact hend _ wz rfl hW.1
theorem Xn {Q:Exit→Act→World→Prop}{σ:Act}{w:World}{g3:Nat}{A4 A5:Option Addr}{n4 c4 n5 c5:Nat}{kd id:Int}{nm dg:ByteArray}(R3:Hid (w.heap[g3]?=some (.cells #[.int .i64 kd,.int .i64 id,.string nm,.string dg,.slice A4 n4 c4,.slice A5 n5 c5] 61 (0,0)))) {b9 o9 m8 e8:Nat}{q:Bool}{yk:ByteArray}(hm:0<m8) (hq:decide (yk=dg)=q) (mM:Hid (∀V,Below w.heap.size w V→V.cell? ⟨b9,o9,none⟩=some (.string yk))) (hσ:σ.tmps.size=264) (s11:σ.eval (.tmp 11)=.slice (some ⟨b9,o9,none⟩) m8 e8) (s3:σ.eval (.tmp 3)=.pointer (some ⟨g3,0,none⟩))
  (hend:∀(v:Nat→Value) (wz:World),v 12=.bool q→Below w.heap.size w wz→Q .normal (qa σ (([214,215,216,217,218,219,220,221,222,223,224,225,12]:List Nat).map fun d=>(d,v d))) wz):
  Df.wp Tryz.prog Q σ w:=by
 conv=>arg 2;whnf
 refine rF 264 hσ [214,215,216,217,218,219,220,221,222,223,224,225,12] []
   [kp 214 (.slice (some ⟨b9,o9,none⟩) m8 e8),ki 215 m8,kt 216,kt 217,kp 218 (.slice (some ⟨b9,o9,none⟩) m8 e8),kq 219 (b9) (o9),kq 220 (b9) (o9),kp 221 (.string yk),kq 222 g3 3,kp 223 (.string dg),kp 224 (.bool q),kp 225 (.bool q),kp 12 (.bool q)]
   [] [] (BZ w (fun _ _ _=>True)) .init ⟨.q s11,.n (.slice (some ⟨b9,o9,none⟩) m8 e8),?_,.a,.q s11,?_,.a,.l fun us w6 hW _=>mM.out w6 hW.1,.q s3,.l fun us w6 hW _=>zo 3 (zb hW.1 R3.out),?_,.a,.a,trivial⟩ ?_
 ·(refine .r1 (.int .i64 (m8:Int)) fun _ _ _ e215 _ _ _ _=>?_;simp only[execOp,e215];go_simp;first|rfl|(simp;done)|(simp;omega)|(simp[*];done))
 ·(refine .r1 (.slice (some ⟨b9,o9,none⟩) m8 e8) fun _ _ _ u6 _ _ _ _=>?_;simp only[execOp,u6];go_simp;first|rfl|(simp;omega)|(congr;omega))
 ·(refine .r2 (.string yk) (.string dg) fun _ _ _ e221 uU _ _ _ _=>?_;simp only[execOp,e221,uU];go_simp;first|rfl|(rw[←hq];exact congrArg Value.bool (Ql _ _)))
 intro us wz hmem hW;exact hend _ wz rfl hW.1
noncomputable def Dq:Code:=((Tryz.f32.body.bind (qm 4)).getD .skip)
theorem EB {Q:Exit→Act→World→Prop}{σ:Act}{w:World}{g2:Nat}{D0 D1 D2:Option Addr}{d0 e0 d1 e1 d2 e2:Nat}{nx:Int}(R2:Hid (w.heap[g2]?=some (.cells #[.slice D0 d0 e0,.slice D1 d1 e1,.slice D2 d2 e2,.int .i64 nx] 28 (0,0)))) {k:Nat}(hlt:¬k<d2) (hσ:σ.tmps.size=264) (s14:σ.eval (.tmp 14)=.int .i64 (k:Int)) (s2:σ.eval (.tmp 2)=.pointer (some ⟨g2,0,none⟩))
  (hend:∀(v:Nat→Value) (wz:World),v 37=.bool false→Below w.heap.size w wz→Q .normal (qa σ (([22,23,24,25,26,27,28,29,30,31,32,33,34,35,36,37]:List Nat).map fun d=>(d,v d))) wz):
  Dq.wp Tryz.prog Q σ w:=by
 conv=>arg 2;whnf
 refine rF 264 hσ [22,23,24,25,26,27,28,29,30,31,32,33,34,35,36,37] []
   [ki 22 k,kq 23 g2 2,kp 24 (.slice D2 d2 e2),ki 25 d2,kf 26,kf 27,kf 37]
   [] [] (BZ w (fun _ _ _=>True)) .init ⟨.q s14,.q s2,.l fun us w6 hW _=>zo 2 (zb hW.1 R2.out),.n (.slice D2 d2 e2),?_,.a,.b,.b,.b,.b,.b,.b,.b,.b,.b,.a,trivial⟩ ?_
 ·(refine .r2 (.int .i64 (k:Int)) (.int .i64 (d2:Int)) fun _ _ _ e22 rQ _ _ _ _=>?_;simp only[execOp,e22,rQ];go_simp;first|rfl|(simp;done)|(simp;omega)|(simp[*];done))
 intro us wz hmem hW;exact hend _ wz rfl hW.1
theorem EC {Q:Exit→Act→World→Prop}{σ:Act}{w:World}{g2 g3:Nat}{D0 D1 D2 A4 A5:Option Addr}{d0 e0 d1 e1 d2 e2 n4 c4 n5 c5:Nat}{nx kd id:Int}{nm dg:ByteArray}(R2:Hid (w.heap[g2]?=some (.cells #[.slice D0 d0 e0,.slice D1 d1 e1,.slice D2 d2 e2,.int .i64 nx] 28 (0,0)))) (R3:Hid (w.heap[g3]?=some (.cells #[.int .i64 kd,.int .i64 id,.string nm,.string dg,.slice A4 n4 c4,.slice A5 n5 c5] 61 (0,0)))) {k:Nat}{b9 o9:Nat}{yk:ByteArray}(hlt:k<d2) (eD:D2=some ⟨b9,o9,none⟩) (mM:Hid (∀V,Below w.heap.size w V→V.cell? ⟨b9,o9+k* 2,none⟩=some (.string yk))) (hσ:σ.tmps.size=264) (s14:σ.eval (.tmp 14)=.int .i64 (k:Int)) (s2:σ.eval (.tmp 2)=.pointer (some ⟨g2,0,none⟩)) (s3:σ.eval (.tmp 3)=.pointer (some ⟨g3,0,none⟩))
  (hend:∀(v:Nat→Value) (wz:World),v 37=.bool (qo yk nm)→Below w.heap.size w wz→Q .normal (qa σ (([22,23,24,25,26,27,28,29,30,31,32,33,34,35,36,37]:List Nat).map fun d=>(d,v d))) wz):
  Dq.wp Tryz.prog Q σ w:=by
 conv=>arg 2;whnf
 subst eD
 refine rF 264 hσ [22,23,24,25,26,27,28,29,30,31,32,33,34,35,36,37] []
   [ki 22 k,kq 23 g2 2,kp 24 (.slice (some ⟨b9,o9,none⟩) d2 e2),ki 25 d2,kt 26,kt 27,kq 28 g2 2,kp 29 (.slice (some ⟨b9,o9,none⟩) d2 e2),ki 30 k,kq 31 (b9) (o9+k* 2),kq 32 (b9) (o9+k* 2),kp 33 (.string yk),kq 34 g3 2,kp 35 (.string nm),kp 36 (.bool (qo yk nm)),kp 37 (.bool (qo yk nm))]
   [] [] (BZ w (fun _ _ _=>True)) .init ⟨.q s14,.q s2,.l fun us w6 hW _=>zo 2 (zb hW.1 R2.out),.n (.slice (some ⟨b9,o9,none⟩) d2 e2),?_,.a,.q s2,.l fun us w6 hW _=>zo 2 (zb hW.1 R2.out),.q s14,?_,.a,.l fun us w6 hW _=>mM.out w6 hW.1,.q s3,.l fun us w6 hW _=>zo 2 (zb hW.1 R3.out),?_,.a,trivial⟩ ?_
 ·(refine .r2 (.int .i64 (k:Int)) (.int .i64 (d2:Int)) fun _ _ _ e22 rQ _ _ _ _=>?_;simp only[execOp,e22,rQ];go_simp;first|rfl|(simp;done)|(simp;omega)|(simp[*];done))
 ·(refine .r2 (.slice (some ⟨b9,o9,none⟩) d2 e2) (.int .i64 (k:Int)) fun _ _ _ rB uD _ _ _ _=>?_;simp only[execOp,rB,uD];go_simp;first|rfl|(simp;omega)|(congr;omega))
 ·(refine .r2 (.string yk) (.string nm) fun _ _ _ uN rA _ _ _ _=>?_;simp only[execOp,uN,rA];go_simp;first|rfl|exact XL _ _ _|(simp[binOp,go_sem,Op.stringOp,qo];done))
 intro us wz hmem hW;exact hend _ wz rfl hW.1
noncomputable def Dr:Code:=((Tryz.f32.body.bind (qm 7)).getD .skip)
theorem ED {Q:Exit→Act→World→Prop}{σ:Act}{w:World}{R8:Option Addr}{e8:Nat}(hσ:σ.tmps.size=264) (s15:σ.eval (.tmp 15)=.slice R8 0 e8)
  (hend:∀(v:Nat→Value) (wz:World),v 16=.bool false→Below w.heap.size w wz→Q .normal (qa σ (([44,45,46,47,48,49,50,51,52,53,54,55,16]:List Nat).map fun d=>(d,v d))) wz):
  Dr.wp Tryz.prog Q σ w:=by
 conv=>arg 2;whnf
 refine rF 264 hσ [44,45,46,47,48,49,50,51,52,53,54,55,16] []
   [kp 44 (.slice R8 0 e8),ki 45 0,kf 46,kf 47,kf 55,kf 16]
   [] [] (BZ w (fun _ _ _=>True)) .init ⟨.q s15,.n (.slice R8 0 e8),?_,.a,.b,.b,.b,.b,.b,.b,.b,.a,.a,trivial⟩ ?_
 ·(refine .r1 (.int .i64 (0:Int)) fun _ _ _ e45 _ _ _ _=>?_;simp only[execOp,e45];go_simp;first|rfl|(simp;done)|(simp;omega)|(simp[*];done))
 intro us wz hmem hW;exact hend _ wz rfl hW.1
theorem EE {Q:Exit→Act→World→Prop}{σ:Act}{w:World}{g3:Nat}{A4 A5:Option Addr}{n4 c4 n5 c5:Nat}{kd id:Int}{nm dg:ByteArray}(R3:Hid (w.heap[g3]?=some (.cells #[.int .i64 kd,.int .i64 id,.string nm,.string dg,.slice A4 n4 c4,.slice A5 n5 c5] 61 (0,0)))) {b9 o9 m8 e8:Nat}{q:Bool}{yk:ByteArray}(hm:0<m8) (hq:decide (yk=nm)=q) (mM:Hid (∀V,Below w.heap.size w V→V.cell? ⟨b9,o9,none⟩=some (.string yk))) (hσ:σ.tmps.size=264) (s15:σ.eval (.tmp 15)=.slice (some ⟨b9,o9,none⟩) m8 e8) (s3:σ.eval (.tmp 3)=.pointer (some ⟨g3,0,none⟩))
  (hend:∀(v:Nat→Value) (wz:World),v 16=.bool q→Below w.heap.size w wz→Q .normal (qa σ (([44,45,46,47,48,49,50,51,52,53,54,55,16]:List Nat).map fun d=>(d,v d))) wz):
  Dr.wp Tryz.prog Q σ w:=by
 conv=>arg 2;whnf
 refine rF 264 hσ [44,45,46,47,48,49,50,51,52,53,54,55,16] []
   [kp 44 (.slice (some ⟨b9,o9,none⟩) m8 e8),ki 45 m8,kt 46,kt 47,kp 48 (.slice (some ⟨b9,o9,none⟩) m8 e8),kq 49 (b9) (o9),kq 50 (b9) (o9),kp 51 (.string yk),kq 52 g3 2,kp 53 (.string nm),kp 54 (.bool q),kp 55 (.bool q),kp 16 (.bool q)]
   [] [] (BZ w (fun _ _ _=>True)) .init ⟨.q s15,.n (.slice (some ⟨b9,o9,none⟩) m8 e8),?_,.a,.q s15,?_,.a,.l fun us w6 hW _=>mM.out w6 hW.1,.q s3,.l fun us w6 hW _=>zo 2 (zb hW.1 R3.out),?_,.a,.a,trivial⟩ ?_
 ·(refine .r1 (.int .i64 (m8:Int)) fun _ _ _ e45 _ _ _ _=>?_;simp only[execOp,e45];go_simp;first|rfl|(simp;done)|(simp;omega)|(simp[*];done))
 ·(refine .r1 (.slice (some ⟨b9,o9,none⟩) m8 e8) fun _ _ _ e48 _ _ _ _=>?_;simp only[execOp,e48];go_simp;first|rfl|(simp;omega)|(congr;omega))
 ·(refine .r2 (.string yk) (.string nm) fun _ _ _ e51 yh _ _ _ _=>?_;simp only[execOp,e51,yh];go_simp;first|rfl|(rw[←hq];exact congrArg Value.bool (Ql _ _)))
 intro us wz hmem hW;exact hend _ wz rfl hW.1
end Go.Proofs.YtipecejghioicaaGreat
namespace Go.Silo
open Go Go.RowKit
inductive D6 (V:World) (R:Nat→Value→World→Prop) (s1:Nat) (st1:List (Nat×Value)→World→World):List (Nat×Value)→World→Prop
 |pre {us:List (Nat×Value)}{W:World}:Below V.heap.size V W→(∀i v,(i,v)∈us→R i v W)→s1∉us.map Prod.fst→D6 V R s1 st1 us W
 |one {us:List (Nat×Value)}{W:World}{x:Value}:Below V.heap.size V W→(∀i v,(i,v)∈us→R i v W)→s1∉us.map Prod.fst→D6 V R s1 st1 (us++[(s1,x)]) (st1 us W)
section
variable {V W W':World}{R:Nat→Value→World→Prop}{s1:Nat}{st1:List (Nat×Value)→World→World}{us:List (Nat×Value)}
theorem D6.init:D6 V R s1 st1 [] V.drew:=.pre (Below.refl _ _).drew (fun _ _ h=>by cases h) (by simp)
theorem D6.early (h:D6 V R s1 st1 us W) (hn:s1∉us.map Prod.fst):Below V.heap.size V W∧∀i v,(i,v)∈us→R i v W:=by
 cases h with
 |pre hb h _=>exact⟨hb,h⟩
 |one _ _ _=>exact absurd (by simp) hn
theorem D6.snoc (h:D6 V R s1 st1 us W) {i:Nat}{x:Value}(h1:i≠s1) (hn:s1∉us.map Prod.fst) (hb:Below W.heap.size W W') (hs:∀j v,R j v W→R j v W') (hx:R i x W'):D6 V R s1 st1 (us++[(i,x)]) W':=by
 obtain⟨hB,hR⟩:=h.early hn;refine .pre (hB.trans (hb.mono hB.size)) (fun j v hj=>?_) ?_
 ·rcases List.mem_append.1 hj with hj|hj
  ·exact hs j v (hR j v hj)
  simp at hj;obtain⟨rfl,rfl⟩:=hj;exact hx
 rw[List.map_append,List.mem_append];rintro(h|h)
 ·exact hn h
 simp at h;exact h1 h.symm
theorem D6.store (h:D6 V R s1 st1 us W) (hn:s1∉us.map Prod.fst) {x:Value}:D6 V R s1 st1 (us++[(s1,x)]) (st1 us W):=.one (h.early hn).1 (h.early hn).2 hn
theorem D6.last (h:D6 V R s1 st1 us W) (h1:s1∈us.map Prod.fst):∃gX W0 x,us=gX++[(s1,x)]∧W=st1 gX W0∧Below V.heap.size V W0∧(∀i v,(i,v)∈gX→R i v W0)∧s1∉gX.map Prod.fst:=by
 cases h with
 |pre _ _ h=>exact absurd h1 h
 |@one gX W0 x a b c=>exact⟨gX,W0,x,rfl,rfl,a,b,c⟩
end
end Go.Silo
namespace Go.Silo
open Go Go.RowKit
section
variable {P:Program}{α:Type}{T:TypeId}{E:Enc α}{w w':World}{base n c g:Nat}{S S':Nat→Prop}{A:Option Addr}{xs ys:List α}{cs ds vs:List Value}
def Reads (E:Enc α) (w:World) (S:Nat→Prop) (cs:List Value) (xs:List α):Prop:=cs.length=xs.length* E.sz∧∀k x,xs[k]?=some x→E.R w S ((cs.drop (k* E.sz)).take E.sz) x
theorem Reads.Bz:Reads E w S [] ([]:List α):=⟨by simp,fun k x h=>by simp at h⟩
theorem Reads.one {x:α}(h:E.R w S vs x):Reads E w S vs [x]:=⟨by rw[E.len h];simp,fun k y hy=>by
 match k,hy with
 |0,hy=>simp at hy;subst hy;rw[Nat.zero_mul,List.drop_zero,List.take_of_length_le (by rw[E.len h];omega)];exact h⟩
theorem Reads.append (h:Reads E w S cs xs) (k:Reads E w S ds ys):Reads E w S (cs++ds) (xs++ys):=by
 refine⟨by rw[List.length_append,List.length_append,h.1,k.1,Nat.add_mul],fun j x hx=>?_⟩;by_cases hj:j<xs.length
 ·rw[List.getElem?_append_left hj] at hx;rw[xD _ _ j E.sz xs.length h.1 hj];exact h.2 j x hx
 rw[List.getElem?_append_right (by omega)] at hx;rw[jl _ _ j E.sz xs.length h.1 (by omega)];exact k.2 _ x hx
theorem Reads.take (h:Reads E w S cs xs) {i:Nat}(hi:i≤xs.length):Reads E w S (cs.take (i* E.sz)) (xs.take i):=by
 have hm:i* E.sz≤xs.length* E.sz:=Nat.mul_le_mul_right _ hi;refine⟨by rw[List.length_take,List.length_take,h.1,Nat.min_eq_left hm,Nat.min_eq_left hi],fun j x hx=>?_⟩;have hj:j<i:=by have:=(List.getElem?_eq_some_iff.1 hx).1;rw[List.length_take] at this;omega
 rw[List.getElem?_take_of_lt hj] at hx;have h2:=h.2 j x hx;have h3:j* E.sz+E.sz≤i* E.sz:=by have:=Nat.mul_le_mul_right E.sz (show j+1≤i by omega);rw[Nat.add_mul] at this;omega
 have:((cs.take (i* E.sz)).drop (j* E.sz)).take E.sz=(cs.drop (j* E.sz)).take E.sz:=by
  rw[List.drop_take,List.take_take,Nat.min_eq_left (by omega)]
 rw[this];exact h2
theorem Reads.drop (h:Reads E w S cs xs) {i:Nat}:Reads E w S (cs.drop (i* E.sz)) (xs.drop i):=by
 refine⟨by rw[List.length_drop,List.length_drop,h.1,Nat.sub_mul],fun j x hx=>?_⟩;rw[List.getElem?_drop] at hx;have h2:=h.2 _ x hx;rw[List.drop_drop,←Nat.add_mul];exact h2
theorem Reads.mono (h:Reads E w S cs xs) (hS:∀b,S b→b<w.heap.size→S' b):Reads E w S' cs xs:=⟨h.1,fun k x hx=>E.mono hS (h.2 k x hx)⟩
theorem Reads.frame (h:Reads E w S cs xs) (hA:Agree S w w') (hs:w.heap.size≤w'.heap.size):Reads E w' S cs xs:=⟨h.1,fun k x hx=>E.frame hA hs (h.2 k x hx)⟩
theorem Reads.cells (h:Reads E w S cs xs):∀v∈cs,v.oneCell'=true:=by
 intro v hv;obtain⟨j,hj,rfl⟩:=List.getElem_of_mem hv
 have hz:0<E.sz:=by
  rcases Nat.eq_zero_or_pos E.sz with h0|h0
  ·have:=h.1;rw[h0,Nat.mul_zero] at this;omega
  exact h0
 have hk:j / E.sz<xs.length:=by
  rw[Nat.div_lt_iff_lt_mul hz];have:=h.1;omega
 have hR:=h.2 (j / E.sz) _ (List.getElem?_eq_getElem hk);refine E.one hR _ ?_;have hmod:=Nat.mod_lt j hz;have hdm:j / E.sz* E.sz+j % E.sz=j:=by rw[Nat.mul_comm];exact Nat.div_add_mod j E.sz
 refine List.mem_iff_getElem?.2 ⟨j % E.sz,?_⟩;rw[List.getElem?_take_of_lt hmod,List.getElem?_drop,hdm,List.getElem?_eq_getElem hj]
theorem Bo.cells (h:Bo T E w base S A n c xs):∃cs,w.ownsRow base T E.sz (.slice A n c) n cs∧Reads E w (fun b=>S b∧some b≠qd A) cs xs∧xs.length=n:=by
 obtain⟨cs,h1,h2,h3⟩:=h;exact⟨cs,h1,⟨by rw[h1.1,h2],h3⟩,h2⟩
theorem Bo.row (h:Bo T E w base S A n c xs) (hc:0<n∨A≠none):∃g cur,A=some ⟨g,0,none⟩∧base≤g∧g<w.heap.size∧w.heap[g]?=some (.cells cur T (0,0))∧n≤c∧c≤maxLen∧cur.size=c* E.sz∧Reads E w (fun b=>S b∧some b≠some g) (cur.toList.take (n* E.sz)) xs∧xs.length=n:=by
 obtain⟨cs,ho,hk,hl⟩:=h.cells;rcases ho.2 with ⟨hv,h0⟩|⟨g,cap,cur,hv,hb,hh,hn,hm,hs,ht⟩
 ·injection hv with h1 h2 h3
  rcases hc with hc|hc
  ·omega
  exact absurd h1 hc
 injection hv with h1 h2 h3
 subst h1;subst h3;exact⟨g,cur,rfl,hb,(zl hh),hh,hn,hm,hs,by rw[ht];exact hk,hl⟩
theorem Bo.Ck {cur:Array Value}(hb:base≤g) (hh:w.heap[g]?=some (.cells cur T (0,0))) (hn:n≤c) (hm:c≤maxLen) (hs:cur.size=c* E.sz)
  (hR:Reads E w (fun b=>S b∧some b≠some g) (cur.toList.take (n* E.sz)) xs) (hl:xs.length=n):Bo T E w base S (some ⟨g,0,none⟩) n c xs:=
 ⟨_,⟨by rw[hR.1,hl],.inr ⟨g,c,cur,rfl,hb,hh,hn,hm,hs,rfl⟩⟩,hl,hR.2⟩
theorem xh:∀(vs:List Value) (o:Nat) (cur:Array Value) (w:World),w.heap[g]?=some (.cells cur T (0,0))→o+vs.length≤cur.size→
  (w.setCells g o vs).heap[g]?=some (.cells (cur.toList.take o++vs++cur.toList.drop (o+vs.length)).toArray T (0,0))
 |[],o,cur,w,hg,_=>by simpa[World.setCells] using hg
 |v::r,o,cur,w,hg,hl=>by
  have ho:o<cur.size:=by simp at hl;omega
  rw[World.setCells,setCell_eq_setRow w g o cur T (0,0) v hg];have h:=xh r (o+1) (cur.setIfInBounds o v) _ (setRow_heap w g cur _ T _ hg) (by simp at hl⊢;omega);rw[h]
  congr 3
  have e:=list_seg_step cur.toList o v r (by simp at hl⊢;omega);simpa[Array.toList_setIfInBounds,Nat.add_assoc] using e
theorem xW (b:Nat):∀(vs:List Value) (o:Nat) (w:World),(w.setCells b o vs).heap.size=w.heap.size
 |[],_,_=>rfl
 |v::r,o,w=>by rw[World.setCells,xW b r];simp
theorem zD {b k:Nat}(h:k≠b):∀(vs:List Value) (o:Nat) (w:World),(w.setCells b o vs).heap[k]?=w.heap[k]?
 |[],_,_=>rfl
 |v::r,o,w=>by rw[World.setCells,zD h r];exact heap_setCell_other w ⟨b,o,none⟩ k v (fun e=>h e)
theorem xu (b:Nat):∀(vs:List Value) (o:Nat) (w:World),(w.setCells b o vs).os=w.os∧(w.setCells b o vs).tape=w.tape∧(w.setCells b o vs).output=w.output
 |[],_,_=>⟨rfl,rfl,rfl⟩
 |v::r,o,w=>by rw[World.setCells];exact xu b r (o+1) _
theorem xj (vs:List Value) (o:Nat) (w:World):w.grownBy (w.setCells g o vs) (some g):=
 ⟨(xu g vs o w).1,(xu g vs o w).2.1,(xu g vs o w).2.2,by rw[xW];exact Nat.le_refl _,fun k _ hk=>zD (fun e=>hk (by rw[e])) vs o w⟩
theorem Bo.CO {i:Nat}{y:α}(h:Bo T E w base S A n c xs) (hi:i<n) (hy:E.R w (fun b=>S b∧some b≠qd A) vs y):
  ∃g,A=some ⟨g,0,none⟩∧base≤g∧g<w.heap.size∧Bo T E (w.setCells g (i* E.sz) vs) base S A n c (xs.set i y)∧w.grownBy (w.setCells g (i* E.sz) vs) (some g):=by
 obtain⟨g,cur,rfl,hb,hg,hh,hn,hm,hs,hR,hl⟩:=h.row (.inl (by omega));have hz:i* E.sz+E.sz≤n* E.sz:=by have:=Nat.mul_le_mul_right E.sz (show i+1≤n by omega);rw[Nat.add_mul] at this;omega
 have hnc:n* E.sz≤c* E.sz:=Nat.mul_le_mul_right _ hn;have hvl:=E.len hy;refine⟨g,rfl,hb,hg,?_,xj _ _ _⟩;have hrow:=xh vs (i* E.sz) cur w hh (by omega);refine Bo.Ck hb hrow hn hm (by simp;omega) ?_ (by rw[List.length_set];exact hl);have hA:Agree (fun b=>S b∧some b≠some g) w (w.setCells g (i* E.sz) vs):=fun b hb2 _=>zD (fun e=>hb2.2 (by rw[e])) _ _ _;have h1:=(hR.take (i:=i) (by omega)).append ((Reads.one hy).append (hR.drop (i:=i+1)))
 have e1:(cur.toList.take (i* E.sz)++vs++cur.toList.drop (i* E.sz+vs.length)).toArray.toList.take (n* E.sz)=(cur.toList.take (n* E.sz)).take (i* E.sz)++(vs++(cur.toList.take (n* E.sz)).drop ((i+1)* E.sz)):=by
  have hlen:(cur.toList.take (i* E.sz)++vs).length=i* E.sz+E.sz:=by rw[List.length_append,List.length_take,hvl,Array.length_toList,Nat.min_eq_left (by omega)]
  rw[List.take_take,Nat.min_eq_left (by omega),List.drop_take,Nat.add_mul,Nat.one_mul,hvl];show(cur.toList.take (i* E.sz)++vs++cur.toList.drop (i* E.sz+E.sz)).take (n* E.sz)=_;rw[List.take_append,List.take_of_length_le (by omega),hlen,List.append_assoc]
 have e2:xs.set i y=xs.take i++([y]++xs.drop (i+1)):=by
  rw[List.set_eq_take_append_cons_drop,if_pos (by omega)];rfl
 rw[e1,e2];exact h1.frame hA (by rw[xW];exact Nat.le_refl _)
theorem qO (w:World) (dT sT ty elem:TypeId) (sz g o dLen dCap:Nat) (a:Addr) (sLen sCap:Nat) (cur:Array Value) (t:TypeId) (cs:List Value)
  (hu:P.underlying dT=some (.slice elem)) (hs:(P.info? elem).map (·.size)=some sz)
  (hg:w.heap[g]?=some (.cells cur t (0,0))) (hn:cs.length=Nat.min sLen dLen* sz)
  (hsrc:∀j v,cs[j]?=some v→w.cell? (a.add j)=some v) (hfit:o+cs.length≤cur.size) (h1:∀v∈cs,v.oneCell'=true):
  (Builtin.copy_ #[dT,sT] ty #[.slice (some ⟨g,o,none⟩) dLen dCap,.slice (some a) sLen sCap]).run P w=
   .ok (goInt (Nat.min sLen dLen:Nat)) (w.setRow g (cur.toList.take o++cs++cur.toList.drop (o+cs.length)).toArray):=by
 have hl:=run_loadCells_list (P:=P) w a cs hsrc;have hst:=run_storeCells_at P g o t cs 0 cur w hg (by simpa using hfit) h1
 cases hq:P.info? elem with
 |none=>simp[hq] at hs
 |some i=>
  have hi:i.size=sz:=by simpa[hq] using hs
  rw[hn] at hl;simp[Builtin.copy_,run_underlying hu,Builtin.lenOf,Builtin.firstCells,sizeOf,typeInfo,hq,hi,hl,hst]
end
end Go.Silo
