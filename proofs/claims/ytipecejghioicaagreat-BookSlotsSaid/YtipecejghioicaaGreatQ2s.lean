/- Book.tags: may a book's tags be? -/
import Derived.Test.YtipecejghioicaaGreatDatas
import Derived.Test.YtipecejghioicaaGreatS1s
import Derived.Test.YtipecejghioicaaGreatQ1s
import Derived.Deep.CutBlock
import Derived.Deep.Cut
set_option maxHeartbeats 8000000
set_option maxRecDepth 100000
namespace Go.Proofs.YtipecejghioicaaGreat
open Go.RowKit Go.Silo
def qr (a b:ByteArray):Bool:=Op.bytesLess a.toList b.toList
theorem jP:∀x y:List UInt8,(Op.bytesLess y x||(y==x))=!Op.bytesLess x y
 |[],[]=>rfl
 |[],_::_=>by simp[Op.bytesLess]
 |_::_,[]=>by simp[Op.bytesLess]
 |a::x,b::y=>by
  have ih:=jP x y;unfold Op.bytesLess;rcases Nat.lt_trichotomy a.toNat b.toNat with h|h|h
  ·have h1:decide (a<b)=true:=decide_eq_true (UInt8.lt_iff_toNat_lt.2 h);have h2:decide (b<a)=false:=decide_eq_false (fun h'=>by have:=UInt8.lt_iff_toNat_lt.1 h';omega);have h3:(b==a)=false:=(by simp;intro e;subst e;omega);simp[h1,h2,h3]
  ·obtain rfl:=UInt8.toNat_inj.1 h;have h1:decide (a<a)=false:=(by simp);simp[←ih]
  have h1:decide (a<b)=false:=decide_eq_false (fun h'=>by have:=UInt8.lt_iff_toNat_lt.1 h';omega);have h2:decide (b<a)=true:=decide_eq_true (UInt8.lt_iff_toNat_lt.2 h);have h3:(a==b)=false:=by simp;intro e;subst e;omega
  simp[h1,h2,h3]
theorem Xt (a b:ByteArray):(Op.bytesLess b.toList a.toList||(b.toList==a.toList))=!qr a b:=jP _ _
theorem xo (x y:ByteArray) (W:World):(binOp .leq 9 (.string x) (.string y)).run Tryz.prog W=.ok (.bool (Op.bytesLess x.toList y.toList||(x.toList==y.toList))) W:=by
 simp[binOp,go_sem,Op.stringOp]
def Bv (l:List Tag) (k:Nat):Bool:=decide (1≤(l.getD k default).name.size∧(l.getD k default).name.size≤40∧(l.getD k default).digest.size=32)&&(decide (k=0)||qr (l.getD (k - 1) default).name (l.getD k default).name)
def zL (l:List Tag):Bool:=(List.range l.length).all (Bv l)&&decide (l.length≤40)
theorem kQ {l:List Tag}{k:Nat}(h:k<l.length) (hk:Bv l k=false):zL l=false:=by
 unfold zL
 have:(List.range l.length).all (Bv l)=false:=by
  rw[List.all_eq_false];exact⟨k,List.mem_range.2 h,by simp[hk]⟩
 rw[this];rfl
theorem kR {l:List Tag}(h:∀k,k<l.length→Bv l k=true):zL l=decide (l.length≤40):=by
 unfold zL;have:(List.range l.length).all (Bv l)=true:=List.all_eq_true.2 (fun k hk=>h k (List.mem_range.1 hk));rw[this];rfl
theorem ED {tg:Bool}{T:TypeId}{S:Nat→Prop}{w:World}{A:Option Addr}{n c:Nat}{xs:List Tag}(h:Sl tg T Bz w S A n c xs):
  Calls Tryz.prog 78 #[.slice A n c] w (Bf (.bool (zL xs)) w):=by
 have HL:=zh h.len;have hcap:n≤9223372036854775807:=Nat.le_trans h.le h.cap;obtain⟨R,hR⟩:∃R,R=zL xs:=⟨_,rfl⟩;rw[←hR];have HR:=zh hR;clear hR
 go_enter Tryz.func78,Tryz.ntmps78
 go_wp2_with fail
 go_loopw [7] (fun i wr=>∃k:Nat,k≤n∧i=.int .i64 k∧Hid (Below w.heap.size w wr)∧Hid (∀j,j<k→Bv xs j=true)) (fun i _=>n - (intOf i).toNat)
 case atStart=>exact⟨0,Nat.zero_le _,rfl,zh (Below.refl _ _),zh (fun j hj=>by omega)⟩
 case round=>
  rename World=>wo
  obtain⟨k,hk,rfl,HB,HA⟩:=hrel;by_cases hlt:k<n
  ·obtain⟨b,off,rfl,_,hbl,so1,so2,hc0,hc1,_,_⟩:=(h.all HB.out).Ci hlt
   have hp:0<k→wo.cell? ⟨b,off+(k - 1)* 2,none⟩=some (.string (xs.getD (k - 1) default).name):=fun h0=>by
    obtain⟨b',off',e,_,_,_,_,hd,_⟩:=(h.all HB.out).Ci (k:=k - 1) (by omega);injection e with e;injection e with e1 e2 _;subst e1;subst e2
    exact hd
   obtain⟨y,hy⟩:∃y,y=(xs.getD (k - 1) default).name:=⟨_,rfl⟩;rw[←hy] at hp;have hat:Bv xs k=(decide (1≤(xs.getD k default).name.size∧(xs.getD k default).name.size≤40∧(xs.getD k default).digest.size=32)&&(decide (k=0)||qr y (xs.getD k default).name)):=(by rw[hy];rfl);generalize xs.getD k default=x at *;clear hy;have gV:=zh hat;clear hat
   go_upto_region 4 with (fail)
   have hal:Below wo.heap.size wo (wo.alloc (.cells #[.string x.name,.string x.digest] 94)):=(Below.refl _ _).alloc (Nat.le_refl _) _;have hrow:=heap_alloc_new wo (.cells #[.string x.name,.string x.digest] 94);have hzl:wo.heap.size<(wo.alloc (.cells #[.string x.name,.string x.digest] 94)).heap.size:=(by simp);have hbl2:b<(wo.alloc (.cells #[.string x.name,.string x.digest] 94)).heap.size:=(by simp;omega);have hp2:=fun h0=>(hal.cell (p:=⟨b,off+(k - 1)* 2,none⟩) hbl).trans (hp h0);generalize (wo.alloc (.cells #[.string x.name,.string x.digest] 94))=w4 at *;have ml:=zh (fun V (hV:Below w4.heap.size w4 V)=>And.intro (zo 0 ((hV.block _ hzl).trans hrow)) (zo 1 ((hV.block _ hzl).trans hrow)));have gv:=zt HB hal;clear hal hrow hc0 hc1 hp hbl;generalize wo.heap.size=g4 at *
   go_cut [42] from 12 to 42 (fun t V=>t=.bool (!Bv xs k)∧Hid (Below w4.heap.size w4 V))
   case first=>
    by_cases h1:(x.name.size:Int)<1
    ·have gA:Hid (Bv xs k=false):=zh (by rw[gV.out,decide_eq_false (by omega)];rfl);clear gV hp2;go_wp2_with fail
     refine rF 47 rfl [12,13,14,15,16,17,18,19,20,21,22,23,24,25,26,27,28,29,30,31,32,33,34,35,36,37,38,39,40,41,42] []
       [kq 12 g4 0,kp 13 (.string x.name),kp 14 (.int .i64 (x.name.size:Int)),kt 15,kt 16,kt 21,kt 22,kt 27,kt 28,kt 42]
       [] [] (BL w4 (fun _ _ _=>True)) .init ⟨.a,.l (a:=⟨g4,0,none⟩) fun us w6 hW _=>(by have z:=ml.out w6 hW.1;have z0:=z.1;have z1:=z.2;assumption),.n (.string x.name),?_,.a,.b,.b,.b,.b,.a,.a,.b,.b,.b,.b,.a,.a,.b,.b,.b,.c,.c,.c,.c,.c,.c,.c,.c,.c,.b,.a,trivial⟩ ?_
     ·(refine .r1 (.int .i64 (x.name.size:Int)) fun _ _ _ pj _ _ _ _=>?_;simp only[execOp,pj];go_simp;try rfl)
     intro us w9 hmem hW;simp only[qc,BR,BS,BU,BV,Act.put,BO,BP,BQ];generalize gp:qp _ _ us=sv;have hq:sv 42=(.bool true:Value):=(by rw[←gp];rfl);rw[hq];have gy:=zh hW.1;clear gp hq hmem hW;go_wp2
     go_meet
     case rel=>exact⟨by rw[gA.out];rfl,gy⟩
    by_cases h2:40<(x.name.size:Int)
    ·have gA:Hid (Bv xs k=false):=zh (by rw[gV.out,decide_eq_false (by omega)];rfl);clear gV hp2;go_wp2_with fail
     refine rF 47 rfl [12,13,14,15,16,17,18,19,20,21,22,23,24,25,26,27,28,29,30,31,32,33,34,35,36,37,38,39,40,41,42] []
       [kq 12 g4 0,kp 13 (.string x.name),kp 14 (.int .i64 (x.name.size:Int)),kf 15,kf 16,kq 17 g4 0,kp 18 (.string x.name),kp 19 (.int .i64 (x.name.size:Int)),kt 20,kt 21,kt 22,kt 27,kt 28,kt 42]
       [] [] (BL w4 (fun _ _ _=>True)) .init ⟨.a,.l (a:=⟨g4,0,none⟩) fun us w6 hW _=>(by have z:=ml.out w6 hW.1;have z0:=z.1;have z1:=z.2;assumption),.n (.string x.name),?_,.a,.a,.l (a:=⟨g4,0,none⟩) fun us w6 hW _=>(by have z:=ml.out w6 hW.1;have z0:=z.1;have z1:=z.2;assumption),.n (.string x.name),?_,.a,.a,.b,.b,.b,.b,.a,.a,.b,.b,.b,.c,.c,.c,.c,.c,.c,.c,.c,.c,.b,.a,trivial⟩ ?_
     ·(refine .r1 (.int .i64 (x.name.size:Int)) fun _ _ _ pj _ _ _ _=>?_;simp only[execOp,pj];go_simp;exact congrArg Value.bool (decide_eq_false (by omega)))
     ·(refine .r1 (.int .i64 (x.name.size:Int)) fun _ _ _ e19 _ _ _ _=>?_;simp only[execOp,e19];go_simp;try rfl)
     intro us w9 hmem hW;simp only[qc,BR,BS,BU,BV,Act.put,BO,BP,BQ];generalize gp:qp _ _ us=sv;have hq:sv 42=(.bool true:Value):=(by rw[←gp];rfl);rw[hq];have gy:=zh hW.1;clear gp hq hmem hW;go_wp2
     go_meet
     case rel=>exact⟨by rw[gA.out];rfl,gy⟩
    by_cases h3:(x.digest.size:Int)=32
    ·have h3':((x.digest.size:Int) !=32)=false:=(by simp[h3]);have gX:Bv xs k=(decide (k=0)||qr y x.name):=(by rw[gV.out,decide_eq_true (by omega)];rfl);clear gV h3;by_cases h4:k=0
     ·have gA:Hid (Bv xs k=true):=zh (by rw[gX,h4];rfl);have h4':¬0<(k:Int):=(by omega);clear hp2 gX h4;go_wp2_with fail
      refine rF 47 rfl [12,13,14,15,16,17,18,19,20,21,22,23,24,25,26,27,28,29,30,31,32,33,34,35,36,37,38,39,40,41,42] []
        [kq 12 g4 0,kp 13 (.string x.name),kp 14 (.int .i64 (x.name.size:Int)),kf 15,kf 16,kq 17 g4 0,kp 18 (.string x.name),kp 19 (.int .i64 (x.name.size:Int)),kf 20,kf 21,kf 22,kq 23 g4 1,kp 24 (.string x.digest),kp 25 (.int .i64 (x.digest.size:Int)),kf 26,kf 27,kf 28,ki 29 k,kf 30,kf 31,kf 41,kf 42]
        [] [] (BL w4 (fun _ _ _=>True)) .init ⟨.a,.l (a:=⟨g4,0,none⟩) fun us w6 hW _=>(by have z:=ml.out w6 hW.1;have z0:=z.1;have z1:=z.2;assumption),.n (.string x.name),?_,.a,.a,.l (a:=⟨g4,0,none⟩) fun us w6 hW _=>(by have z:=ml.out w6 hW.1;have z0:=z.1;have z1:=z.2;assumption),.n (.string x.name),?_,.a,.a,.a,.l (a:=⟨g4,1,none⟩) fun us w6 hW _=>(by have z:=ml.out w6 hW.1;have z0:=z.1;have z1:=z.2;assumption),.n (.string x.digest),?_,.a,.a,.a,?_,.a,.b,.b,.b,.b,.b,.b,.b,.b,.b,.a,.a,trivial⟩ ?_
      ·(refine .r1 (.int .i64 (x.name.size:Int)) fun _ _ _ pj _ _ _ _=>?_;simp only[execOp,pj];go_simp;exact congrArg Value.bool (decide_eq_false (by omega)))
      ·(refine .r1 (.int .i64 (x.name.size:Int)) fun _ _ _ e19 _ _ _ _=>?_;simp only[execOp,e19];go_simp;exact congrArg Value.bool (decide_eq_false (by omega)))
      ·(refine .r1 (.int .i64 (x.digest.size:Int)) fun _ _ _ pk _ _ _ _=>?_;simp only[execOp,pk];go_simp;try rfl)
      ·(refine .r1 (.int .i64 (k:Int)) fun _ _ _ nI _ _ _ _=>?_;simp only[execOp,nI];go_simp;exact congrArg Value.bool (decide_eq_false (by omega)))
      intro us w9 hmem hW;simp only[qc,BR,BS,BU,BV,Act.put,BO,BP,BQ];generalize gp:qp _ _ us=sv;have hq:sv 42=(.bool false:Value):=(by rw[←gp];rfl);rw[hq];have gy:=zh hW.1;clear gp hq hmem hW;go_wp2
      go_meet
      case rel=>exact⟨by rw[gA.out];rfl,gy⟩
     have h4':0<(k:Int):=(by omega);have hc:=hp2 (by omega);have e1:(k:Int) - 1=((k - 1:Nat):Int):=(by omega);have hA2:Bv xs k=qr y x.name:=(by rw[gX,decide_eq_false h4];rfl);have hle:=Xt y x.name;generalize qr y x.name=sl at *;have q7:=zh (fun V (hV:Below w4.heap.size w4 V)=>(hV.cell (p:=⟨b,off+(k - 1)* 2,none⟩) hbl2).trans hc);clear hp2 gX h4 hc
     cases sl with
     |true=>
      have gA:=zh hA2;clear hA2;rw[show(!true)=false from rfl] at hle;go_wp2_with fail
      refine rF 47 rfl [12,13,14,15,16,17,18,19,20,21,22,23,24,25,26,27,28,29,30,31,32,33,34,35,36,37,38,39,40,41,42] []
        [kq 12 g4 0,kp 13 (.string x.name),kp 14 (.int .i64 (x.name.size:Int)),kf 15,kf 16,kq 17 g4 0,kp 18 (.string x.name),kp 19 (.int .i64 (x.name.size:Int)),kf 20,kf 21,kf 22,kq 23 g4 1,kp 24 (.string x.digest),kp 25 (.int .i64 (x.digest.size:Int)),kf 26,kf 27,kf 28,ki 29 k,kt 30,kt 31,kq 32 g4 0,kp 33 (.string x.name),kp 34 (.slice (some ⟨b,off,none⟩) n c),ki 35 k,kp 36 (.int .i64 (((k - 1:Nat):Int))),kp 37 (pt (b) (off+(k - 1)* 2)),kp 38 (pt (b) (off+(k - 1)* 2)),kp 39 (.string y),kf 40,kf 41,kf 42]
        [] [] (BL w4 (fun _ _ _=>True)) .init ⟨.a,.l (a:=⟨g4,0,none⟩) fun us w6 hW _=>(by have z:=ml.out w6 hW.1;have z0:=z.1;have z1:=z.2;assumption),.n (.string x.name),?_,.a,.a,.l (a:=⟨g4,0,none⟩) fun us w6 hW _=>(by have z:=ml.out w6 hW.1;have z0:=z.1;have z1:=z.2;assumption),.n (.string x.name),?_,.a,.a,.a,.l (a:=⟨g4,1,none⟩) fun us w6 hW _=>(by have z:=ml.out w6 hW.1;have z0:=z.1;have z1:=z.2;assumption),.n (.string x.digest),?_,.a,.a,.a,?_,.a,.a,.l (a:=⟨g4,0,none⟩) fun us w6 hW _=>(by have z:=ml.out w6 hW.1;have z0:=z.1;have z1:=z.2;assumption),.a,.a,?_,?_,.a,.l fun us w6 hW _=>q7.out w6 hW.1,?_,.a,.a,trivial⟩ ?_
      ·(refine .r1 (.int .i64 (x.name.size:Int)) fun _ _ _ pj _ _ _ _=>?_;simp only[execOp,pj];go_simp;exact congrArg Value.bool (decide_eq_false (by omega)))
      ·(refine .r1 (.int .i64 (x.name.size:Int)) fun _ _ _ e19 _ _ _ _=>?_;simp only[execOp,e19];go_simp;exact congrArg Value.bool (decide_eq_false (by omega)))
      ·(refine .r1 (.int .i64 (x.digest.size:Int)) fun _ _ _ pk _ _ _ _=>?_;simp only[execOp,pk];go_simp;try rfl)
      ·(refine .r1 (.int .i64 (k:Int)) fun _ _ _ nI _ _ _ _=>?_;simp only[execOp,nI];go_simp;exact congrArg Value.bool (decide_eq_true (by omega)))
      ·(refine .r1 (.int .i64 (k:Int)) fun _ _ _ mB _ _ _ _=>?_;simp only[execOp,mB];go_simp;rw[Go.IntWalk.i64_in _ (by omega)];rfl)
      ·(refine .r2 (.slice (some ⟨b,off,none⟩) n c) (.int .i64 (((k - 1:Nat):Int))) fun _ _ _ q8 ve _ _ _ _=>?_;simp only[execOp,q8,ve];go_simp;rw[if_pos (by omega)];rfl)
      ·(refine .r2 (.string x.name) (.string y) fun _ _ _ q9 e39 _ _ _ _=>?_;simp only[execOp,q9,e39];go_simp;rw[xo];simp only[Result.andThen,hle];rfl)
      intro us w9 hmem hW;simp only[qc,BR,BS,BU,BV,Act.put,BO,BP,BQ];generalize gp:qp _ _ us=sv;have hq:sv 42=(.bool false:Value):=(by rw[←gp];rfl);rw[hq];have gy:=zh hW.1;clear gp hq hmem hW;go_wp2
      go_meet
      case rel=>exact⟨by rw[gA.out];rfl,gy⟩
     |false=>
      have gA:=zh hA2;clear hA2;rw[show(!false)=true from rfl] at hle;go_wp2_with fail
      refine rF 47 rfl [12,13,14,15,16,17,18,19,20,21,22,23,24,25,26,27,28,29,30,31,32,33,34,35,36,37,38,39,40,41,42] []
        [kq 12 g4 0,kp 13 (.string x.name),kp 14 (.int .i64 (x.name.size:Int)),kf 15,kf 16,kq 17 g4 0,kp 18 (.string x.name),kp 19 (.int .i64 (x.name.size:Int)),kf 20,kf 21,kf 22,kq 23 g4 1,kp 24 (.string x.digest),kp 25 (.int .i64 (x.digest.size:Int)),kf 26,kf 27,kf 28,ki 29 k,kt 30,kt 31,kq 32 g4 0,kp 33 (.string x.name),kp 34 (.slice (some ⟨b,off,none⟩) n c),ki 35 k,kp 36 (.int .i64 (((k - 1:Nat):Int))),kp 37 (pt (b) (off+(k - 1)* 2)),kp 38 (pt (b) (off+(k - 1)* 2)),kp 39 (.string y),kt 40,kt 41,kt 42]
        [] [] (BL w4 (fun _ _ _=>True)) .init ⟨.a,.l (a:=⟨g4,0,none⟩) fun us w6 hW _=>(by have z:=ml.out w6 hW.1;have z0:=z.1;have z1:=z.2;assumption),.n (.string x.name),?_,.a,.a,.l (a:=⟨g4,0,none⟩) fun us w6 hW _=>(by have z:=ml.out w6 hW.1;have z0:=z.1;have z1:=z.2;assumption),.n (.string x.name),?_,.a,.a,.a,.l (a:=⟨g4,1,none⟩) fun us w6 hW _=>(by have z:=ml.out w6 hW.1;have z0:=z.1;have z1:=z.2;assumption),.n (.string x.digest),?_,.a,.a,.a,?_,.a,.a,.l (a:=⟨g4,0,none⟩) fun us w6 hW _=>(by have z:=ml.out w6 hW.1;have z0:=z.1;have z1:=z.2;assumption),.a,.a,?_,?_,.a,.l fun us w6 hW _=>q7.out w6 hW.1,?_,.a,.a,trivial⟩ ?_
      ·(refine .r1 (.int .i64 (x.name.size:Int)) fun _ _ _ pj _ _ _ _=>?_;simp only[execOp,pj];go_simp;exact congrArg Value.bool (decide_eq_false (by omega)))
      ·(refine .r1 (.int .i64 (x.name.size:Int)) fun _ _ _ e19 _ _ _ _=>?_;simp only[execOp,e19];go_simp;exact congrArg Value.bool (decide_eq_false (by omega)))
      ·(refine .r1 (.int .i64 (x.digest.size:Int)) fun _ _ _ pk _ _ _ _=>?_;simp only[execOp,pk];go_simp;try rfl)
      ·(refine .r1 (.int .i64 (k:Int)) fun _ _ _ nI _ _ _ _=>?_;simp only[execOp,nI];go_simp;exact congrArg Value.bool (decide_eq_true (by omega)))
      ·(refine .r1 (.int .i64 (k:Int)) fun _ _ _ mB _ _ _ _=>?_;simp only[execOp,mB];go_simp;rw[Go.IntWalk.i64_in _ (by omega)];rfl)
      ·(refine .r2 (.slice (some ⟨b,off,none⟩) n c) (.int .i64 (((k - 1:Nat):Int))) fun _ _ _ q8 ve _ _ _ _=>?_;simp only[execOp,q8,ve];go_simp;rw[if_pos (by omega)];rfl)
      ·(refine .r2 (.string x.name) (.string y) fun _ _ _ q9 e39 _ _ _ _=>?_;simp only[execOp,q9,e39];go_simp;rw[xo];simp only[Result.andThen,hle];rfl)
      intro us w9 hmem hW;simp only[qc,BR,BS,BU,BV,Act.put,BO,BP,BQ];generalize gp:qp _ _ us=sv;have hq:sv 42=(.bool true:Value):=(by rw[←gp];rfl);rw[hq];have gy:=zh hW.1;clear gp hq hmem hW;go_wp2
      go_meet
      case rel=>exact⟨by rw[gA.out];rfl,gy⟩
    have h3':((x.digest.size:Int) !=32)=true:=(by simp[h3]);have gA:Hid (Bv xs k=false):=zh (by rw[gV.out,decide_eq_false (by omega)];rfl);clear gV hp2 h3;go_wp2_with fail
    refine rF 47 rfl [12,13,14,15,16,17,18,19,20,21,22,23,24,25,26,27,28,29,30,31,32,33,34,35,36,37,38,39,40,41,42] []
      [kq 12 g4 0,kp 13 (.string x.name),kp 14 (.int .i64 (x.name.size:Int)),kf 15,kf 16,kq 17 g4 0,kp 18 (.string x.name),kp 19 (.int .i64 (x.name.size:Int)),kf 20,kf 21,kf 22,kq 23 g4 1,kp 24 (.string x.digest),kp 25 (.int .i64 (x.digest.size:Int)),kt 26,kt 27,kt 28,kt 42]
      [] [] (BL w4 (fun _ _ _=>True)) .init ⟨.a,.l (a:=⟨g4,0,none⟩) fun us w6 hW _=>(by have z:=ml.out w6 hW.1;have z0:=z.1;have z1:=z.2;assumption),.n (.string x.name),?_,.a,.a,.l (a:=⟨g4,0,none⟩) fun us w6 hW _=>(by have z:=ml.out w6 hW.1;have z0:=z.1;have z1:=z.2;assumption),.n (.string x.name),?_,.a,.a,.a,.l (a:=⟨g4,1,none⟩) fun us w6 hW _=>(by have z:=ml.out w6 hW.1;have z0:=z.1;have z1:=z.2;assumption),.n (.string x.digest),?_,.a,.a,.b,.b,.b,.c,.c,.c,.c,.c,.c,.c,.c,.c,.b,.a,trivial⟩ ?_
    ·(refine .r1 (.int .i64 (x.name.size:Int)) fun _ _ _ pj _ _ _ _=>?_;simp only[execOp,pj];go_simp;exact congrArg Value.bool (decide_eq_false (by omega)))
    ·(refine .r1 (.int .i64 (x.name.size:Int)) fun _ _ _ e19 _ _ _ _=>?_;simp only[execOp,e19];go_simp;exact congrArg Value.bool (decide_eq_false (by omega)))
    ·(refine .r1 (.int .i64 (x.digest.size:Int)) fun _ _ _ pk _ _ _ _=>?_;simp only[execOp,pk];go_simp;try rfl)
    intro us w9 hmem hW;simp only[qc,BR,BS,BU,BV,Act.put,BO,BP,BQ];generalize gp:qp _ _ us=sv;have hq:sv 42=(.bool true:Value):=(by rw[←gp];rfl);rw[hq];have gy:=zh hW.1;clear gp hq hmem hW;go_wp2
    go_meet
    case rel=>exact⟨by rw[gA.out];rfl,gy⟩
   case rest=>
    rename World=>wc
    obtain⟨rfl,HBc⟩:=hcut;have HBf:=zh (zu gv HBc.out);generalize htk:Bv xs k=tk at *;have uo:=zh htk;clear htk
    cases tk with
    |false=>
     have HE:Hid (R=false):=zh (by rw[HR.out,kQ (k:=k) (by have:=HL.out;omega) uo.out]);go_wp2
     go_ret
     exact⟨by rw[HE.out];rfl,HBf.out⟩
    |true=>
     have mC:=zh (fun j (hj:j<k+1)=>(show Bv xs j=true from by
      by_cases e:j=k
      ·rw[e];exact uo.out
      exact HA.out j (by omega)))
     go_wp2
     exact⟨⟨k+1,by omega,by go_num,HBf,mC⟩,by simp[intOf];omega⟩
  have HE:Hid (R=decide (n≤40)):=zh (by rw[HR.out,kR (fun j hj=>HA.out j (by have:=HL.out;omega)),HL.out]);go_wp2
  go_ret
  exact⟨by rw[HE.out];congr 2;simp;omega,HB.out⟩
end Go.Proofs.YtipecejghioicaaGreat
