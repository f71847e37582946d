/- Book.tags: may a book's tags be? -/
import Derived.Test.YtipecejghioicaaGreatDatap
import Derived.Test.YtipecejghioicaaGreatE2p
import Derived.Test.YtipecejghioicaaGreatB6p
import Derived.Deep.CutBlock
import Derived.Deep.Cut
set_option maxHeartbeats 8000000
set_option maxRecDepth 100000
namespace Go.Proofs.YtipecejghioicaaGreat
open Go.RowKit Go.Silo
def qo (a b:ByteArray):Bool:=Op.bytesLess a.toList b.toList
theorem km:∀x y:List UInt8,(Op.bytesLess y x||(y==x))=!Op.bytesLess x y
 |[],[]=>rfl
 |[],_::_=>by simp[Op.bytesLess]
 |_::_,[]=>by simp[Op.bytesLess]
 |a::x,b::y=>by
  have ih:=km x y;unfold Op.bytesLess;rcases Nat.lt_trichotomy a.toNat b.toNat with h|h|h
  ·have h1:decide (a<b)=true:=decide_eq_true (UInt8.lt_iff_toNat_lt.2 h);have h2:decide (b<a)=false:=decide_eq_false (fun h'=>by have:=UInt8.lt_iff_toNat_lt.1 h';omega);have h3:(b==a)=false:=(by simp;intro e;subst e;omega);simp[h1,h2,h3]
  ·obtain rfl:=UInt8.toNat_inj.1 h;have h1:decide (a<a)=false:=(by simp);simp[←ih]
  have h1:decide (a<b)=false:=decide_eq_false (fun h'=>by have:=UInt8.lt_iff_toNat_lt.1 h';omega);have h2:decide (b<a)=true:=decide_eq_true (UInt8.lt_iff_toNat_lt.2 h);have h3:(a==b)=false:=by simp;intro e;subst e;omega
  simp[h1,h2,h3]
theorem XI (a b:ByteArray):(Op.bytesLess b.toList a.toList||(b.toList==a.toList))=!qo a b:=km _ _
theorem xQ (x y:ByteArray) (W:World):(binOp .leq 9 (.string x) (.string y)).run Tryz.prog W=.ok (.bool (Op.bytesLess x.toList y.toList||(x.toList==y.toList))) W:=by
 simp[binOp,go_sem,Op.stringOp]
def BL (l:List Tag) (k:Nat):Bool:=decide (1≤(l.getD k default).name.size∧(l.getD k default).name.size≤40∧(l.getD k default).digest.size=32)&&(decide (k=0)||qo (l.getD (k - 1) default).name (l.getD k default).name)
def zV (l:List Tag):Bool:=(List.range l.length).all (BL l)&&decide (l.length≤40)
theorem Qc {l:List Tag}{k:Nat}(h:k<l.length) (hk:BL l k=false):zV l=false:=by
 unfold zV
 have:(List.range l.length).all (BL l)=false:=by
  rw[List.all_eq_false];exact⟨k,List.mem_range.2 h,by simp[hk]⟩
 rw[this];rfl
theorem Qd {l:List Tag}(h:∀k,k<l.length→BL l k=true):zV l=decide (l.length≤40):=by
 unfold zV;have:(List.range l.length).all (BL l)=true:=List.all_eq_true.2 (fun k hk=>h k (List.mem_range.1 hk));rw[this];rfl
theorem EQ {tg:Bool}{T:TypeId}{S:Nat→Prop}{w:World}{A:Option Addr}{n c:Nat}{xs:List Tag}(h:Sl tg T Bv w S A n c xs):
  Calls Tryz.prog 78 #[.slice A n c] w (Bf (.bool (zV xs)) w):=by
 have HL:=zh h.len;have hcap:n≤9223372036854775807:=Nat.le_trans h.le h.cap;obtain⟨R,hR⟩:∃R,R=zV xs:=⟨_,rfl⟩;rw[←hR];have HR:=zh hR;clear hR
 go_enter Tryz.func78,Tryz.ntmps78
 go_wp2_with fail
 go_loopw [7] (fun i wr=>∃k:Nat,k≤n∧i=.int .i64 k∧Hid (Below w.heap.size w wr)∧Hid (∀j,j<k→BL xs j=true)) (fun i _=>n - (intOf i).toNat)
 case atStart=>exact⟨0,Nat.zero_le _,rfl,zh (Below.refl _ _),zh (fun j hj=>by omega)⟩
 case round=>
  rename World=>wo
  obtain⟨k,hk,rfl,HB,HA⟩:=hrel;by_cases hlt:k<n
  ·obtain⟨b,off,rfl,_,hbl,so1,so2,hc0,hc1,_,_⟩:=(h.all HB.out).Cc hlt
   have hp:0<k→wo.cell? ⟨b,off+(k - 1)* 2,none⟩=some (.string (xs.getD (k - 1) default).name):=fun h0=>by
    obtain⟨b',off',e,_,_,_,_,hd,_⟩:=(h.all HB.out).Cc (k:=k - 1) (by omega);injection e with e;injection e with e1 e2 _;subst e1;subst e2
    exact hd
   obtain⟨y,hy⟩:∃y,y=(xs.getD (k - 1) default).name:=⟨_,rfl⟩;rw[←hy] at hp;have hat:BL xs k=(decide (1≤(xs.getD k default).name.size∧(xs.getD k default).name.size≤40∧(xs.getD k default).digest.size=32)&&(decide (k=0)||qo y (xs.getD k default).name)):=(by rw[hy];rfl);generalize xs.getD k default=x at *;clear hy;have nr:=zh hat;clear hat
   go_upto_region 4 with (fail)
   have hal:Below wo.heap.size wo (wo.alloc (.cells #[.string x.name,.string x.digest] 94)):=(Below.refl _ _).alloc (Nat.le_refl _) _;have hrow:=heap_alloc_new wo (.cells #[.string x.name,.string x.digest] 94);have hzl:wo.heap.size<(wo.alloc (.cells #[.string x.name,.string x.digest] 94)).heap.size:=(by simp);have hbl2:b<(wo.alloc (.cells #[.string x.name,.string x.digest] 94)).heap.size:=(by simp;omega);have hp2:=fun h0=>(hal.cell (p:=⟨b,off+(k - 1)* 2,none⟩) hbl).trans (hp h0);generalize (wo.alloc (.cells #[.string x.name,.string x.digest] 94))=w4 at *;have po:=zh (fun V (hV:Below w4.heap.size w4 V)=>And.intro (zo 0 ((hV.block _ hzl).trans hrow)) (zo 1 ((hV.block _ hzl).trans hrow)));have ma:=zt HB hal;clear hal hrow hc0 hc1 hp hbl;generalize wo.heap.size=g4 at *
   go_cut [42] from 12 to 42 (fun t V=>t=.bool (!BL xs k)∧Hid (Below w4.heap.size w4 V))
   case first=>
    by_cases h1:(x.name.size:Int)<1
    ·have mD:Hid (BL xs k=false):=zh (by rw[nr.out,decide_eq_false (by omega)];rfl);clear nr hp2;go_wp2_with fail
     refine rF 47 rfl [12,13,14,15,16,17,18,19,20,21,22,23,24,25,26,27,28,29,30,31,32,33,34,35,36,37,38,39,40,41,42] []
       [kq 12 g4 0,kp 13 (.string x.name),kp 14 (.int .i64 (x.name.size:Int)),kt 15,kt 16,kt 21,kt 22,kt 27,kt 28,kt 42]
       [] [] (BZ w4 (fun _ _ _=>True)) .init ⟨.a,.l (a:=⟨g4,0,none⟩) fun us w6 hW _=>(by have z:=po.out w6 hW.1;have z0:=z.1;have z1:=z.2;assumption),.n (.string x.name),?_,.a,.b,.b,.b,.b,.a,.a,.b,.b,.b,.b,.a,.a,.b,.b,.b,.c,.c,.c,.c,.c,.c,.c,.c,.c,.b,.a,trivial⟩ ?_
     ·(refine .r1 (.int .i64 (x.name.size:Int)) fun _ _ _ uC _ _ _ _=>?_;simp only[execOp,uC];go_simp;try rfl)
     intro us w9 hmem hW;simp only[qa,BG,BH,BI,BJ,Act.put,BC,BD,BF];generalize mh:qx _ _ us=sv;have hq:sv 42=(.bool true:Value):=(by rw[←mh];rfl);rw[hq];have gF:=zh hW.1;clear mh hq hmem hW;go_wp2
     go_meet
     case rel=>exact⟨by rw[mD.out];rfl,gF⟩
    by_cases h2:40<(x.name.size:Int)
    ·have mD:Hid (BL xs k=false):=zh (by rw[nr.out,decide_eq_false (by omega)];rfl);clear nr hp2;go_wp2_with fail
     refine rF 47 rfl [12,13,14,15,16,17,18,19,20,21,22,23,24,25,26,27,28,29,30,31,32,33,34,35,36,37,38,39,40,41,42] []
       [kq 12 g4 0,kp 13 (.string x.name),kp 14 (.int .i64 (x.name.size:Int)),kf 15,kf 16,kq 17 g4 0,kp 18 (.string x.name),kp 19 (.int .i64 (x.name.size:Int)),kt 20,kt 21,kt 22,kt 27,kt 28,kt 42]
       [] [] (BZ w4 (fun _ _ _=>True)) .init ⟨.a,.l (a:=⟨g4,0,none⟩) fun us w6 hW _=>(by have z:=po.out w6 hW.1;have z0:=z.1;have z1:=z.2;assumption),.n (.string x.name),?_,.a,.a,.l (a:=⟨g4,0,none⟩) fun us w6 hW _=>(by have z:=po.out w6 hW.1;have z0:=z.1;have z1:=z.2;assumption),.n (.string x.name),?_,.a,.a,.b,.b,.b,.b,.a,.a,.b,.b,.b,.c,.c,.c,.c,.c,.c,.c,.c,.c,.b,.a,trivial⟩ ?_
     ·(refine .r1 (.int .i64 (x.name.size:Int)) fun _ _ _ uC _ _ _ _=>?_;simp only[execOp,uC];go_simp;exact congrArg Value.bool (decide_eq_false (by omega)))
     ·(refine .r1 (.int .i64 (x.name.size:Int)) fun _ _ _ e19 _ _ _ _=>?_;simp only[execOp,e19];go_simp;try rfl)
     intro us w9 hmem hW;simp only[qa,BG,BH,BI,BJ,Act.put,BC,BD,BF];generalize mh:qx _ _ us=sv;have hq:sv 42=(.bool true:Value):=(by rw[←mh];rfl);rw[hq];have gF:=zh hW.1;clear mh hq hmem hW;go_wp2
     go_meet
     case rel=>exact⟨by rw[mD.out];rfl,gF⟩
    by_cases h3:(x.digest.size:Int)=32
    ·have h3':((x.digest.size:Int) !=32)=false:=(by simp[h3]);have mi:BL xs k=(decide (k=0)||qo y x.name):=(by rw[nr.out,decide_eq_true (by omega)];rfl);clear nr h3;by_cases h4:k=0
     ·have mD:Hid (BL xs k=true):=zh (by rw[mi,h4];rfl);have h4':¬0<(k:Int):=(by omega);clear hp2 mi h4;go_wp2_with fail
      refine rF 47 rfl [12,13,14,15,16,17,18,19,20,21,22,23,24,25,26,27,28,29,30,31,32,33,34,35,36,37,38,39,40,41,42] []
        [kq 12 g4 0,kp 13 (.string x.name),kp 14 (.int .i64 (x.name.size:Int)),kf 15,kf 16,kq 17 g4 0,kp 18 (.string x.name),kp 19 (.int .i64 (x.name.size:Int)),kf 20,kf 21,kf 22,kq 23 g4 1,kp 24 (.string x.digest),kp 25 (.int .i64 (x.digest.size:Int)),kf 26,kf 27,kf 28,ki 29 k,kf 30,kf 31,kf 41,kf 42]
        [] [] (BZ w4 (fun _ _ _=>True)) .init ⟨.a,.l (a:=⟨g4,0,none⟩) fun us w6 hW _=>(by have z:=po.out w6 hW.1;have z0:=z.1;have z1:=z.2;assumption),.n (.string x.name),?_,.a,.a,.l (a:=⟨g4,0,none⟩) fun us w6 hW _=>(by have z:=po.out w6 hW.1;have z0:=z.1;have z1:=z.2;assumption),.n (.string x.name),?_,.a,.a,.a,.l (a:=⟨g4,1,none⟩) fun us w6 hW _=>(by have z:=po.out w6 hW.1;have z0:=z.1;have z1:=z.2;assumption),.n (.string x.digest),?_,.a,.a,.a,?_,.a,.b,.b,.b,.b,.b,.b,.b,.b,.b,.a,.a,trivial⟩ ?_
      ·(refine .r1 (.int .i64 (x.name.size:Int)) fun _ _ _ uC _ _ _ _=>?_;simp only[execOp,uC];go_simp;exact congrArg Value.bool (decide_eq_false (by omega)))
      ·(refine .r1 (.int .i64 (x.name.size:Int)) fun _ _ _ e19 _ _ _ _=>?_;simp only[execOp,e19];go_simp;exact congrArg Value.bool (decide_eq_false (by omega)))
      ·(refine .r1 (.int .i64 (x.digest.size:Int)) fun _ _ _ rQ _ _ _ _=>?_;simp only[execOp,rQ];go_simp;try rfl)
      ·(refine .r1 (.int .i64 (k:Int)) fun _ _ _ rB _ _ _ _=>?_;simp only[execOp,rB];go_simp;exact congrArg Value.bool (decide_eq_false (by omega)))
      intro us w9 hmem hW;simp only[qa,BG,BH,BI,BJ,Act.put,BC,BD,BF];generalize mh:qx _ _ us=sv;have hq:sv 42=(.bool false:Value):=(by rw[←mh];rfl);rw[hq];have gF:=zh hW.1;clear mh hq hmem hW;go_wp2
      go_meet
      case rel=>exact⟨by rw[mD.out];rfl,gF⟩
     have h4':0<(k:Int):=(by omega);have hc:=hp2 (by omega);have e1:(k:Int) - 1=((k - 1:Nat):Int):=(by omega);have Gk:BL xs k=qo y x.name:=(by rw[mi,decide_eq_false h4];rfl);have hle:=XI y x.name;generalize qo y x.name=sl at *;have vD:=zh (fun V (hV:Below w4.heap.size w4 V)=>(hV.cell (p:=⟨b,off+(k - 1)* 2,none⟩) hbl2).trans hc);clear hp2 mi h4 hc
     cases sl with
     |true=>
      have mD:=zh Gk;clear Gk;rw[show(!true)=false from rfl] at hle;go_wp2_with fail
      refine rF 47 rfl [12,13,14,15,16,17,18,19,20,21,22,23,24,25,26,27,28,29,30,31,32,33,34,35,36,37,38,39,40,41,42] []
        [kq 12 g4 0,kp 13 (.string x.name),kp 14 (.int .i64 (x.name.size:Int)),kf 15,kf 16,kq 17 g4 0,kp 18 (.string x.name),kp 19 (.int .i64 (x.name.size:Int)),kf 20,kf 21,kf 22,kq 23 g4 1,kp 24 (.string x.digest),kp 25 (.int .i64 (x.digest.size:Int)),kf 26,kf 27,kf 28,ki 29 k,kt 30,kt 31,kq 32 g4 0,kp 33 (.string x.name),kp 34 (.slice (some ⟨b,off,none⟩) n c),ki 35 k,kp 36 (.int .i64 (((k - 1:Nat):Int))),kp 37 (pt (b) (off+(k - 1)* 2)),kp 38 (pt (b) (off+(k - 1)* 2)),kp 39 (.string y),kf 40,kf 41,kf 42]
        [] [] (BZ w4 (fun _ _ _=>True)) .init ⟨.a,.l (a:=⟨g4,0,none⟩) fun us w6 hW _=>(by have z:=po.out w6 hW.1;have z0:=z.1;have z1:=z.2;assumption),.n (.string x.name),?_,.a,.a,.l (a:=⟨g4,0,none⟩) fun us w6 hW _=>(by have z:=po.out w6 hW.1;have z0:=z.1;have z1:=z.2;assumption),.n (.string x.name),?_,.a,.a,.a,.l (a:=⟨g4,1,none⟩) fun us w6 hW _=>(by have z:=po.out w6 hW.1;have z0:=z.1;have z1:=z.2;assumption),.n (.string x.digest),?_,.a,.a,.a,?_,.a,.a,.l (a:=⟨g4,0,none⟩) fun us w6 hW _=>(by have z:=po.out w6 hW.1;have z0:=z.1;have z1:=z.2;assumption),.a,.a,?_,?_,.a,.l fun us w6 hW _=>vD.out w6 hW.1,?_,.a,.a,trivial⟩ ?_
      ·(refine .r1 (.int .i64 (x.name.size:Int)) fun _ _ _ uC _ _ _ _=>?_;simp only[execOp,uC];go_simp;exact congrArg Value.bool (decide_eq_false (by omega)))
      ·(refine .r1 (.int .i64 (x.name.size:Int)) fun _ _ _ e19 _ _ _ _=>?_;simp only[execOp,e19];go_simp;exact congrArg Value.bool (decide_eq_false (by omega)))
      ·(refine .r1 (.int .i64 (x.digest.size:Int)) fun _ _ _ rQ _ _ _ _=>?_;simp only[execOp,rQ];go_simp;try rfl)
      ·(refine .r1 (.int .i64 (k:Int)) fun _ _ _ rB _ _ _ _=>?_;simp only[execOp,rB];go_simp;exact congrArg Value.bool (decide_eq_true (by omega)))
      ·(refine .r1 (.int .i64 (k:Int)) fun _ _ _ rA _ _ _ _=>?_;simp only[execOp,rA];go_simp;rw[Go.IntWalk.i64_in _ (by omega)];rfl)
      ·(refine .r2 (.slice (some ⟨b,off,none⟩) n c) (.int .i64 (((k - 1:Nat):Int))) fun _ _ _ Gt He _ _ _ _=>?_;simp only[execOp,Gt,He];go_simp;rw[if_pos (by omega)];rfl)
      ·(refine .r2 (.string x.name) (.string y) fun _ _ _ uN e39 _ _ _ _=>?_;simp only[execOp,uN,e39];go_simp;rw[xQ];simp only[Result.andThen,hle];rfl)
      intro us w9 hmem hW;simp only[qa,BG,BH,BI,BJ,Act.put,BC,BD,BF];generalize mh:qx _ _ us=sv;have hq:sv 42=(.bool false:Value):=(by rw[←mh];rfl);rw[hq];have gF:=zh hW.1;clear mh hq hmem hW;go_wp2
      go_meet
      case rel=>exact⟨by rw[mD.out];rfl,gF⟩
     |false=>
      have mD:=zh Gk;clear Gk;rw[show(!false)=true from rfl] at hle;go_wp2_with fail
      refine rF 47 rfl [12,13,14,15,16,17,18,19,20,21,22,23,24,25,26,27,28,29,30,31,32,33,34,35,36,37,38,39,40,41,42] []
        [kq 12 g4 0,kp 13 (.string x.name),kp 14 (.int .i64 (x.name.size:Int)),kf 15,kf 16,kq 17 g4 0,kp 18 (.string x.name),kp 19 (.int .i64 (x.name.size:Int)),kf 20,kf 21,kf 22,kq 23 g4 1,kp 24 (.string x.digest),kp 25 (.int .i64 (x.digest.size:Int)),kf 26,kf 27,kf 28,ki 29 k,kt 30,kt 31,kq 32 g4 0,kp 33 (.string x.name),kp 34 (.slice (some ⟨b,off,none⟩) n c),ki 35 k,kp 36 (.int .i64 (((k - 1:Nat):Int))),kp 37 (pt (b) (off+(k - 1)* 2)),kp 38 (pt (b) (off+(k - 1)* 2)),kp 39 (.string y),kt 40,kt 41,kt 42]
        [] [] (BZ w4 (fun _ _ _=>True)) .init ⟨.a,.l (a:=⟨g4,0,none⟩) fun us w6 hW _=>(by have z:=po.out w6 hW.1;have z0:=z.1;have z1:=z.2;assumption),.n (.string x.name),?_,.a,.a,.l (a:=⟨g4,0,none⟩) fun us w6 hW _=>(by have z:=po.out w6 hW.1;have z0:=z.1;have z1:=z.2;assumption),.n (.string x.name),?_,.a,.a,.a,.l (a:=⟨g4,1,none⟩) fun us w6 hW _=>(by have z:=po.out w6 hW.1;have z0:=z.1;have z1:=z.2;assumption),.n (.string x.digest),?_,.a,.a,.a,?_,.a,.a,.l (a:=⟨g4,0,none⟩) fun us w6 hW _=>(by have z:=po.out w6 hW.1;have z0:=z.1;have z1:=z.2;assumption),.a,.a,?_,?_,.a,.l fun us w6 hW _=>vD.out w6 hW.1,?_,.a,.a,trivial⟩ ?_
      ·(refine .r1 (.int .i64 (x.name.size:Int)) fun _ _ _ uC _ _ _ _=>?_;simp only[execOp,uC];go_simp;exact congrArg Value.bool (decide_eq_false (by omega)))
      ·(refine .r1 (.int .i64 (x.name.size:Int)) fun _ _ _ e19 _ _ _ _=>?_;simp only[execOp,e19];go_simp;exact congrArg Value.bool (decide_eq_false (by omega)))
      ·(refine .r1 (.int .i64 (x.digest.size:Int)) fun _ _ _ rQ _ _ _ _=>?_;simp only[execOp,rQ];go_simp;try rfl)
      ·(refine .r1 (.int .i64 (k:Int)) fun _ _ _ rB _ _ _ _=>?_;simp only[execOp,rB];go_simp;exact congrArg Value.bool (decide_eq_true (by omega)))
      ·(refine .r1 (.int .i64 (k:Int)) fun _ _ _ rA _ _ _ _=>?_;simp only[execOp,rA];go_simp;rw[Go.IntWalk.i64_in _ (by omega)];rfl)
      ·(refine .r2 (.slice (some ⟨b,off,none⟩) n c) (.int .i64 (((k - 1:Nat):Int))) fun _ _ _ Gt He _ _ _ _=>?_;simp only[execOp,Gt,He];go_simp;rw[if_pos (by omega)];rfl)
      ·(refine .r2 (.string x.name) (.string y) fun _ _ _ uN e39 _ _ _ _=>?_;simp only[execOp,uN,e39];go_simp;rw[xQ];simp only[Result.andThen,hle];rfl)
      intro us w9 hmem hW;simp only[qa,BG,BH,BI,BJ,Act.put,BC,BD,BF];generalize mh:qx _ _ us=sv;have hq:sv 42=(.bool true:Value):=(by rw[←mh];rfl);rw[hq];have gF:=zh hW.1;clear mh hq hmem hW;go_wp2
      go_meet
      case rel=>exact⟨by rw[mD.out];rfl,gF⟩
    have h3':((x.digest.size:Int) !=32)=true:=(by simp[h3]);have mD:Hid (BL xs k=false):=zh (by rw[nr.out,decide_eq_false (by omega)];rfl);clear nr hp2 h3;go_wp2_with fail
    refine rF 47 rfl [12,13,14,15,16,17,18,19,20,21,22,23,24,25,26,27,28,29,30,31,32,33,34,35,36,37,38,39,40,41,42] []
      [kq 12 g4 0,kp 13 (.string x.name),kp 14 (.int .i64 (x.name.size:Int)),kf 15,kf 16,kq 17 g4 0,kp 18 (.string x.name),kp 19 (.int .i64 (x.name.size:Int)),kf 20,kf 21,kf 22,kq 23 g4 1,kp 24 (.string x.digest),kp 25 (.int .i64 (x.digest.size:Int)),kt 26,kt 27,kt 28,kt 42]
      [] [] (BZ w4 (fun _ _ _=>True)) .init ⟨.a,.l (a:=⟨g4,0,none⟩) fun us w6 hW _=>(by have z:=po.out w6 hW.1;have z0:=z.1;have z1:=z.2;assumption),.n (.string x.name),?_,.a,.a,.l (a:=⟨g4,0,none⟩) fun us w6 hW _=>(by have z:=po.out w6 hW.1;have z0:=z.1;have z1:=z.2;assumption),.n (.string x.name),?_,.a,.a,.a,.l (a:=⟨g4,1,none⟩) fun us w6 hW _=>(by have z:=po.out w6 hW.1;have z0:=z.1;have z1:=z.2;assumption),.n (.string x.digest),?_,.a,.a,.b,.b,.b,.c,.c,.c,.c,.c,.c,.c,.c,.c,.b,.a,trivial⟩ ?_
    ·(refine .r1 (.int .i64 (x.name.size:Int)) fun _ _ _ uC _ _ _ _=>?_;simp only[execOp,uC];go_simp;exact congrArg Value.bool (decide_eq_false (by omega)))
    ·(refine .r1 (.int .i64 (x.name.size:Int)) fun _ _ _ e19 _ _ _ _=>?_;simp only[execOp,e19];go_simp;exact congrArg Value.bool (decide_eq_false (by omega)))
    ·(refine .r1 (.int .i64 (x.digest.size:Int)) fun _ _ _ rQ _ _ _ _=>?_;simp only[execOp,rQ];go_simp;try rfl)
    intro us w9 hmem hW;simp only[qa,BG,BH,BI,BJ,Act.put,BC,BD,BF];generalize mh:qx _ _ us=sv;have hq:sv 42=(.bool true:Value):=(by rw[←mh];rfl);rw[hq];have gF:=zh hW.1;clear mh hq hmem hW;go_wp2
    go_meet
    case rel=>exact⟨by rw[mD.out];rfl,gF⟩
   case rest=>
    rename World=>wc
    obtain⟨rfl,HBc⟩:=hcut;have HBf:=zh (zu ma HBc.out);generalize htk:BL xs k=tk at *;have H7:=zh htk;clear htk
    cases tk with
    |false=>
     have HE:Hid (R=false):=zh (by rw[HR.out,Qc (k:=k) (by have:=HL.out;omega) H7.out]);go_wp2
     go_ret
     exact⟨by rw[HE.out];rfl,HBf.out⟩
    |true=>
     have pB:=zh (fun j (hj:j<k+1)=>(show BL xs j=true from by
      by_cases e:j=k
      ·rw[e];exact H7.out
      exact HA.out j (by omega)))
     go_wp2
     exact⟨⟨k+1,by omega,by go_num,HBf,pB⟩,by simp[intOf];omega⟩
  have HE:Hid (R=decide (n≤40)):=zh (by rw[HR.out,Qd (fun j hj=>HA.out j (by have:=HL.out;omega)),HL.out]);go_wp2
  go_ret
  exact⟨by rw[HE.out];congr 2;simp;omega,HB.out⟩
end Go.Proofs.YtipecejghioicaaGreat
