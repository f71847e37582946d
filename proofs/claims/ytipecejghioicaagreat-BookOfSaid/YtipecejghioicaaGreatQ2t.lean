/- Book.tags: may a book's tags be? -/
import Derived.Test.YtipecejghioicaaGreatE2t
import Derived.Deep.CutBlock
set_option maxHeartbeats 8000000
set_option maxRecDepth 100000
namespace Go.Proofs.YtipecejghioicaaGreat
open Go.RowKit Go.Silo
def qr (a b:ByteArray):Bool:=Op.bytesLess a.toList b.toList
theorem kz:∀x y:List UInt8,(Op.bytesLess y x||(y==x))=!Op.bytesLess x y
 |[],[]=>rfl
 |[],_::_=>by simp[Op.bytesLess]
 |_::_,[]=>by simp[Op.bytesLess]
 |a::x,b::y=>by
  have ih:=kz x y;unfold Op.bytesLess;rcases Nat.lt_trichotomy a.toNat b.toNat with h|h|h
  ·have h1:decide (a<b)=true:=decide_eq_true (UInt8.lt_iff_toNat_lt.2 h);have h2:decide (b<a)=false:=decide_eq_false (fun h'=>by have:=UInt8.lt_iff_toNat_lt.1 h';omega);have h3:(b==a)=false:=(by simp;intro e;subst e;omega);simp[h1,h2,h3]
  ·obtain rfl:=UInt8.toNat_inj.1 h;have h1:decide (a<a)=false:=(by simp);simp[←ih]
  have h1:decide (a<b)=false:=decide_eq_false (fun h'=>by have:=UInt8.lt_iff_toNat_lt.1 h';omega);have h2:decide (b<a)=true:=decide_eq_true (UInt8.lt_iff_toNat_lt.2 h);have h3:(a==b)=false:=by simp;intro e;subst e;omega
  simp[h1,h2,h3]
theorem Jd (a b:ByteArray):(Op.bytesLess b.toList a.toList||(b.toList==a.toList))=!qr a b:=kz _ _
theorem xZ (x y:ByteArray) (W:World):(binOp .leq 9 (.string x) (.string y)).run Tryz.prog W=.ok (.bool (Op.bytesLess x.toList y.toList||(x.toList==y.toList))) W:=by
 simp[binOp,go_sem,Op.stringOp]
def BP (l:List Tag) (k:Nat):Bool:=decide (1≤(l.getD k default).name.size∧(l.getD k default).name.size≤40∧(l.getD k default).digest.size=32)&&(decide (k=0)||qr (l.getD (k - 1) default).name (l.getD k default).name)
def zS (l:List Tag):Bool:=(List.range l.length).all (BP l)&&decide (l.length≤40)
theorem Qp {l:List Tag}{k:Nat}(h:k<l.length) (hk:BP l k=false):zS l=false:=by
 unfold zS
 have:(List.range l.length).all (BP l)=false:=by
  rw[List.all_eq_false];exact⟨k,List.mem_range.2 h,by simp[hk]⟩
 rw[this];rfl
theorem Qq {l:List Tag}(h:∀k,k<l.length→BP l k=true):zS l=decide (l.length≤40):=by
 unfold zS;have:(List.range l.length).all (BP l)=true:=List.all_eq_true.2 (fun k hk=>h k (List.mem_range.1 hk));rw[this];rfl
theorem ES {tg:Bool}{T:TypeId}{S:Nat→Prop}{w:World}{A:Option Addr}{n c:Nat}{xs:List Tag}(h:Sl tg T Bw w S A n c xs):
  Calls Tryz.prog 78 #[.slice A n c] w (Bl (.bool (zS xs)) w):=by
 have HL:=zh h.len;have hcap:n≤9223372036854775807:=Nat.le_trans h.le h.cap;obtain⟨R,hR⟩:∃R,R=zS xs:=⟨_,rfl⟩;rw[←hR];have HR:=zh hR;clear hR
 go_enter Tryz.func78,Tryz.ntmps78
 go_wp2_with fail
 go_loopw [7] (fun i wr=>∃k:Nat,k≤n∧i=.int .i64 k∧Hid (Below w.heap.size w wr)∧Hid (∀j,j<k→BP xs j=true)) (fun i _=>n - (intOf i).toNat)
 case atStart=>exact⟨0,Nat.zero_le _,rfl,zh (Below.refl _ _),zh (fun j hj=>by omega)⟩
 case round=>
  rename World=>wo
  obtain⟨k,hk,rfl,HB,HA⟩:=hrel;by_cases hlt:k<n
  ·obtain⟨b,off,rfl,_,hbl,so1,so2,hc0,hc1,_,_⟩:=(h.all HB.out).C9 hlt
   have hp:0<k→wo.cell? ⟨b,off+(k - 1)* 2,none⟩=some (.string (xs.getD (k - 1) default).name):=fun h0=>by
    obtain⟨b',off',e,_,_,_,_,hd,_⟩:=(h.all HB.out).C9 (k:=k - 1) (by omega);injection e with e;injection e with e1 e2 _;subst e1;subst e2
    exact hd
   obtain⟨y,hy⟩:∃y,y=(xs.getD (k - 1) default).name:=⟨_,rfl⟩;rw[←hy] at hp;have hat:BP xs k=(decide (1≤(xs.getD k default).name.size∧(xs.getD k default).name.size≤40∧(xs.getD k default).digest.size=32)&&(decide (k=0)||qr y (xs.getD k default).name)):=(by rw[hy];rfl);generalize xs.getD k default=x at *;clear hy;have mW:=zh hat;clear hat
   go_upto_region 4 with (fail)
   have hal:Below wo.heap.size wo (wo.alloc (.cells #[.string x.name,.string x.digest] 94)):=(Below.refl _ _).alloc (Nat.le_refl _) _;have hrow:=heap_alloc_new wo (.cells #[.string x.name,.string x.digest] 94);have hzl:wo.heap.size<(wo.alloc (.cells #[.string x.name,.string x.digest] 94)).heap.size:=(by simp);have hbl2:b<(wo.alloc (.cells #[.string x.name,.string x.digest] 94)).heap.size:=(by simp;omega);have hp2:=fun h0=>(hal.cell (p:=⟨b,off+(k - 1)* 2,none⟩) hbl).trans (hp h0);generalize (wo.alloc (.cells #[.string x.name,.string x.digest] 94))=w4 at *;have nV:=zh (fun V (hV:Below w4.heap.size w4 V)=>And.intro (zo 0 ((hV.block _ hzl).trans hrow)) (zo 1 ((hV.block _ hzl).trans hrow)));have gW:=zt HB hal;clear hal hrow hc0 hc1 hp hbl;generalize wo.heap.size=g4 at *
   go_cut [42] from 12 to 42 (fun t V=>t=.bool (!BP xs k)∧Hid (Below w4.heap.size w4 V))
   case first=>
    by_cases h1:(x.name.size:Int)<1
    ·have ml:Hid (BP xs k=false):=zh (by rw[mW.out,decide_eq_false (by omega)];rfl);clear mW hp2;go_wp2_with fail
     refine rF 47 rfl [12,13,14,15,16,17,18,19,20,21,22,23,24,25,26,27,28,29,30,31,32,33,34,35,36,37,38,39,40,41,42] []
       [kq 12 g4 0,kp 13 (.string x.name),kp 14 (.int .i64 (x.name.size:Int)),kt 15,kt 16,kt 21,kt 22,kt 27,kt 28,kt 42]
       [] [] (BZ w4 (fun _ _ _=>True)) .init ⟨.a,.l (a:=⟨g4,0,none⟩) fun us w6 hW _=>(by have z:=nV.out w6 hW.1;have z0:=z.1;have z1:=z.2;assumption),.n (.string x.name),?_,.a,.b,.b,.b,.b,.a,.a,.b,.b,.b,.b,.a,.a,.b,.b,.b,.c,.c,.c,.c,.c,.c,.c,.c,.c,.b,.a,trivial⟩ ?_
     ·(refine .r1 (.int .i64 (x.name.size:Int)) fun _ _ _ uj _ _ _ _=>?_;simp only[execOp,uj];go_simp;try rfl)
     intro us w9 hmem hW;simp only[qb,BH,BI,BJ,BL,Act.put,BD,BF,BG];generalize gZ:qz _ _ us=sv;have hq:sv 42=(.bool true:Value):=(by rw[←gZ];rfl);rw[hq];have gD:=zh hW.1;clear gZ hq hmem hW;go_wp2
     go_meet
     case rel=>exact⟨by rw[ml.out];rfl,gD⟩
    by_cases h2:40<(x.name.size:Int)
    ·have ml:Hid (BP xs k=false):=zh (by rw[mW.out,decide_eq_false (by omega)];rfl);clear mW hp2;go_wp2_with fail
     refine rF 47 rfl [12,13,14,15,16,17,18,19,20,21,22,23,24,25,26,27,28,29,30,31,32,33,34,35,36,37,38,39,40,41,42] []
       [kq 12 g4 0,kp 13 (.string x.name),kp 14 (.int .i64 (x.name.size:Int)),kf 15,kf 16,kq 17 g4 0,kp 18 (.string x.name),kp 19 (.int .i64 (x.name.size:Int)),kt 20,kt 21,kt 22,kt 27,kt 28,kt 42]
       [] [] (BZ w4 (fun _ _ _=>True)) .init ⟨.a,.l (a:=⟨g4,0,none⟩) fun us w6 hW _=>(by have z:=nV.out w6 hW.1;have z0:=z.1;have z1:=z.2;assumption),.n (.string x.name),?_,.a,.a,.l (a:=⟨g4,0,none⟩) fun us w6 hW _=>(by have z:=nV.out w6 hW.1;have z0:=z.1;have z1:=z.2;assumption),.n (.string x.name),?_,.a,.a,.b,.b,.b,.b,.a,.a,.b,.b,.b,.c,.c,.c,.c,.c,.c,.c,.c,.c,.b,.a,trivial⟩ ?_
     ·(refine .r1 (.int .i64 (x.name.size:Int)) fun _ _ _ uj _ _ _ _=>?_;simp only[execOp,uj];go_simp;exact congrArg Value.bool (decide_eq_false (by omega)))
     ·(refine .r1 (.int .i64 (x.name.size:Int)) fun _ _ _ e19 _ _ _ _=>?_;simp only[execOp,e19];go_simp;try rfl)
     intro us w9 hmem hW;simp only[qb,BH,BI,BJ,BL,Act.put,BD,BF,BG];generalize gZ:qz _ _ us=sv;have hq:sv 42=(.bool true:Value):=(by rw[←gZ];rfl);rw[hq];have gD:=zh hW.1;clear gZ hq hmem hW;go_wp2
     go_meet
     case rel=>exact⟨by rw[ml.out];rfl,gD⟩
    by_cases h3:(x.digest.size:Int)=32
    ·have h3':((x.digest.size:Int) !=32)=false:=(by simp[h3]);have mf:BP xs k=(decide (k=0)||qr y x.name):=(by rw[mW.out,decide_eq_true (by omega)];rfl);clear mW h3;by_cases h4:k=0
     ·have ml:Hid (BP xs k=true):=zh (by rw[mf,h4];rfl);have h4':¬0<(k:Int):=(by omega);clear hp2 mf h4;go_wp2_with fail
      refine rF 47 rfl [12,13,14,15,16,17,18,19,20,21,22,23,24,25,26,27,28,29,30,31,32,33,34,35,36,37,38,39,40,41,42] []
        [kq 12 g4 0,kp 13 (.string x.name),kp 14 (.int .i64 (x.name.size:Int)),kf 15,kf 16,kq 17 g4 0,kp 18 (.string x.name),kp 19 (.int .i64 (x.name.size:Int)),kf 20,kf 21,kf 22,kq 23 g4 1,kp 24 (.string x.digest),kp 25 (.int .i64 (x.digest.size:Int)),kf 26,kf 27,kf 28,ki 29 k,kf 30,kf 31,kf 41,kf 42]
        [] [] (BZ w4 (fun _ _ _=>True)) .init ⟨.a,.l (a:=⟨g4,0,none⟩) fun us w6 hW _=>(by have z:=nV.out w6 hW.1;have z0:=z.1;have z1:=z.2;assumption),.n (.string x.name),?_,.a,.a,.l (a:=⟨g4,0,none⟩) fun us w6 hW _=>(by have z:=nV.out w6 hW.1;have z0:=z.1;have z1:=z.2;assumption),.n (.string x.name),?_,.a,.a,.a,.l (a:=⟨g4,1,none⟩) fun us w6 hW _=>(by have z:=nV.out w6 hW.1;have z0:=z.1;have z1:=z.2;assumption),.n (.string x.digest),?_,.a,.a,.a,?_,.a,.b,.b,.b,.b,.b,.b,.b,.b,.b,.a,.a,trivial⟩ ?_
      ·(refine .r1 (.int .i64 (x.name.size:Int)) fun _ _ _ uj _ _ _ _=>?_;simp only[execOp,uj];go_simp;exact congrArg Value.bool (decide_eq_false (by omega)))
      ·(refine .r1 (.int .i64 (x.name.size:Int)) fun _ _ _ e19 _ _ _ _=>?_;simp only[execOp,e19];go_simp;exact congrArg Value.bool (decide_eq_false (by omega)))
      ·(refine .r1 (.int .i64 (x.digest.size:Int)) fun _ _ _ rA _ _ _ _=>?_;simp only[execOp,rA];go_simp;try rfl)
      ·(refine .r1 (.int .i64 (k:Int)) fun _ _ _ rD _ _ _ _=>?_;simp only[execOp,rD];go_simp;exact congrArg Value.bool (decide_eq_false (by omega)))
      intro us w9 hmem hW;simp only[qb,BH,BI,BJ,BL,Act.put,BD,BF,BG];generalize gZ:qz _ _ us=sv;have hq:sv 42=(.bool false:Value):=(by rw[←gZ];rfl);rw[hq];have gD:=zh hW.1;clear gZ hq hmem hW;go_wp2
      go_meet
      case rel=>exact⟨by rw[ml.out];rfl,gD⟩
     have h4':0<(k:Int):=(by omega);have hc:=hp2 (by omega);have e1:(k:Int) - 1=((k - 1:Nat):Int):=(by omega);have yX:BP xs k=qr y x.name:=(by rw[mf,decide_eq_false h4];rfl);have hle:=Jd y x.name;generalize qr y x.name=sl at *;have vh:=zh (fun V (hV:Below w4.heap.size w4 V)=>(hV.cell (p:=⟨b,off+(k - 1)* 2,none⟩) hbl2).trans hc);clear hp2 mf h4 hc
     cases sl with
     |true=>
      have ml:=zh yX;clear yX;rw[show(!true)=false from rfl] at hle;go_wp2_with fail
      refine rF 47 rfl [12,13,14,15,16,17,18,19,20,21,22,23,24,25,26,27,28,29,30,31,32,33,34,35,36,37,38,39,40,41,42] []
        [kq 12 g4 0,kp 13 (.string x.name),kp 14 (.int .i64 (x.name.size:Int)),kf 15,kf 16,kq 17 g4 0,kp 18 (.string x.name),kp 19 (.int .i64 (x.name.size:Int)),kf 20,kf 21,kf 22,kq 23 g4 1,kp 24 (.string x.digest),kp 25 (.int .i64 (x.digest.size:Int)),kf 26,kf 27,kf 28,ki 29 k,kt 30,kt 31,kq 32 g4 0,kp 33 (.string x.name),kp 34 (.slice (some ⟨b,off,none⟩) n c),ki 35 k,kp 36 (.int .i64 (((k - 1:Nat):Int))),kp 37 (pt (b) (off+(k - 1)* 2)),kp 38 (pt (b) (off+(k - 1)* 2)),kp 39 (.string y),kf 40,kf 41,kf 42]
        [] [] (BZ w4 (fun _ _ _=>True)) .init ⟨.a,.l (a:=⟨g4,0,none⟩) fun us w6 hW _=>(by have z:=nV.out w6 hW.1;have z0:=z.1;have z1:=z.2;assumption),.n (.string x.name),?_,.a,.a,.l (a:=⟨g4,0,none⟩) fun us w6 hW _=>(by have z:=nV.out w6 hW.1;have z0:=z.1;have z1:=z.2;assumption),.n (.string x.name),?_,.a,.a,.a,.l (a:=⟨g4,1,none⟩) fun us w6 hW _=>(by have z:=nV.out w6 hW.1;have z0:=z.1;have z1:=z.2;assumption),.n (.string x.digest),?_,.a,.a,.a,?_,.a,.a,.l (a:=⟨g4,0,none⟩) fun us w6 hW _=>(by have z:=nV.out w6 hW.1;have z0:=z.1;have z1:=z.2;assumption),.a,.a,?_,?_,.a,.l fun us w6 hW _=>vh.out w6 hW.1,?_,.a,.a,trivial⟩ ?_
      ·(refine .r1 (.int .i64 (x.name.size:Int)) fun _ _ _ uj _ _ _ _=>?_;simp only[execOp,uj];go_simp;exact congrArg Value.bool (decide_eq_false (by omega)))
      ·(refine .r1 (.int .i64 (x.name.size:Int)) fun _ _ _ e19 _ _ _ _=>?_;simp only[execOp,e19];go_simp;exact congrArg Value.bool (decide_eq_false (by omega)))
      ·(refine .r1 (.int .i64 (x.digest.size:Int)) fun _ _ _ rA _ _ _ _=>?_;simp only[execOp,rA];go_simp;try rfl)
      ·(refine .r1 (.int .i64 (k:Int)) fun _ _ _ rD _ _ _ _=>?_;simp only[execOp,rD];go_simp;exact congrArg Value.bool (decide_eq_true (by omega)))
      ·(refine .r1 (.int .i64 (k:Int)) fun _ _ _ rB _ _ _ _=>?_;simp only[execOp,rB];go_simp;rw[Go.IntWalk.i64_in _ (by omega)];rfl)
      ·(refine .r2 (.slice (some ⟨b,off,none⟩) n c) (.int .i64 (((k - 1:Nat):Int))) fun _ _ _ H8 H5 _ _ _ _=>?_;simp only[execOp,H8,H5];go_simp;rw[if_pos (by omega)];rfl)
      ·(refine .r2 (.string x.name) (.string y) fun _ _ _ ve e39 _ _ _ _=>?_;simp only[execOp,ve,e39];go_simp;rw[xZ];simp only[Result.andThen,hle];rfl)
      intro us w9 hmem hW;simp only[qb,BH,BI,BJ,BL,Act.put,BD,BF,BG];generalize gZ:qz _ _ us=sv;have hq:sv 42=(.bool false:Value):=(by rw[←gZ];rfl);rw[hq];have gD:=zh hW.1;clear gZ hq hmem hW;go_wp2
      go_meet
      case rel=>exact⟨by rw[ml.out];rfl,gD⟩
     |false=>
      have ml:=zh yX;clear yX;rw[show(!false)=true from rfl] at hle;go_wp2_with fail
      refine rF 47 rfl [12,13,14,15,16,17,18,19,20,21,22,23,24,25,26,27,28,29,30,31,32,33,34,35,36,37,38,39,40,41,42] []
        [kq 12 g4 0,kp 13 (.string x.name),kp 14 (.int .i64 (x.name.size:Int)),kf 15,kf 16,kq 17 g4 0,kp 18 (.string x.name),kp 19 (.int .i64 (x.name.size:Int)),kf 20,kf 21,kf 22,kq 23 g4 1,kp 24 (.string x.digest),kp 25 (.int .i64 (x.digest.size:Int)),kf 26,kf 27,kf 28,ki 29 k,kt 30,kt 31,kq 32 g4 0,kp 33 (.string x.name),kp 34 (.slice (some ⟨b,off,none⟩) n c),ki 35 k,kp 36 (.int .i64 (((k - 1:Nat):Int))),kp 37 (pt (b) (off+(k - 1)* 2)),kp 38 (pt (b) (off+(k - 1)* 2)),kp 39 (.string y),kt 40,kt 41,kt 42]
        [] [] (BZ w4 (fun _ _ _=>True)) .init ⟨.a,.l (a:=⟨g4,0,none⟩) fun us w6 hW _=>(by have z:=nV.out w6 hW.1;have z0:=z.1;have z1:=z.2;assumption),.n (.string x.name),?_,.a,.a,.l (a:=⟨g4,0,none⟩) fun us w6 hW _=>(by have z:=nV.out w6 hW.1;have z0:=z.1;have z1:=z.2;assumption),.n (.string x.name),?_,.a,.a,.a,.l (a:=⟨g4,1,none⟩) fun us w6 hW _=>(by have z:=nV.out w6 hW.1;have z0:=z.1;have z1:=z.2;assumption),.n (.string x.digest),?_,.a,.a,.a,?_,.a,.a,.l (a:=⟨g4,0,none⟩) fun us w6 hW _=>(by have z:=nV.out w6 hW.1;have z0:=z.1;have z1:=z.2;assumption),.a,.a,?_,?_,.a,.l fun us w6 hW _=>vh.out w6 hW.1,?_,.a,.a,trivial⟩ ?_
      ·(refine .r1 (.int .i64 (x.name.size:Int)) fun _ _ _ uj _ _ _ _=>?_;simp only[execOp,uj];go_simp;exact congrArg Value.bool (decide_eq_false (by omega)))
      ·(refine .r1 (.int .i64 (x.name.size:Int)) fun _ _ _ e19 _ _ _ _=>?_;simp only[execOp,e19];go_simp;exact congrArg Value.bool (decide_eq_false (by omega)))
      ·(refine .r1 (.int .i64 (x.digest.size:Int)) fun _ _ _ rA _ _ _ _=>?_;simp only[execOp,rA];go_simp;try rfl)
      ·(refine .r1 (.int .i64 (k:Int)) fun _ _ _ rD _ _ _ _=>?_;simp only[execOp,rD];go_simp;exact congrArg Value.bool (decide_eq_true (by omega)))
      ·(refine .r1 (.int .i64 (k:Int)) fun _ _ _ rB _ _ _ _=>?_;simp only[execOp,rB];go_simp;rw[Go.IntWalk.i64_in _ (by omega)];rfl)
      ·(refine .r2 (.slice (some ⟨b,off,none⟩) n c) (.int .i64 (((k - 1:Nat):Int))) fun _ _ _ H8 H5 _ _ _ _=>?_;simp only[execOp,H8,H5];go_simp;rw[if_pos (by omega)];rfl)
      ·(refine .r2 (.string x.name) (.string y) fun _ _ _ ve e39 _ _ _ _=>?_;simp only[execOp,ve,e39];go_simp;rw[xZ];simp only[Result.andThen,hle];rfl)
      intro us w9 hmem hW;simp only[qb,BH,BI,BJ,BL,Act.put,BD,BF,BG];generalize gZ:qz _ _ us=sv;have hq:sv 42=(.bool true:Value):=(by rw[←gZ];rfl);rw[hq];have gD:=zh hW.1;clear gZ hq hmem hW;go_wp2
      go_meet
      case rel=>exact⟨by rw[ml.out];rfl,gD⟩
    have h3':((x.digest.size:Int) !=32)=true:=(by simp[h3]);have ml:Hid (BP xs k=false):=zh (by rw[mW.out,decide_eq_false (by omega)];rfl);clear mW hp2 h3;go_wp2_with fail
    refine rF 47 rfl [12,13,14,15,16,17,18,19,20,21,22,23,24,25,26,27,28,29,30,31,32,33,34,35,36,37,38,39,40,41,42] []
      [kq 12 g4 0,kp 13 (.string x.name),kp 14 (.int .i64 (x.name.size:Int)),kf 15,kf 16,kq 17 g4 0,kp 18 (.string x.name),kp 19 (.int .i64 (x.name.size:Int)),kf 20,kf 21,kf 22,kq 23 g4 1,kp 24 (.string x.digest),kp 25 (.int .i64 (x.digest.size:Int)),kt 26,kt 27,kt 28,kt 42]
      [] [] (BZ w4 (fun _ _ _=>True)) .init ⟨.a,.l (a:=⟨g4,0,none⟩) fun us w6 hW _=>(by have z:=nV.out w6 hW.1;have z0:=z.1;have z1:=z.2;assumption),.n (.string x.name),?_,.a,.a,.l (a:=⟨g4,0,none⟩) fun us w6 hW _=>(by have z:=nV.out w6 hW.1;have z0:=z.1;have z1:=z.2;assumption),.n (.string x.name),?_,.a,.a,.a,.l (a:=⟨g4,1,none⟩) fun us w6 hW _=>(by have z:=nV.out w6 hW.1;have z0:=z.1;have z1:=z.2;assumption),.n (.string x.digest),?_,.a,.a,.b,.b,.b,.c,.c,.c,.c,.c,.c,.c,.c,.c,.b,.a,trivial⟩ ?_
    ·(refine .r1 (.int .i64 (x.name.size:Int)) fun _ _ _ uj _ _ _ _=>?_;simp only[execOp,uj];go_simp;exact congrArg Value.bool (decide_eq_false (by omega)))
    ·(refine .r1 (.int .i64 (x.name.size:Int)) fun _ _ _ e19 _ _ _ _=>?_;simp only[execOp,e19];go_simp;exact congrArg Value.bool (decide_eq_false (by omega)))
    ·(refine .r1 (.int .i64 (x.digest.size:Int)) fun _ _ _ rA _ _ _ _=>?_;simp only[execOp,rA];go_simp;try rfl)
    intro us w9 hmem hW;simp only[qb,BH,BI,BJ,BL,Act.put,BD,BF,BG];generalize gZ:qz _ _ us=sv;have hq:sv 42=(.bool true:Value):=(by rw[←gZ];rfl);rw[hq];have gD:=zh hW.1;clear gZ hq hmem hW;go_wp2
    go_meet
    case rel=>exact⟨by rw[ml.out];rfl,gD⟩
   case rest=>
    rename World=>wc
    obtain⟨rfl,HBc⟩:=hcut;have HBf:=zh (zu gW HBc.out);generalize htk:BP xs k=tk at *;have p6:=zh htk;clear htk
    cases tk with
    |false=>
     have HE:Hid (R=false):=zh (by rw[HR.out,Qp (k:=k) (by have:=HL.out;omega) p6.out]);go_wp2
     go_ret
     exact⟨by rw[HE.out];rfl,HBf.out⟩
    |true=>
     have pm:=zh (fun j (hj:j<k+1)=>(show BP xs j=true from by
      by_cases e:j=k
      ·rw[e];exact p6.out
      exact HA.out j (by omega)))
     go_wp2
     exact⟨⟨k+1,by omega,by go_num,HBf,pm⟩,by simp[intOf];omega⟩
  have HE:Hid (R=decide (n≤40)):=zh (by rw[HR.out,Qq (fun j hj=>HA.out j (by have:=HL.out;omega)),HL.out]);go_wp2
  go_ret
  exact⟨by rw[HE.out];congr 2;simp;omega,HB.out⟩
end Go.Proofs.YtipecejghioicaaGreat
