/- Book.Stripe, book.lens: the stripes of a thing are as long as they should be. -/
import Derived.Test.YtipecejghioicaaGreatE1s
import Derived.Test.YtipecejghioicaaGreatDatas
import Derived.Test.YtipecejghioicaaGreatQ1s
import Derived.Deep.CutBlock
import Derived.Deep.Cut
set_option maxHeartbeats 8000000
set_option maxRecDepth 100000
namespace Go.Proofs.YtipecejghioicaaGreat
open Go.RowKit Go.Silo
theorem kS {tg tg1:Bool}{S:Nat→Prop}{w:World}{A0 A1 A2:Option Addr}{n0 c0 n1 c1 n2 c2:Nat}{l:List Bb}{nx x:Int}(h:Sl tg 86 (qe tg1) w S A0 n0 c0 l) (hn:n0<4611686018427387904)
  (hs:∀i j,i<j→j<n0→(l.getD i default).id<(l.getD j default).id):
  Calls Tryz.prog 96 #[.agg #[.slice A0 n0 c0,.slice A1 n1 c1,.slice A2 n2 c2,.int .i64 nx],.int .i64 x] w (Zu l x w):=by
 have HC:=zh (fun W (hW:Below w.heap.size w W)=>Jw (w:=W) (x:=x) (h.all hW) hn hs);clear hs
 go_enter Tryz.func96,Tryz.ntmps96
 go_wp2_with fail
 refine(HC.out _ bz).mono ?_;rintro e w1 ⟨i,hi,rfl,h1,h2,hb1⟩;have HH:=zh (And.intro h1 h2);clear h1 h2
 (obtain⟨mb,hf_w1⟩:=qg hb1;have gU:w.heap.size<w1.heap.size:=(by have:=hb1.size;first|omega|(simp at this;omega)))
 go_wp2
 refine bodyPost_ret (v:=.tuple #[.int .i64 (i:Int),.bool (decide (i<l.length∧(l.getD i default).id=x))]) (by simp[results,Tryz.results96,go_sem, *];done) rfl ?_;exact⟨i,hi,rfl,HH.out.1,HH.out.2,bz⟩
def xb (l:List Bb) (id:Int):Option Bb:=l.find? (fun y=>decide (y.id=id))
def qY (W:Int) (l:List Bb):List Int→Int→Bool
 |[],left=>decide (left=0)
 |id::r,left=>match xb l id with
  |none=>false
  |some y=>if y.len=min left W then qY W l r (left - y.len) else false
theorem XF {l:List Bb}{x:Int}{i:Nat}(h:i<l.length∧(l.getD i default).id=x) (h1:∀j,j<i→(l.getD j default).id<x):xb l x=some (l.getD i default):=by
 unfold xb;rw[List.find?_eq_some_iff_getElem];have e:∀j (hj:j<l.length),l.getD j default=l[j]:=fun j hj=>by rw[List.getD_eq_getElem?_getD,List.getElem?_eq_getElem hj];rfl
 refine⟨by simpa using h.2,i,h.1,(e i h.1).symm,fun j hj=>?_⟩;have:=h1 j hj;rw[e j (by omega)] at this;simp;omega
theorem Zw {l:List Bb}{x:Int}{i:Nat}(h:¬(i<l.length∧(l.getD i default).id=x)) (h1:∀j,j<i→(l.getD j default).id<x) (h2:∀j,i≤j→j<l.length→x≤(l.getD j default).id) (hs:∀i j,i<j→j<l.length→(l.getD i default).id<(l.getD j default).id):xb l x=none:=by
 unfold xb;rw[List.find?_eq_none];intro y hy;obtain⟨j,hj,rfl⟩:=List.getElem_of_mem hy;have e:∀j (hj:j<l.length),l.getD j default=l[j]:=fun j hj=>by rw[List.getD_eq_getElem?_getD,List.getElem?_eq_getElem hj];rfl
 simp only[decide_eq_true_eq];intro he;rcases Nat.lt_trichotomy j i with mW|mW|mW
 ·have:=h1 j mW;rw[e j hj] at this;omega
 ·subst mW;exact h ⟨hj,by rw[e j hj];exact he⟩
 have h3:=hs i j mW hj;have h4:=h2 i (Nat.le_refl _) (by omega);rw[e j hj] at h3;omega
theorem EG {tg tg1 tg2:Bool}{S S2:Nat→Prop}{w:World}{A0 A1 A2 A3:Option Addr}{n0 c0 n1 c1 n2 c2 n3 c3:Nat}{s:Shape}{l:List Bb}{nx len:Int}{dg:ByteArray}{BC:Bool}{xs:List Int}(hsh:qo s=true) (hl0:0≤len) (hl1:len≤2000)
  (h:Sl tg 86 (qe tg1) w S A0 n0 c0 l) (hn:n0<4611686018427387904) (hs:∀i j,i<j→j<n0→(l.getD i default).id<(l.getD j default).id) (h3:Sl tg2 3 Bd w S2 A3 n3 c3 xs):
  Calls Tryz.prog 112 #[.agg #[.int .i64 s.K,.int .i64 s.M,.int .i64 s.size],.agg #[.slice A0 n0 c0,.slice A1 n1 c1,.slice A2 n2 c2,.int .i64 nx],.agg #[.string dg,.int .i64 len,.bool BC,.slice A3 n3 c3]] w (Bf (.bool (qY (s.K* s.size) l xs len)) w):=by
 have hd:=hsh;unfold qo at hd;have hd:=of_decide_eq_true hd;clear hsh;have p1:1≤s.K* s.size:=by have:=Int.mul_pos (show 0<s.K by omega) (show 0<s.size by omega);omega
 have p2:s.K* s.size≤8* 120:=Int.mul_le_mul (by omega) (by omega) (by omega) (by omega);have rO:=zh h3.len;have HL:=zh h.len;have hcap:n3≤9223372036854775807:=Nat.le_trans h3.le h3.cap;have pm:=zh hs;have HST:=zh (fun W (hW:Below w.heap.size w W) (x:Int)=>kS (w:=W) (A1:=A1) (A2:=A2) (n1:=n1) (c1:=c1) (n2:=n2) (c2:=c2) (nx:=nx) (x:=x) (h.all hW) hn hs);clear hs;have HRS:=zh (fun W (hW:Below w.heap.size w W)=>h.all hW);have HR3:=zh (fun W (hW:Below w.heap.size w W)=>h3.all hW);obtain⟨R,hR⟩:∃R,R=qY (s.K* s.size) l xs len:=⟨_,rfl⟩;rw[←hR];have HR:=zh hR;clear hR;clear h h3
 go_enter Tryz.func112,Tryz.ntmps112
 go_upto_region 1 with (fail)
 obtain⟨W,hW⟩:∃W,W=s.K* s.size:=⟨_,rfl⟩;have hW1:=zh hW;have p8:Below w.heap.size w (((w.alloc (.cells #[.int .i64 s.K,.int .i64 s.M,.int .i64 s.size] 23)).alloc (.cells #[.slice A0 n0 c0,.slice A1 n1 c1,.slice A2 n2 c2,.int .i64 nx] 28)).alloc (.cells #[.string dg,.int .i64 len,.bool BC,.slice A3 n3 c3] 90)):=bz;have hsz:(((w.alloc (.cells #[.int .i64 s.K,.int .i64 s.M,.int .i64 s.size] 23)).alloc (.cells #[.slice A0 n0 c0,.slice A1 n1 c1,.slice A2 n2 c2,.int .i64 nx] 28)).alloc (.cells #[.string dg,.int .i64 len,.bool BC,.slice A3 n3 c3] 90)).heap.size=w.heap.size+3:=by simp
 have r0:(((w.alloc (.cells #[.int .i64 s.K,.int .i64 s.M,.int .i64 s.size] 23)).alloc (.cells #[.slice A0 n0 c0,.slice A1 n1 c1,.slice A2 n2 c2,.int .i64 nx] 28)).alloc (.cells #[.string dg,.int .i64 len,.bool BC,.slice A3 n3 c3] 90)).heap[w.heap.size]?=some (.cells #[.int .i64 s.K,.int .i64 s.M,.int .i64 s.size] 23 (0,0)):=by
  rw[Below.heap_alloc _ _ _ (by simp;omega),Below.heap_alloc _ _ _ (by simp)];exact heap_alloc_new _ _
 have r1:(((w.alloc (.cells #[.int .i64 s.K,.int .i64 s.M,.int .i64 s.size] 23)).alloc (.cells #[.slice A0 n0 c0,.slice A1 n1 c1,.slice A2 n2 c2,.int .i64 nx] 28)).alloc (.cells #[.string dg,.int .i64 len,.bool BC,.slice A3 n3 c3] 90)).heap[w.heap.size+1]?=some (.cells #[.slice A0 n0 c0,.slice A1 n1 c1,.slice A2 n2 c2,.int .i64 nx] 28 (0,0)):=by
  rw[Below.heap_alloc _ _ _ (by simp)];have:=heap_alloc_new (w.alloc (.cells #[.int .i64 s.K,.int .i64 s.M,.int .i64 s.size] 23)) (.cells #[.slice A0 n0 c0,.slice A1 n1 c1,.slice A2 n2 c2,.int .i64 nx] 28)
  rwa [World.size_alloc] at this
 have r2:(((w.alloc (.cells #[.int .i64 s.K,.int .i64 s.M,.int .i64 s.size] 23)).alloc (.cells #[.slice A0 n0 c0,.slice A1 n1 c1,.slice A2 n2 c2,.int .i64 nx] 28)).alloc (.cells #[.string dg,.int .i64 len,.bool BC,.slice A3 n3 c3] 90)).heap[w.heap.size+1+1]?=some (.cells #[.string dg,.int .i64 len,.bool BC,.slice A3 n3 c3] 90 (0,0)):=by
  have:=heap_alloc_new ((w.alloc (.cells #[.int .i64 s.K,.int .i64 s.M,.int .i64 s.size] 23)).alloc (.cells #[.slice A0 n0 c0,.slice A1 n1 c1,.slice A2 n2 c2,.int .i64 nx] 28)) (.cells #[.string dg,.int .i64 len,.bool BC,.slice A3 n3 c3] 90)
  rwa [World.size_alloc,World.size_alloc] at this
 generalize (((w.alloc (.cells #[.int .i64 s.K,.int .i64 s.M,.int .i64 s.size] 23)).alloc (.cells #[.slice A0 n0 c0,.slice A1 n1 c1,.slice A2 n2 c2,.int .i64 nx] 28)).alloc (.cells #[.string dg,.int .i64 len,.bool BC,.slice A3 n3 c3] 90))=w1 at *;have gK:=zh (fun V (hV:Below w1.heap.size w1 V)=>p8.trans (hV.mono p8.size));clear p8;have gj:=zh (fun V (hV:Below w1.heap.size w1 V)=>And.intro ((hV.block _ (by omega)).trans r0) ((hV.block _ (by omega)).trans r1));have z1:=zo 1 r2;have z3:=zo 3 r2;clear r0 r1 r2;go_wp2_with fail
 clear z1 z3
 go_loopw [17,7] (fun iv lf wr=>∃k:Nat,∃lv:Int,k≤n3∧iv=.int .i64 k∧lf=.int .i64 lv∧0≤lv∧lv≤2000∧Hid (Below w1.heap.size w1 wr)∧Hid (R=qY (s.K* s.size) l (xs.drop k) lv)) (fun iv _ _=>n3 - (intOf iv).toNat)
 case atStart=>exact⟨0,len,Nat.zero_le _,rfl,rfl,hl0,hl1,zh (Below.refl _ _),zh (by rw[HR.out];rfl)⟩
 case round=>
  rename World=>wo
  obtain⟨k,lf,hk,rfl,rfl,hf0,vd,HB,yt⟩:=hrel;by_cases hlt:k<n3
  ·obtain⟨b3,o3,rfl,_,hb3,_,hc3,_⟩:=(HR3.out wo (gK.out wo HB.out)).BD hlt
   have hdrop:xs.drop k=xs.getD k 0::xs.drop (k+1):=by
    have hkl:k<xs.length:=(by have:=rO.out;omega);rw[List.drop_eq_getElem_cons hkl,List.getD_eq_getElem?_getD,List.getElem?_eq_getElem hkl];rfl
   generalize xs.getD k 0=id at *;have HRK2:Hid (R=qY (s.K* s.size) l (id::xs.drop (k+1)) lf):=zh (by rw[←hdrop];exact yt.out);clear hdrop yt;obtain⟨_,q1⟩:=gj.out wo HB.out;have y0:=zo 0 q1;have y1:=zo 1 q1;have y2:=zo 2 q1;have y3:=zo 3 q1;clear q1;go_wp2_with fail
   refine(HST.out wo (gK.out wo HB.out) id).mono ?_;clear y0 y1 y2 y3 hc3;rintro e w5 ⟨i,hi,rfl,g1,g2,gH⟩;have mi:=zt HB gH;clear gH;by_cases hfd:i<l.length∧(l.getD i default).id=id
   ·have hfi:=XF hfd g1;rw[decide_eq_true hfd];have hin:i<n0:=(by have:=HL.out;omega);obtain⟨bs,os,A4,n4,c4,rfl,_,hbs,_,i64l,_,_,_,u1,_⟩:=(HRS.out w5 (gK.out w5 mi.out)).Bq hin;generalize l.getD i default=y at *;obtain⟨yl,rP⟩:∃yl,yl=y.len:=⟨_,rfl⟩;rw[←rP] at u1 i64l;unfold Bo at i64l
    have hstep:R=if yl=min lf (s.K* s.size) then qY (s.K* s.size) l (xs.drop (k+1)) (lf - yl) else false:=by
     rw[HRK2.out];show(match xb l id with|none=>false|some y=>if y.len=min lf (s.K* s.size) then qY (s.K* s.size) l (xs.drop (k+1)) (lf - y.len) else false)=_;rw[hfi,rP]
    have ur:=zh hstep;clear hstep hfi rP hfd g1 g2;have nJ:=zh (fun V (hV:Below w5.heap.size w5 V)=>And.intro (gj.out V (zu mi hV)).1 (And.intro (gj.out V (zu mi hV)).2 ((hV.cell (p:=⟨bs,os+i* 4+1,none⟩) hbs).trans u1)));clear u1;by_cases hlen:yl=min lf (s.K* s.size)
    ·have hne:(yl !=min lf (s.K* s.size))=false:=(by simp[hlen]);have HE:Hid (R=qY (s.K* s.size) l (xs.drop (k+1)) (lf - yl)):=zh (by rw[ur.out,if_pos hlen]);have hb0:0≤yl:=(by omega);have hb1:yl≤lf:=(by omega);clear ur hlen;go_wp2_with fail
     refine rF 56 rfl [27,28,29,30,31,32,33,34,35,36,37,38,39,40,41,42,43,44] []
       [kt 27,kf 28,kf 29,kq 30 (w.heap.size+1) (0),kp 31 (.slice (some ⟨bs,os,none⟩) n0 c0),ki 32 i,kq 33 (bs) (os+i* 4),kq 34 (bs) (os+i* 4+1),kp 35 (.int .i64 yl),kp 36 (.int .i64 lf),kq 37 w.heap.size 0,kp 38 (.int .i64 s.K),kq 39 w.heap.size 2,kp 40 (.int .i64 s.size),kp 41 (.int .i64 (s.K* s.size)),kp 42 (.int .i64 (min lf (s.K* s.size))),kf 43,kf 44]
       [] [] (BL w5 (fun _ _ _=>True)) .init ⟨.a,.a,.a,.a,?_,.a,?_,.a,.l (a:=⟨bs,os+i* 4+1,none⟩) fun us w6 hW _=>(by obtain⟨q0,q1,q2⟩:=nJ.out w6 hW.1;have z0:=zo 0 q0;have z2:=zo 2 q0;have z3:=zo 0 q1;assumption),.a,.a,?_,.a,.l fun us w6 hW _=>zo 2 ((nJ.out w6 hW.1).1),?_,?_,?_,.a,trivial⟩ ?_
     ·(refine .r1 (.pointer (some ⟨w.heap.size+1,0,none⟩)) fun _ _ w6 pE _ _ _ hW=>?_;obtain⟨q0,q1,q2⟩:=nJ.out w6 hW.1;have z0:=zo 0 q0;have z2:=zo 2 q0;have z3:=zo 0 q1;clear q0 q1;simp only[execOp,pE];go_simp;try rfl)
     ·(refine .r2 (.slice (some ⟨bs,os,none⟩) n0 c0) (.int .i64 (i:Int)) fun _ _ _ mg mD _ _ _ _=>?_;simp only[execOp,mg,mD];go_simp;try rfl)
     ·(refine .r1 (.pointer (some ⟨w.heap.size,0,none⟩)) fun _ _ w6 vg _ _ _ hW=>?_;obtain⟨q0,q1,q2⟩:=nJ.out w6 hW.1;have z0:=zo 0 q0;have z2:=zo 2 q0;have z3:=zo 0 q1;clear q0 q1;simp only[execOp,vg];go_simp;try rfl)
     ·(refine .r2 (.int .i64 s.K) (.int .i64 s.size) fun _ _ _ e38 e40 _ _ _ _=>?_;simp only[execOp,e38,e40];go_simp;rw[Go.IntWalk.i64_in _ (by omega)];rfl)
     ·(refine .r2 (.int .i64 lf) (.int .i64 (s.K* s.size)) fun _ _ _ _ _ _ _ _ _=>?_;simp only[execOp];go_simp;rw[show(if s.K* s.size<lf then s.K* s.size else lf)=min lf (s.K* s.size) by split<;>omega];rfl)
     ·(refine .r2 (.int .i64 yl) (.int .i64 (min lf (s.K* s.size))) fun _ _ _ mB yu _ _ _ _=>?_;simp only[execOp,mB,yu];go_simp;try rfl)
     intro us w9 hmem hW;simp only[qc,BR,BS,BU,BV,Act.put,BO,BP,BQ];generalize gp:qp _ _ us=sv;have hq:sv 44=(.bool false:Value):=(by rw[←gp];rfl);rw[hq];have gy:=zh hW.1;clear gp hq hmem hW;have pF:=zh (zu mi gy.out);have q:=(nJ.out _ gy.out).2.2;have q1:=(nJ.out _ gy.out).2.1;have y0:=zo 0 q1;clear q1;go_wp2
     exact⟨⟨k+1,lf - yl,by omega,by go_num,rfl,by omega,by omega,pF,HE⟩,by simp[intOf];omega⟩
    have hne:(yl !=min lf (s.K* s.size))=true:=(by simp[hlen]);have HE:Hid (R=false):=zh (by rw[ur.out,if_neg hlen]);clear ur hlen;go_wp2_with fail
    refine rF 56 rfl [27,28,29,30,31,32,33,34,35,36,37,38,39,40,41,42,43,44] []
      [kt 27,kf 28,kf 29,kq 30 (w.heap.size+1) (0),kp 31 (.slice (some ⟨bs,os,none⟩) n0 c0),ki 32 i,kq 33 (bs) (os+i* 4),kq 34 (bs) (os+i* 4+1),kp 35 (.int .i64 yl),kp 36 (.int .i64 lf),kq 37 w.heap.size 0,kp 38 (.int .i64 s.K),kq 39 w.heap.size 2,kp 40 (.int .i64 s.size),kp 41 (.int .i64 (s.K* s.size)),kp 42 (.int .i64 (min lf (s.K* s.size))),kt 43,kt 44]
      [] [] (BL w5 (fun _ _ _=>True)) .init ⟨.a,.a,.a,.a,?_,.a,?_,.a,.l (a:=⟨bs,os+i* 4+1,none⟩) fun us w6 hW _=>(by obtain⟨q0,q1,q2⟩:=nJ.out w6 hW.1;have z0:=zo 0 q0;have z2:=zo 2 q0;have z3:=zo 0 q1;assumption),.a,.a,?_,.a,.l fun us w6 hW _=>zo 2 ((nJ.out w6 hW.1).1),?_,?_,?_,.a,trivial⟩ ?_
    ·(refine .r1 (.pointer (some ⟨w.heap.size+1,0,none⟩)) fun _ _ w6 pE _ _ _ hW=>?_;obtain⟨q0,q1,q2⟩:=nJ.out w6 hW.1;have z0:=zo 0 q0;have z2:=zo 2 q0;have z3:=zo 0 q1;clear q0 q1;simp only[execOp,pE];go_simp;try rfl)
    ·(refine .r2 (.slice (some ⟨bs,os,none⟩) n0 c0) (.int .i64 (i:Int)) fun _ _ _ mg mD _ _ _ _=>?_;simp only[execOp,mg,mD];go_simp;try rfl)
    ·(refine .r1 (.pointer (some ⟨w.heap.size,0,none⟩)) fun _ _ w6 vg _ _ _ hW=>?_;obtain⟨q0,q1,q2⟩:=nJ.out w6 hW.1;have z0:=zo 0 q0;have z2:=zo 2 q0;have z3:=zo 0 q1;clear q0 q1;simp only[execOp,vg];go_simp;try rfl)
    ·(refine .r2 (.int .i64 s.K) (.int .i64 s.size) fun _ _ _ e38 e40 _ _ _ _=>?_;simp only[execOp,e38,e40];go_simp;rw[Go.IntWalk.i64_in _ (by omega)];rfl)
    ·(refine .r2 (.int .i64 lf) (.int .i64 (s.K* s.size)) fun _ _ _ _ _ _ _ _ _=>?_;simp only[execOp];go_simp;rw[show(if s.K* s.size<lf then s.K* s.size else lf)=min lf (s.K* s.size) by split<;>omega];rfl)
    ·(refine .r2 (.int .i64 yl) (.int .i64 (min lf (s.K* s.size))) fun _ _ _ mB yu _ _ _ _=>?_;simp only[execOp,mB,yu];go_simp;try rfl)
    intro us w9 hmem hW;simp only[qc,BR,BS,BU,BV,Act.put,BO,BP,BQ];generalize gp:qp _ _ us=sv;have hq:sv 44=(.bool true:Value):=(by rw[←gp];rfl);rw[hq];have gy:=zh hW.1;clear gp hq hmem hW;go_wp2
    go_ret
    exact⟨by rw[HE.out];rfl,gK.out _ (zu mi gy.out)⟩
   have hfi:=Zw hfd g1 g2 (fun i j h1 h2=>pm.out i j h1 (by have:=HL.out;omega));rw[decide_eq_false hfd];have HE:Hid (R=false):=zh (by rw[HRK2.out];show(match xb l id with|none=>false|some y=>if y.len=min lf (s.K* s.size) then qY (s.K* s.size) l (xs.drop (k+1)) (lf - y.len) else false)=_;rw[hfi]);clear hfi hfd g1 g2;go_wp2_with fail
   refine rF 56 rfl [27,28,29,30,31,32,33,34,35,36,37,38,39,40,41,42,43,44] []
     [kf 27,kt 28,kt 29,kt 44]
     [] [] (BL w5 (fun _ _ _=>True)) .init ⟨.a,.a,.a,.b,.b,.b,.b,.b,.b,.b,.b,.b,.b,.b,.b,.b,.b,.a,trivial⟩ ?_
   intro us w9 hmem hW;simp only[qc,BR,BS,BU,BV,Act.put,BO,BP,BQ];generalize gp:qp _ _ us=sv;have hq:sv 44=(.bool true:Value):=(by rw[←gp];rfl);rw[hq];have gy:=zh hW.1;clear gp hq hmem hW;go_wp2
   go_ret
   exact⟨by rw[HE.out];rfl,gK.out _ (zu mi gy.out)⟩
  obtain rfl:k=n3:=by omega
  have HE:Hid (R=decide (lf=0)):=zh (by rw[yt.out,List.drop_of_length_le (by have:=rO.out;omega)];rfl);have hz:(lf==0)=decide (lf=0):=by by_cases h:lf=0<;>simp[h]
  go_wp2
  go_ret
  exact⟨by rw[HE.out,←hz];rfl,gK.out _ HB.out⟩
end Go.Proofs.YtipecejghioicaaGreat
