/- Book.things: may a book's things be? -/
import Derived.Test.YtipecejghioicaaGreatQ1s
import Derived.Test.YtipecejghioicaaGreatQ2s
import Derived.Test.YtipecejghioicaaGreatQ4s
import Derived.Test.YtipecejghioicaaGreatR4s
import Derived.Deep.CutBlock
import Derived.Deep.Cut
set_option maxHeartbeats 16000000
set_option maxRecDepth 100000
namespace Go.Proofs.YtipecejghioicaaGreat
open Go.RowKit Go.Silo
def qy (s:Shape) (l:List Bb) (xs:List Entry) (k:Nat):Bool:=
 decide ((xs.getD k default).digest.size=32)&&((decide (k=0)||qr (xs.getD (k - 1) default).digest (xs.getD k default).digest)&&(decide (0≤(xs.getD k default).len)&&(decide ((xs.getD k default).len≤2000)&&
  (decide ((xs.getD k default).list.length=zn s (xs.getD k default).len)&&qY (s.K* s.size) l (xs.getD k default).list (xs.getD k default).len))))
def qb (xs:List Entry) (k:Nat):List Int:=(xs.take k).flatMap (fun x=>x.list)
def qP (s:Shape) (l:List Bb) (xs:List Entry):Bool:=(List.range xs.length).all (qy s l xs)&&(decide (qb xs xs.length).Nodup&&decide (xs.length≤60))
theorem xO {s:Shape}{l:List Bb}{xs:List Entry}{k:Nat}(h:k<xs.length) (hk:qy s l xs k=false):qP s l xs=false:=by
 unfold qP
 have:(List.range xs.length).all (qy s l xs)=false:=by
  rw[List.all_eq_false];exact⟨k,List.mem_range.2 h,by simp[hk]⟩
 rw[this];rfl
theorem zi {xs:List Entry}{k:Nat}(h:k<xs.length):qb xs (k+1)=qb xs k++(xs.getD k default).list:=by
 unfold qb;rw[List.take_add_one,List.flatMap_append,List.getElem?_eq_getElem h,List.getD_eq_getElem?_getD,List.getElem?_eq_getElem h];simp
theorem js {xs:List Entry}{k:Nat}(_h:k≤xs.length):∃r,qb xs xs.length=qb xs k++r:=by
 refine⟨(xs.drop k).flatMap (fun x=>x.list),?_⟩;unfold qb;rw[List.take_length,←List.flatMap_append,List.take_append_drop]
theorem jb {s:Shape}{l:List Bb}{xs:List Entry}{k j:Nat}(h:k<xs.length) (hj:j<(xs.getD k default).list.length) (hm:(xs.getD k default).list.getD j 0∈qb xs k++(xs.getD k default).list.take j):qP s l xs=false:=by
 have hnd:¬(qb xs xs.length).Nodup:=by
  obtain⟨r,hr⟩:=js (xs:=xs) (k:=k+1) (by omega);rw[hr,zi h];intro hn;have h1:=(List.nodup_append.1 hn).1;generalize (xs.getD k default).list=L at *
  have hL:L=L.take j++L.getD j 0::L.drop (j+1):=by
   rw[List.getD_eq_getElem?_getD,List.getElem?_eq_getElem hj,Option.getD_some,←List.drop_eq_getElem_cons hj,List.take_append_drop]
  rw[hL,←List.append_assoc] at h1;have hm':L.getD j 0∈qb xs k++L.take j:=hm;exact(List.nodup_append.1 h1).2.2 _ hm' _ (List.mem_cons_self ..) rfl
 unfold qP;rw[decide_eq_false hnd];simp
theorem jD {s:Shape}{l:List Bb}{xs:List Entry}(h:∀k,k<xs.length→qy s l xs k=true) (hn:(qb xs xs.length).Nodup):qP s l xs=decide (xs.length≤60):=by
 unfold qP;rw[List.all_eq_true.2 (fun k hk=>h k (List.mem_range.1 hk)),decide_eq_true hn];rfl
def xr (l:List Int):List Value:=l.map (fun a=>.int .i64 a)
theorem jS {l:List Int}{a:Int}:Value.int .i64 a∈xr l↔a∈l:=by
 unfold xr;constructor
 ·intro h;obtain⟨b,hb,e⟩:=List.mem_map.1 h;injection e with _ e;subst e;exact hb
 intro h;exact List.mem_map.2 ⟨a,h,rfl⟩
theorem JC {tg tg0 tg1 tg2:Bool}{S S1:Nat→Prop}{w:World}{A0 A1 A2:Option Addr}{n0 c0 n1 c1 n2 c2:Nat}{s:Shape}{l:List Bb}{nx:Int}{xs:List Entry}(hsh:qo s=true)
  (h:Sl tg 86 (qe tg0) w S A0 n0 c0 l) (hn:n0<4611686018427387904) (hs:∀i j,i<j→j<n0→(l.getD i default).id<(l.getD j default).id) (h1:Sl tg1 90 (ql tg2) w S1 A1 n1 c1 xs) (hfew:(qb xs xs.length).length≤1000000):
  Calls Tryz.prog 77 #[.agg #[.int .i64 s.K,.int .i64 s.M,.int .i64 s.size],.agg #[.slice A0 n0 c0,.slice A1 n1 c1,.slice A2 n2 c2,.int .i64 nx]] w (Bf (.bool (qP s l xs)) w):=by
 have mE:=zh h1.len;have HL:=zh h.len;have hcap:n1≤9223372036854775807:=Nat.le_trans h1.le h1.cap;have yw:=zh (fun W (hW:Below w.heap.size w W) (len:Int) (h0:0≤len) (h2:len≤2000) (dg:ByteArray) (BC:Bool) (A3:Option Addr) (n3 c3:Nat) (ys:List Int) (tg3:Bool) (S3:Nat→Prop) (h3:Sl tg3 3 Bd W S3 A3 n3 c3 ys)=>EG (w:=W) (A1:=A1) (A2:=A2) (n1:=n1) (c1:=c1) (n2:=n2) (c2:=c2) (nx:=nx) (dg:=dg) (BC:=BC) hsh h0 h2 (h.all hW) hn hs h3);clear hs;have yc:=zh (fun W (hW:Below w.heap.size w W)=>h1.all hW);have HMA:=zh (fun(W:World) (len:Int) (h0:0≤len) (h2:len≤2000)=>EK (w:=W) hsh h0 (by omega:len≤100000));obtain⟨R,hR⟩:∃R,R=qP s l xs:=⟨_,rfl⟩;rw[←hR];have HR:=zh hR;clear hR;clear h h1
 go_enter Tryz.func77,Tryz.ntmps77
 have hmk:=fun W:World=>run_makeMap (P:=Tryz.prog) 99 W
 go_upto_region 2 with (fail)
 clear hmk;have p8:Below w.heap.size w (((w.alloc (.cells #[.int .i64 s.K,.int .i64 s.M,.int .i64 s.size] 23)).alloc (.cells #[.slice A0 n0 c0,.slice A1 n1 c1,.slice A2 n2 c2,.int .i64 nx] 28)).alloc (.map #[] 0)):=bz
 have r0:(((w.alloc (.cells #[.int .i64 s.K,.int .i64 s.M,.int .i64 s.size] 23)).alloc (.cells #[.slice A0 n0 c0,.slice A1 n1 c1,.slice A2 n2 c2,.int .i64 nx] 28)).alloc (.map #[] 0)).heap[w.heap.size]?=some (.cells #[.int .i64 s.K,.int .i64 s.M,.int .i64 s.size] 23 (0,0)):=by
  rw[Below.heap_alloc _ _ _ (by simp;omega),Below.heap_alloc _ _ _ (by simp)];exact heap_alloc_new _ _
 have r1:(((w.alloc (.cells #[.int .i64 s.K,.int .i64 s.M,.int .i64 s.size] 23)).alloc (.cells #[.slice A0 n0 c0,.slice A1 n1 c1,.slice A2 n2 c2,.int .i64 nx] 28)).alloc (.map #[] 0)).heap[w.heap.size+1]?=some (.cells #[.slice A0 n0 c0,.slice A1 n1 c1,.slice A2 n2 c2,.int .i64 nx] 28 (0,0)):=by
  rw[Below.heap_alloc _ _ _ (by simp)];have:=heap_alloc_new (w.alloc (.cells #[.int .i64 s.K,.int .i64 s.M,.int .i64 s.size] 23)) (.cells #[.slice A0 n0 c0,.slice A1 n1 c1,.slice A2 n2 c2,.int .i64 nx] 28)
  rwa [World.size_alloc] at this
 have gz:=Bu.made (P:=Tryz.prog) (k:=3) (e:=4) (w:=((w.alloc (.cells #[.int .i64 s.K,.int .i64 s.M,.int .i64 s.size] 23)).alloc (.cells #[.slice A0 n0 c0,.slice A1 n1 c1,.slice A2 n2 c2,.int .i64 nx] 28)));have hsz:(((w.alloc (.cells #[.int .i64 s.K,.int .i64 s.M,.int .i64 s.size] 23)).alloc (.cells #[.slice A0 n0 c0,.slice A1 n1 c1,.slice A2 n2 c2,.int .i64 nx] 28)).alloc (.map #[] 0)).heap.size=w.heap.size+3:=by simp
 simp only[World.size_alloc] at gz;generalize (((w.alloc (.cells #[.int .i64 s.K,.int .i64 s.M,.int .i64 s.size] 23)).alloc (.cells #[.slice A0 n0 c0,.slice A1 n1 c1,.slice A2 n2 c2,.int .i64 nx] 28)).alloc (.map #[] 0))=w2 at *;generalize hm:w.heap.size+1+1=m at *;have hmw:w.heap.size≤m:=by omega
 have pX:w.heap.size+1<m:=by omega
 have hm2:m<w2.heap.size:=by omega
 have yx:w.heap.size<m:=by omega
 clear hm hsz;have gK:=zh (fun V (hV:Below m w2 V)=>p8.trans (hV.mono hmw));clear p8;have gj:=zh (fun V (hV:Below m w2 V)=>And.intro ((hV.block _ yx).trans r0) ((hV.block _ pX).trans r1));have r9:=zh gz;clear gz;have q1:=zo 1 r1;clear r0 r1;go_wp2_with fail
 clear q1
 go_loopw [14] (fun iv wr=>∃k:Nat,k≤n1∧iv=.int .i64 k∧Hid (Below m w2 wr)∧Hid (Bu Tryz.prog 3 4 wr m (qb xs k).length (xr (qb xs k)))∧Hid (∀j,j<k→qy s l xs j=true)∧Hid (qb xs k).Nodup) (fun iv _=>n1 - (intOf iv).toNat)
 case atStart=>exact⟨0,Nat.zero_le _,rfl,zh (Below.refl _ _),r9,zh (fun j hj=>by omega),zh (by simp[qb])⟩
 case round=>
  rename World=>wo
  clear r9;obtain⟨k,hk,rfl,HB,HST,HA,HND⟩:=hrel;by_cases hlt:k<n1
  ·obtain⟨bE,oE,A3,n3,c3,rfl,_,hbE,so,i64l,nK,u0,u1,u2,u3,_⟩:=(yc.out wo (gK.out wo HB.out)).BF hlt;obtain⟨bE',oE',A3',n3',c3',eE,_,hbE',_,_,hl3',_,_,_,u3',_⟩:=(yc.out w (Below.refl _ _)).BF hlt;injection eE with eE;injection eE with e1 e2 _;subst e1;subst e2
   have e3:=(((gK.out wo HB.out).cell (p:=⟨bE,oE+k* 4+3,none⟩) hbE').trans u3').symm.trans u3;injection e3 with e3;injection e3 with mg mD q9;have mg:=mg.symm;have mD:=mD.symm;have q9:=q9.symm;subst mg;subst mD;subst q9
   clear hbE' u3'
   have hp:0<k→wo.cell? ⟨bE,oE+(k - 1)* 4,none⟩=some (.string (xs.getD (k - 1) default).digest):=fun h0=>by
    obtain⟨b',off',A',n',c',e,_,_,_,_,_,hd,_⟩:=(yc.out wo (gK.out wo HB.out)).BF (k:=k - 1) (by omega);injection e with e;injection e with e1 e2 _;subst e1;subst e2
    exact hd
   obtain⟨pd,pG⟩:∃y,y=(xs.getD (k - 1) default).digest:=⟨_,rfl⟩;rw[←pG] at hp;have hat:qy s l xs k=(decide ((xs.getD k default).digest.size=32)&&((decide (k=0)||qr pd (xs.getD k default).digest)&&(decide (0≤(xs.getD k default).len)&&(decide ((xs.getD k default).len≤2000)&&(decide ((xs.getD k default).list.length=zn s (xs.getD k default).len)&&qY (s.K* s.size) l (xs.getD k default).list (xs.getD k default).len))))):=(by rw[pG];rfl);have rW:=nK.len;rw[rW] at hat;have rO:=zh nK;clear nK;have mG:=zh rW;clear rW;obtain⟨ys,hys⟩:∃ys,ys=(xs.getD k default).list:=⟨_,rfl⟩;rw[←hys] at hat rO mG hl3';have HLW:=zh (fun V (hV:Below m w2 V)=>hl3'.all (gK.out V hV));clear hl3';have HYS:=zh hys;clear hys;generalize (xs.getD k default).digest=dg at *;generalize (xs.getD k default).len=len at *;generalize (xs.getD k default).BC=BC at *;unfold Bo at i64l;clear pG;have gV:=zh hat;clear hat
   go_upto_region 5 with (fail)
   have hal:Below wo.heap.size wo (wo.alloc (.cells #[.string dg,.int .i64 len,.bool BC,.slice A3 n3 c3] 90)):=(Below.refl _ _).alloc (Nat.le_refl _) _;have hrow:=heap_alloc_new wo (.cells #[.string dg,.int .i64 len,.bool BC,.slice A3 n3 c3] 90);have hzl:wo.heap.size<(wo.alloc (.cells #[.string dg,.int .i64 len,.bool BC,.slice A3 n3 c3] 90)).heap.size:=(by simp);generalize (wo.alloc (.cells #[.string dg,.int .i64 len,.bool BC,.slice A3 n3 c3] 90))=w4 at *;have hmo:m≤wo.heap.size:=(by have:=HB.out.size;omega);have mf:m≤w4.heap.size:=(by have:=hal.size;omega);have gv:=zh (HB.out.trans (hal.mono hmo));have vh:=zh (HST.out.all hal);have nj:=zh (rO.out.all hal);have hbE4:bE<w4.heap.size:=(by omega);have hp2:=fun h0=>(hal.cell (p:=⟨bE,oE+(k - 1)* 4,none⟩) hbE).trans (hp h0);clear hal u0 u1 u2 u3 hp HST rO;generalize wo.heap.size=g7 at *;have gf:=zh (fun V (hV:Below w4.heap.size w4 V)=>(hV.block _ hzl).trans hrow);clear hrow hbE
   go_cut [65] from 19 to 65 (fun t V=>t=.bool (!qy s l xs k)∧Hid (Below w4.heap.size w4 V))
   case first=>
    clear HA HND;by_cases hd:(dg.size:Int)=32
    ·have hd':((dg.size:Int) !=32)=false:=(by simp[hd]);have gX:=gV.out;rw[decide_eq_true (by omega:dg.size=32)] at gX;clear gV hd;by_cases nL:k=0
     ·have mC:Hid (qy s l xs k=(decide (0≤len)&&(decide (len≤2000)&&(decide (n3=zn s len)&&qY (s.K* s.size) l ys len)))):=zh (by rw[gX,decide_eq_true nL];rfl);have rX:¬0<(k:Int):=(by omega);clear gX hp2 nL;by_cases cC:len<0
      ·have gA:Hid (qy s l xs k=false):=zh (by rw[mC.out,decide_eq_false (by omega)];rfl);clear mC;go_wp2_with fail
       refine rF 84 rfl [19,20,21,22,23,24,25,26,27,28,29,30,31,32,33,34,35,36,37,38,39,40,41,42,43,44,45,46,47,48,49,50,51,52,53,54,55,56,57,58,59,60,61,62,63,64,65] []
         [kq 19 g7 0,kp 20 (.string dg),kp 21 (.int .i64 (dg.size:Int)),kf 22,kf 23,ki 24 k,kf 25,kf 26,kf 37,kf 38,kf 39,kq 40 g7 1,kp 41 (.int .i64 len),kt 42,kt 43,kt 44,kt 48,kt 49,kt 58,kt 59,kt 65]
         [] [] (BL w4 (fun _ _ _=>True)) .init ⟨.a,.l fun us w6 hW _=>zo 0 (gf.out w6 hW.1),.n (.string dg),?_,.a,.a,?_,.a,.b,.b,.b,.b,.b,.b,.b,.b,.b,.b,.a,.a,.a,.a,.l fun us w6 hW _=>zo 1 (gf.out w6 hW.1),?_,.a,.a,.b,.b,.b,.a,.a,.b,.b,.b,.b,.b,.b,.b,.b,.a,.a,.b,.b,.b,.b,.b,.a,trivial⟩ ?_
       ·(refine .r1 (.int .i64 (dg.size:Int)) fun _ _ _ gW _ _ _ _=>?_;simp only[execOp,gW];go_simp;try rfl)
       ·(refine .r1 (.int .i64 (k:Int)) fun _ _ _ nk _ _ _ _=>?_;simp only[execOp,nk];go_simp;exact congrArg Value.bool (decide_eq_false (by omega)))
       ·(refine .r1 (.int .i64 len) fun _ _ _ po _ _ _ _=>?_;simp only[execOp,po];go_simp;try rfl)
       intro us w9 hmem hW;simp only[qc,BR,BS,BU,BV,Act.put,BO,BP,BQ];generalize gp:qp _ _ us=sv;have hq:sv 65=(.bool true:Value):=(by rw[←gp];rfl);rw[hq];have gy:=zh hW.1;clear gp hq hmem hW;go_wp2
       go_meet
       case rel=>exact⟨by rw[gA.out];rfl,gy⟩
      by_cases cD:2000<len
      ·have gA:Hid (qy s l xs k=false):=zh (by rw[mC.out,decide_eq_true (by omega:0≤len),decide_eq_false (by omega)];rfl);clear mC;go_wp2_with fail
       refine rF 84 rfl [19,20,21,22,23,24,25,26,27,28,29,30,31,32,33,34,35,36,37,38,39,40,41,42,43,44,45,46,47,48,49,50,51,52,53,54,55,56,57,58,59,60,61,62,63,64,65] []
         [kq 19 g7 0,kp 20 (.string dg),kp 21 (.int .i64 (dg.size:Int)),kf 22,kf 23,ki 24 k,kf 25,kf 26,kf 37,kf 38,kf 39,kq 40 g7 1,kp 41 (.int .i64 len),kf 42,kf 43,kf 44,kq 45 g7 1,kp 46 (.int .i64 len),kt 47,kt 48,kt 49,kt 58,kt 59,kt 65]
         [] [] (BL w4 (fun _ _ _=>True)) .init ⟨.a,.l fun us w6 hW _=>zo 0 (gf.out w6 hW.1),.n (.string dg),?_,.a,.a,?_,.a,.b,.b,.b,.b,.b,.b,.b,.b,.b,.b,.a,.a,.a,.a,.l fun us w6 hW _=>zo 1 (gf.out w6 hW.1),?_,.a,.a,.a,.l fun us w6 hW _=>zo 1 (gf.out w6 hW.1),?_,.a,.a,.b,.b,.b,.b,.b,.b,.b,.b,.a,.a,.b,.b,.b,.b,.b,.a,trivial⟩ ?_
       ·(refine .r1 (.int .i64 (dg.size:Int)) fun _ _ _ gW _ _ _ _=>?_;simp only[execOp,gW];go_simp;try rfl)
       ·(refine .r1 (.int .i64 (k:Int)) fun _ _ _ nk _ _ _ _=>?_;simp only[execOp,nk];go_simp;exact congrArg Value.bool (decide_eq_false (by omega)))
       ·(refine .r1 (.int .i64 len) fun _ _ _ po _ _ _ _=>?_;simp only[execOp,po];go_simp;exact congrArg Value.bool (decide_eq_false (by omega)))
       ·(refine .r1 (.int .i64 len) fun _ _ _ ra _ _ _ _=>?_;simp only[execOp,ra];go_simp;try rfl)
       intro us w9 hmem hW;simp only[qc,BR,BS,BU,BV,Act.put,BO,BP,BQ];generalize gp:qp _ _ us=sv;have hq:sv 65=(.bool true:Value):=(by rw[←gp];rfl);rw[hq];have gy:=zh hW.1;clear gp hq hmem hW;go_wp2
       go_meet
       case rel=>exact⟨by rw[gA.out];rfl,gy⟩
      have mI:qy s l xs k=(decide (n3=zn s len)&&qY (s.K* s.size) l ys len):=(by rw[mC.out,decide_eq_true (by omega:0≤len),decide_eq_true (by omega:len≤2000)];rfl);clear mC;obtain⟨mn,ni⟩:∃mn,mn=zn s len:=⟨_,rfl⟩;rw[←ni] at mI;have rY:=zh ni.symm;clear ni;by_cases cE:n3=mn
      ·have cE':((n3:Int) !=(mn:Int))=false:=(by simp[cE]);rw[decide_eq_true cE] at mI;clear cE;generalize vk:qY (s.K* s.size) l ys len=lf at *;have pu:=zh vk;clear vk
       cases lf with
       |true=>
        have gA:Hid (qy s l xs k=true):=zh mI;clear mI;go_wp2_with fail
        refine rF 84 rfl [19,20,21,22,23,24,25,26,27,28,29,30,31,32,33,34,35,36,37,38,39,40,41,42,43,44,45,46,47,48,49,50,51,52,53,54,55,56,57,58,59,60,61,62,63,64,65] [37,44]
          [kq 19 g7 0,kp 20 (.string dg),kp 21 (.int .i64 (dg.size:Int)),kf 22,kf 23,ki 24 k,kf 25,kf 26,kf 37,kf 38,kf 39,kq 40 g7 1,kp 41 (.int .i64 len),kf 42,kf 43,kf 44,kq 45 g7 1,kp 46 (.int .i64 len),kf 47,kf 48,kf 49,kq 50 g7 3,kp 51 (.slice A3 n3 c3),ki 52 n3,kp 53 (.agg #[.int .i64 s.K,.int .i64 s.M,.int .i64 s.size]),kq 54 g7 1,kp 55 (.int .i64 len),(57,[37],fun _=>.bool false),kf 58,kf 59,kp 60 (.agg #[.int .i64 s.K,.int .i64 s.M,.int .i64 s.size]),kp 61 (.agg #[.slice A0 n0 c0,.slice (some ⟨bE,oE,none⟩) n1 c1,.slice A2 n2 c2,.int .i64 nx]),kp 62 (.agg #[.string dg,.int .i64 len,.bool BC,.slice A3 n3 c3]),(64,[44],fun _=>.bool false),kf 65]
          [] [] (BL w4 (fun i v _=>(i=37→v=.int .i64 (mn:Int))∧(i=44→v=.bool true))) .init ⟨.a,.l fun us w6 hW _=>zo 0 (gf.out w6 hW.1),.n (.string dg),?_,.a,.a,?_,.a,.b,.b,.b,.b,.b,.b,.b,.b,.b,.b,.a,.a,.a,.a,.l fun us w6 hW _=>zo 1 (gf.out w6 hW.1),?_,.a,.a,.a,.l fun us w6 hW _=>zo 1 (gf.out w6 hW.1),?_,.a,.a,.a,.l fun us w6 hW _=>zo 3 (gf.out w6 hW.1),.n (.slice A3 n3 c3),?_,.a,.l fun us w6 hW _=>zo 1 (gf.out w6 hW.1),?_,?_,.a,.a,?_,?_,?_,?_,?_,.a,trivial⟩ ?_
        ·(refine .r1 (.int .i64 (dg.size:Int)) fun _ _ _ gW _ _ _ _=>?_;simp only[execOp,gW];go_simp;try rfl)
        ·(refine .r1 (.int .i64 (k:Int)) fun _ _ _ nk _ _ _ _=>?_;simp only[execOp,nk];go_simp;exact congrArg Value.bool (decide_eq_false (by omega)))
        ·(refine .r1 (.int .i64 len) fun _ _ _ po _ _ _ _=>?_;simp only[execOp,po];go_simp;exact congrArg Value.bool (decide_eq_false (by omega)))
        ·(refine .r1 (.int .i64 len) fun _ _ _ ra _ _ _ _=>?_;simp only[execOp,ra];go_simp;exact congrArg Value.bool (decide_eq_false (by omega)))
        ·(refine .r1 (.pointer (some ⟨w.heap.size,0,none⟩)) fun _ _ w6 e2 _ _ _ hW=>?_;have rr:=gj.out w6 (gv.out.trans (hW.1.mono mf));have z0:=zo 0 rr.1;have z1:=zo 1 rr.1;have z2:=zo 2 rr.1;have x0:=zo 0 rr.2;have x1:=zo 1 rr.2;have x2:=zo 2 rr.2;have x3:=zo 3 rr.2;clear rr;simp only[execOp,e2];go_simp;try rfl)
        ·refine Bc.wr rfl (fun Z us w6 ho ht hni hlim gb hW K hK=>?_);have uE:=zv (ht 53 (by decide)) (.agg #[.int .i64 s.K,.int .i64 s.M,.int .i64 s.size]) rfl;have uF:=zv (ht 55 (by decide)) (.int .i64 len) rfl;have hcl:=HMA.out w6 len (by omega) (by omega);rw[rY.out] at hcl;have eg:=zv (ht 49 (by decide)) (.bool false) rfl;refine qt (Bh.wanted (.at_ (j:=30) (t:=49) (b:=false) rfl rfl eg)) 111 #[.tmp 53,.tmp 55] #[23,3] rfl Tryz.func111 (by kernel_rfl) (by kernel_rfl) #[.agg #[.int .i64 s.K,.int .i64 s.M,.int .i64 s.size],.int .i64 len] (by simp[uE,uF];try rfl) hcl ?_;rintro e w7 ⟨rfl,gh⟩;exact⟨_,rfl,hK _ _ (hW.snoc gh (fun j v h=>h) (⟨fun _=>rfl,fun h=>absurd h (by decide)⟩))⟩
        ·(refine Bc.BN rfl 30 49 false rfl rfl (by decide) (fun _ _ _=>rfl) (fun ρ us w6 ho ht hc hl hsrc hW=>?_);have vo:=zv (ht 52 (by decide)) (.int .i64 (n3:Int)) rfl;have rf:=zv (ht 56 (by decide)) ((us.lookup 37).getD undef) rfl;rw[(hW.at_ (hsrc 37 (by exact(List.mem_singleton.2 rfl:(37:Nat)∈[37])))).1 rfl] at rf;clear ht ho;simp only[execOp,vo,rf];go_simp;try rfl)
        ·(refine .r1 (.pointer (some ⟨w.heap.size,0,none⟩)) fun _ _ w6 e2 _ _ _ hW=>?_;have rr:=gj.out w6 (gv.out.trans (hW.1.mono mf));have z0:=zo 0 rr.1;have z1:=zo 1 rr.1;have z2:=zo 2 rr.1;have x0:=zo 0 rr.2;have x1:=zo 1 rr.2;have x2:=zo 2 rr.2;have x3:=zo 3 rr.2;clear rr;simp only[execOp,e2];go_simp;try rfl)
        ·(refine .r1 (.pointer (some ⟨w.heap.size+1,0,none⟩)) fun _ _ w6 e3 _ _ _ hW=>?_;have rr:=gj.out w6 (gv.out.trans (hW.1.mono mf));have z0:=zo 0 rr.1;have z1:=zo 1 rr.1;have z2:=zo 2 rr.1;have x0:=zo 0 rr.2;have x1:=zo 1 rr.2;have x2:=zo 2 rr.2;have x3:=zo 3 rr.2;clear rr;simp only[execOp,e3];go_simp;try rfl)
        ·(refine .r1 (.pointer (some ⟨g7,0,none⟩)) fun _ _ w6 e7 _ _ _ hW=>?_;have r7:=gf.out w6 hW.1;have z0:=zo 0 r7;have z1:=zo 1 r7;have z2:=zo 2 r7;have z3:=zo 3 r7;clear r7;simp only[execOp,e7];go_simp;try rfl)
        ·refine Bc.wr rfl (fun Z us w6 ho ht hni hlim gb hW K hK=>?_);have e60:=zv (ht 60 (by decide)) (.agg #[.int .i64 s.K,.int .i64 s.M,.int .i64 s.size]) rfl;have yz:=zv (ht 61 (by decide)) (.agg #[.slice A0 n0 c0,.slice (some ⟨bE,oE,none⟩) n1 c1,.slice A2 n2 c2,.int .i64 nx]) rfl;have yA:=zv (ht 62 (by decide)) (.agg #[.string dg,.int .i64 len,.bool BC,.slice A3 n3 c3]) rfl;have hcl:=yw.out w6 (gK.out w6 (gv.out.trans (hW.1.mono mf))) len (by omega) (by omega) dg BC A3 n3 c3 ys _ _ (nj.out.all hW.1);rw[pu.out] at hcl;have eg:=zv (ht 59 (by decide)) (.bool false) rfl;refine qt (Bh.wanted (.at_ (j:=40) (t:=59) (b:=false) rfl rfl eg)) 112 #[.tmp 60,.tmp 61,.tmp 62] #[23,28,90] rfl Tryz.func112 (by kernel_rfl) (by kernel_rfl) #[.agg #[.int .i64 s.K,.int .i64 s.M,.int .i64 s.size],.agg #[.slice A0 n0 c0,.slice (some ⟨bE,oE,none⟩) n1 c1,.slice A2 n2 c2,.int .i64 nx],.agg #[.string dg,.int .i64 len,.bool BC,.slice A3 n3 c3]] (by simp[e60,yz,yA];try rfl) hcl ?_;rintro e w7 ⟨rfl,gh⟩;exact⟨_,rfl,hK _ _ (hW.snoc gh (fun j v h=>h) (⟨fun h=>absurd h (by decide),fun _=>rfl⟩))⟩
        ·(refine Bc.BN rfl 40 59 false rfl rfl (by decide) (fun _ _ _=>rfl) (fun ρ us w6 ho ht hc hl hsrc hW=>?_);have uG:=zv (ht 63 (by decide)) ((us.lookup 44).getD undef) rfl;rw[(hW.at_ (hsrc 44 (by exact(List.mem_singleton.2 rfl:(44:Nat)∈[44])))).2 rfl] at uG;clear ht ho;simp only[execOp,uG];go_simp;try rfl)
        intro us w9 hmem hW;simp only[qc,BR,BS,BU,BV,Act.put,BO,BP,BQ];generalize gp:qp _ _ us=sv;have hq:sv 65=(.bool false:Value):=(by rw[←gp];rfl);rw[hq];have gy:=zh hW.1;clear gp hq hmem hW;go_wp2
        go_meet
        case rel=>exact⟨by rw[gA.out];rfl,gy⟩
       |false=>
        have gA:Hid (qy s l xs k=false):=zh mI;clear mI;go_wp2_with fail
        refine rF 84 rfl [19,20,21,22,23,24,25,26,27,28,29,30,31,32,33,34,35,36,37,38,39,40,41,42,43,44,45,46,47,48,49,50,51,52,53,54,55,56,57,58,59,60,61,62,63,64,65] [37,44]
          [kq 19 g7 0,kp 20 (.string dg),kp 21 (.int .i64 (dg.size:Int)),kf 22,kf 23,ki 24 k,kf 25,kf 26,kf 37,kf 38,kf 39,kq 40 g7 1,kp 41 (.int .i64 len),kf 42,kf 43,kf 44,kq 45 g7 1,kp 46 (.int .i64 len),kf 47,kf 48,kf 49,kq 50 g7 3,kp 51 (.slice A3 n3 c3),ki 52 n3,kp 53 (.agg #[.int .i64 s.K,.int .i64 s.M,.int .i64 s.size]),kq 54 g7 1,kp 55 (.int .i64 len),(57,[37],fun _=>.bool false),kf 58,kf 59,kp 60 (.agg #[.int .i64 s.K,.int .i64 s.M,.int .i64 s.size]),kp 61 (.agg #[.slice A0 n0 c0,.slice (some ⟨bE,oE,none⟩) n1 c1,.slice A2 n2 c2,.int .i64 nx]),kp 62 (.agg #[.string dg,.int .i64 len,.bool BC,.slice A3 n3 c3]),(64,[44],fun _=>.bool true),kt 65]
          [] [] (BL w4 (fun i v _=>(i=37→v=.int .i64 (mn:Int))∧(i=44→v=.bool false))) .init ⟨.a,.l fun us w6 hW _=>zo 0 (gf.out w6 hW.1),.n (.string dg),?_,.a,.a,?_,.a,.b,.b,.b,.b,.b,.b,.b,.b,.b,.b,.a,.a,.a,.a,.l fun us w6 hW _=>zo 1 (gf.out w6 hW.1),?_,.a,.a,.a,.l fun us w6 hW _=>zo 1 (gf.out w6 hW.1),?_,.a,.a,.a,.l fun us w6 hW _=>zo 3 (gf.out w6 hW.1),.n (.slice A3 n3 c3),?_,.a,.l fun us w6 hW _=>zo 1 (gf.out w6 hW.1),?_,?_,.a,.a,?_,?_,?_,?_,?_,.a,trivial⟩ ?_
        ·(refine .r1 (.int .i64 (dg.size:Int)) fun _ _ _ gW _ _ _ _=>?_;simp only[execOp,gW];go_simp;try rfl)
        ·(refine .r1 (.int .i64 (k:Int)) fun _ _ _ nk _ _ _ _=>?_;simp only[execOp,nk];go_simp;exact congrArg Value.bool (decide_eq_false (by omega)))
        ·(refine .r1 (.int .i64 len) fun _ _ _ po _ _ _ _=>?_;simp only[execOp,po];go_simp;exact congrArg Value.bool (decide_eq_false (by omega)))
        ·(refine .r1 (.int .i64 len) fun _ _ _ ra _ _ _ _=>?_;simp only[execOp,ra];go_simp;exact congrArg Value.bool (decide_eq_false (by omega)))
        ·(refine .r1 (.pointer (some ⟨w.heap.size,0,none⟩)) fun _ _ w6 e2 _ _ _ hW=>?_;have rr:=gj.out w6 (gv.out.trans (hW.1.mono mf));have z0:=zo 0 rr.1;have z1:=zo 1 rr.1;have z2:=zo 2 rr.1;have x0:=zo 0 rr.2;have x1:=zo 1 rr.2;have x2:=zo 2 rr.2;have x3:=zo 3 rr.2;clear rr;simp only[execOp,e2];go_simp;try rfl)
        ·refine Bc.wr rfl (fun Z us w6 ho ht hni hlim gb hW K hK=>?_);have uE:=zv (ht 53 (by decide)) (.agg #[.int .i64 s.K,.int .i64 s.M,.int .i64 s.size]) rfl;have uF:=zv (ht 55 (by decide)) (.int .i64 len) rfl;have hcl:=HMA.out w6 len (by omega) (by omega);rw[rY.out] at hcl;have eg:=zv (ht 49 (by decide)) (.bool false) rfl;refine qt (Bh.wanted (.at_ (j:=30) (t:=49) (b:=false) rfl rfl eg)) 111 #[.tmp 53,.tmp 55] #[23,3] rfl Tryz.func111 (by kernel_rfl) (by kernel_rfl) #[.agg #[.int .i64 s.K,.int .i64 s.M,.int .i64 s.size],.int .i64 len] (by simp[uE,uF];try rfl) hcl ?_;rintro e w7 ⟨rfl,gh⟩;exact⟨_,rfl,hK _ _ (hW.snoc gh (fun j v h=>h) (⟨fun _=>rfl,fun h=>absurd h (by decide)⟩))⟩
        ·(refine Bc.BN rfl 30 49 false rfl rfl (by decide) (fun _ _ _=>rfl) (fun ρ us w6 ho ht hc hl hsrc hW=>?_);have vo:=zv (ht 52 (by decide)) (.int .i64 (n3:Int)) rfl;have rf:=zv (ht 56 (by decide)) ((us.lookup 37).getD undef) rfl;rw[(hW.at_ (hsrc 37 (by exact(List.mem_singleton.2 rfl:(37:Nat)∈[37])))).1 rfl] at rf;clear ht ho;simp only[execOp,vo,rf];go_simp;try rfl)
        ·(refine .r1 (.pointer (some ⟨w.heap.size,0,none⟩)) fun _ _ w6 e2 _ _ _ hW=>?_;have rr:=gj.out w6 (gv.out.trans (hW.1.mono mf));have z0:=zo 0 rr.1;have z1:=zo 1 rr.1;have z2:=zo 2 rr.1;have x0:=zo 0 rr.2;have x1:=zo 1 rr.2;have x2:=zo 2 rr.2;have x3:=zo 3 rr.2;clear rr;simp only[execOp,e2];go_simp;try rfl)
        ·(refine .r1 (.pointer (some ⟨w.heap.size+1,0,none⟩)) fun _ _ w6 e3 _ _ _ hW=>?_;have rr:=gj.out w6 (gv.out.trans (hW.1.mono mf));have z0:=zo 0 rr.1;have z1:=zo 1 rr.1;have z2:=zo 2 rr.1;have x0:=zo 0 rr.2;have x1:=zo 1 rr.2;have x2:=zo 2 rr.2;have x3:=zo 3 rr.2;clear rr;simp only[execOp,e3];go_simp;try rfl)
        ·(refine .r1 (.pointer (some ⟨g7,0,none⟩)) fun _ _ w6 e7 _ _ _ hW=>?_;have r7:=gf.out w6 hW.1;have z0:=zo 0 r7;have z1:=zo 1 r7;have z2:=zo 2 r7;have z3:=zo 3 r7;clear r7;simp only[execOp,e7];go_simp;try rfl)
        ·refine Bc.wr rfl (fun Z us w6 ho ht hni hlim gb hW K hK=>?_);have e60:=zv (ht 60 (by decide)) (.agg #[.int .i64 s.K,.int .i64 s.M,.int .i64 s.size]) rfl;have yz:=zv (ht 61 (by decide)) (.agg #[.slice A0 n0 c0,.slice (some ⟨bE,oE,none⟩) n1 c1,.slice A2 n2 c2,.int .i64 nx]) rfl;have yA:=zv (ht 62 (by decide)) (.agg #[.string dg,.int .i64 len,.bool BC,.slice A3 n3 c3]) rfl;have hcl:=yw.out w6 (gK.out w6 (gv.out.trans (hW.1.mono mf))) len (by omega) (by omega) dg BC A3 n3 c3 ys _ _ (nj.out.all hW.1);rw[pu.out] at hcl;have eg:=zv (ht 59 (by decide)) (.bool false) rfl;refine qt (Bh.wanted (.at_ (j:=40) (t:=59) (b:=false) rfl rfl eg)) 112 #[.tmp 60,.tmp 61,.tmp 62] #[23,28,90] rfl Tryz.func112 (by kernel_rfl) (by kernel_rfl) #[.agg #[.int .i64 s.K,.int .i64 s.M,.int .i64 s.size],.agg #[.slice A0 n0 c0,.slice (some ⟨bE,oE,none⟩) n1 c1,.slice A2 n2 c2,.int .i64 nx],.agg #[.string dg,.int .i64 len,.bool BC,.slice A3 n3 c3]] (by simp[e60,yz,yA];try rfl) hcl ?_;rintro e w7 ⟨rfl,gh⟩;exact⟨_,rfl,hK _ _ (hW.snoc gh (fun j v h=>h) (⟨fun h=>absurd h (by decide),fun _=>rfl⟩))⟩
        ·(refine Bc.BN rfl 40 59 false rfl rfl (by decide) (fun _ _ _=>rfl) (fun ρ us w6 ho ht hc hl hsrc hW=>?_);have uG:=zv (ht 63 (by decide)) ((us.lookup 44).getD undef) rfl;rw[(hW.at_ (hsrc 44 (by exact(List.mem_singleton.2 rfl:(44:Nat)∈[44])))).2 rfl] at uG;clear ht ho;simp only[execOp,uG];go_simp;try rfl)
        intro us w9 hmem hW;simp only[qc,BR,BS,BU,BV,Act.put,BO,BP,BQ];generalize gp:qp _ _ us=sv;have hq:sv 65=(.bool true:Value):=(by rw[←gp];rfl);rw[hq];have gy:=zh hW.1;clear gp hq hmem hW;go_wp2
        go_meet
        case rel=>exact⟨by rw[gA.out];rfl,gy⟩
      have cE':((n3:Int) !=(mn:Int))=true:=(by simp;omega);rw[decide_eq_false cE] at mI;have gA:Hid (qy s l xs k=false):=zh mI;clear mI cE;go_wp2_with fail
      refine rF 84 rfl [19,20,21,22,23,24,25,26,27,28,29,30,31,32,33,34,35,36,37,38,39,40,41,42,43,44,45,46,47,48,49,50,51,52,53,54,55,56,57,58,59,60,61,62,63,64,65] [37]
        [kq 19 g7 0,kp 20 (.string dg),kp 21 (.int .i64 (dg.size:Int)),kf 22,kf 23,ki 24 k,kf 25,kf 26,kf 37,kf 38,kf 39,kq 40 g7 1,kp 41 (.int .i64 len),kf 42,kf 43,kf 44,kq 45 g7 1,kp 46 (.int .i64 len),kf 47,kf 48,kf 49,kq 50 g7 3,kp 51 (.slice A3 n3 c3),ki 52 n3,kp 53 (.agg #[.int .i64 s.K,.int .i64 s.M,.int .i64 s.size]),kq 54 g7 1,kp 55 (.int .i64 len),(57,[37],fun _=>.bool true),kt 58,kt 59,kt 65]
        [] [] (BL w4 (fun i v _=>(i=37→v=.int .i64 (mn:Int))∧(i=44→v=.bool false))) .init ⟨.a,.l fun us w6 hW _=>zo 0 (gf.out w6 hW.1),.n (.string dg),?_,.a,.a,?_,.a,.b,.b,.b,.b,.b,.b,.b,.b,.b,.b,.a,.a,.a,.a,.l fun us w6 hW _=>zo 1 (gf.out w6 hW.1),?_,.a,.a,.a,.l fun us w6 hW _=>zo 1 (gf.out w6 hW.1),?_,.a,.a,.a,.l fun us w6 hW _=>zo 3 (gf.out w6 hW.1),.n (.slice A3 n3 c3),?_,.a,.l fun us w6 hW _=>zo 1 (gf.out w6 hW.1),?_,?_,.a,.a,.b,.b,.b,.b,.b,.a,trivial⟩ ?_
      ·(refine .r1 (.int .i64 (dg.size:Int)) fun _ _ _ gW _ _ _ _=>?_;simp only[execOp,gW];go_simp;try rfl)
      ·(refine .r1 (.int .i64 (k:Int)) fun _ _ _ nk _ _ _ _=>?_;simp only[execOp,nk];go_simp;exact congrArg Value.bool (decide_eq_false (by omega)))
      ·(refine .r1 (.int .i64 len) fun _ _ _ po _ _ _ _=>?_;simp only[execOp,po];go_simp;exact congrArg Value.bool (decide_eq_false (by omega)))
      ·(refine .r1 (.int .i64 len) fun _ _ _ ra _ _ _ _=>?_;simp only[execOp,ra];go_simp;exact congrArg Value.bool (decide_eq_false (by omega)))
      ·(refine .r1 (.pointer (some ⟨w.heap.size,0,none⟩)) fun _ _ w6 e2 _ _ _ hW=>?_;have rr:=gj.out w6 (gv.out.trans (hW.1.mono mf));have z0:=zo 0 rr.1;have z1:=zo 1 rr.1;have z2:=zo 2 rr.1;have x0:=zo 0 rr.2;have x1:=zo 1 rr.2;have x2:=zo 2 rr.2;have x3:=zo 3 rr.2;clear rr;simp only[execOp,e2];go_simp;try rfl)
      ·refine Bc.wr rfl (fun Z us w6 ho ht hni hlim gb hW K hK=>?_);have uE:=zv (ht 53 (by decide)) (.agg #[.int .i64 s.K,.int .i64 s.M,.int .i64 s.size]) rfl;have uF:=zv (ht 55 (by decide)) (.int .i64 len) rfl;have hcl:=HMA.out w6 len (by omega) (by omega);rw[rY.out] at hcl;have eg:=zv (ht 49 (by decide)) (.bool false) rfl;refine qt (Bh.wanted (.at_ (j:=30) (t:=49) (b:=false) rfl rfl eg)) 111 #[.tmp 53,.tmp 55] #[23,3] rfl Tryz.func111 (by kernel_rfl) (by kernel_rfl) #[.agg #[.int .i64 s.K,.int .i64 s.M,.int .i64 s.size],.int .i64 len] (by simp[uE,uF];try rfl) hcl ?_;rintro e w7 ⟨rfl,gh⟩;exact⟨_,rfl,hK _ _ (hW.snoc gh (fun j v h=>h) (⟨fun _=>rfl,fun h=>absurd h (by decide)⟩))⟩
      ·(refine Bc.BN rfl 30 49 false rfl rfl (by decide) (fun _ _ _=>rfl) (fun ρ us w6 ho ht hc hl hsrc hW=>?_);have vo:=zv (ht 52 (by decide)) (.int .i64 (n3:Int)) rfl;have rf:=zv (ht 56 (by decide)) ((us.lookup 37).getD undef) rfl;rw[(hW.at_ (hsrc 37 (by exact(List.mem_singleton.2 rfl:(37:Nat)∈[37])))).1 rfl] at rf;clear ht ho;simp only[execOp,vo,rf];go_simp;try rfl)
      intro us w9 hmem hW;simp only[qc,BR,BS,BU,BV,Act.put,BO,BP,BQ];generalize gp:qp _ _ us=sv;have hq:sv 65=(.bool true:Value):=(by rw[←gp];rfl);rw[hq];have gy:=zh hW.1;clear gp hq hmem hW;go_wp2
      go_meet
      case rel=>exact⟨by rw[gA.out];rfl,gy⟩
     have rX:0<(k:Int):=(by omega);have hc:=hp2 (by omega);have e1:(k:Int) - 1=((k - 1:Nat):Int):=(by omega);have hle:=Xt pd dg;have q7:=zh (fun V (hV:Below w4.heap.size w4 V)=>(hV.cell (p:=⟨bE,oE+(k - 1)* 4,none⟩) hbE4).trans hc);rw[decide_eq_false nL] at gX;generalize qr pd dg=sl at *;clear hp2 nL hc
     cases sl with
     |false=>
      have gA:Hid (qy s l xs k=false):=zh gX;rw[show(!false)=true from rfl] at hle;clear gX;go_wp2_with fail
      refine rF 84 rfl [19,20,21,22,23,24,25,26,27,28,29,30,31,32,33,34,35,36,37,38,39,40,41,42,43,44,45,46,47,48,49,50,51,52,53,54,55,56,57,58,59,60,61,62,63,64,65] []
        [kq 19 g7 0,kp 20 (.string dg),kp 21 (.int .i64 (dg.size:Int)),kf 22,kf 23,ki 24 k,kt 25,kt 26,kq 27 g7 0,kp 28 (.string dg),kq 29 (w.heap.size+1) (1),kp 30 (.slice (some ⟨bE,oE,none⟩) n1 c1),ki 31 k,kp 32 (.int .i64 ((k - 1:Nat):Int)),kp 33 (pt (bE) (oE+(k - 1)* 4)),kp 34 (pt (bE) (oE+(k - 1)* 4)),kp 35 (.string pd),kt 36,kt 37,kt 38,kt 39,kt 43,kt 44,kt 48,kt 49,kt 58,kt 59,kt 65]
        [] [] (BL w4 (fun _ _ _=>True)) .init ⟨.a,.l fun us w6 hW _=>zo 0 (gf.out w6 hW.1),.n (.string dg),?_,.a,.a,?_,.a,.a,.l fun us w6 hW _=>zo 0 (gf.out w6 hW.1),.a,?_,.a,?_,?_,.a,.l fun us w6 hW _=>q7.out w6 hW.1,?_,.a,.a,.a,.b,.b,.b,.a,.a,.b,.b,.b,.a,.a,.b,.b,.b,.b,.b,.b,.b,.b,.a,.a,.b,.b,.b,.b,.b,.a,trivial⟩ ?_
      ·(refine .r1 (.int .i64 (dg.size:Int)) fun _ _ _ gW _ _ _ _=>?_;simp only[execOp,gW];go_simp;try rfl)
      ·(refine .r1 (.int .i64 (k:Int)) fun _ _ _ nk _ _ _ _=>?_;simp only[execOp,nk];go_simp;exact congrArg Value.bool (decide_eq_true (by omega)))
      ·(refine .r1 (.pointer (some ⟨w.heap.size+1,1,none⟩)) fun _ _ w6 nI _ _ _ hW=>?_;have rr:=gj.out w6 (gv.out.trans (hW.1.mono mf));have z0:=zo 0 rr.1;have z1:=zo 1 rr.1;have z2:=zo 2 rr.1;have x0:=zo 0 rr.2;have x1:=zo 1 rr.2;have x2:=zo 2 rr.2;have x3:=zo 3 rr.2;clear rr;simp only[execOp,nI];go_simp;try rfl)
      ·(refine .r1 (.int .i64 (k:Int)) fun _ _ _ mg _ _ _ _=>?_;simp only[execOp,mg];go_simp;rw[Go.IntWalk.i64_in _ (by omega)];rfl)
      ·(refine .r2 (.slice (some ⟨bE,oE,none⟩) n1 c1) (.int .i64 ((k - 1:Nat):Int)) fun _ _ _ pE mD _ _ _ _=>?_;simp only[execOp,pE,mD];go_simp;rw[if_pos (by omega)];rfl)
      ·(refine .r2 (.string dg) (.string pd) fun _ _ _ rh mB _ _ _ _=>?_;simp only[execOp,rh,mB];go_simp;rw[xo];simp only[Result.andThen,hle];rfl)
      intro us w9 hmem hW;simp only[qc,BR,BS,BU,BV,Act.put,BO,BP,BQ];generalize gp:qp _ _ us=sv;have hq:sv 65=(.bool true:Value):=(by rw[←gp];rfl);rw[hq];have gy:=zh hW.1;clear gp hq hmem hW;go_wp2
      go_meet
      case rel=>exact⟨by rw[gA.out];rfl,gy⟩
     |true=>
      have mC:Hid (qy s l xs k=(decide (0≤len)&&(decide (len≤2000)&&(decide (n3=zn s len)&&qY (s.K* s.size) l ys len)))):=zh gX;rw[show(!true)=false from rfl] at hle;clear gX;by_cases cC:len<0
      ·have gA:Hid (qy s l xs k=false):=zh (by rw[mC.out,decide_eq_false (by omega)];rfl);clear mC;go_wp2_with fail
       refine rF 84 rfl [19,20,21,22,23,24,25,26,27,28,29,30,31,32,33,34,35,36,37,38,39,40,41,42,43,44,45,46,47,48,49,50,51,52,53,54,55,56,57,58,59,60,61,62,63,64,65] []
         [kq 19 g7 0,kp 20 (.string dg),kp 21 (.int .i64 (dg.size:Int)),kf 22,kf 23,ki 24 k,kt 25,kt 26,kq 27 g7 0,kp 28 (.string dg),kq 29 (w.heap.size+1) (1),kp 30 (.slice (some ⟨bE,oE,none⟩) n1 c1),ki 31 k,kp 32 (.int .i64 ((k - 1:Nat):Int)),kp 33 (pt (bE) (oE+(k - 1)* 4)),kp 34 (pt (bE) (oE+(k - 1)* 4)),kp 35 (.string pd),kf 36,kf 37,kf 38,kf 39,kq 40 g7 1,kp 41 (.int .i64 len),kt 42,kt 43,kt 44,kt 48,kt 49,kt 58,kt 59,kt 65]
         [] [] (BL w4 (fun _ _ _=>True)) .init ⟨.a,.l fun us w6 hW _=>zo 0 (gf.out w6 hW.1),.n (.string dg),?_,.a,.a,?_,.a,.a,.l fun us w6 hW _=>zo 0 (gf.out w6 hW.1),.a,?_,.a,?_,?_,.a,.l fun us w6 hW _=>q7.out w6 hW.1,?_,.a,.a,.a,.a,.l fun us w6 hW _=>zo 1 (gf.out w6 hW.1),?_,.a,.a,.b,.b,.b,.a,.a,.b,.b,.b,.b,.b,.b,.b,.b,.a,.a,.b,.b,.b,.b,.b,.a,trivial⟩ ?_
       ·(refine .r1 (.int .i64 (dg.size:Int)) fun _ _ _ gW _ _ _ _=>?_;simp only[execOp,gW];go_simp;try rfl)
       ·(refine .r1 (.int .i64 (k:Int)) fun _ _ _ nk _ _ _ _=>?_;simp only[execOp,nk];go_simp;exact congrArg Value.bool (decide_eq_true (by omega)))
       ·(refine .r1 (.pointer (some ⟨w.heap.size+1,1,none⟩)) fun _ _ w6 nI _ _ _ hW=>?_;have rr:=gj.out w6 (gv.out.trans (hW.1.mono mf));have z0:=zo 0 rr.1;have z1:=zo 1 rr.1;have z2:=zo 2 rr.1;have x0:=zo 0 rr.2;have x1:=zo 1 rr.2;have x2:=zo 2 rr.2;have x3:=zo 3 rr.2;clear rr;simp only[execOp,nI];go_simp;try rfl)
       ·(refine .r1 (.int .i64 (k:Int)) fun _ _ _ mg _ _ _ _=>?_;simp only[execOp,mg];go_simp;rw[Go.IntWalk.i64_in _ (by omega)];rfl)
       ·(refine .r2 (.slice (some ⟨bE,oE,none⟩) n1 c1) (.int .i64 ((k - 1:Nat):Int)) fun _ _ _ pE mD _ _ _ _=>?_;simp only[execOp,pE,mD];go_simp;rw[if_pos (by omega)];rfl)
       ·(refine .r2 (.string dg) (.string pd) fun _ _ _ rh mB _ _ _ _=>?_;simp only[execOp,rh,mB];go_simp;rw[xo];simp only[Result.andThen,hle];rfl)
       ·(refine .r1 (.int .i64 len) fun _ _ _ po _ _ _ _=>?_;simp only[execOp,po];go_simp;try rfl)
       intro us w9 hmem hW;simp only[qc,BR,BS,BU,BV,Act.put,BO,BP,BQ];generalize gp:qp _ _ us=sv;have hq:sv 65=(.bool true:Value):=(by rw[←gp];rfl);rw[hq];have gy:=zh hW.1;clear gp hq hmem hW;go_wp2
       go_meet
       case rel=>exact⟨by rw[gA.out];rfl,gy⟩
      by_cases cD:2000<len
      ·have gA:Hid (qy s l xs k=false):=zh (by rw[mC.out,decide_eq_true (by omega:0≤len),decide_eq_false (by omega)];rfl);clear mC;go_wp2_with fail
       refine rF 84 rfl [19,20,21,22,23,24,25,26,27,28,29,30,31,32,33,34,35,36,37,38,39,40,41,42,43,44,45,46,47,48,49,50,51,52,53,54,55,56,57,58,59,60,61,62,63,64,65] []
         [kq 19 g7 0,kp 20 (.string dg),kp 21 (.int .i64 (dg.size:Int)),kf 22,kf 23,ki 24 k,kt 25,kt 26,kq 27 g7 0,kp 28 (.string dg),kq 29 (w.heap.size+1) (1),kp 30 (.slice (some ⟨bE,oE,none⟩) n1 c1),ki 31 k,kp 32 (.int .i64 ((k - 1:Nat):Int)),kp 33 (pt (bE) (oE+(k - 1)* 4)),kp 34 (pt (bE) (oE+(k - 1)* 4)),kp 35 (.string pd),kf 36,kf 37,kf 38,kf 39,kq 40 g7 1,kp 41 (.int .i64 len),kf 42,kf 43,kf 44,kq 45 g7 1,kp 46 (.int .i64 len),kt 47,kt 48,kt 49,kt 58,kt 59,kt 65]
         [] [] (BL w4 (fun _ _ _=>True)) .init ⟨.a,.l fun us w6 hW _=>zo 0 (gf.out w6 hW.1),.n (.string dg),?_,.a,.a,?_,.a,.a,.l fun us w6 hW _=>zo 0 (gf.out w6 hW.1),.a,?_,.a,?_,?_,.a,.l fun us w6 hW _=>q7.out w6 hW.1,?_,.a,.a,.a,.a,.l fun us w6 hW _=>zo 1 (gf.out w6 hW.1),?_,.a,.a,.a,.l fun us w6 hW _=>zo 1 (gf.out w6 hW.1),?_,.a,.a,.b,.b,.b,.b,.b,.b,.b,.b,.a,.a,.b,.b,.b,.b,.b,.a,trivial⟩ ?_
       ·(refine .r1 (.int .i64 (dg.size:Int)) fun _ _ _ gW _ _ _ _=>?_;simp only[execOp,gW];go_simp;try rfl)
       ·(refine .r1 (.int .i64 (k:Int)) fun _ _ _ nk _ _ _ _=>?_;simp only[execOp,nk];go_simp;exact congrArg Value.bool (decide_eq_true (by omega)))
       ·(refine .r1 (.pointer (some ⟨w.heap.size+1,1,none⟩)) fun _ _ w6 nI _ _ _ hW=>?_;have rr:=gj.out w6 (gv.out.trans (hW.1.mono mf));have z0:=zo 0 rr.1;have z1:=zo 1 rr.1;have z2:=zo 2 rr.1;have x0:=zo 0 rr.2;have x1:=zo 1 rr.2;have x2:=zo 2 rr.2;have x3:=zo 3 rr.2;clear rr;simp only[execOp,nI];go_simp;try rfl)
       ·(refine .r1 (.int .i64 (k:Int)) fun _ _ _ mg _ _ _ _=>?_;simp only[execOp,mg];go_simp;rw[Go.IntWalk.i64_in _ (by omega)];rfl)
       ·(refine .r2 (.slice (some ⟨bE,oE,none⟩) n1 c1) (.int .i64 ((k - 1:Nat):Int)) fun _ _ _ pE mD _ _ _ _=>?_;simp only[execOp,pE,mD];go_simp;rw[if_pos (by omega)];rfl)
       ·(refine .r2 (.string dg) (.string pd) fun _ _ _ rh mB _ _ _ _=>?_;simp only[execOp,rh,mB];go_simp;rw[xo];simp only[Result.andThen,hle];rfl)
       ·(refine .r1 (.int .i64 len) fun _ _ _ po _ _ _ _=>?_;simp only[execOp,po];go_simp;exact congrArg Value.bool (decide_eq_false (by omega)))
       ·(refine .r1 (.int .i64 len) fun _ _ _ ra _ _ _ _=>?_;simp only[execOp,ra];go_simp;try rfl)
       intro us w9 hmem hW;simp only[qc,BR,BS,BU,BV,Act.put,BO,BP,BQ];generalize gp:qp _ _ us=sv;have hq:sv 65=(.bool true:Value):=(by rw[←gp];rfl);rw[hq];have gy:=zh hW.1;clear gp hq hmem hW;go_wp2
       go_meet
       case rel=>exact⟨by rw[gA.out];rfl,gy⟩
      have mI:qy s l xs k=(decide (n3=zn s len)&&qY (s.K* s.size) l ys len):=(by rw[mC.out,decide_eq_true (by omega:0≤len),decide_eq_true (by omega:len≤2000)];rfl);clear mC;obtain⟨mn,ni⟩:∃mn,mn=zn s len:=⟨_,rfl⟩;rw[←ni] at mI;have rY:=zh ni.symm;clear ni;by_cases cE:n3=mn
      ·have cE':((n3:Int) !=(mn:Int))=false:=(by simp[cE]);rw[decide_eq_true cE] at mI;clear cE;generalize vk:qY (s.K* s.size) l ys len=lf at *;have pu:=zh vk;clear vk
       cases lf with
       |true=>
        have gA:Hid (qy s l xs k=true):=zh mI;clear mI;go_wp2_with fail
        refine rF 84 rfl [19,20,21,22,23,24,25,26,27,28,29,30,31,32,33,34,35,36,37,38,39,40,41,42,43,44,45,46,47,48,49,50,51,52,53,54,55,56,57,58,59,60,61,62,63,64,65] [37,44]
          [kq 19 g7 0,kp 20 (.string dg),kp 21 (.int .i64 (dg.size:Int)),kf 22,kf 23,ki 24 k,kt 25,kt 26,kq 27 g7 0,kp 28 (.string dg),kq 29 (w.heap.size+1) (1),kp 30 (.slice (some ⟨bE,oE,none⟩) n1 c1),ki 31 k,kp 32 (.int .i64 ((k - 1:Nat):Int)),kp 33 (pt (bE) (oE+(k - 1)* 4)),kp 34 (pt (bE) (oE+(k - 1)* 4)),kp 35 (.string pd),kf 36,kf 37,kf 38,kf 39,kq 40 g7 1,kp 41 (.int .i64 len),kf 42,kf 43,kf 44,kq 45 g7 1,kp 46 (.int .i64 len),kf 47,kf 48,kf 49,kq 50 g7 3,kp 51 (.slice A3 n3 c3),ki 52 n3,kp 53 (.agg #[.int .i64 s.K,.int .i64 s.M,.int .i64 s.size]),kq 54 g7 1,kp 55 (.int .i64 len),(57,[37],fun _=>.bool false),kf 58,kf 59,kp 60 (.agg #[.int .i64 s.K,.int .i64 s.M,.int .i64 s.size]),kp 61 (.agg #[.slice A0 n0 c0,.slice (some ⟨bE,oE,none⟩) n1 c1,.slice A2 n2 c2,.int .i64 nx]),kp 62 (.agg #[.string dg,.int .i64 len,.bool BC,.slice A3 n3 c3]),(64,[44],fun _=>.bool false),kf 65]
          [] [] (BL w4 (fun i v _=>(i=37→v=.int .i64 (mn:Int))∧(i=44→v=.bool true))) .init ⟨.a,.l fun us w6 hW _=>zo 0 (gf.out w6 hW.1),.n (.string dg),?_,.a,.a,?_,.a,.a,.l fun us w6 hW _=>zo 0 (gf.out w6 hW.1),.a,?_,.a,?_,?_,.a,.l fun us w6 hW _=>q7.out w6 hW.1,?_,.a,.a,.a,.a,.l fun us w6 hW _=>zo 1 (gf.out w6 hW.1),?_,.a,.a,.a,.l fun us w6 hW _=>zo 1 (gf.out w6 hW.1),?_,.a,.a,.a,.l fun us w6 hW _=>zo 3 (gf.out w6 hW.1),.n (.slice A3 n3 c3),?_,.a,.l fun us w6 hW _=>zo 1 (gf.out w6 hW.1),?_,?_,.a,.a,?_,?_,?_,?_,?_,.a,trivial⟩ ?_
        ·(refine .r1 (.int .i64 (dg.size:Int)) fun _ _ _ gW _ _ _ _=>?_;simp only[execOp,gW];go_simp;try rfl)
        ·(refine .r1 (.int .i64 (k:Int)) fun _ _ _ nk _ _ _ _=>?_;simp only[execOp,nk];go_simp;exact congrArg Value.bool (decide_eq_true (by omega)))
        ·(refine .r1 (.pointer (some ⟨w.heap.size+1,1,none⟩)) fun _ _ w6 nI _ _ _ hW=>?_;have rr:=gj.out w6 (gv.out.trans (hW.1.mono mf));have z0:=zo 0 rr.1;have z1:=zo 1 rr.1;have z2:=zo 2 rr.1;have x0:=zo 0 rr.2;have x1:=zo 1 rr.2;have x2:=zo 2 rr.2;have x3:=zo 3 rr.2;clear rr;simp only[execOp,nI];go_simp;try rfl)
        ·(refine .r1 (.int .i64 (k:Int)) fun _ _ _ mg _ _ _ _=>?_;simp only[execOp,mg];go_simp;rw[Go.IntWalk.i64_in _ (by omega)];rfl)
        ·(refine .r2 (.slice (some ⟨bE,oE,none⟩) n1 c1) (.int .i64 ((k - 1:Nat):Int)) fun _ _ _ pE mD _ _ _ _=>?_;simp only[execOp,pE,mD];go_simp;rw[if_pos (by omega)];rfl)
        ·(refine .r2 (.string dg) (.string pd) fun _ _ _ rh mB _ _ _ _=>?_;simp only[execOp,rh,mB];go_simp;rw[xo];simp only[Result.andThen,hle];rfl)
        ·(refine .r1 (.int .i64 len) fun _ _ _ po _ _ _ _=>?_;simp only[execOp,po];go_simp;exact congrArg Value.bool (decide_eq_false (by omega)))
        ·(refine .r1 (.int .i64 len) fun _ _ _ ra _ _ _ _=>?_;simp only[execOp,ra];go_simp;exact congrArg Value.bool (decide_eq_false (by omega)))
        ·(refine .r1 (.pointer (some ⟨w.heap.size,0,none⟩)) fun _ _ w6 e2 _ _ _ hW=>?_;have rr:=gj.out w6 (gv.out.trans (hW.1.mono mf));have z0:=zo 0 rr.1;have z1:=zo 1 rr.1;have z2:=zo 2 rr.1;have x0:=zo 0 rr.2;have x1:=zo 1 rr.2;have x2:=zo 2 rr.2;have x3:=zo 3 rr.2;clear rr;simp only[execOp,e2];go_simp;try rfl)
        ·refine Bc.wr rfl (fun Z us w6 ho ht hni hlim gb hW K hK=>?_);have uE:=zv (ht 53 (by decide)) (.agg #[.int .i64 s.K,.int .i64 s.M,.int .i64 s.size]) rfl;have uF:=zv (ht 55 (by decide)) (.int .i64 len) rfl;have hcl:=HMA.out w6 len (by omega) (by omega);rw[rY.out] at hcl;have eg:=zv (ht 49 (by decide)) (.bool false) rfl;refine qt (Bh.wanted (.at_ (j:=30) (t:=49) (b:=false) rfl rfl eg)) 111 #[.tmp 53,.tmp 55] #[23,3] rfl Tryz.func111 (by kernel_rfl) (by kernel_rfl) #[.agg #[.int .i64 s.K,.int .i64 s.M,.int .i64 s.size],.int .i64 len] (by simp[uE,uF];try rfl) hcl ?_;rintro e w7 ⟨rfl,gh⟩;exact⟨_,rfl,hK _ _ (hW.snoc gh (fun j v h=>h) (⟨fun _=>rfl,fun h=>absurd h (by decide)⟩))⟩
        ·(refine Bc.BN rfl 30 49 false rfl rfl (by decide) (fun _ _ _=>rfl) (fun ρ us w6 ho ht hc hl hsrc hW=>?_);have vo:=zv (ht 52 (by decide)) (.int .i64 (n3:Int)) rfl;have rf:=zv (ht 56 (by decide)) ((us.lookup 37).getD undef) rfl;rw[(hW.at_ (hsrc 37 (by exact(List.mem_singleton.2 rfl:(37:Nat)∈[37])))).1 rfl] at rf;clear ht ho;simp only[execOp,vo,rf];go_simp;try rfl)
        ·(refine .r1 (.pointer (some ⟨w.heap.size,0,none⟩)) fun _ _ w6 e2 _ _ _ hW=>?_;have rr:=gj.out w6 (gv.out.trans (hW.1.mono mf));have z0:=zo 0 rr.1;have z1:=zo 1 rr.1;have z2:=zo 2 rr.1;have x0:=zo 0 rr.2;have x1:=zo 1 rr.2;have x2:=zo 2 rr.2;have x3:=zo 3 rr.2;clear rr;simp only[execOp,e2];go_simp;try rfl)
        ·(refine .r1 (.pointer (some ⟨w.heap.size+1,0,none⟩)) fun _ _ w6 e3 _ _ _ hW=>?_;have rr:=gj.out w6 (gv.out.trans (hW.1.mono mf));have z0:=zo 0 rr.1;have z1:=zo 1 rr.1;have z2:=zo 2 rr.1;have x0:=zo 0 rr.2;have x1:=zo 1 rr.2;have x2:=zo 2 rr.2;have x3:=zo 3 rr.2;clear rr;simp only[execOp,e3];go_simp;try rfl)
        ·(refine .r1 (.pointer (some ⟨g7,0,none⟩)) fun _ _ w6 e7 _ _ _ hW=>?_;have r7:=gf.out w6 hW.1;have z0:=zo 0 r7;have z1:=zo 1 r7;have z2:=zo 2 r7;have z3:=zo 3 r7;clear r7;simp only[execOp,e7];go_simp;try rfl)
        ·refine Bc.wr rfl (fun Z us w6 ho ht hni hlim gb hW K hK=>?_);have e60:=zv (ht 60 (by decide)) (.agg #[.int .i64 s.K,.int .i64 s.M,.int .i64 s.size]) rfl;have yz:=zv (ht 61 (by decide)) (.agg #[.slice A0 n0 c0,.slice (some ⟨bE,oE,none⟩) n1 c1,.slice A2 n2 c2,.int .i64 nx]) rfl;have yA:=zv (ht 62 (by decide)) (.agg #[.string dg,.int .i64 len,.bool BC,.slice A3 n3 c3]) rfl;have hcl:=yw.out w6 (gK.out w6 (gv.out.trans (hW.1.mono mf))) len (by omega) (by omega) dg BC A3 n3 c3 ys _ _ (nj.out.all hW.1);rw[pu.out] at hcl;have eg:=zv (ht 59 (by decide)) (.bool false) rfl;refine qt (Bh.wanted (.at_ (j:=40) (t:=59) (b:=false) rfl rfl eg)) 112 #[.tmp 60,.tmp 61,.tmp 62] #[23,28,90] rfl Tryz.func112 (by kernel_rfl) (by kernel_rfl) #[.agg #[.int .i64 s.K,.int .i64 s.M,.int .i64 s.size],.agg #[.slice A0 n0 c0,.slice (some ⟨bE,oE,none⟩) n1 c1,.slice A2 n2 c2,.int .i64 nx],.agg #[.string dg,.int .i64 len,.bool BC,.slice A3 n3 c3]] (by simp[e60,yz,yA];try rfl) hcl ?_;rintro e w7 ⟨rfl,gh⟩;exact⟨_,rfl,hK _ _ (hW.snoc gh (fun j v h=>h) (⟨fun h=>absurd h (by decide),fun _=>rfl⟩))⟩
        ·(refine Bc.BN rfl 40 59 false rfl rfl (by decide) (fun _ _ _=>rfl) (fun ρ us w6 ho ht hc hl hsrc hW=>?_);have uG:=zv (ht 63 (by decide)) ((us.lookup 44).getD undef) rfl;rw[(hW.at_ (hsrc 44 (by exact(List.mem_singleton.2 rfl:(44:Nat)∈[44])))).2 rfl] at uG;clear ht ho;simp only[execOp,uG];go_simp;try rfl)
        intro us w9 hmem hW;simp only[qc,BR,BS,BU,BV,Act.put,BO,BP,BQ];generalize gp:qp _ _ us=sv;have hq:sv 65=(.bool false:Value):=(by rw[←gp];rfl);rw[hq];have gy:=zh hW.1;clear gp hq hmem hW;go_wp2
        go_meet
        case rel=>exact⟨by rw[gA.out];rfl,gy⟩
       |false=>
        have gA:Hid (qy s l xs k=false):=zh mI;clear mI;go_wp2_with fail
        refine rF 84 rfl [19,20,21,22,23,24,25,26,27,28,29,30,31,32,33,34,35,36,37,38,39,40,41,42,43,44,45,46,47,48,49,50,51,52,53,54,55,56,57,58,59,60,61,62,63,64,65] [37,44]
          [kq 19 g7 0,kp 20 (.string dg),kp 21 (.int .i64 (dg.size:Int)),kf 22,kf 23,ki 24 k,kt 25,kt 26,kq 27 g7 0,kp 28 (.string dg),kq 29 (w.heap.size+1) (1),kp 30 (.slice (some ⟨bE,oE,none⟩) n1 c1),ki 31 k,kp 32 (.int .i64 ((k - 1:Nat):Int)),kp 33 (pt (bE) (oE+(k - 1)* 4)),kp 34 (pt (bE) (oE+(k - 1)* 4)),kp 35 (.string pd),kf 36,kf 37,kf 38,kf 39,kq 40 g7 1,kp 41 (.int .i64 len),kf 42,kf 43,kf 44,kq 45 g7 1,kp 46 (.int .i64 len),kf 47,kf 48,kf 49,kq 50 g7 3,kp 51 (.slice A3 n3 c3),ki 52 n3,kp 53 (.agg #[.int .i64 s.K,.int .i64 s.M,.int .i64 s.size]),kq 54 g7 1,kp 55 (.int .i64 len),(57,[37],fun _=>.bool false),kf 58,kf 59,kp 60 (.agg #[.int .i64 s.K,.int .i64 s.M,.int .i64 s.size]),kp 61 (.agg #[.slice A0 n0 c0,.slice (some ⟨bE,oE,none⟩) n1 c1,.slice A2 n2 c2,.int .i64 nx]),kp 62 (.agg #[.string dg,.int .i64 len,.bool BC,.slice A3 n3 c3]),(64,[44],fun _=>.bool true),kt 65]
          [] [] (BL w4 (fun i v _=>(i=37→v=.int .i64 (mn:Int))∧(i=44→v=.bool false))) .init ⟨.a,.l fun us w6 hW _=>zo 0 (gf.out w6 hW.1),.n (.string dg),?_,.a,.a,?_,.a,.a,.l fun us w6 hW _=>zo 0 (gf.out w6 hW.1),.a,?_,.a,?_,?_,.a,.l fun us w6 hW _=>q7.out w6 hW.1,?_,.a,.a,.a,.a,.l fun us w6 hW _=>zo 1 (gf.out w6 hW.1),?_,.a,.a,.a,.l fun us w6 hW _=>zo 1 (gf.out w6 hW.1),?_,.a,.a,.a,.l fun us w6 hW _=>zo 3 (gf.out w6 hW.1),.n (.slice A3 n3 c3),?_,.a,.l fun us w6 hW _=>zo 1 (gf.out w6 hW.1),?_,?_,.a,.a,?_,?_,?_,?_,?_,.a,trivial⟩ ?_
        ·(refine .r1 (.int .i64 (dg.size:Int)) fun _ _ _ gW _ _ _ _=>?_;simp only[execOp,gW];go_simp;try rfl)
        ·(refine .r1 (.int .i64 (k:Int)) fun _ _ _ nk _ _ _ _=>?_;simp only[execOp,nk];go_simp;exact congrArg Value.bool (decide_eq_true (by omega)))
        ·(refine .r1 (.pointer (some ⟨w.heap.size+1,1,none⟩)) fun _ _ w6 nI _ _ _ hW=>?_;have rr:=gj.out w6 (gv.out.trans (hW.1.mono mf));have z0:=zo 0 rr.1;have z1:=zo 1 rr.1;have z2:=zo 2 rr.1;have x0:=zo 0 rr.2;have x1:=zo 1 rr.2;have x2:=zo 2 rr.2;have x3:=zo 3 rr.2;clear rr;simp only[execOp,nI];go_simp;try rfl)
        ·(refine .r1 (.int .i64 (k:Int)) fun _ _ _ mg _ _ _ _=>?_;simp only[execOp,mg];go_simp;rw[Go.IntWalk.i64_in _ (by omega)];rfl)
        ·(refine .r2 (.slice (some ⟨bE,oE,none⟩) n1 c1) (.int .i64 ((k - 1:Nat):Int)) fun _ _ _ pE mD _ _ _ _=>?_;simp only[execOp,pE,mD];go_simp;rw[if_pos (by omega)];rfl)
        ·(refine .r2 (.string dg) (.string pd) fun _ _ _ rh mB _ _ _ _=>?_;simp only[execOp,rh,mB];go_simp;rw[xo];simp only[Result.andThen,hle];rfl)
        ·(refine .r1 (.int .i64 len) fun _ _ _ po _ _ _ _=>?_;simp only[execOp,po];go_simp;exact congrArg Value.bool (decide_eq_false (by omega)))
        ·(refine .r1 (.int .i64 len) fun _ _ _ ra _ _ _ _=>?_;simp only[execOp,ra];go_simp;exact congrArg Value.bool (decide_eq_false (by omega)))
        ·(refine .r1 (.pointer (some ⟨w.heap.size,0,none⟩)) fun _ _ w6 e2 _ _ _ hW=>?_;have rr:=gj.out w6 (gv.out.trans (hW.1.mono mf));have z0:=zo 0 rr.1;have z1:=zo 1 rr.1;have z2:=zo 2 rr.1;have x0:=zo 0 rr.2;have x1:=zo 1 rr.2;have x2:=zo 2 rr.2;have x3:=zo 3 rr.2;clear rr;simp only[execOp,e2];go_simp;try rfl)
        ·refine Bc.wr rfl (fun Z us w6 ho ht hni hlim gb hW K hK=>?_);have uE:=zv (ht 53 (by decide)) (.agg #[.int .i64 s.K,.int .i64 s.M,.int .i64 s.size]) rfl;have uF:=zv (ht 55 (by decide)) (.int .i64 len) rfl;have hcl:=HMA.out w6 len (by omega) (by omega);rw[rY.out] at hcl;have eg:=zv (ht 49 (by decide)) (.bool false) rfl;refine qt (Bh.wanted (.at_ (j:=30) (t:=49) (b:=false) rfl rfl eg)) 111 #[.tmp 53,.tmp 55] #[23,3] rfl Tryz.func111 (by kernel_rfl) (by kernel_rfl) #[.agg #[.int .i64 s.K,.int .i64 s.M,.int .i64 s.size],.int .i64 len] (by simp[uE,uF];try rfl) hcl ?_;rintro e w7 ⟨rfl,gh⟩;exact⟨_,rfl,hK _ _ (hW.snoc gh (fun j v h=>h) (⟨fun _=>rfl,fun h=>absurd h (by decide)⟩))⟩
        ·(refine Bc.BN rfl 30 49 false rfl rfl (by decide) (fun _ _ _=>rfl) (fun ρ us w6 ho ht hc hl hsrc hW=>?_);have vo:=zv (ht 52 (by decide)) (.int .i64 (n3:Int)) rfl;have rf:=zv (ht 56 (by decide)) ((us.lookup 37).getD undef) rfl;rw[(hW.at_ (hsrc 37 (by exact(List.mem_singleton.2 rfl:(37:Nat)∈[37])))).1 rfl] at rf;clear ht ho;simp only[execOp,vo,rf];go_simp;try rfl)
        ·(refine .r1 (.pointer (some ⟨w.heap.size,0,none⟩)) fun _ _ w6 e2 _ _ _ hW=>?_;have rr:=gj.out w6 (gv.out.trans (hW.1.mono mf));have z0:=zo 0 rr.1;have z1:=zo 1 rr.1;have z2:=zo 2 rr.1;have x0:=zo 0 rr.2;have x1:=zo 1 rr.2;have x2:=zo 2 rr.2;have x3:=zo 3 rr.2;clear rr;simp only[execOp,e2];go_simp;try rfl)
        ·(refine .r1 (.pointer (some ⟨w.heap.size+1,0,none⟩)) fun _ _ w6 e3 _ _ _ hW=>?_;have rr:=gj.out w6 (gv.out.trans (hW.1.mono mf));have z0:=zo 0 rr.1;have z1:=zo 1 rr.1;have z2:=zo 2 rr.1;have x0:=zo 0 rr.2;have x1:=zo 1 rr.2;have x2:=zo 2 rr.2;have x3:=zo 3 rr.2;clear rr;simp only[execOp,e3];go_simp;try rfl)
        ·(refine .r1 (.pointer (some ⟨g7,0,none⟩)) fun _ _ w6 e7 _ _ _ hW=>?_;have r7:=gf.out w6 hW.1;have z0:=zo 0 r7;have z1:=zo 1 r7;have z2:=zo 2 r7;have z3:=zo 3 r7;clear r7;simp only[execOp,e7];go_simp;try rfl)
        ·refine Bc.wr rfl (fun Z us w6 ho ht hni hlim gb hW K hK=>?_);have e60:=zv (ht 60 (by decide)) (.agg #[.int .i64 s.K,.int .i64 s.M,.int .i64 s.size]) rfl;have yz:=zv (ht 61 (by decide)) (.agg #[.slice A0 n0 c0,.slice (some ⟨bE,oE,none⟩) n1 c1,.slice A2 n2 c2,.int .i64 nx]) rfl;have yA:=zv (ht 62 (by decide)) (.agg #[.string dg,.int .i64 len,.bool BC,.slice A3 n3 c3]) rfl;have hcl:=yw.out w6 (gK.out w6 (gv.out.trans (hW.1.mono mf))) len (by omega) (by omega) dg BC A3 n3 c3 ys _ _ (nj.out.all hW.1);rw[pu.out] at hcl;have eg:=zv (ht 59 (by decide)) (.bool false) rfl;refine qt (Bh.wanted (.at_ (j:=40) (t:=59) (b:=false) rfl rfl eg)) 112 #[.tmp 60,.tmp 61,.tmp 62] #[23,28,90] rfl Tryz.func112 (by kernel_rfl) (by kernel_rfl) #[.agg #[.int .i64 s.K,.int .i64 s.M,.int .i64 s.size],.agg #[.slice A0 n0 c0,.slice (some ⟨bE,oE,none⟩) n1 c1,.slice A2 n2 c2,.int .i64 nx],.agg #[.string dg,.int .i64 len,.bool BC,.slice A3 n3 c3]] (by simp[e60,yz,yA];try rfl) hcl ?_;rintro e w7 ⟨rfl,gh⟩;exact⟨_,rfl,hK _ _ (hW.snoc gh (fun j v h=>h) (⟨fun h=>absurd h (by decide),fun _=>rfl⟩))⟩
        ·(refine Bc.BN rfl 40 59 false rfl rfl (by decide) (fun _ _ _=>rfl) (fun ρ us w6 ho ht hc hl hsrc hW=>?_);have uG:=zv (ht 63 (by decide)) ((us.lookup 44).getD undef) rfl;rw[(hW.at_ (hsrc 44 (by exact(List.mem_singleton.2 rfl:(44:Nat)∈[44])))).2 rfl] at uG;clear ht ho;simp only[execOp,uG];go_simp;try rfl)
        intro us w9 hmem hW;simp only[qc,BR,BS,BU,BV,Act.put,BO,BP,BQ];generalize gp:qp _ _ us=sv;have hq:sv 65=(.bool true:Value):=(by rw[←gp];rfl);rw[hq];have gy:=zh hW.1;clear gp hq hmem hW;go_wp2
        go_meet
        case rel=>exact⟨by rw[gA.out];rfl,gy⟩
      have cE':((n3:Int) !=(mn:Int))=true:=(by simp;omega);rw[decide_eq_false cE] at mI;have gA:Hid (qy s l xs k=false):=zh mI;clear mI cE;go_wp2_with fail
      refine rF 84 rfl [19,20,21,22,23,24,25,26,27,28,29,30,31,32,33,34,35,36,37,38,39,40,41,42,43,44,45,46,47,48,49,50,51,52,53,54,55,56,57,58,59,60,61,62,63,64,65] [37]
        [kq 19 g7 0,kp 20 (.string dg),kp 21 (.int .i64 (dg.size:Int)),kf 22,kf 23,ki 24 k,kt 25,kt 26,kq 27 g7 0,kp 28 (.string dg),kq 29 (w.heap.size+1) (1),kp 30 (.slice (some ⟨bE,oE,none⟩) n1 c1),ki 31 k,kp 32 (.int .i64 ((k - 1:Nat):Int)),kp 33 (pt (bE) (oE+(k - 1)* 4)),kp 34 (pt (bE) (oE+(k - 1)* 4)),kp 35 (.string pd),kf 36,kf 37,kf 38,kf 39,kq 40 g7 1,kp 41 (.int .i64 len),kf 42,kf 43,kf 44,kq 45 g7 1,kp 46 (.int .i64 len),kf 47,kf 48,kf 49,kq 50 g7 3,kp 51 (.slice A3 n3 c3),ki 52 n3,kp 53 (.agg #[.int .i64 s.K,.int .i64 s.M,.int .i64 s.size]),kq 54 g7 1,kp 55 (.int .i64 len),(57,[37],fun _=>.bool true),kt 58,kt 59,kt 65]
        [] [] (BL w4 (fun i v _=>(i=37→v=.int .i64 (mn:Int))∧(i=44→v=.bool false))) .init ⟨.a,.l fun us w6 hW _=>zo 0 (gf.out w6 hW.1),.n (.string dg),?_,.a,.a,?_,.a,.a,.l fun us w6 hW _=>zo 0 (gf.out w6 hW.1),.a,?_,.a,?_,?_,.a,.l fun us w6 hW _=>q7.out w6 hW.1,?_,.a,.a,.a,.a,.l fun us w6 hW _=>zo 1 (gf.out w6 hW.1),?_,.a,.a,.a,.l fun us w6 hW _=>zo 1 (gf.out w6 hW.1),?_,.a,.a,.a,.l fun us w6 hW _=>zo 3 (gf.out w6 hW.1),.n (.slice A3 n3 c3),?_,.a,.l fun us w6 hW _=>zo 1 (gf.out w6 hW.1),?_,?_,.a,.a,.b,.b,.b,.b,.b,.a,trivial⟩ ?_
      ·(refine .r1 (.int .i64 (dg.size:Int)) fun _ _ _ gW _ _ _ _=>?_;simp only[execOp,gW];go_simp;try rfl)
      ·(refine .r1 (.int .i64 (k:Int)) fun _ _ _ nk _ _ _ _=>?_;simp only[execOp,nk];go_simp;exact congrArg Value.bool (decide_eq_true (by omega)))
      ·(refine .r1 (.pointer (some ⟨w.heap.size+1,1,none⟩)) fun _ _ w6 nI _ _ _ hW=>?_;have rr:=gj.out w6 (gv.out.trans (hW.1.mono mf));have z0:=zo 0 rr.1;have z1:=zo 1 rr.1;have z2:=zo 2 rr.1;have x0:=zo 0 rr.2;have x1:=zo 1 rr.2;have x2:=zo 2 rr.2;have x3:=zo 3 rr.2;clear rr;simp only[execOp,nI];go_simp;try rfl)
      ·(refine .r1 (.int .i64 (k:Int)) fun _ _ _ mg _ _ _ _=>?_;simp only[execOp,mg];go_simp;rw[Go.IntWalk.i64_in _ (by omega)];rfl)
      ·(refine .r2 (.slice (some ⟨bE,oE,none⟩) n1 c1) (.int .i64 ((k - 1:Nat):Int)) fun _ _ _ pE mD _ _ _ _=>?_;simp only[execOp,pE,mD];go_simp;rw[if_pos (by omega)];rfl)
      ·(refine .r2 (.string dg) (.string pd) fun _ _ _ rh mB _ _ _ _=>?_;simp only[execOp,rh,mB];go_simp;rw[xo];simp only[Result.andThen,hle];rfl)
      ·(refine .r1 (.int .i64 len) fun _ _ _ po _ _ _ _=>?_;simp only[execOp,po];go_simp;exact congrArg Value.bool (decide_eq_false (by omega)))
      ·(refine .r1 (.int .i64 len) fun _ _ _ ra _ _ _ _=>?_;simp only[execOp,ra];go_simp;exact congrArg Value.bool (decide_eq_false (by omega)))
      ·(refine .r1 (.pointer (some ⟨w.heap.size,0,none⟩)) fun _ _ w6 e2 _ _ _ hW=>?_;have rr:=gj.out w6 (gv.out.trans (hW.1.mono mf));have z0:=zo 0 rr.1;have z1:=zo 1 rr.1;have z2:=zo 2 rr.1;have x0:=zo 0 rr.2;have x1:=zo 1 rr.2;have x2:=zo 2 rr.2;have x3:=zo 3 rr.2;clear rr;simp only[execOp,e2];go_simp;try rfl)
      ·refine Bc.wr rfl (fun Z us w6 ho ht hni hlim gb hW K hK=>?_);have uE:=zv (ht 53 (by decide)) (.agg #[.int .i64 s.K,.int .i64 s.M,.int .i64 s.size]) rfl;have uF:=zv (ht 55 (by decide)) (.int .i64 len) rfl;have hcl:=HMA.out w6 len (by omega) (by omega);rw[rY.out] at hcl;have eg:=zv (ht 49 (by decide)) (.bool false) rfl;refine qt (Bh.wanted (.at_ (j:=30) (t:=49) (b:=false) rfl rfl eg)) 111 #[.tmp 53,.tmp 55] #[23,3] rfl Tryz.func111 (by kernel_rfl) (by kernel_rfl) #[.agg #[.int .i64 s.K,.int .i64 s.M,.int .i64 s.size],.int .i64 len] (by simp[uE,uF];try rfl) hcl ?_;rintro e w7 ⟨rfl,gh⟩;exact⟨_,rfl,hK _ _ (hW.snoc gh (fun j v h=>h) (⟨fun _=>rfl,fun h=>absurd h (by decide)⟩))⟩
      ·(refine Bc.BN rfl 30 49 false rfl rfl (by decide) (fun _ _ _=>rfl) (fun ρ us w6 ho ht hc hl hsrc hW=>?_);have vo:=zv (ht 52 (by decide)) (.int .i64 (n3:Int)) rfl;have rf:=zv (ht 56 (by decide)) ((us.lookup 37).getD undef) rfl;rw[(hW.at_ (hsrc 37 (by exact(List.mem_singleton.2 rfl:(37:Nat)∈[37])))).1 rfl] at rf;clear ht ho;simp only[execOp,vo,rf];go_simp;try rfl)
      intro us w9 hmem hW;simp only[qc,BR,BS,BU,BV,Act.put,BO,BP,BQ];generalize gp:qp _ _ us=sv;have hq:sv 65=(.bool true:Value):=(by rw[←gp];rfl);rw[hq];have gy:=zh hW.1;clear gp hq hmem hW;go_wp2
      go_meet
      case rel=>exact⟨by rw[gA.out];rfl,gy⟩
    have hd':((dg.size:Int) !=32)=true:=(by simp[hd]);have gA:Hid (qy s l xs k=false):=zh (by rw[gV.out,decide_eq_false (by omega)];rfl);clear gV hd hp2;go_wp2_with fail
    refine rF 84 rfl [19,20,21,22,23,24,25,26,27,28,29,30,31,32,33,34,35,36,37,38,39,40,41,42,43,44,45,46,47,48,49,50,51,52,53,54,55,56,57,58,59,60,61,62,63,64,65] []
      [kq 19 g7 0,kp 20 (.string dg),kp 21 (.int .i64 (dg.size:Int)),kt 22,kt 23,kt 38,kt 39,kt 43,kt 44,kt 48,kt 49,kt 58,kt 59,kt 65]
      [] [] (BL w4 (fun _ _ _=>True)) .init ⟨.a,.l fun us w6 hW _=>zo 0 (gf.out w6 hW.1),.n (.string dg),?_,.a,.b,.b,.b,.c,.c,.c,.c,.c,.c,.c,.c,.c,.c,.b,.a,.a,.b,.b,.b,.a,.a,.b,.b,.b,.a,.a,.b,.b,.b,.b,.b,.b,.b,.b,.a,.a,.b,.b,.b,.b,.b,.a,trivial⟩ ?_
    ·(refine .r1 (.int .i64 (dg.size:Int)) fun _ _ _ gW _ _ _ _=>?_;simp only[execOp,gW];go_simp;try rfl)
    intro us w9 hmem hW;simp only[qc,BR,BS,BU,BV,Act.put,BO,BP,BQ];generalize gp:qp _ _ us=sv;have hq:sv 65=(.bool true:Value):=(by rw[←gp];rfl);rw[hq];have gy:=zh hW.1;clear gp hq hmem hW;go_wp2
    go_meet
    case rel=>exact⟨by rw[gA.out];rfl,gy⟩
   case rest=>
    rename World=>wc
    obtain⟨rfl,HBc⟩:=hcut;have hmc:m≤wc.heap.size:=(by have:=HBc.out.size;omega);have mi:=zh (gv.out.trans (HBc.out.mono mf));have vp:=zh (vh.out.all HBc.out);have HL35:=zh (nj.out.all HBc.out);have mX:=zh (gf.out wc HBc.out);generalize htk:qy s l xs k=tk at *;have uo:=zh htk;clear htk vh nj gf gv HBc
    cases tk with
    |false=>
     have HE:Hid (R=false):=zh (by rw[HR.out,xO (k:=k) (by have:=mE.out;omega) uo.out]);go_wp2
     go_ret
     exact⟨by rw[HE.out];rfl,gK.out _ mi.out⟩
    |true=>
     have z3:=zo 3 mX.out;have vq:n3≤9223372036854775807:=Nat.le_trans HL35.out.le HL35.out.cap
     have hlen:(qb xs k).length+ys.length≤1000000:=by
      obtain⟨r,hr⟩:=js (xs:=xs) (k:=k+1) (by have:=mE.out;omega);have h2:=hfew;rw[hr,zi (by have:=mE.out;omega),←HYS.out,List.length_append,List.length_append] at h2;omega
     have hml:1000000<maxLen:=(by decide);go_wp2_with fail
     clear z3
     go_loopw [69] (fun iv wr=>∃j:Nat,j≤n3∧iv=.int .i64 j∧Hid (Below m w2 wr)∧Hid (Bu Tryz.prog 3 4 wr m (qb xs k++ys.take j).length (xr (qb xs k++ys.take j)))∧Hid (qb xs k++ys.take j).Nodup) (fun iv _=>n3 - (intOf iv).toNat)
     case atStart=>exact⟨0,Nat.zero_le _,rfl,mi,by simpa using vp,by simpa using HND⟩
     case round=>
      rename World=>wj
      clear mi vp HND HL35 mX;obtain⟨j,hj,rfl,HBj,ye,HNj⟩:=hrel;by_cases hjl:j<n3
      ·obtain⟨b3,o3,rfl,_,hb3,i64d,hc3,_⟩:=(HLW.out wj HBj.out).BD hjl;have uH:j<ys.length:=(by have:=mG.out;omega);have hyj:ys[j]?=some (ys.getD j 0):=(by rw[List.getD_eq_getElem?_getD,List.getElem?_eq_getElem uH];rfl);have nE:ys.take (j+1)=ys.take j++[ys.getD j 0]:=(by rw[List.take_add_one,hyj];rfl);have htl:(ys.take j).length≤ys.length:=(by rw[List.length_take];omega);have gZ:(qb xs k++ys.take j).length<maxLen:=(by rw[List.length_append];omega);have yB:=zh (fun(hm:ys.getD j 0∈qb xs k++ys.take j)=>jb (s:=s) (l:=l) (xs:=xs) (k:=k) (j:=j) (by have:=mE.out;omega) (by rw[←HYS.out];exact uH) (by rw[←HYS.out];exact hm));generalize ys.getD j 0=id at *
       have hwf:(Lit.int .i64 id).wf=true:=by
        unfold Bo at i64d;simp[Lit.wf,IntKind.min,IntKind.max,IntKind.signed,IntKind.bits];omega
       have hkey:=Maps.keyOf_int_mk (P:=Tryz.prog) Tryz.underlying3 hwf;have m9:=zh nE;clear nE hyj;go_wp2_with (at_lookup;refine xT _ rfl _ _ 99 rfl (Maps.int_keyed Tryz.underlying3) Tryz.underlying99 Tryz.underlying4 (Tryz.zeroValue4 _) m _ _ rfl ye.out _ (.int .i64 id) rfl hkey ?_)
       refine⟨?_,?_⟩
       ·intro hx;rw[jS] at hx
        have uO:Hid (qb xs k++ys.take (j+1)).Nodup:=zh (by
         rw[m9.out,←List.append_assoc]
         exact List.nodup_append.2 ⟨HNj.out,by simp,fun a ha b hb e=>by
          rw[List.mem_singleton.1 hb] at e;subst e
          exact hx ha⟩)
        clear hx;go_wp2_with (at_mapUpdate;refine zQ _ rfl _ _ _ 99 rfl (Maps.int_keyed Tryz.underlying3) Tryz.underlying99 Tryz.underlying4 m _ _ rfl ye.out gZ _ (.int .i64 id) rfl rfl hkey ?_)
        intro w6 mq rQ;have pF:=zh (HBj.out.grown rQ (by have:=HBj.out.size;omega) (fun r hr=>by injection hr with hr;omega))
        have HS6:Hid (Bu Tryz.prog 3 4 w6 m (qb xs k++ys.take (j+1)).length (xr (qb xs k++ys.take (j+1)))):=zh (by
         rw[m9.out,←List.append_assoc,List.length_append (bs:=[id])];unfold xr;rw[List.map_append (l₂:=[id]),List.length_append,List.length_take]
         exact mq)
        clear mq rQ;go_wp2
        exact⟨⟨j+1,by omega,by go_num,pF,HS6,uO⟩,by simp[intOf];omega⟩
       intro hx;rw[jS] at hx;have HE:Hid (R=false):=zh (by rw[HR.out,yB.out hx]);clear hx;go_wp2
       go_ret
       exact⟨by rw[HE.out];rfl,gK.out _ HBj.out⟩
      obtain rfl:j=n3:=by omega
      have mC:=zh (fun j' (hj':j'<k+1)=>(show qy s l xs j'=true from by
       by_cases e:j'=k
       ·rw[e];exact uo.out
       exact HA.out j' (by omega)))
      have rR:Hid (qb xs (k+1)=qb xs k++ys.take j):=zh (by rw[zi (by have:=mE.out;omega),←HYS.out,List.take_of_length_le (by have:=mG.out;omega)]);go_wp2
      exact⟨⟨k+1,by omega,by go_num,HBj,by rw[rR.out];exact ye,mC,by rw[rR.out];exact HNj⟩,by simp[intOf];omega⟩
  obtain rfl:k=n1:=by omega
  obtain⟨_,r1⟩:=gj.out wo HB.out;have q1:=zo 1 r1;have HE:Hid (R=decide (k≤60)):=zh (by rw[HR.out,jD (fun j hj=>HA.out j (by have:=mE.out;omega)) (by rw[mE.out];exact HND.out),mE.out]);clear r1;go_wp2
  go_ret
  exact⟨by rw[HE.out];congr 2;simp;omega,gK.out _ HB.out⟩
end Go.Proofs.YtipecejghioicaaGreat
