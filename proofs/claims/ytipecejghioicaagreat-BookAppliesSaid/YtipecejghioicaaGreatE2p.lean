/- Which stripes may be: place.apart, May, Check. -/
import Derived.Test.YtipecejghioicaaGreatZcp
import Derived.Test.YtipecejghioicaaGreatDatap
import Derived.DeepKeys4
set_option maxHeartbeats 1000000
namespace Go.Proofs.YtipecejghioicaaGreat
open Go.RowKit Go.Silo
theorem zw {tg tg':Bool}{S S':Nat→Prop}{w:World}{A0 A1 A2 A0' A1' A2':Option Addr}{n0 c0 n1 c1 n2 c2 n0' c0' n1' c1' n2' c2':Nat}{x y:Book}
  (h0:Sl tg 86 (qc tg) w S A0 n0 c0 x.Ba) (h1:Sl tg 90 (qj tg) w S A1 n1 c1 x.things) (h2:Sl tg 94 Bv w S A2 n2 c2 x.tags)
  (h0':Sl tg' 86 (qc tg') w S' A0' n0' c0' y.Ba) (h1':Sl tg' 90 (qj tg') w S' A1' n1' c1' y.things) (h2':Sl tg' 94 Bv w S' A2' n2' c2' y.tags):
  Calls Tryz.prog 34 #[.agg #[.slice A0 n0 c0,.slice A1 n1 c1,.slice A2 n2 c2,.int .i64 x.next],.agg #[.slice A0' n0' c0',.slice A1' n1' c1',.slice A2' n2' c2',.int .i64 y.next]] w (Bf (.bool (decide (x=y))) w):=by
 rw[show decide (x=y)=decide (x.Ba=y.Ba∧x.things=y.things∧x.tags=y.tags∧x.next=y.next) from decide_eq_decide.2 Book.Br];generalize hr:decide (x.Ba=y.Ba∧x.things=y.things∧x.tags=y.tags∧x.next=y.next)=r;have HR:=zh hr;clear hr;obtain⟨xs,xt,xg,xn⟩:=x;obtain⟨ys,yt,yg,yn⟩:=y;simp only at h0 h1 h2 h0' h1' h2' HR⊢
 go_enter Tryz.func34,Tryz.ntmps34
 go_wp2_with (first
  |(go_at_call 66;refine(Zt (h0.all bz) (h0'.all bz)).mono ?_;rintro e w1 ⟨rfl,hb1⟩;(obtain⟨np,hf_w1⟩:=ql hb1;have mH:w.heap.size<w1.heap.size:=(by have:=hb1.size;first|omega|(simp at this;omega));have x9:w.heap.size+1<w1.heap.size:=(by have:=hb1.size;first|omega|(simp at this;omega))))
  |(go_at_call 67;refine(Zv (h1.all bz) (h1'.all bz)).mono ?_;rintro e w2 ⟨rfl,hb2⟩;(obtain⟨pk,hf_w2⟩:=ql hb2;have nD:w.heap.size<w2.heap.size:=(by have:=hb2.size;first|omega|(simp at this;omega));have ya:w.heap.size+1<w2.heap.size:=(by have:=hb2.size;first|omega|(simp at this;omega))))
  |(go_at_call 68;refine(JI (h2.all bz) (h2'.all bz)).mono ?_;rintro e w3 ⟨rfl,hb3⟩;(obtain⟨pS,hf_w3⟩:=ql hb3;have nR:w.heap.size<w3.heap.size:=(by have:=hb3.size;first|omega|(simp at this;omega));have z_w3_1:w.heap.size+1<w3.heap.size:=(by have:=hb3.size;first|omega|(simp at this;omega)))))
 all_goals
  go_ret
  exact⟨by rw[←HR.out];first|(simp[*];done)|(simp[*];rw[Bool.eq_iff_iff];simp),bz⟩
theorem BB {w:World}{n m:Int}:Calls Tryz.prog 18 #[.int .i64 n,.int .i64 m] w (Bf (.bool (decide (0≤n∧n≤m))) w):=by
 go_enter Tryz.func18,Tryz.ntmps18
 go_wp2
 all_goals
  go_ret
  exact⟨by congr 2;simp_all;try omega,Below.refl _ _⟩
theorem Bj {w:World}{n l m:Int}:Calls Tryz.prog 17 #[.int .i64 n,.int .i64 l,.int .i64 m] w (Bf (.bool (decide (l≤n∧n≤m))) w):=by
 go_enter Tryz.func17,Tryz.ntmps17
 go_wp2
 all_goals
  go_ret
  exact⟨by congr 2;simp_all;try omega,Below.refl _ _⟩
end Go.Proofs.YtipecejghioicaaGreat
namespace Go.Proofs.YtipecejghioicaaGreat
open Go.RowKit Go.Silo
def Rat (xs:List Int) (j:Nat):Prop:=0≤xs.getD j 0∧xs.getD j 0≤63∧(0<j→xs.getD (j - 1) 0<xs.getD j 0)
def Rising (xs:List Int):Prop:=∀j,j<xs.length→Rat xs j
theorem Rat.first {xs:List Int}{j:Nat}(hj:j=0) (h0:0≤xs.getD j 0) (h1:xs.getD j 0≤63):Rat xs j:=⟨h0,h1,fun h=>by omega⟩
theorem Rat.next {xs:List Int}{j:Nat}(h0:0≤xs.getD (j+1) 0) (h1:xs.getD (j+1) 0≤63) (h2:xs.getD j 0<xs.getD (j+1) 0):Rat xs (j+1):=⟨h0,h1,fun _=>by simpa using h2⟩
def idxOf {α:Type}(p:α→Bool) (xs:List α):Int:=match xs.findIdx? p with|some k=>(k:Int)|none=>-1
theorem xG {α:Type}{p:α→Bool}{xs:List α}{d:α}{k:Nat}(hk:k<xs.length) (h:p (xs.getD k d)=true) (hn:∀j,j<k→p (xs.getD j d)=false):idxOf p xs=(k:Int):=by
 have:xs.findIdx? p=some k:=by
  rw[List.findIdx?_eq_some_iff_getElem];refine⟨hk,?_,fun j hj=>?_⟩
  ·rw[List.getD_eq_getElem?_getD,List.getElem?_eq_getElem hk] at h;simpa using h
  have:=hn j hj;rw[List.getD_eq_getElem?_getD,List.getElem?_eq_getElem (by omega)] at this;simpa using this
 unfold idxOf;rw[this]
theorem jf {α:Type}{p:α→Bool}{xs:List α}{d:α}(hn:∀j,j<xs.length→p (xs.getD j d)=false):idxOf p xs=-1:=by
 have:xs.findIdx? p=none:=by
  rw[List.findIdx?_eq_none_iff];intro y hy;obtain⟨j,hj,rfl⟩:=List.mem_iff_getElem.1 hy;have:=hn j hj;rw[List.getD_eq_getElem?_getD,List.getElem?_eq_getElem hj] at this;simpa using this
 unfold idxOf;rw[this]
theorem jA {α:Type}{p:α→Bool}{xs:List α}:xs.any p=decide (0≤idxOf p xs):=by
 unfold idxOf
 cases h:xs.findIdx? p with
 |none=>
  rw[List.findIdx?_eq_none_iff] at h;rw[List.any_eq_false.2 (fun x hx=>by simpa using h x hx)];rfl
 |some k=>
  rw[List.findIdx?_eq_some_iff_getElem] at h;obtain⟨hk,hp,_⟩:=h;rw[List.any_eq_true.2 ⟨_,List.getElem_mem hk,hp⟩];simp
theorem qK {α:Type}{l:List α}{d:α}{k:Nat}(h:k<l.length):l.getD k d∈l:=by rw[List.getD_eq_getElem?_getD,List.getElem?_eq_getElem h];exact List.getElem_mem _
end Go.Proofs.YtipecejghioicaaGreat
namespace Go.Silo
open Go Go.RowKit
open Go.Maps (Keyed)
theorem jU {P:Program}{k e:TypeId}(w:World) {ops:Array Oper}{rest:List Oper}{o:Oper}{a:Act}{Q:Exit→Act→World→Prop}
  (hw:Region.wanted o (yielded ops a.tmps)=true) (m x:Operand) (t:TypeId) (hop:o.op=Op.lookup t m x false) (K:Keyed P k) (ht:P.underlying t=some (.map k e)) (he:P.underlying e=some .bool) (hz:(zeroValue e).run P w=.ok (.bool false) w) (b n:Nat) (L:List Value)
  (hm:a.eval m=.map (some b)) (gD:BR P k e w b n L) (key:Value) (kl:Lit) (hx:a.eval x=key) (hkey:keyOf P k key=some kl)
  (hK:∀x:Bool,(x=true↔key∈L)→wpList P ops Q rest (a.put o.dst (.bool x)) w):
  wpList P ops Q (o::rest) a w:=by
 refine wpList_step fun K' hK'=>?_;rw[if_pos hw];obtain⟨c,hrun,hc⟩:=gD.look K ht he hz hkey;unfold Oper.wp;simp[execOp,hop,hm,hx,hrun,Result.andThen];exact hK' _ _ (hK c hc)
end Go.Silo
namespace Go.Proofs.YtipecejghioicaaGreat
open Go.RowKit Go.Silo
theorem JJ:laidOutB Tryz.prog=true:=by kernel_rfl
theorem Zw:(88:TypeId)<Tryz.prog.types.size:=of_decide_eq_true (by kernel_rfl)
theorem XR:(match Tryz.prog.underlying 88 with|some (.array _ _)|some (.struct _)=>true|_=>false)=true:=by rw[Tryz.underlying88]
set_option maxRecDepth 1000000 in
theorem JK:WideMaps.KeyLaw Tryz.prog 88:=deep_law_laid JJ (m:=2) (by omega) Zw (by kernel_rfl) XR
theorem jN:Maps.Keyed Tryz.prog 88:=Maps.Keyed.of_law JK
theorem kY:Tryz.prog.cellsOf 88=2:=by kernel_rfl
theorem Kk:Tryz.prog.keyType 88=true:=by kernel_rfl
theorem JL {a b:Int}(ha:Bn a) (hb:Bn b):∃kl,keyOf Tryz.prog 88 (.agg #[.int .i64 a,.int .i64 b])=some kl:=by
 have h1:(Lit.int .i64 a).wf=true:=by
  unfold Bn at ha;simp[Lit.wf,IntKind.min,IntKind.max,IntKind.signed,IntKind.bits];omega
 have h2:(Lit.int .i64 b).wf=true:=by
  unfold Bn at hb;simp[Lit.wf,IntKind.min,IntKind.max,IntKind.signed,IntKind.bits];omega
 obtain⟨q,hq⟩:∃q,Tryz.prog.types.size=q+1:=⟨Tryz.prog.types.size - 1,by have:=(show(88:Nat)<Tryz.prog.types.size from Zw);omega⟩;have hf:(Value.agg #[.int .i64 a,.int .i64 b]).formed Tryz.prog 88=true:=by simp[Value.formed,Tryz.underlying88,kY]
 have hc1:Tryz.prog.cellsOf 3=1:=by kernel_rfl
 unfold keyOf;rw[Tryz.underlying88];simp only[Kk,hf,hq,Bool.true_and,if_true];simp[Program.keyLits,Value.cells,Tryz.underlying88,Tryz.underlying3,kY,hc1,h1,h2]
end Go.Proofs.YtipecejghioicaaGreat
set_option maxHeartbeats 1000000
namespace Go.Proofs.YtipecejghioicaaGreat
open Go.RowKit Go.Silo
def qt (s:Shape):Bool:=decide (1≤s.K∧s.K≤8∧0≤s.M∧s.M≤6∧1≤s.size∧s.size≤120)
def qg (n:Int):Bool:=decide (0≤n∧n≤1073741824)
def qY (p:Slot):Bool:=decide ((0≤p.disk∧p.disk≤11∧0≤p.pos∧p.pos≤63)∨(p.disk=-1∧p.pos=0))
def zH (d:Int) (p:Slot):Bool:=p.disk==d
def xN (l:List Slot) (i:Nat):Bool:=(l.getD i default).disk==-1||!((l.take i).any (zH (l.getD i default).disk))
def xc (l:List Slot):Bool:=(List.range l.length).all (xN l)
theorem kA {l:List Slot}(h:∀i,i<l.length→xN l i=true):xc l=true:=List.all_eq_true.2 fun i hi=>h i (List.mem_range.1 hi)
theorem jV {l:List Slot}{i:Nat}(hi:i<l.length) (h:xN l i=false):xc l=false:=by
 cases hh:xc l with
 |false=>rfl
 |true=>have:=List.all_eq_true.1 hh i (List.mem_range.2 hi);rw[h] at this;cases this
def ze (s:Shape) (x:Bc):Bool:=
 (qt s&&qg x.id&&qg x.gen&&decide (1≤x.len)&&decide (x.len≤s.K* s.size)&&decide ((x.place.length:Int)=s.K+s.M))&&(xc x.place&&!(x.place.any fun p=>!qY p))
theorem CS {w:World}{s:Shape}:Calls Tryz.prog 72 #[.agg #[.int .i64 s.K,.int .i64 s.M,.int .i64 s.size]] w (Bf (.bool (qt s)) w):=by
 have hr:qt s=decide (1≤s.K∧s.K≤8∧0≤s.M∧s.M≤6∧1≤s.size∧s.size≤120):=rfl;generalize qt s=r at *;have HR:=zh hr;clear hr
 go_enter Tryz.func72,Tryz.ntmps72
 go_wp2
 all_goals
  go_ret
  exact⟨by rw[HR.out];congr 2;simp_all;try omega,bz⟩
theorem D9 {w:World}{n:Int}:Calls Tryz.prog 131 #[.int .i64 n] w (Bf (.bool (qg n)) w):=by
 have hr:qg n=decide (0≤n∧n≤1073741824):=rfl;generalize qg n=r at *;have HR:=zh hr;clear hr
 go_enter Tryz.func131,Tryz.ntmps131
 go_wp2
 all_goals
  go_ret
  exact⟨by rw[HR.out];congr 2;simp_all;try omega,bz⟩
theorem EN {w:World}{p:Slot}:Calls Tryz.prog 134 #[.agg #[.int .i64 p.disk,.int .i64 p.pos]] w (Bf (.bool (qY p)) w):=by
 have hr:qY p=decide ((0≤p.disk∧p.disk≤11∧0≤p.pos∧p.pos≤63)∨(p.disk=-1∧p.pos=0)):=rfl;generalize qY p=r at *;have HR:=zh hr;clear hr;by_cases h64:p.pos<64
 all_goals
  go_enter Tryz.func134,Tryz.ntmps134
  go_wp2
  all_goals
   go_ret
   exact⟨by rw[HR.out];first|(congr 2;simp_all;done)|(congr 2;simp_all;omega),bz⟩
theorem Zx {w:World}{p:Slot}:Calls Tryz.prog 133 #[.agg #[.int .i64 p.disk,.int .i64 p.pos]] w (Bf (.bool (!qY p)) w):=by
 go_enter Tryz.func133,Tryz.ntmps133
 go_wp2_with fail
 refine EN.mono ?_;rintro e w1 ⟨rfl,hb1⟩;go_wp2
 go_ret
 exact⟨rfl,bz⟩
theorem JM {w:World}{p:Slot}{a:Addr}{d:Int}(hs:a.spot=none) (hl:a.block<w.heap.size) (h:w.cell? a=some (.int .i64 d)):Calls Tryz.prog 146 #[.agg #[.int .i64 p.disk,.int .i64 p.pos],.pointer (some a)] w (Bf (.bool (zH d p)) w):=by
 obtain⟨b,o,s⟩:=a;obtain rfl:s=none:=hs;have hl':b<w.heap.size:=hl
 go_enter Tryz.func146,Tryz.ntmps146
 go_wp2
 go_ret
 exact⟨rfl,bz⟩
theorem QV {tg:Bool}{T:TypeId}{S:Nat→Prop}{w:World}{A:Option Addr}{n c:Nat}{xs:List Slot}(h:Sl tg T qp w S A n c xs) (p:Slot→Bool)
  (hp:∀(W:World) (x:Slot),Below w.heap.size w W→Calls Tryz.prog 133 #[.agg #[.int .i64 x.disk,.int .i64 x.pos]] W (Bf (.bool (p x)) W)):
  Calls Tryz.prog 137 #[.slice A n c,.func (.func 133) #[] #[]] w (Bf (.int .i64 (idxOf p xs)) w):=by
 have HL:=zh h.len;have HP:=zh hp;clear hp;have hcap:n≤9223372036854775807:=Nat.le_trans h.le h.cap
 go_enter Tryz.func137,Tryz.ntmps137
 go_wp2
 go_loopw [5,8] (fun _ i wr=>∃k:Nat,k≤n∧i=.int .i64 k∧Below w.heap.size w wr∧Hid (∀j,j<k→p (xs.getD j default)=false)) (fun _ i _=>n - (intOf i).toNat)
 case atStart=>exact⟨0,Nat.zero_le _,rfl,Below.refl _ _,zh (fun j hj=>by omega)⟩
 case round=>
  obtain⟨k,hk,rfl,hB,he⟩:=hrel;by_cases hlt:k<n
  ·obtain⟨b,off,rfl,hS,hbl,g1,g2,hc0,hc1,_⟩:=(h.all hB).BA hlt;have hcall:=HP.out wr (xs.getD k default) hB;generalize hx:xs.getD k default=x at *;have HX:=zh hx;clear hx;have HB:=zh hB;clear hB;have HC:=zh hcall;clear hcall;go_wp2_with fail
   refine HC.out.mono ?_;rintro e w2 ⟨rfl,hb2⟩;have gM:=zh hb2;clear hb2
   cases hpx:p x with
   |true=>
    have HF:Hid (idxOf p xs=(k:Int)):=zh (xG (d:=default) (by have:=HL.out;omega) (by rw[HX.out];exact hpx) he.out);clear hpx;go_wp2
    go_ret
    exact⟨by rw[HF.out];rfl,via HB.out gM.out (Nat.le_refl _)⟩
   |false=>
    have HF:Hid (∀j,j<k+1→p (xs.getD j default)=false):=zh (fun j hj=>by
     by_cases hjk:j=k
     ·subst hjk;rw[HX.out];exact hpx
     exact he.out j (by omega))
    clear hpx;go_wp2
    go_roundw
    case rel=>exact⟨k+1,by omega,by go_num,via HB.out gM.out (Nat.le_refl _),HF⟩
    case measure=>simp[intOf];omega
  have HF:Hid (idxOf p xs=-1):=zh (jf (d:=default) fun j hj=>he.out j (by have:=HL.out;omega));go_wp2
  go_ret
  exact⟨by rw[HF.out];rfl,hB⟩
theorem kJ {tg:Bool}{T:TypeId}{S:Nat→Prop}{w:World}{A:Option Addr}{n c:Nat}{xs:List Slot}(h:Sl tg T qp w S A n c xs) (p:Slot→Bool)
  (hp:∀(W:World) (x:Slot),Below w.heap.size w W→Calls Tryz.prog 133 #[.agg #[.int .i64 x.disk,.int .i64 x.pos]] W (Bf (.bool (p x)) W)):
  Calls Tryz.prog 119 #[.slice A n c,.func (.func 133) #[] #[]] w (Bf (.bool (xs.any p)) w):=by
 have HP:=zh hp;clear hp;have HQ:=zh (jA (xs:=xs) (p:=p))
 go_enter Tryz.func119,Tryz.ntmps119
 go_wp2_with fail
 refine(QV h p HP.out).mono ?_;rintro e w2 ⟨rfl,hb2⟩;generalize hi:idxOf p xs=i at *;go_wp2
 all_goals
  go_ret
  refine⟨?_,hb2⟩;rw[HQ.out]
  first|rfl|(congr 2;simp_all;done)|(congr 2;simp_all;omega)
theorem kK {tg:Bool}{T:TypeId}{S:Nat→Prop}{w:World}{A:Option Addr}{n c:Nat}{xs:List Slot}{a:Addr}(h:Sl tg T qp w S A n c xs) (p:Slot→Bool)
  (hp:∀(W:World) (x:Slot),Below w.heap.size w W→Calls Tryz.prog 146 #[.agg #[.int .i64 x.disk,.int .i64 x.pos],.pointer (some a)] W (Bf (.bool (p x)) W)):
  Calls Tryz.prog 137 #[.slice A n c,.func (.func 146) #[] #[.pointer (some a)]] w (Bf (.int .i64 (idxOf p xs)) w):=by
 have HL:=zh h.len;have HP:=zh hp;clear hp;have hcap:n≤9223372036854775807:=Nat.le_trans h.le h.cap
 go_enter Tryz.func137,Tryz.ntmps137
 go_wp2
 go_loopw [5,8] (fun _ i wr=>∃k:Nat,k≤n∧i=.int .i64 k∧Below w.heap.size w wr∧Hid (∀j,j<k→p (xs.getD j default)=false)) (fun _ i _=>n - (intOf i).toNat)
 case atStart=>exact⟨0,Nat.zero_le _,rfl,Below.refl _ _,zh (fun j hj=>by omega)⟩
 case round=>
  obtain⟨k,hk,rfl,hB,he⟩:=hrel;by_cases hlt:k<n
  ·obtain⟨b,off,rfl,hS,hbl,g1,g2,hc0,hc1,_⟩:=(h.all hB).BA hlt;have hcall:=HP.out wr (xs.getD k default) hB;generalize hx:xs.getD k default=x at *;have HX:=zh hx;clear hx;have HB:=zh hB;clear hB;have HC:=zh hcall;clear hcall;go_wp2_with fail
   refine HC.out.mono ?_;rintro e w2 ⟨rfl,hb2⟩;have gM:=zh hb2;clear hb2
   cases hpx:p x with
   |true=>
    have HF:Hid (idxOf p xs=(k:Int)):=zh (xG (d:=default) (by have:=HL.out;omega) (by rw[HX.out];exact hpx) he.out);clear hpx;go_wp2
    go_ret
    exact⟨by rw[HF.out];rfl,via HB.out gM.out (Nat.le_refl _)⟩
   |false=>
    have HF:Hid (∀j,j<k+1→p (xs.getD j default)=false):=zh (fun j hj=>by
     by_cases hjk:j=k
     ·subst hjk;rw[HX.out];exact hpx
     exact he.out j (by omega))
    clear hpx;go_wp2
    go_roundw
    case rel=>exact⟨k+1,by omega,by go_num,via HB.out gM.out (Nat.le_refl _),HF⟩
    case measure=>simp[intOf];omega
  have HF:Hid (idxOf p xs=-1):=zh (jf (d:=default) fun j hj=>he.out j (by have:=HL.out;omega));go_wp2
  go_ret
  exact⟨by rw[HF.out];rfl,hB⟩
theorem jO {tg:Bool}{T:TypeId}{S:Nat→Prop}{w:World}{A:Option Addr}{n c:Nat}{xs:List Slot}{a:Addr}(h:Sl tg T qp w S A n c xs) (p:Slot→Bool)
  (hp:∀(W:World) (x:Slot),Below w.heap.size w W→Calls Tryz.prog 146 #[.agg #[.int .i64 x.disk,.int .i64 x.pos],.pointer (some a)] W (Bf (.bool (p x)) W)):
  Calls Tryz.prog 119 #[.slice A n c,.func (.func 146) #[] #[.pointer (some a)]] w (Bf (.bool (xs.any p)) w):=by
 have HP:=zh hp;clear hp;have HQ:=zh (jA (xs:=xs) (p:=p))
 go_enter Tryz.func119,Tryz.ntmps119
 go_wp2_with fail
 refine(kK h p HP.out).mono ?_;rintro e w2 ⟨rfl,hb2⟩;generalize hi:idxOf p xs=i at *;go_wp2
 all_goals
  go_ret
  refine⟨?_,hb2⟩;rw[HQ.out]
  first|rfl|(congr 2;simp_all;done)|(congr 2;simp_all;omega)
end Go.Proofs.YtipecejghioicaaGreat
set_option maxHeartbeats 4000000
namespace Go.Silo
open Go.RowKit
theorem Sl.take {α:Type}{E:Enc α}{tg:Bool}{T:TypeId}{w:World}{S:Nat→Prop}{A:Option Addr}{n c:Nat}{xs:List α}(h:Sl tg T E w S A n c xs) {k:Nat}(hk:k≤n):Sl tg T E w S A k c (xs.take k):=by
 obtain⟨h1,h2,h3,h4⟩:=h;refine⟨by rw[List.length_take];omega,by omega,h3,fun h0=>?_⟩;obtain⟨b,off,e,hb,hl,ht,hc⟩:=h4 (by omega);refine⟨b,off,e,hb,hl,ht,fun j y hj=>hc j y ?_⟩;rw[List.getElem?_take] at hj
 split at hj
 ·exact hj
 cases hj
end Go.Silo
namespace Go.Proofs.YtipecejghioicaaGreat
open Go.RowKit Go.Silo
theorem Kl {tg:Bool}{T:TypeId}{S:Nat→Prop}{w:World}{A:Option Addr}{n c:Nat}{xs:List Slot}(h:Sl tg T qp w S A n c xs):
  Calls Tryz.prog 132 #[.slice A n c] w (Bf (.bool (xc xs)) w):=by
 have HL:=zh h.len;have hcap:n≤9223372036854775807:=Nat.le_trans h.le h.cap;have hnc:n≤c:=h.le;have hcc:c≤9223372036854775807:=h.cap
 go_enter Tryz.func132,Tryz.ntmps132
 go_wp2
 go_loopw [8] (fun i wr=>∃k:Nat,k≤n∧i=.int .i64 k∧Below w.heap.size w wr∧Hid (∀j,j<k→xN xs j=true)) (fun i _=>n - (intOf i).toNat)
 case atStart=>exact⟨0,Nat.zero_le _,rfl,Below.refl _ _,zh (fun j hj=>by omega)⟩
 case round=>
  obtain⟨k,hk,rfl,hB,he⟩:=hrel;by_cases hlt:k<n
  ·obtain⟨b,off,rfl,hS,hbl,g1,g2,hc0,hc1,_⟩:=(h.all hB).BA hlt;have hat:xN xs k=((xs.getD k default).disk==-1||!((xs.take k).any (zH (xs.getD k default).disk))):=rfl;have htk:=(h.all hB).take hk;generalize hx:xs.getD k default=x at *;have HX:=zh hx;clear hx;have HB:=zh hB;clear hB;have nr:=zh hat;clear hat;have H7:=zh htk;clear htk;by_cases hd:x.disk=-1
   ·have HF:Hid (∀j,j<k+1→xN xs j=true):=zh (fun j hj=>by
     by_cases hjk:j=k
     ·subst hjk;rw[nr.out,hd];rfl
     exact he.out j (by omega))
    go_wp2
    go_roundw
    case rel=>exact⟨k+1,by omega,by go_num,HB.out.alloc HB.out.size _,HF⟩
    case measure=>simp[intOf];omega
   have hcell:(wr.alloc (.cells #[.int .i64 x.disk,.int .i64 x.pos] 88)).cell? ⟨wr.heap.size,0,none⟩=some (.int .i64 x.disk):=(zo 0 (heap_alloc_new _ _)).trans rfl;have hcon:=jO (a:=⟨wr.heap.size,0,none⟩) (H7.out.all (w':=wr.alloc (.cells #[.int .i64 x.disk,.int .i64 x.pos] 88)) ((Below.refl _ _).alloc (Nat.le_refl _) _)) (zH x.disk) (fun W y hW=>JM rfl (by have:=hW.size;simp at this;show wr.heap.size<_;omega) ((hW.cell (p:=⟨wr.heap.size,0,none⟩) (by simp)).trans hcell));have HCON:=zh hcon;clear hcon hcell;go_wp2_with fail
   refine HCON.out.mono ?_;rintro e w2 ⟨rfl,hb2⟩;have gM:Hid (Below w.heap.size w w2):=zh ((HB.out.alloc HB.out.size (.cells #[.int .i64 x.disk,.int .i64 x.pos] 88)).trans (hb2.mono (by have:=HB.out.size;simp;omega)));clear hb2 HCON
   cases vv:(xs.take k).any (zH x.disk) with
   |true=>
    have HF:Hid (xc xs=false):=zh (jV (i:=k) (by have:=HL.out;omega) (by rw[nr.out,vv];simp[hd]));clear vv;go_wp2
    go_ret
    exact⟨by rw[HF.out];rfl,gM.out⟩
   |false=>
    have HF:Hid (∀j,j<k+1→xN xs j=true):=zh (fun j hj=>by
     by_cases hjk:j=k
     ·subst hjk;rw[nr.out,vv];simp
     exact he.out j (by omega))
    clear vv;go_wp2
    go_roundw
    case rel=>exact⟨k+1,by omega,by go_num,gM.out,HF⟩
    case measure=>simp[intOf];omega
  have HF:Hid (xc xs=true):=zh (kA fun j hj=>he.out j (by have:=HL.out;omega));go_wp2
  go_ret
  exact⟨by rw[HF.out];rfl,hB⟩
theorem xH {tg:Bool}{S:Nat→Prop}{w:World}{A:Option Addr}{n c:Nat}{s:Shape}{x:Bc}(_:Bn s.K∧Bn s.M∧Bn s.size) (_:Bn x.id∧Bn x.len∧Bn x.gen) (h:Sl tg 88 qp w S A n c x.place):
  Calls Tryz.prog 110 #[.agg #[.int .i64 s.K,.int .i64 s.M,.int .i64 s.size],.agg #[.int .i64 x.id,.int .i64 x.len,.int .i64 x.gen,.slice A n c]] w (Bf (.bool (ze s x)) w):=by
 have HL:=zh h.len;have hcap:n≤9223372036854775807:=Nat.le_trans h.le h.cap;have hr:ze s x=((qt s&&qg x.id&&qg x.gen&&decide (1≤x.len)&&decide (x.len≤s.K* s.size)&&decide ((n:Int)=s.K+s.M))&&(xc x.place&&!(x.place.any fun p=>!qY p))):=by unfold ze;rw[HL.out]
 generalize ze s x=r at *;have HR:=zh hr;clear hr;have hsh:qt s=true→1≤s.K∧s.K≤8∧0≤s.M∧s.M≤6∧1≤s.size∧s.size≤120:=fun h=>by unfold qt at h;exact of_decide_eq_true h
 have vw:=zh hsh;clear hsh;have mK:=zh (fun W (hW:Below w.heap.size w W)=>Kl (h.all hW));have HCF:=zh (fun W (hW:Below w.heap.size w W)=>kJ (h.all hW) (fun p=>!qY p) (fun _ _ _=>Zx));clear h;generalize xc x.place=ap at *;generalize (x.place.any fun p=>!qY p)=cf at *;have vz:((w.alloc (.cells #[.int .i64 s.K,.int .i64 s.M,.int .i64 s.size] 23)).alloc (.cells #[.int .i64 x.id,.int .i64 x.len,.int .i64 x.gen,.slice A n c] 86)).heap[w.heap.size]?=some (.cells #[.int .i64 s.K,.int .i64 s.M,.int .i64 s.size] 23 (0,0)):=by rw[Below.heap_alloc _ _ _ (by simp)];exact heap_alloc_new _ _
 have vA:((w.alloc (.cells #[.int .i64 s.K,.int .i64 s.M,.int .i64 s.size] 23)).alloc (.cells #[.int .i64 x.id,.int .i64 x.len,.int .i64 x.gen,.slice A n c] 86)).heap[w.heap.size+1]?=some (.cells #[.int .i64 x.id,.int .i64 x.len,.int .i64 x.gen,.slice A n c] 86 (0,0)):=by
  have:=heap_alloc_new (w.alloc (.cells #[.int .i64 s.K,.int .i64 s.M,.int .i64 s.size] 23)) (.cells #[.int .i64 x.id,.int .i64 x.len,.int .i64 x.gen,.slice A n c] 86);rw[World.size_alloc] at this;exact this
 have hB0:Below w.heap.size w ((w.alloc (.cells #[.int .i64 s.K,.int .i64 s.M,.int .i64 s.size] 23)).alloc (.cells #[.int .i64 x.id,.int .i64 x.len,.int .i64 x.gen,.slice A n c] 86)):=bz;have hz0:((w.alloc (.cells #[.int .i64 s.K,.int .i64 s.M,.int .i64 s.size] 23)).alloc (.cells #[.int .i64 x.id,.int .i64 x.len,.int .i64 x.gen,.slice A n c] 86)).heap.size=w.heap.size+2:=by simp
 go_enter Tryz.func110,Tryz.ntmps110
 go_wp2_with fail
 refine CS.mono ?_;generalize ((w.alloc (.cells #[.int .i64 s.K,.int .i64 s.M,.int .i64 s.size] 23)).alloc (.cells #[.int .i64 x.id,.int .i64 x.len,.int .i64 x.gen,.slice A n c] 86))=W0 at *
 have CELLS:Hid (∀W,Below W0.heap.size W0 W→W.cell? ⟨w.heap.size,0,none⟩=some (.int .i64 s.K)∧W.cell? ⟨w.heap.size,1,none⟩=some (.int .i64 s.M)∧W.cell? ⟨w.heap.size,2,none⟩=some (.int .i64 s.size)∧
   W.cell? ⟨w.heap.size+1,0,none⟩=some (.int .i64 x.id)∧W.cell? ⟨w.heap.size+1,1,none⟩=some (.int .i64 x.len)∧W.cell? ⟨w.heap.size+1,2,none⟩=some (.int .i64 x.gen)∧W.cell? ⟨w.heap.size+1,3,none⟩=some (.slice A n c)):=zh (fun W hW=>by
  have r0:=(hW.block w.heap.size (by omega)).trans vz;have r1:=(hW.block (w.heap.size+1) (by omega)).trans vA
  exact⟨zo 0 r0,zo 1 r0,zo 2 r0,zo 0 r1,zo 1 r1,zo 2 r1,zo 3 r1⟩)
 have mS:=zh (fun W (hW:Below W0.heap.size W0 W)=>hB0.trans (hW.mono (by omega)));clear vz vA hB0 hz0;rintro e w1 ⟨rfl,hb1⟩;have gV:=zh hb1;clear hb1;obtain⟨k0,k1,k2,x0,x1,x2,x3⟩:=CELLS.out w1 gV.out
 cases hsh:qt s with
 |false=>
  rw[hsh] at HR;clear hsh;go_wp2
  go_ret
  exact⟨by rw[HR.out];rfl,mS.out _ gV.out⟩
 |true=>
  rw[hsh] at HR;obtain⟨b1,b2,b3,b4,b5,b6⟩:=vw.out hsh;have p9:0≤s.K* s.size:=Int.mul_nonneg (by omega) (by omega);have hm2:s.K* s.size≤960:=Int.le_trans (Int.mul_le_mul b2 b6 (by omega) (by omega)) (by decide);clear hsh vw;go_wp2_with fail
  refine D9.mono ?_;clear k0 k1 k2 x0 x1 x2 x3;rintro e w2 ⟨rfl,hb2⟩;have gM:=zt gV hb2;clear hb2;obtain⟨k0,k1,k2,x0,x1,x2,x3⟩:=CELLS.out w2 gM.out
  cases hid:qg x.id with
  |false=>
   rw[hid] at HR;clear hid;go_wp2
   go_ret
   exact⟨by rw[HR.out];rfl,mS.out _ gM.out⟩
  |true=>
   rw[hid] at HR;clear hid;go_wp2_with fail
   refine D9.mono ?_;clear k0 k1 k2 x0 x1 x2 x3;rintro e w3 ⟨rfl,hb3⟩;have mL:=zt gM hb3;clear hb3;obtain⟨k0,k1,k2,x0,x1,x2,x3⟩:=CELLS.out w3 mL.out
   cases hgen:qg x.gen with
   |false=>
    rw[hgen] at HR;clear hgen;go_wp2
    go_ret
    exact⟨by rw[HR.out];rfl,mS.out _ mL.out⟩
   |true=>
    rw[hgen] at HR;clear hgen;by_cases h1:x.len<1
    ·have HF:Hid (r=false):=zh (by rw[HR.out,decide_eq_false (show¬1≤x.len by omega)];rfl);go_wp2
     go_ret
     exact⟨by rw[HF.out];rfl,mS.out _ mL.out⟩
    by_cases h2:x.len≤s.K* s.size
    ·by_cases h3:(n:Int)=s.K+s.M
     ·have HF:Hid (r=(ap&&!cf)):=zh (by rw[HR.out,decide_eq_true (show 1≤x.len by omega),decide_eq_true h2,decide_eq_true h3];rfl);have hap:=mK.out w3 (mS.out _ mL.out);have hne:((n:Int) !=s.K+s.M)=false:=(by simp[h3]);clear h3;go_wp2_with fail
      refine hap.mono ?_;clear hap k0 k1 k2 x0 x1 x2 x3;rintro e w4 ⟨rfl,hb4⟩;have ma:=zt mL hb4;clear hb4;obtain⟨k0,k1,k2,x0,x1,x2,x3⟩:=CELLS.out w4 ma.out
      cases ap with
      |false=>
       go_wp2
       go_ret
       exact⟨by rw[HF.out];rfl,mS.out _ ma.out⟩
      |true=>
       have hcf:=HCF.out w4 (mS.out _ ma.out);go_wp2_with fail
       refine hcf.mono ?_;clear hcf k0 k1 k2 x0 x1 x2 x3;rintro e w5 ⟨rfl,gG⟩;have mB:=zt ma gG;clear gG;go_wp2
       go_ret
       exact⟨by rw[HF.out];rfl,mS.out _ mB.out⟩
     have HF:Hid (r=false):=zh (by rw[HR.out,decide_eq_false h3];simp);have hne:((n:Int) !=s.K+s.M)=true:=(by simp[h3]);clear h3;go_wp2
     go_ret
     exact⟨by rw[HF.out];rfl,mS.out _ mL.out⟩
    have HF:Hid (r=false):=zh (by rw[HR.out,decide_eq_false h2];simp);go_wp2
    go_ret
    exact⟨by rw[HF.out];rfl,mS.out _ mL.out⟩
end Go.Proofs.YtipecejghioicaaGreat
