import Derived.Test.YtipecejghioicaaGreatZcv
import Derived.Test.YtipecejghioicaaGreatQ1v
set_option maxHeartbeats 4000000
namespace Go.Proofs.YtipecejghioicaaGreat
open Go.RowKit Go.Silo
theorem zm {tg tg':Bool}{S S':Nat→Prop}{w:World}{A0 A1 A2 A0' A1' M0:Option Addr}{n0 c0 n1 c1 n2 c2 n0' c0' n1' c1' n2' M2:Nat}{x y:Book}
  (h0:Sl tg 86 (qc tg) w S A0 n0 c0 x.Ba) (h1:Sl tg 90 (qj tg) w S A1 n1 c1 x.things) (h2:Sl tg 94 Bu w S A2 n2 c2 x.tags)
  (h0':Sl tg' 86 (qc tg') w S' A0' n0' c0' y.Ba) (h1':Sl tg' 90 (qj tg') w S' A1' n1' c1' y.things) (h2':Sl tg' 94 Bu w S' M0 n2' M2 y.tags):
  Calls Tryz.prog 34 #[.agg #[.slice A0 n0 c0,.slice A1 n1 c1,.slice A2 n2 c2,.int .i64 x.next],.agg #[.slice A0' n0' c0',.slice A1' n1' c1',.slice M0 n2' M2,.int .i64 y.next]] w (Bh (.bool (decide (x=y))) w):=by
 rw[show decide (x=y)=decide (x.Ba=y.Ba∧x.things=y.things∧x.tags=y.tags∧x.next=y.next) from decide_eq_decide.2 Book.Bq];generalize hr:decide (x.Ba=y.Ba∧x.things=y.things∧x.tags=y.tags∧x.next=y.next)=r;have HR:=zh hr;clear hr;obtain⟨xs,xt,xg,xn⟩:=x;obtain⟨ys,yt,yg,yn⟩:=y;simp only at h0 h1 h2 h0' h1' h2' HR⊢
 go_enter Tryz.func34,Tryz.ntmps34
 go_wp2_with (first
  |(go_at_call 66;refine(Xr (h0.all bz) (h0'.all bz)).mono ?_;rintro e w1 ⟨rfl,hb1⟩;(obtain⟨rA,hf_w1⟩:=xM hb1;have p7:w.heap.size<w1.heap.size:=(by have:=hb1.size;first|omega|(simp at this;omega));have x6:w.heap.size+1<w1.heap.size:=(by have:=hb1.size;first|omega|(simp at this;omega))))
  |(go_at_call 67;refine(Xt (h1.all bz) (h1'.all bz)).mono ?_;rintro e w2 ⟨rfl,hb2⟩;(obtain⟨GW,hf_w2⟩:=xM hb2;have x7:w.heap.size<w2.heap.size:=(by have:=hb2.size;first|omega|(simp at this;omega));have x8:w.heap.size+1<w2.heap.size:=(by have:=hb2.size;first|omega|(simp at this;omega))))
  |(go_at_call 68;refine(KN (h2.all bz) (h2'.all bz)).mono ?_;rintro e w3 ⟨rfl,hb3⟩;(obtain⟨hc_w3,hf_w3⟩:=xM hb3;have z_w3_0:w.heap.size<w3.heap.size:=(by have:=hb3.size;first|omega|(simp at this;omega));have z_w3_1:w.heap.size+1<w3.heap.size:=(by have:=hb3.size;first|omega|(simp at this;omega)))))
 all_goals
  go_ret
  exact⟨by rw[←HR.out];first|(simp[*];done)|(simp[*];rw[Bool.eq_iff_iff];simp),bz⟩
theorem Ci {w:World}{n m:Int}:Calls Tryz.prog 18 #[.int .i64 n,.int .i64 m] w (Bh (.bool (decide (0≤n∧n≤m))) w):=by
 go_enter Tryz.func18,Tryz.ntmps18
 go_wp2
 all_goals
  go_ret
  exact⟨by congr 2;simp_all;try omega,Below.refl _ _⟩
theorem BN {w:World}{n l m:Int}:Calls Tryz.prog 17 #[.int .i64 n,.int .i64 l,.int .i64 m] w (Bh (.bool (decide (l≤n∧n≤m))) w):=by
 go_enter Tryz.func17,Tryz.ntmps17
 go_wp2
 all_goals
  go_ret
  exact⟨by congr 2;simp_all;try omega,Below.refl _ _⟩
def ZU (l:List Int) (n:Int):Int:=match l.findIdx? (·==n) with|some k=>(k:Int)|none=>-1
theorem In_c {tg:Bool}{T:TypeId}{S:Nat→Prop}{w:World}{A:Option Addr}{n c:Nat}{xs:List Int}{x:Int}(h:Sl tg T Bo w S A n c xs):
  Calls Tryz.prog 44 #[.slice A n c,.int .i64 x] w (Bh (.int .i64 (ZU xs x)) w):=by
 have HL:=zh h.len;have hcap:n≤9223372036854775807:=Nat.le_trans h.le h.cap
 go_enter Tryz.func44,Tryz.ntmps44
 go_wp2
 go_loopw [5] (fun i wr=>∃k:Nat,k≤n∧i=.int .i64 k∧wr=w∧Hid (∀j,j<k→xs.getD j 0≠x)) (fun i _=>n - (intOf i).toNat)
 case atStart=>exact⟨0,Nat.zero_le _,rfl,rfl,zh (fun j hj=>by omega)⟩
 case round=>
  obtain⟨k,hk,rfl,rfl,he⟩:=hrel;by_cases hlt:k<n
  ·obtain⟨b,off,rfl,hS,hbl,g1,hc0,_⟩:=h.BZ hlt;generalize hx:xs.getD k 0=y at *;have HX:=zh hx;clear hx;by_cases hxy:y=x
   ·have hb:(y==x)=true:=by simpa using hxy
    have HF:Hid (ZU xs x=(k:Int)):=zh (by
     have hl:=HL.out
     have:xs.findIdx? (·==x)=some k:=by
      rw[List.findIdx?_eq_some_iff_getElem];refine⟨by omega,?_,fun j hj=>?_⟩
      ·have:=HX.out;rw[List.getD_eq_getElem?_getD,List.getElem?_eq_getElem (by omega)] at this;simpa[hxy] using this
      have:=he.out j hj;rw[List.getD_eq_getElem?_getD,List.getElem?_eq_getElem (by omega)] at this;simpa using this
     unfold ZU;rw[this])
    clear hxy;go_wp2
    go_ret
    exact⟨by rw[HF.out];rfl,Below.refl _ _⟩
   have hb:(y==x)=false:=(by simpa using hxy);clear hxy;go_wp2
   go_roundw
   case rel=>exact⟨k+1,by omega,by go_num,by trivial,zh (fun j hj=>by
    by_cases hjk:j=k
    ·subst hjk;rw[HX.out];simpa using hb
    exact he.out j (by omega))⟩
   case measure=>simp[intOf];omega
  have HF:Hid (ZU xs x=-1):=zh (by
   have hl:=HL.out
   have:xs.findIdx? (·==x)=none:=by
    rw[List.findIdx?_eq_none_iff];intro y hy;obtain⟨j,hj,rfl⟩:=List.mem_iff_getElem.1 hy;have:=he.out j (by omega);rw[List.getD_eq_getElem?_getD,List.getElem?_eq_getElem hj] at this;simpa using this
   unfold ZU;rw[this])
  go_wp2
  go_ret
  exact⟨by rw[HF.out];rfl,Below.refl _ _⟩
def Rat (xs:List Int) (j:Nat):Prop:=0≤xs.getD j 0∧xs.getD j 0≤63∧(0<j→xs.getD (j - 1) 0<xs.getD j 0)
def Rising (xs:List Int):Prop:=∀j,j<xs.length→Rat xs j
theorem Rat.first {xs:List Int}{j:Nat}(hj:j=0) (h0:0≤xs.getD j 0) (h1:xs.getD j 0≤63):Rat xs j:=⟨h0,h1,fun h=>by omega⟩
theorem Rat.next {xs:List Int}{j:Nat}(h0:0≤xs.getD (j+1) 0) (h1:xs.getD (j+1) 0≤63) (h2:xs.getD j 0<xs.getD (j+1) 0):Rat xs (j+1):=⟨h0,h1,fun _=>by simpa using h2⟩
def idxOf {α:Type}(p:α→Bool) (xs:List α):Int:=match xs.findIdx? p with|some k=>(k:Int)|none=>-1
theorem zU {α:Type}{p:α→Bool}{xs:List α}{d:α}{k:Nat}(hk:k<xs.length) (h:p (xs.getD k d)=true) (hn:∀j,j<k→p (xs.getD j d)=false):idxOf p xs=(k:Int):=by
 have:xs.findIdx? p=some k:=by
  rw[List.findIdx?_eq_some_iff_getElem];refine⟨hk,?_,fun j hj=>?_⟩
  ·rw[List.getD_eq_getElem?_getD,List.getElem?_eq_getElem hk] at h;simpa using h
  have:=hn j hj;rw[List.getD_eq_getElem?_getD,List.getElem?_eq_getElem (by omega)] at this;simpa using this
 unfold idxOf;rw[this]
theorem xV {α:Type}{p:α→Bool}{xs:List α}{d:α}(hn:∀j,j<xs.length→p (xs.getD j d)=false):idxOf p xs=-1:=by
 have:xs.findIdx? p=none:=by
  rw[List.findIdx?_eq_none_iff];intro y hy;obtain⟨j,hj,rfl⟩:=List.mem_iff_getElem.1 hy;have:=hn j hj;rw[List.getD_eq_getElem?_getD,List.getElem?_eq_getElem hj] at this;simpa using this
 unfold idxOf;rw[this]
theorem jx {α:Type}{p:α→Bool}{xs:List α}:xs.any p=decide (0≤idxOf p xs):=by
 unfold idxOf
 cases h:xs.findIdx? p with
 |none=>
  rw[List.findIdx?_eq_none_iff] at h;rw[List.any_eq_false.2 (fun x hx=>by simpa using h x hx)];rfl
 |some k=>
  rw[List.findIdx?_eq_some_iff_getElem] at h;obtain⟨hk,hp,_⟩:=h;rw[List.any_eq_true.2 ⟨_,List.getElem_mem hk,hp⟩];simp
theorem zV {α:Type}{l:List α}{d:α}{k:Nat}(h:k<l.length):l.getD k d∈l:=by rw[List.getD_eq_getElem?_getD,List.getElem?_eq_getElem h];exact List.getElem_mem _
end Go.Proofs.YtipecejghioicaaGreat
namespace Go.Silo
open Go Go.RowKit
open Go.Maps (Keyed)
theorem kI {P:Program}{k e:TypeId}(w:World) {ops:Array Oper}{rest:List Oper}{o:Oper}{a:Act}{Q:Exit→Act→World→Prop}
  (hw:Region.wanted o (yielded ops a.tmps)=true) (m x:Operand) (t:TypeId) (hop:o.op=Op.lookup t m x false) (K:Keyed P k) (ht:P.underlying t=some (.map k e)) (he:P.underlying e=some .bool) (hz:(zeroValue e).run P w=.ok (.bool false) w) (b n:Nat) (L:List Value)
  (hm:a.eval m=.map (some b)) (ml:BO P k e w b n L) (key:Value) (kl:Lit) (hx:a.eval x=key) (hkey:keyOf P k key=some kl)
  (hK:∀x:Bool,(x=true↔key∈L)→wpList P ops Q rest (a.put o.dst (.bool x)) w):
  wpList P ops Q (o::rest) a w:=by
 refine wpList_step fun K' hK'=>?_;rw[if_pos hw];obtain⟨c,hrun,hc⟩:=ml.look K ht he hz hkey;unfold Oper.wp;simp[execOp,hop,hm,hx,hrun,Result.andThen];exact hK' _ _ (hK c hc)
end Go.Silo
namespace Go.Proofs.YtipecejghioicaaGreat
open Go.RowKit Go.Silo
theorem KO:laidOutB Tryz.prog=true:=by kernel_rfl
theorem Xu:(88:TypeId)<Tryz.prog.types.size:=of_decide_eq_true (by kernel_rfl)
theorem Kg:(match Tryz.prog.underlying 88 with|some (.array _ _)|some (.struct _)=>true|_=>false)=true:=by rw[Tryz.underlying88]
set_option maxRecDepth 1000000 in
theorem KP:WideMaps.KeyLaw Tryz.prog 88:=deep_law_laid KO (m:=2) (by omega) Xu (by kernel_rfl) Kg
theorem kv:Maps.Keyed Tryz.prog 88:=Maps.Keyed.of_law KP
theorem QR:Tryz.prog.cellsOf 88=2:=by kernel_rfl
theorem yy:Tryz.prog.keyType 88=true:=by kernel_rfl
theorem KQ {a b:Int}(ha:Bg a) (hb:Bg b):∃kl,keyOf Tryz.prog 88 (.agg #[.int .i64 a,.int .i64 b])=some kl:=by
 have h1:(Lit.int .i64 a).wf=true:=by
  unfold Bg at ha;simp[Lit.wf,IntKind.min,IntKind.max,IntKind.signed,IntKind.bits];omega
 have h2:(Lit.int .i64 b).wf=true:=by
  unfold Bg at hb;simp[Lit.wf,IntKind.min,IntKind.max,IntKind.signed,IntKind.bits];omega
 obtain⟨q,hq⟩:∃q,Tryz.prog.types.size=q+1:=⟨Tryz.prog.types.size - 1,by have:=(show(88:Nat)<Tryz.prog.types.size from Xu);omega⟩;have hf:(Value.agg #[.int .i64 a,.int .i64 b]).formed Tryz.prog 88=true:=by simp[Value.formed,Tryz.underlying88,QR]
 have hc1:Tryz.prog.cellsOf 3=1:=by kernel_rfl
 unfold keyOf;rw[Tryz.underlying88];simp only[yy,hf,hq,Bool.true_and,if_true];simp[Program.keyLits,Value.cells,Tryz.underlying88,Tryz.underlying3,QR,hc1,h1,h2]
def qo (s:Shape):Bool:=decide (1≤s.K∧s.K≤8∧0≤s.M∧s.M≤6∧1≤s.size∧s.size≤120)
def qW (n:Int):Bool:=decide (0≤n∧n≤1073741824)
def za (p:Slot):Bool:=decide ((0≤p.disk∧p.disk≤11∧0≤p.pos∧p.pos≤63)∨(p.disk=-1∧p.pos=0))
def zJ (d:Int) (p:Slot):Bool:=p.disk==d
def je (l:List Slot) (i:Nat):Bool:=(l.getD i default).disk==-1||!((l.take i).any (zJ (l.getD i default).disk))
def xv (l:List Slot):Bool:=(List.range l.length).all (je l)
theorem Qk {l:List Slot}(h:∀i,i<l.length→je l i=true):xv l=true:=List.all_eq_true.2 fun i hi=>h i (List.mem_range.1 hi)
theorem kJ {l:List Slot}{i:Nat}(hi:i<l.length) (h:je l i=false):xv l=false:=by
 cases hh:xv l with
 |false=>rfl
 |true=>have:=List.all_eq_true.1 hh i (List.mem_range.2 hi);rw[h] at this;cases this
def zg (s:Shape) (x:Bb):Bool:=
 (qo s&&qW x.id&&qW x.gen&&decide (1≤x.len)&&decide (x.len≤s.K* s.size)&&decide ((x.place.length:Int)=s.K+s.M))&&(xv x.place&&!(x.place.any fun p=>!za p))
theorem CO {w:World}{s:Shape}:Calls Tryz.prog 72 #[.agg #[.int .i64 s.K,.int .i64 s.M,.int .i64 s.size]] w (Bh (.bool (qo s)) w):=by
 have hr:qo s=decide (1≤s.K∧s.K≤8∧0≤s.M∧s.M≤6∧1≤s.size∧s.size≤120):=rfl;generalize qo s=r at *;have HR:=zh hr;clear hr
 go_enter Tryz.func72,Tryz.ntmps72
 go_wp2
 all_goals
  go_ret
  exact⟨by rw[HR.out];congr 2;simp_all;try omega,bz⟩
theorem Dp {w:World}{n:Int}:Calls Tryz.prog 131 #[.int .i64 n] w (Bh (.bool (qW n)) w):=by
 have hr:qW n=decide (0≤n∧n≤1073741824):=rfl;generalize qW n=r at *;have HR:=zh hr;clear hr
 go_enter Tryz.func131,Tryz.ntmps131
 go_wp2
 all_goals
  go_ret
  exact⟨by rw[HR.out];congr 2;simp_all;try omega,bz⟩
theorem FB {w:World}{p:Slot}:Calls Tryz.prog 134 #[.agg #[.int .i64 p.disk,.int .i64 p.pos]] w (Bh (.bool (za p)) w):=by
 have hr:za p=decide ((0≤p.disk∧p.disk≤11∧0≤p.pos∧p.pos≤63)∨(p.disk=-1∧p.pos=0)):=rfl;generalize za p=r at *;have HR:=zh hr;clear hr;by_cases h64:p.pos<64
 all_goals
  go_enter Tryz.func134,Tryz.ntmps134
  go_wp2
  all_goals
   go_ret
   exact⟨by rw[HR.out];first|(congr 2;simp_all;done)|(congr 2;simp_all;omega),bz⟩
theorem Xv {w:World}{p:Slot}:Calls Tryz.prog 133 #[.agg #[.int .i64 p.disk,.int .i64 p.pos]] w (Bh (.bool (!za p)) w):=by
 go_enter Tryz.func133,Tryz.ntmps133
 go_wp2_with fail
 refine FB.mono ?_;rintro e w1 ⟨rfl,hb1⟩;go_wp2
 go_ret
 exact⟨rfl,bz⟩
theorem KR {w:World}{p:Slot}{a:Addr}{d:Int}(hs:a.spot=none) (hl:a.block<w.heap.size) (h:w.cell? a=some (.int .i64 d)):Calls Tryz.prog 146 #[.agg #[.int .i64 p.disk,.int .i64 p.pos],.pointer (some a)] w (Bh (.bool (zJ d p)) w):=by
 obtain⟨b,o,s⟩:=a;obtain rfl:s=none:=hs;have hl':b<w.heap.size:=hl
 go_enter Tryz.func146,Tryz.ntmps146
 go_wp2
 go_ret
 exact⟨rfl,bz⟩
theorem ZV {tg:Bool}{T:TypeId}{S:Nat→Prop}{w:World}{A:Option Addr}{n c:Nat}{xs:List Slot}(h:Sl tg T qr w S A n c xs) (p:Slot→Bool)
  (hp:∀(W:World) (x:Slot),Below w.heap.size w W→Calls Tryz.prog 133 #[.agg #[.int .i64 x.disk,.int .i64 x.pos]] W (Bh (.bool (p x)) W)):
  Calls Tryz.prog 137 #[.slice A n c,.func (.func 133) #[] #[]] w (Bh (.int .i64 (idxOf p xs)) w):=by
 have HL:=zh h.len;have HP:=zh hp;clear hp;have hcap:n≤9223372036854775807:=Nat.le_trans h.le h.cap
 go_enter Tryz.func137,Tryz.ntmps137
 go_wp2
 go_loopw [5,8] (fun _ i wr=>∃k:Nat,k≤n∧i=.int .i64 k∧Below w.heap.size w wr∧Hid (∀j,j<k→p (xs.getD j default)=false)) (fun _ i _=>n - (intOf i).toNat)
 case atStart=>exact⟨0,Nat.zero_le _,rfl,Below.refl _ _,zh (fun j hj=>by omega)⟩
 case round=>
  obtain⟨k,hk,rfl,hB,he⟩:=hrel;by_cases hlt:k<n
  ·obtain⟨b,off,rfl,hS,hbl,g1,g2,hc0,hc1,_⟩:=(h.all hB).C8 hlt;have hcall:=HP.out wr (xs.getD k default) hB;generalize hx:xs.getD k default=x at *;have HX:=zh hx;clear hx;have HB:=zh hB;clear hB;have HC:=zh hcall;clear hcall;go_wp2_with fail
   refine HC.out.mono ?_;rintro e w2 ⟨rfl,hb2⟩;have gM:=zh hb2;clear hb2
   cases hpx:p x with
   |true=>
    have HF:Hid (idxOf p xs=(k:Int)):=zh (zU (d:=default) (by have:=HL.out;omega) (by rw[HX.out];exact hpx) he.out);clear hpx;go_wp2
    go_ret
    exact⟨by rw[HF.out];rfl,via HB.out gM.out (Nat.le_refl _)⟩
   |false=>
    have HF:Hid (∀j,j<k+1→p (xs.getD j default)=false):=zh (fun j hj=>by
     by_cases hjk:j=k
     ·subst hjk;rw[HX.out];exact hpx
     exact he.out j (by omega))
    clear hpx;go_wp2
    go_roundw
    case rel=>exact⟨k+1,by omega,by go_num,via HB.out gM.out (Nat.le_refl _),HF⟩
    case measure=>simp[intOf];omega
  have HF:Hid (idxOf p xs=-1):=zh (xV (d:=default) fun j hj=>he.out j (by have:=HL.out;omega));go_wp2
  go_ret
  exact⟨by rw[HF.out];rfl,hB⟩
theorem Qv {tg:Bool}{T:TypeId}{S:Nat→Prop}{w:World}{A:Option Addr}{n c:Nat}{xs:List Slot}(h:Sl tg T qr w S A n c xs) (p:Slot→Bool)
  (hp:∀(W:World) (x:Slot),Below w.heap.size w W→Calls Tryz.prog 133 #[.agg #[.int .i64 x.disk,.int .i64 x.pos]] W (Bh (.bool (p x)) W)):
  Calls Tryz.prog 119 #[.slice A n c,.func (.func 133) #[] #[]] w (Bh (.bool (xs.any p)) w):=by
 have HP:=zh hp;clear hp;have HQ:=zh (jx (xs:=xs) (p:=p))
 go_enter Tryz.func119,Tryz.ntmps119
 go_wp2_with fail
 refine(ZV h p HP.out).mono ?_;rintro e w2 ⟨rfl,hb2⟩;generalize hi:idxOf p xs=i at *;go_wp2
 all_goals
  go_ret
  refine⟨?_,hb2⟩;rw[HQ.out]
  first|rfl|(congr 2;simp_all;done)|(congr 2;simp_all;omega)
theorem Qw {tg:Bool}{T:TypeId}{S:Nat→Prop}{w:World}{A:Option Addr}{n c:Nat}{xs:List Slot}{a:Addr}(h:Sl tg T qr w S A n c xs) (p:Slot→Bool)
  (hp:∀(W:World) (x:Slot),Below w.heap.size w W→Calls Tryz.prog 146 #[.agg #[.int .i64 x.disk,.int .i64 x.pos],.pointer (some a)] W (Bh (.bool (p x)) W)):
  Calls Tryz.prog 137 #[.slice A n c,.func (.func 146) #[] #[.pointer (some a)]] w (Bh (.int .i64 (idxOf p xs)) w):=by
 have HL:=zh h.len;have HP:=zh hp;clear hp;have hcap:n≤9223372036854775807:=Nat.le_trans h.le h.cap
 go_enter Tryz.func137,Tryz.ntmps137
 go_wp2
 go_loopw [5,8] (fun _ i wr=>∃k:Nat,k≤n∧i=.int .i64 k∧Below w.heap.size w wr∧Hid (∀j,j<k→p (xs.getD j default)=false)) (fun _ i _=>n - (intOf i).toNat)
 case atStart=>exact⟨0,Nat.zero_le _,rfl,Below.refl _ _,zh (fun j hj=>by omega)⟩
 case round=>
  obtain⟨k,hk,rfl,hB,he⟩:=hrel;by_cases hlt:k<n
  ·obtain⟨b,off,rfl,hS,hbl,g1,g2,hc0,hc1,_⟩:=(h.all hB).C8 hlt;have hcall:=HP.out wr (xs.getD k default) hB;generalize hx:xs.getD k default=x at *;have HX:=zh hx;clear hx;have HB:=zh hB;clear hB;have HC:=zh hcall;clear hcall;go_wp2_with fail
   refine HC.out.mono ?_;rintro e w2 ⟨rfl,hb2⟩;have gM:=zh hb2;clear hb2
   cases hpx:p x with
   |true=>
    have HF:Hid (idxOf p xs=(k:Int)):=zh (zU (d:=default) (by have:=HL.out;omega) (by rw[HX.out];exact hpx) he.out);clear hpx;go_wp2
    go_ret
    exact⟨by rw[HF.out];rfl,via HB.out gM.out (Nat.le_refl _)⟩
   |false=>
    have HF:Hid (∀j,j<k+1→p (xs.getD j default)=false):=zh (fun j hj=>by
     by_cases hjk:j=k
     ·subst hjk;rw[HX.out];exact hpx
     exact he.out j (by omega))
    clear hpx;go_wp2
    go_roundw
    case rel=>exact⟨k+1,by omega,by go_num,via HB.out gM.out (Nat.le_refl _),HF⟩
    case measure=>simp[intOf];omega
  have HF:Hid (idxOf p xs=-1):=zh (xV (d:=default) fun j hj=>he.out j (by have:=HL.out;omega));go_wp2
  go_ret
  exact⟨by rw[HF.out];rfl,hB⟩
theorem kw {tg:Bool}{T:TypeId}{S:Nat→Prop}{w:World}{A:Option Addr}{n c:Nat}{xs:List Slot}{a:Addr}(h:Sl tg T qr w S A n c xs) (p:Slot→Bool)
  (hp:∀(W:World) (x:Slot),Below w.heap.size w W→Calls Tryz.prog 146 #[.agg #[.int .i64 x.disk,.int .i64 x.pos],.pointer (some a)] W (Bh (.bool (p x)) W)):
  Calls Tryz.prog 119 #[.slice A n c,.func (.func 146) #[] #[.pointer (some a)]] w (Bh (.bool (xs.any p)) w):=by
 have HP:=zh hp;clear hp;have HQ:=zh (jx (xs:=xs) (p:=p))
 go_enter Tryz.func119,Tryz.ntmps119
 go_wp2_with fail
 refine(Qw h p HP.out).mono ?_;rintro e w2 ⟨rfl,hb2⟩;generalize hi:idxOf p xs=i at *;go_wp2
 all_goals
  go_ret
  refine⟨?_,hb2⟩;rw[HQ.out]
  first|rfl|(congr 2;simp_all;done)|(congr 2;simp_all;omega)
end Go.Proofs.YtipecejghioicaaGreat
namespace Go.Silo
open Go.RowKit
theorem Sl.take {α:Type}{E:Enc α}{tg:Bool}{T:TypeId}{w:World}{S:Nat→Prop}{A:Option Addr}{n c:Nat}{xs:List α}(h:Sl tg T E w S A n c xs) {k:Nat}(hk:k≤n):Sl tg T E w S A k c (xs.take k):=by
 obtain⟨h1,h2,h3,h4⟩:=h;refine⟨by rw[List.length_take];omega,by omega,h3,fun h0=>?_⟩;obtain⟨b,off,e,hb,hl,ht,hc⟩:=h4 (by omega);refine⟨b,off,e,hb,hl,ht,fun j y hj=>hc j y ?_⟩;rw[List.getElem?_take] at hj
 split at hj
 ·exact hj
 cases hj
end Go.Silo
namespace Go.Proofs.YtipecejghioicaaGreat
open Go.RowKit Go.Silo
theorem yz {tg:Bool}{T:TypeId}{S:Nat→Prop}{w:World}{A:Option Addr}{n c:Nat}{xs:List Slot}(h:Sl tg T qr w S A n c xs):
  Calls Tryz.prog 132 #[.slice A n c] w (Bh (.bool (xv xs)) w):=by
 have HL:=zh h.len;have hcap:n≤9223372036854775807:=Nat.le_trans h.le h.cap;have hnc:n≤c:=h.le;have hcc:c≤9223372036854775807:=h.cap
 go_enter Tryz.func132,Tryz.ntmps132
 go_wp2
 go_loopw [8] (fun i wr=>∃k:Nat,k≤n∧i=.int .i64 k∧Below w.heap.size w wr∧Hid (∀j,j<k→je xs j=true)) (fun i _=>n - (intOf i).toNat)
 case atStart=>exact⟨0,Nat.zero_le _,rfl,Below.refl _ _,zh (fun j hj=>by omega)⟩
 case round=>
  obtain⟨k,hk,rfl,hB,he⟩:=hrel;by_cases hlt:k<n
  ·obtain⟨b,off,rfl,hS,hbl,g1,g2,hc0,hc1,_⟩:=(h.all hB).C8 hlt;have hat:je xs k=((xs.getD k default).disk==-1||!((xs.take k).any (zJ (xs.getD k default).disk))):=rfl;have htk:=(h.all hB).take hk;generalize hx:xs.getD k default=x at *;have HX:=zh hx;clear hx;have HB:=zh hB;clear hB;have mU:=zh hat;clear hat;have pq:=zh htk;clear htk;by_cases hd:x.disk=-1
   ·have HF:Hid (∀j,j<k+1→je xs j=true):=zh (fun j hj=>by
     by_cases hjk:j=k
     ·subst hjk;rw[mU.out,hd];rfl
     exact he.out j (by omega))
    go_wp2
    go_roundw
    case rel=>exact⟨k+1,by omega,by go_num,HB.out.alloc HB.out.size _,HF⟩
    case measure=>simp[intOf];omega
   have hcell:(wr.alloc (.cells #[.int .i64 x.disk,.int .i64 x.pos] 88)).cell? ⟨wr.heap.size,0,none⟩=some (.int .i64 x.disk):=(zo 0 (heap_alloc_new _ _)).trans rfl;have hcon:=kw (a:=⟨wr.heap.size,0,none⟩) (pq.out.all (w':=wr.alloc (.cells #[.int .i64 x.disk,.int .i64 x.pos] 88)) ((Below.refl _ _).alloc (Nat.le_refl _) _)) (zJ x.disk) (fun W y hW=>KR rfl (by have:=hW.size;simp at this;show wr.heap.size<_;omega) ((hW.cell (p:=⟨wr.heap.size,0,none⟩) (by simp)).trans hcell));have HCON:=zh hcon;clear hcon hcell;go_wp2_with fail
   refine HCON.out.mono ?_;rintro e w2 ⟨rfl,hb2⟩;have gM:Hid (Below w.heap.size w w2):=zh ((HB.out.alloc HB.out.size (.cells #[.int .i64 x.disk,.int .i64 x.pos] 88)).trans (hb2.mono (by have:=HB.out.size;simp;omega)));clear hb2 HCON
   cases vv:(xs.take k).any (zJ x.disk) with
   |true=>
    have HF:Hid (xv xs=false):=zh (kJ (i:=k) (by have:=HL.out;omega) (by rw[mU.out,vv];simp[hd]));clear vv;go_wp2
    go_ret
    exact⟨by rw[HF.out];rfl,gM.out⟩
   |false=>
    have HF:Hid (∀j,j<k+1→je xs j=true):=zh (fun j hj=>by
     by_cases hjk:j=k
     ·subst hjk;rw[mU.out,vv];simp
     exact he.out j (by omega))
    clear vv;go_wp2
    go_roundw
    case rel=>exact⟨k+1,by omega,by go_num,gM.out,HF⟩
    case measure=>simp[intOf];omega
  have HF:Hid (xv xs=true):=zh (Qk fun j hj=>he.out j (by have:=HL.out;omega));go_wp2
  go_ret
  exact⟨by rw[HF.out];rfl,hB⟩
theorem xW {tg:Bool}{S:Nat→Prop}{w:World}{A:Option Addr}{n c:Nat}{s:Shape}{x:Bb}(_:Bg s.K∧Bg s.M∧Bg s.size) (_:Bg x.id∧Bg x.len∧Bg x.gen) (h:Sl tg 88 qr w S A n c x.place):
  Calls Tryz.prog 110 #[.agg #[.int .i64 s.K,.int .i64 s.M,.int .i64 s.size],.agg #[.int .i64 x.id,.int .i64 x.len,.int .i64 x.gen,.slice A n c]] w (Bh (.bool (zg s x)) w):=by
 have HL:=zh h.len;have hcap:n≤9223372036854775807:=Nat.le_trans h.le h.cap;have hr:zg s x=((qo s&&qW x.id&&qW x.gen&&decide (1≤x.len)&&decide (x.len≤s.K* s.size)&&decide ((n:Int)=s.K+s.M))&&(xv x.place&&!(x.place.any fun p=>!za p))):=by unfold zg;rw[HL.out]
 generalize zg s x=r at *;have HR:=zh hr;clear hr;have hsh:qo s=true→1≤s.K∧s.K≤8∧0≤s.M∧s.M≤6∧1≤s.size∧s.size≤120:=fun h=>by unfold qo at h;exact of_decide_eq_true h
 have un:=zh hsh;clear hsh;have mq:=zh (fun W (hW:Below w.heap.size w W)=>yz (h.all hW));have HCF:=zh (fun W (hW:Below w.heap.size w W)=>Qv (h.all hW) (fun p=>!za p) (fun _ _ _=>Xv));clear h;generalize xv x.place=ap at *;generalize (x.place.any fun p=>!za p)=cf at *;have vw:((w.alloc (.cells #[.int .i64 s.K,.int .i64 s.M,.int .i64 s.size] 23)).alloc (.cells #[.int .i64 x.id,.int .i64 x.len,.int .i64 x.gen,.slice A n c] 86)).heap[w.heap.size]?=some (.cells #[.int .i64 s.K,.int .i64 s.M,.int .i64 s.size] 23 (0,0)):=by rw[Below.heap_alloc _ _ _ (by simp)];exact heap_alloc_new _ _
 have vz:((w.alloc (.cells #[.int .i64 s.K,.int .i64 s.M,.int .i64 s.size] 23)).alloc (.cells #[.int .i64 x.id,.int .i64 x.len,.int .i64 x.gen,.slice A n c] 86)).heap[w.heap.size+1]?=some (.cells #[.int .i64 x.id,.int .i64 x.len,.int .i64 x.gen,.slice A n c] 86 (0,0)):=by
  have:=heap_alloc_new (w.alloc (.cells #[.int .i64 s.K,.int .i64 s.M,.int .i64 s.size] 23)) (.cells #[.int .i64 x.id,.int .i64 x.len,.int .i64 x.gen,.slice A n c] 86);rw[World.size_alloc] at this;exact this
 have hB0:Below w.heap.size w ((w.alloc (.cells #[.int .i64 s.K,.int .i64 s.M,.int .i64 s.size] 23)).alloc (.cells #[.int .i64 x.id,.int .i64 x.len,.int .i64 x.gen,.slice A n c] 86)):=bz;have hz0:((w.alloc (.cells #[.int .i64 s.K,.int .i64 s.M,.int .i64 s.size] 23)).alloc (.cells #[.int .i64 x.id,.int .i64 x.len,.int .i64 x.gen,.slice A n c] 86)).heap.size=w.heap.size+2:=by simp
 go_enter Tryz.func110,Tryz.ntmps110
 go_wp2_with fail
 refine CO.mono ?_;generalize ((w.alloc (.cells #[.int .i64 s.K,.int .i64 s.M,.int .i64 s.size] 23)).alloc (.cells #[.int .i64 x.id,.int .i64 x.len,.int .i64 x.gen,.slice A n c] 86))=W0 at *
 have CELLS:Hid (∀W,Below W0.heap.size W0 W→W.cell? ⟨w.heap.size,0,none⟩=some (.int .i64 s.K)∧W.cell? ⟨w.heap.size,1,none⟩=some (.int .i64 s.M)∧W.cell? ⟨w.heap.size,2,none⟩=some (.int .i64 s.size)∧
   W.cell? ⟨w.heap.size+1,0,none⟩=some (.int .i64 x.id)∧W.cell? ⟨w.heap.size+1,1,none⟩=some (.int .i64 x.len)∧W.cell? ⟨w.heap.size+1,2,none⟩=some (.int .i64 x.gen)∧W.cell? ⟨w.heap.size+1,3,none⟩=some (.slice A n c)):=zh (fun W hW=>by
  have r0:=(hW.block w.heap.size (by omega)).trans vw;have r1:=(hW.block (w.heap.size+1) (by omega)).trans vz
  exact⟨zo 0 r0,zo 1 r0,zo 2 r0,zo 0 r1,zo 1 r1,zo 2 r1,zo 3 r1⟩)
 have mD:=zh (fun W (hW:Below W0.heap.size W0 W)=>hB0.trans (hW.mono (by omega)));clear vw vz hB0 hz0;rintro e w1 ⟨rfl,hb1⟩;have gG:=zh hb1;clear hb1;obtain⟨k0,k1,k2,x0,x1,x2,x3⟩:=CELLS.out w1 gG.out
 cases hsh:qo s with
 |false=>
  rw[hsh] at HR;clear hsh;go_wp2
  go_ret
  exact⟨by rw[HR.out];rfl,mD.out _ gG.out⟩
 |true=>
  rw[hsh] at HR;obtain⟨b1,b2,b3,b4,b5,b6⟩:=un.out hsh;have nW:0≤s.K* s.size:=Int.mul_nonneg (by omega) (by omega);have hm2:s.K* s.size≤960:=Int.le_trans (Int.mul_le_mul b2 b6 (by omega) (by omega)) (by decide);clear hsh un;go_wp2_with fail
  refine Dp.mono ?_;clear k0 k1 k2 x0 x1 x2 x3;rintro e w2 ⟨rfl,hb2⟩;have gM:=zt gG hb2;clear hb2;obtain⟨k0,k1,k2,x0,x1,x2,x3⟩:=CELLS.out w2 gM.out
  cases hid:qW x.id with
  |false=>
   rw[hid] at HR;clear hid;go_wp2
   go_ret
   exact⟨by rw[HR.out];rfl,mD.out _ gM.out⟩
  |true=>
   rw[hid] at HR;clear hid;go_wp2_with fail
   refine Dp.mono ?_;clear k0 k1 k2 x0 x1 x2 x3;rintro e w3 ⟨rfl,hb3⟩;have mO:=zt gM hb3;clear hb3;obtain⟨k0,k1,k2,x0,x1,x2,x3⟩:=CELLS.out w3 mO.out
   cases hgen:qW x.gen with
   |false=>
    rw[hgen] at HR;clear hgen;go_wp2
    go_ret
    exact⟨by rw[HR.out];rfl,mD.out _ mO.out⟩
   |true=>
    rw[hgen] at HR;clear hgen;by_cases h1:x.len<1
    ·have HF:Hid (r=false):=zh (by rw[HR.out,decide_eq_false (show¬1≤x.len by omega)];rfl);go_wp2
     go_ret
     exact⟨by rw[HF.out];rfl,mD.out _ mO.out⟩
    by_cases h2:x.len≤s.K* s.size
    ·by_cases h3:(n:Int)=s.K+s.M
     ·have HF:Hid (r=(ap&&!cf)):=zh (by rw[HR.out,decide_eq_true (show 1≤x.len by omega),decide_eq_true h2,decide_eq_true h3];rfl);have hap:=mq.out w3 (mD.out _ mO.out);have hne:((n:Int) !=s.K+s.M)=false:=(by simp[h3]);clear h3;go_wp2_with fail
      refine hap.mono ?_;clear hap k0 k1 k2 x0 x1 x2 x3;rintro e w4 ⟨rfl,hb4⟩;have mf:=zt mO hb4;clear hb4;obtain⟨k0,k1,k2,x0,x1,x2,x3⟩:=CELLS.out w4 mf.out
      cases ap with
      |false=>
       go_wp2
       go_ret
       exact⟨by rw[HF.out];rfl,mD.out _ mf.out⟩
      |true=>
       have hcf:=HCF.out w4 (mD.out _ mf.out);go_wp2_with fail
       refine hcf.mono ?_;clear hcf k0 k1 k2 x0 x1 x2 x3;rintro e w5 ⟨rfl,gB⟩;have mA:=zt mf gB;clear gB;go_wp2
       go_ret
       exact⟨by rw[HF.out];rfl,mD.out _ mA.out⟩
     have HF:Hid (r=false):=zh (by rw[HR.out,decide_eq_false h3];simp);have hne:((n:Int) !=s.K+s.M)=true:=(by simp[h3]);clear h3;go_wp2
     go_ret
     exact⟨by rw[HF.out];rfl,mD.out _ mO.out⟩
    have HF:Hid (r=false):=zh (by rw[HR.out,decide_eq_false h2];simp);go_wp2
    go_ret
    exact⟨by rw[HF.out];rfl,mD.out _ mO.out⟩
end Go.Proofs.YtipecejghioicaaGreat
