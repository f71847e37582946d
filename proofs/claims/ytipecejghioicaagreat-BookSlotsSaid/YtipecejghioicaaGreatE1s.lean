/- Which shapes, slots and stripes may be: the program's answer (code.May, place.May). -/
import Derived.Test.YtipecejghioicaaGreatS1s
import Derived.Deep.LoopGhost
import Derived.RegionTactic
import Derived.Test.YtipecejghioicaaGreatP0s
import Derived.Deep.CutBlock
import Derived.Deep.Cut
namespace Go.Proofs.YtipecejghioicaaGreat
open Go.RowKit Go.Silo
theorem CV {w:World}{a:Int}:Calls Tryz.prog 135 #[.int .i64 a] w (Bf (.bool false) w):=by
 have h:(a !=a)=false:=by simp
 go_enter Tryz.func135,Tryz.ntmps135
 go_wp2
 go_ret
 exact⟨by simp,Below.refl _ _⟩
def Qo (a b:Int):Int:=if a<b then -1 else if b<a then 1 else 0
theorem XE {w:World}{a b:Int}:Calls Tryz.prog 138 #[.int .i64 a,.int .i64 b] w (Bf (.int .i64 (Qo a b)) w):=by
 have hr:Hid (Qo a b=if a<b then -1 else if b<a then 1 else 0):=zh rfl;generalize Qo a b=r at *;rcases (by omega:a<b∨a=b∨b<a) with h|h|h
 ·go_enter Tryz.func138,Tryz.ntmps138
  go_wp2_with (go_at_call 135;refine CV.mono ?_;rintro e w1 ⟨rfl,hb1⟩)
  go_ret
  exact⟨by rw[hr.out,if_pos h];rfl,bz⟩
 ·subst h
  go_enter Tryz.func138,Tryz.ntmps138
  go_wp2_with (go_at_call 135;refine CV.mono ?_;rintro e w1 ⟨rfl,hb1⟩)
  go_ret
  exact⟨by rw[hr.out];simp,bz⟩
 go_enter Tryz.func138,Tryz.ntmps138
 go_wp2_with (go_at_call 135;refine CV.mono ?_;rintro e w1 ⟨rfl,hb1⟩)
 go_ret
 exact⟨by rw[hr.out,if_neg (by omega),if_pos h];rfl,bz⟩
end Go.Proofs.YtipecejghioicaaGreat
namespace Go.Proofs.YtipecejghioicaaGreat
open Go.RowKit Go.Silo
def insR (key:Int→Int) (x:Int):List Int→List Int
 |[]=>[x]
 |y::ys=>if key y<key x then y::insR key x ys else x::y::ys
def sortR (key:Int→Int) (l:List Int):List Int:=l.foldl (fun R x=>insR key x R) []
def EE (key:Int→Int) (l:List Int):List Int:=(sortR key l).reverse
end Go.Proofs.YtipecejghioicaaGreat
namespace Go.Proofs.YtipecejghioicaaGreat
open Go.RowKit Go.Silo
theorem Ju {a b:Int}:Qo a b<0↔a<b:=by
 unfold Qo
 split
 ·simp[*]
 split<;>simp[*]
end Go.Proofs.YtipecejghioicaaGreat
set_option maxHeartbeats 4000000
set_option maxRecDepth 100000
namespace Go.Proofs.YtipecejghioicaaGreat
open Go.RowKit Go.Silo
theorem Jv {w:World}{a b c x:Int}{P:Value}:
  Calls Tryz.prog 121 #[.agg #[.int .i64 a,.int .i64 b,.int .i64 c,P],.int .i64 x] w (Bf (.int .i64 (Qo a x)) w):=by
 go_enter Tryz.func121,Tryz.ntmps121
 go_wp2_with fail
 refine(XE (a:=a) (b:=x)).mono ?_;rintro e w1 ⟨rfl,hb1⟩
 (obtain⟨mb,hf_w1⟩:=qg hb1;have gU:w.heap.size<w1.heap.size:=(by have:=hb1.size;first|omega|(simp at this;omega)))
 go_wp2
 go_ret
 exact⟨by trivial,bz⟩
def Zu (l:List Bb) (x:Int) (w:World) (e:Ending) (w':World):Prop:=
 ∃i:Nat,i≤l.length∧e=.returned (.tuple #[.int .i64 (i:Int),.bool (decide (i<l.length∧(l.getD i default).id=x))])∧(∀j,j<i→(l.getD j default).id<x)∧(∀j,i≤j→j<l.length→x≤(l.getD j default).id)∧Below w.heap.size w w'
theorem Jw {tg tg1:Bool}{T:TypeId}{S:Nat→Prop}{w:World}{A:Option Addr}{n c:Nat}{l:List Bb}{x:Int}(h:Sl tg T (qe tg1) w S A n c l) (hn:n<4611686018427387904)
  (hs:∀i j,i<j→j<n→(l.getD i default).id<(l.getD j default).id):
  Calls Tryz.prog 120 #[.slice A n c,.int .i64 x,.func (.func 121) #[] #[]] w (Zu l x w):=by
 have HL:=zh h.len;have HS:=zh hs;clear hs
 go_enter Tryz.func120,Tryz.ntmps120
 go_wp2_with fail
 go_loopw [9,10] (fun lo hi wr=>∃a b:Nat,a≤b∧b≤n∧lo=.int .i64 a∧hi=.int .i64 b∧Hid (Below w.heap.size w wr)∧Hid ((∀j,j<a→(l.getD j default).id<x)∧(∀j,b≤j→j<n→x≤(l.getD j default).id))) (fun lo hi _=>(intOf hi).toNat - (intOf lo).toNat)
 case atStart=>exact⟨0,n,Nat.zero_le _,Nat.le_refl _,rfl,rfl,zh (Below.refl _ _),zh ⟨fun j hj=>by omega,fun j h1 h2=>by omega⟩⟩
 case round=>
  rename World=>wo
  obtain⟨a,b,hab,hbn,rfl,rfl,HB,HI⟩:=hrel;by_cases hlt:a<b
  ·obtain⟨m,hm⟩:∃m:Nat,m=(a+b) / 2:=⟨_,rfl⟩;have pX:((a:Int)+(b:Int)) / 2=(m:Int):=(by omega);have hma:a≤m:=(by omega);have hmb:m<b:=(by omega);have ni:m<n:=(by omega);clear hm
   go_upto_region 5 with (fail)
   clear pX;obtain⟨bs,os,A3,n3,c3,rfl,_,hbl,_,_,_,_,z0,z1,z2,z3,_⟩:=(h.all HB.out).Bq ni
   have HV:=zh (fun j=>(⟨fun hj=>by
     rcases Nat.lt_or_ge j m with h'|h'
     ·exact HS.out j m h' ni
     ·omega,fun h1 h2=>by
     rcases Nat.lt_or_ge m j with h'|h'
     ·exact HS.out m j h' h2
     omega⟩:(j<m→(l.getD j default).id<(l.getD m default).id)∧(m<j→j<n→(l.getD m default).id<(l.getD j default).id)))
   generalize hid:(l.getD m default).id=y at *;have uq:=zh hid;clear hid;go_wp2_with fail
   refine(Jv (a:=y)).mono ?_;clear z0 z1 z2 z3;rintro e w1 ⟨rfl,hb1⟩;have gB:=zt HB hb1;clear hb1;have hneg:=@Ju y x;generalize Qo y x=v at *;by_cases hv:v<0
   ·have hyx:=hneg.1 hv
    have uD:Hid ((∀j,j<m+1→(l.getD j default).id<x)∧(∀j,b≤j→j<n→x≤(l.getD j default).id)):=zh ⟨fun j hj=>by
     rcases Nat.lt_or_ge j m with h'|h'
     ·have:=(HV.out j).1 h';omega
     obtain rfl:j=m:=by omega
     rw[uq.out];exact hyx,HI.out.2⟩
    clear hneg hyx;go_wp2
    exact⟨⟨m+1,b,by omega,hbn,by go_num,rfl,gB,uD⟩,by simp[intOf];omega⟩
   have hyx:¬y<x:=fun h=>hv (hneg.2 h)
   have uD:Hid ((∀j,j<a→(l.getD j default).id<x)∧(∀j,m≤j→j<n→x≤(l.getD j default).id)):=zh ⟨HI.out.1,fun j h1 h2=>by
    rcases Nat.lt_or_ge m j with h'|h'
    ·have:=(HV.out j).2 h' h2;omega
    obtain rfl:j=m:=by omega
    rw[uq.out];omega⟩
   clear hneg hyx;go_wp2
   exact⟨⟨a,m,hma,by omega,rfl,rfl,gB,uD⟩,by simp[intOf];omega⟩
  obtain rfl:a=b:=by omega
  by_cases hn':a<n
  ·obtain⟨bs,os,A3,n3,c3,rfl,_,hbl,_,_,_,_,z0,z1,z2,z3,_⟩:=(h.all HB.out).Bq hn';generalize hid:(l.getD a default).id=y at *;have uq:=zh hid;clear hid;go_wp2_with fail
   refine(Jv (a:=y)).mono ?_;clear z0 z1 z2 z3;rintro e w1 ⟨rfl,hb1⟩;have gB:=zt HB hb1;clear hb1
   have hz:(Qo y x==0)=decide (y=x):=by
    unfold Qo;rcases Int.lt_trichotomy y x with h'|h'|h'
    ·rw[if_pos h',decide_eq_false (by omega)];rfl
    ·subst h';rw[if_neg (by omega),if_neg (by omega),decide_eq_true rfl];rfl
    rw[if_neg (by omega),if_pos h',decide_eq_false (by omega)];rfl
   generalize Qo y x=v at *;go_wp2
   refine bodyPost_ret (v:=.tuple #[.int .i64 (a:Int),.bool (v==0)]) (by simp[results,Tryz.results120,go_sem, *];done) rfl ?_;exact⟨a,by have:=HL.out;omega,by rw[hz];congr 4;rw[uq.out];have:=HL.out;simp;omega,HI.out.1,fun j h1 h2=>HI.out.2 j h1 (by have:=HL.out;omega),gB.out⟩
  go_wp2
  refine bodyPost_ret (v:=.tuple #[.int .i64 (a:Int),.bool false]) (by simp[results,Tryz.results120,go_sem, *];done) rfl ?_;exact⟨a,by have:=HL.out;omega,by rw[decide_eq_false (fun h=>hn' (by have:=HL.out;omega))],HI.out.1,fun j h1 h2=>HI.out.2 j h1 (by have:=HL.out;omega),HB.out⟩
end Go.Proofs.YtipecejghioicaaGreat
set_option maxHeartbeats 1000000
namespace Go.Proofs.YtipecejghioicaaGreat
open Go.RowKit Go.Silo
def qo (s:Shape):Bool:=decide (1≤s.K∧s.K≤8∧0≤s.M∧s.M≤6∧1≤s.size∧s.size≤120)
def qM (n:Int):Bool:=decide (0≤n∧n≤1073741824)
def qL (p:Slot):Bool:=decide ((0≤p.disk∧p.disk≤11∧0≤p.pos∧p.pos≤63)∨(p.disk=-1∧p.pos=0))
def zm (d:Int) (p:Slot):Bool:=p.disk==d
def xq (l:List Slot) (i:Nat):Bool:=(l.getD i default).disk==-1||!((l.take i).any (zm (l.getD i default).disk))
def zS (l:List Slot):Bool:=(List.range l.length).all (xq l)
theorem kh {l:List Slot}(h:∀i,i<l.length→xq l i=true):zS l=true:=List.all_eq_true.2 fun i hi=>h i (List.mem_range.1 hi)
theorem jC {l:List Slot}{i:Nat}(hi:i<l.length) (h:xq l i=false):zS l=false:=by
 cases hh:zS l with
 |false=>rfl
 |true=>have:=List.all_eq_true.1 hh i (List.mem_range.2 hi);rw[h] at this;cases this
def qO (s:Shape) (x:Bb):Bool:=
 (qo s&&qM x.id&&qM x.gen&&decide (1≤x.len)&&decide (x.len≤s.K* s.size)&&decide ((x.place.length:Int)=s.K+s.M))&&(zS x.place&&!(x.place.any fun p=>!qL p))
theorem CR {w:World}{s:Shape}:Calls Tryz.prog 72 #[.agg #[.int .i64 s.K,.int .i64 s.M,.int .i64 s.size]] w (Bf (.bool (qo s)) w):=by
 have hr:qo s=decide (1≤s.K∧s.K≤8∧0≤s.M∧s.M≤6∧1≤s.size∧s.size≤120):=rfl;generalize qo s=r at *;have HR:=zh hr;clear hr
 go_enter Tryz.func72,Tryz.ntmps72
 go_wp2
 all_goals
  go_ret
  exact⟨by rw[HR.out];congr 2;simp_all;try omega,bz⟩
theorem D9 {w:World}{n:Int}:Calls Tryz.prog 131 #[.int .i64 n] w (Bf (.bool (qM n)) w):=by
 have hr:qM n=decide (0≤n∧n≤1073741824):=rfl;generalize qM n=r at *;have HR:=zh hr;clear hr
 go_enter Tryz.func131,Tryz.ntmps131
 go_wp2
 all_goals
  go_ret
  exact⟨by rw[HR.out];congr 2;simp_all;try omega,bz⟩
theorem EF {w:World}{p:Slot}:Calls Tryz.prog 134 #[.agg #[.int .i64 p.disk,.int .i64 p.pos]] w (Bf (.bool (qL p)) w):=by
 have hr:qL p=decide ((0≤p.disk∧p.disk≤11∧0≤p.pos∧p.pos≤63)∨(p.disk=-1∧p.pos=0)):=rfl;generalize qL p=r at *;have HR:=zh hr;clear hr;by_cases h64:p.pos<64
 all_goals
  go_enter Tryz.func134,Tryz.ntmps134
  go_wp2
  all_goals
   go_ret
   exact⟨by rw[HR.out];first|(congr 2;simp_all;done)|(congr 2;simp_all;omega),bz⟩
theorem Zv {w:World}{p:Slot}:Calls Tryz.prog 133 #[.agg #[.int .i64 p.disk,.int .i64 p.pos]] w (Bf (.bool (!qL p)) w):=by
 go_enter Tryz.func133,Tryz.ntmps133
 go_wp2_with fail
 refine EF.mono ?_;rintro e w1 ⟨rfl,hb1⟩;go_wp2
 go_ret
 exact⟨rfl,bz⟩
theorem Jx {w:World}{p:Slot}{a:Addr}{d:Int}(hs:a.spot=none) (hl:a.block<w.heap.size) (h:w.cell? a=some (.int .i64 d)):Calls Tryz.prog 146 #[.agg #[.int .i64 p.disk,.int .i64 p.pos],.pointer (some a)] w (Bf (.bool (zm d p)) w):=by
 obtain⟨b,o,s⟩:=a;obtain rfl:s=none:=hs;have hl':b<w.heap.size:=hl
 go_enter Tryz.func146,Tryz.ntmps146
 go_wp2
 go_ret
 exact⟨rfl,bz⟩
theorem QM {tg:Bool}{T:TypeId}{S:Nat→Prop}{w:World}{A:Option Addr}{n c:Nat}{xs:List Slot}(h:Sl tg T qz w S A n c xs) (p:Slot→Bool)
  (hp:∀(W:World) (x:Slot),Below w.heap.size w W→Calls Tryz.prog 133 #[.agg #[.int .i64 x.disk,.int .i64 x.pos]] W (Bf (.bool (p x)) W)):
  Calls Tryz.prog 137 #[.slice A n c,.func (.func 133) #[] #[]] w (Bf (.int .i64 (idxOf p xs)) w):=by
 have HL:=zh h.len;have HP:=zh hp;clear hp;have hcap:n≤9223372036854775807:=Nat.le_trans h.le h.cap
 go_enter Tryz.func137,Tryz.ntmps137
 go_wp2
 go_loopw [5,8] (fun _ i wr=>∃k:Nat,k≤n∧i=.int .i64 k∧Below w.heap.size w wr∧Hid (∀j,j<k→p (xs.getD j default)=false)) (fun _ i _=>n - (intOf i).toNat)
 case atStart=>exact⟨0,Nat.zero_le _,rfl,Below.refl _ _,zh (fun j hj=>by omega)⟩
 case round=>
  obtain⟨k,hk,rfl,hB,he⟩:=hrel;by_cases hlt:k<n
  ·obtain⟨b,off,rfl,hS,hbl,g1,g2,hc0,hc1,_⟩:=(h.all hB).BX hlt;have hcall:=HP.out wr (xs.getD k default) hB;generalize hx:xs.getD k default=x at *;have HX:=zh hx;clear hx;have HB:=zh hB;clear hB;have HC:=zh hcall;clear hcall;go_wp2_with fail
   refine HC.out.mono ?_;rintro e w2 ⟨rfl,hb2⟩;have gu:=zh hb2;clear hb2
   cases hpx:p x with
   |true=>
    have HF:Hid (idxOf p xs=(k:Int)):=zh (zO (d:=default) (by have:=HL.out;omega) (by rw[HX.out];exact hpx) he.out);clear hpx;go_wp2
    go_ret
    exact⟨by rw[HF.out];rfl,via HB.out gu.out (Nat.le_refl _)⟩
   |false=>
    have HF:Hid (∀j,j<k+1→p (xs.getD j default)=false):=zh (fun j hj=>by
     by_cases hjk:j=k
     ·subst hjk;rw[HX.out];exact hpx
     exact he.out j (by omega))
    clear hpx;go_wp2
    go_roundw
    case rel=>exact⟨k+1,by omega,by go_num,via HB.out gu.out (Nat.le_refl _),HF⟩
    case measure=>simp[intOf];omega
  have HF:Hid (idxOf p xs=-1):=zh (xM (d:=default) fun j hj=>he.out j (by have:=HL.out;omega));go_wp2
  go_ret
  exact⟨by rw[HF.out];rfl,hB⟩
theorem kv {tg:Bool}{T:TypeId}{S:Nat→Prop}{w:World}{A:Option Addr}{n c:Nat}{xs:List Slot}(h:Sl tg T qz w S A n c xs) (p:Slot→Bool)
  (hp:∀(W:World) (x:Slot),Below w.heap.size w W→Calls Tryz.prog 133 #[.agg #[.int .i64 x.disk,.int .i64 x.pos]] W (Bf (.bool (p x)) W)):
  Calls Tryz.prog 119 #[.slice A n c,.func (.func 133) #[] #[]] w (Bf (.bool (xs.any p)) w):=by
 have HP:=zh hp;clear hp;have HQ:=zh (jf (xs:=xs) (p:=p))
 go_enter Tryz.func119,Tryz.ntmps119
 go_wp2_with fail
 refine(QM h p HP.out).mono ?_;rintro e w2 ⟨rfl,hb2⟩;generalize hi:idxOf p xs=i at *;go_wp2
 all_goals
  go_ret
  refine⟨?_,hb2⟩;rw[HQ.out]
  first|rfl|(congr 2;simp_all;done)|(congr 2;simp_all;omega)
theorem kw {tg:Bool}{T:TypeId}{S:Nat→Prop}{w:World}{A:Option Addr}{n c:Nat}{xs:List Slot}{a:Addr}(h:Sl tg T qz w S A n c xs) (p:Slot→Bool)
  (hp:∀(W:World) (x:Slot),Below w.heap.size w W→Calls Tryz.prog 146 #[.agg #[.int .i64 x.disk,.int .i64 x.pos],.pointer (some a)] W (Bf (.bool (p x)) W)):
  Calls Tryz.prog 137 #[.slice A n c,.func (.func 146) #[] #[.pointer (some a)]] w (Bf (.int .i64 (idxOf p xs)) w):=by
 have HL:=zh h.len;have HP:=zh hp;clear hp;have hcap:n≤9223372036854775807:=Nat.le_trans h.le h.cap
 go_enter Tryz.func137,Tryz.ntmps137
 go_wp2
 go_loopw [5,8] (fun _ i wr=>∃k:Nat,k≤n∧i=.int .i64 k∧Below w.heap.size w wr∧Hid (∀j,j<k→p (xs.getD j default)=false)) (fun _ i _=>n - (intOf i).toNat)
 case atStart=>exact⟨0,Nat.zero_le _,rfl,Below.refl _ _,zh (fun j hj=>by omega)⟩
 case round=>
  obtain⟨k,hk,rfl,hB,he⟩:=hrel;by_cases hlt:k<n
  ·obtain⟨b,off,rfl,hS,hbl,g1,g2,hc0,hc1,_⟩:=(h.all hB).BX hlt;have hcall:=HP.out wr (xs.getD k default) hB;generalize hx:xs.getD k default=x at *;have HX:=zh hx;clear hx;have HB:=zh hB;clear hB;have HC:=zh hcall;clear hcall;go_wp2_with fail
   refine HC.out.mono ?_;rintro e w2 ⟨rfl,hb2⟩;have gu:=zh hb2;clear hb2
   cases hpx:p x with
   |true=>
    have HF:Hid (idxOf p xs=(k:Int)):=zh (zO (d:=default) (by have:=HL.out;omega) (by rw[HX.out];exact hpx) he.out);clear hpx;go_wp2
    go_ret
    exact⟨by rw[HF.out];rfl,via HB.out gu.out (Nat.le_refl _)⟩
   |false=>
    have HF:Hid (∀j,j<k+1→p (xs.getD j default)=false):=zh (fun j hj=>by
     by_cases hjk:j=k
     ·subst hjk;rw[HX.out];exact hpx
     exact he.out j (by omega))
    clear hpx;go_wp2
    go_roundw
    case rel=>exact⟨k+1,by omega,by go_num,via HB.out gu.out (Nat.le_refl _),HF⟩
    case measure=>simp[intOf];omega
  have HF:Hid (idxOf p xs=-1):=zh (xM (d:=default) fun j hj=>he.out j (by have:=HL.out;omega));go_wp2
  go_ret
  exact⟨by rw[HF.out];rfl,hB⟩
theorem jr {tg:Bool}{T:TypeId}{S:Nat→Prop}{w:World}{A:Option Addr}{n c:Nat}{xs:List Slot}{a:Addr}(h:Sl tg T qz w S A n c xs) (p:Slot→Bool)
  (hp:∀(W:World) (x:Slot),Below w.heap.size w W→Calls Tryz.prog 146 #[.agg #[.int .i64 x.disk,.int .i64 x.pos],.pointer (some a)] W (Bf (.bool (p x)) W)):
  Calls Tryz.prog 119 #[.slice A n c,.func (.func 146) #[] #[.pointer (some a)]] w (Bf (.bool (xs.any p)) w):=by
 have HP:=zh hp;clear hp;have HQ:=zh (jf (xs:=xs) (p:=p))
 go_enter Tryz.func119,Tryz.ntmps119
 go_wp2_with fail
 refine(kw h p HP.out).mono ?_;rintro e w2 ⟨rfl,hb2⟩;generalize hi:idxOf p xs=i at *;go_wp2
 all_goals
  go_ret
  refine⟨?_,hb2⟩;rw[HQ.out]
  first|rfl|(congr 2;simp_all;done)|(congr 2;simp_all;omega)
end Go.Proofs.YtipecejghioicaaGreat
