/- Siloref16.At, Cursor, Next; rota.Behind, round. -/
import Derived.Test.YtipecejghioicaaGreatQ5s
import Derived.Test.YtipecejghioicaaGreatT1s
import Derived.Test.YtipecejghioicaaGreatK2s
import Derived.Test.YtipecejghioicaaGreatP0s
import Derived.Test.YtipecejghioicaaGreatQ1s
import Derived.Deep.CutBlock
import Derived.Deep.Cut
namespace Go.Proofs.YtipecejghioicaaGreat
open Go.RowKit Go.Silo
def qI (s:Shape) (b:Book):Bool:=qo s&&(decide (0≤b.next∧b.next≤1073741824)&&(qw s b.next b.Ba&&(qP s b.Ba b.things&&zL b.tags)))
structure DF (b:Book):Prop where
 st:b.Ba.length≤4000
 sl:(qd b.Ba b.Ba.length).length≤1000000
 nm:(qb b.things b.things.length).length≤1000000
theorem xB {s:Shape}{nx:Int}{l:List Bb}(h:qw s nx l=true):∀i j,i<j→j<l.length→(l.getD i default).id<(l.getD j default).id:=by
 unfold qw at h;rw[Bool.and_eq_true] at h;have h1:=List.all_eq_true.1 h.1
 have step:∀j,j+1<l.length→(l.getD j default).id<(l.getD (j+1) default).id:=fun j hj=>by
  have:=h1 (j+1) (List.mem_range.2 hj);unfold qH at this;simp only[Bool.and_eq_true,Bool.or_eq_true,decide_eq_true_eq] at this;obtain⟨_,_,h|h⟩:=this
  ·omega
  exact h
 intro i j hij
 induction j with
 |zero=>omega
 |succ j ih=>
  intro hj;have h2:=step j hj;rcases Nat.lt_or_ge i j with h3|h3
  ·have:=ih h3 (by omega);omega
  obtain rfl:i=j:=by omega
  exact h2
theorem kV {s:Shape}{nx:Int}{l:List Bb}(h:qw s nx l=true):∀k,k<l.length→qO s (l.getD k default)=true∧(l.getD k default).id<nx:=by
 unfold qw at h;rw[Bool.and_eq_true] at h;intro k hk;have:=(List.all_eq_true.1 h.1) k (List.mem_range.2 hk);unfold qH at this;simp only[Bool.and_eq_true,decide_eq_true_eq] at this;exact⟨this.1,this.2.1⟩
theorem QP {s:Shape}{x:Bb}(h:qO s x=true):1≤x.len∧x.len≤s.K* s.size∧(x.place.length:Int)=s.K+s.M∧0≤x.id∧x.id≤1073741824∧0≤x.gen∧x.gen≤1073741824∧qo s=true:=by
 unfold qO qM at h;simp only[Bool.and_eq_true,decide_eq_true_eq] at h;obtain⟨⟨⟨⟨⟨⟨h1,h2⟩,h3⟩,h4⟩,h5⟩,h6⟩,_⟩:=h;exact⟨h4,h5,h6,h2.1,h2.2,h3.1,h3.2,h1⟩
def D6 (l:List Bb) (id:Int):Int:=match l.findIdx? (fun y=>decide (y.id=id)) with
 |some i=>(i:Int)
 |none=>-1
theorem Zz {l:List Bb}{id:Int}(h:∀j,j<l.length→(l.getD j default).id≠id):D6 l id=-1:=by
 unfold D6
 have:l.findIdx? (fun y=>decide (y.id=id))=none:=by
  rw[List.findIdx?_eq_none_iff];intro y hy;obtain⟨j,hj,rfl⟩:=List.getElem_of_mem hy;have:=h j hj;rw[List.getD_eq_getElem?_getD,List.getElem?_eq_getElem hj] at this;simpa using this
 rw[this]
theorem JG {l:List Bb}{id:Int}{i:Nat}(hi:i<l.length) (h:(l.getD i default).id=id) (h1:∀j,j<i→(l.getD j default).id≠id):D6 l id=(i:Int):=by
 unfold D6
 have:l.findIdx? (fun y=>decide (y.id=id))=some i:=by
  rw[List.findIdx?_eq_some_iff_getElem];rw[List.getD_eq_getElem?_getD,List.getElem?_eq_getElem hi] at h;refine⟨hi,by simpa using h,fun j hj=>?_⟩;have:=h1 j hj;rw[List.getD_eq_getElem?_getD,List.getElem?_eq_getElem (by omega)] at this;simpa using this
 rw[this]
theorem jT (l:List Bb) (id:Int):(D6 l id=-1∧∀j,j<l.length→(l.getD j default).id≠id)∨∃i:Nat,i<l.length∧D6 l id=(i:Int)∧(l.getD i default).id=id∧∀j,j<i→(l.getD j default).id≠id:=by
 by_cases h:∃j,j<l.length∧(l.getD j default).id=id
 ·obtain⟨i,⟨hi,he⟩,hm⟩:=QN h;refine .inr ⟨i,hi,JG hi he (fun j hj uR=>?_),he,fun j hj uR=>?_⟩
  ·have:=hm j ⟨by omega,uR⟩;omega
  have:=hm j ⟨by omega,uR⟩;omega
 exact .inl ⟨Zz (fun j hj he=>h ⟨j,hj,he⟩),fun j hj he=>h ⟨j,hj,he⟩⟩
theorem ZY {l:List Bb}{id:Int}{i:Nat}(hi:i<l.length) (h:D6 l id=(i:Int)):xb l id=some (l.getD i default):=by
 rcases jT l id with ⟨h1,_⟩|⟨j,hj,h1,h2,h3⟩
 ·omega
 obtain rfl:j=i:=by omega
 unfold xb;rw[List.find?_eq_some_iff_getElem];have e:∀j (hj:j<l.length),l.getD j default=l[j]:=fun j hj=>by rw[List.getD_eq_getElem?_getD,List.getElem?_eq_getElem hj];rfl
 refine⟨by simpa using h2,j,hj,(e j hj).symm,fun k hk=>?_⟩;have:=h3 k hk;rw[e k (by omega)] at this;simpa using this
theorem kx {l:List Bb}{id:Int}(h:D6 l id<0):xb l id=none:=by
 rcases jT l id with ⟨_,h1⟩|⟨j,hj,h1,_⟩
 ·unfold xb;rw[List.find?_eq_none];intro y hy;obtain⟨j,hj,rfl⟩:=List.getElem_of_mem hy;have:=h1 j hj;rw[List.getD_eq_getElem?_getD,List.getElem?_eq_getElem hj] at this;simpa using this
 omega
def xi (l:List Bb) (N:List Int):List Bool:=l.map (fun y=>decide (y.id∈N))
theorem XI {l:List Bb}{N:List Int}{i:Nat}(hi:i<l.length):(xi l N).getD i false=decide ((l.getD i default).id∈N):=by
 unfold xi;rw[List.getD_eq_getElem?_getD,List.getElem?_map,List.getD_eq_getElem?_getD,List.getElem?_eq_getElem hi];rfl
theorem ZZ {l:List Bb}{N:List Int}{i:Nat}(hi:i<l.length) (hs:∀i j,i<j→j<l.length→(l.getD i default).id<(l.getD j default).id):(xi l N).set i true=xi l (N++[(l.getD i default).id]):=by
 unfold xi;refine List.ext_getElem? (fun k=>?_);have e:∀j (hj:j<l.length),l.getD j default=l[j]:=fun j hj=>by rw[List.getD_eq_getElem?_getD,List.getElem?_eq_getElem hj];rfl
 by_cases hk:k<l.length
 ·by_cases p7:k=i
  ·subst p7;rw[List.getElem?_set_self (by simpa using hk),List.getElem?_map,List.getElem?_eq_getElem hk];refine congrArg some (decide_eq_true (List.mem_append_right _ ?_)).symm;rw[e k hk];exact List.mem_singleton.2 rfl
  rw[List.getElem?_set_ne (Ne.symm p7),List.getElem?_map,List.getElem?_map,List.getElem?_eq_getElem hk]
  have hne:l[k].id≠(l.getD i default).id:=by
   rw[←e k hk];rcases Nat.lt_or_ge k i with h|h
   ·have:=hs k i h hi;omega
   have:=hs i k (by omega) hk;omega
  simp only[Option.map_some,List.mem_append,List.mem_singleton,hne,or_false]
 rw[List.getElem?_eq_none (by simp;omega),List.getElem?_eq_none (by simp;omega)]
def xv (W len:Int) (k:Nat):Int:=max 0 (len - (k:Int)* W)
theorem kW {W len:Int}(h:0≤len):xv W len 0=len:=by unfold xv;simp;omega
theorem Xa {W len:Int}(hW:1≤W) (k:Nat):xv W len (k+1)=xv W len k - min (xv W len k) W:=by
 unfold xv;have:((k+1:Nat):Int)* W=(k:Int)* W+W:=by rw[show((k+1:Nat):Int)=(k:Int)+1 from rfl,Int.add_mul,Int.one_mul]
 rw[this];generalize (k:Int)* W=q;omega
theorem Xb {s:Shape}{len:Int}(hW:1≤s.K* s.size) (h:0≤len):xv (s.K* s.size) len (zn s len)=0:=by
 unfold xv zn;generalize s.K* s.size=W at *;have h1:0≤(len+W - 1) / W:=Int.ediv_nonneg (by omega) (by omega);rw[Int.toNat_of_nonneg h1];have h2:=Int.emod_lt_of_pos (len+W - 1) (by omega:0<W);have h3:=Int.emod_add_mul_ediv (len+W - 1) W;rw[Int.mul_comm] at h3;omega
theorem kX {W:Int}{l:List Bb}{xs:List Int}{k:Nat}{left:Int}(hk:k<xs.length):qY W l (xs.drop k) left=match xb l (xs.getD k 0) with
  |none=>false
  |some y=>if y.len=min left W then qY W l (xs.drop (k+1)) (left - y.len) else false:=by
 have:xs.drop k=xs.getD k 0::xs.drop (k+1):=by
  rw[List.drop_eq_getElem_cons hk,List.getD_eq_getElem?_getD,List.getElem?_eq_getElem hk];rfl
 rw[this];rfl
def qE (s:Shape) (xs:List Entry) (k:Nat):Bool:=
 decide ((xs.getD k default).digest.size=32)&&((decide (k=0)||qr (xs.getD (k - 1) default).digest (xs.getD k default).digest)&&(decide (0≤(xs.getD k default).len)&&(decide ((xs.getD k default).len≤2000)&&decide ((xs.getD k default).list.length=zn s (xs.getD k default).len))))
theorem xQ {s:Shape}{l:List Bb}{xs:List Entry}{k:Nat}:qy s l xs k=(qE s xs k&&qY (s.K* s.size) l (xs.getD k default).list (xs.getD k default).len):=by
 unfold qy qE;simp only[Bool.and_assoc]
theorem kk {s:Shape}{nx:Int}{l:List Bb}{k:Nat}(h:qJ s l=true) (hk:k<l.length):qH s nx l k=decide ((l.getD k default).id<nx):=by
 have h1:=List.all_eq_true.1 h k (List.mem_range.2 hk);unfold zw at h1;unfold qH;rw[Bool.and_eq_true] at h1;obtain⟨h1,h2⟩:=h1;rw[h1];rcases Nat.eq_zero_or_pos k with rfl|h0
 ·simp
 have h3:decide (k=0)=false:=decide_eq_false (by omega);rw[h3]
 have h4:(l.getD (k - 1) default).id<(l.getD k default).id:=by
  simp[h0] at h2;exact h2
 rw[decide_eq_true h4];simp
theorem QQ {s:Shape}{nx:Int}{l:List Bb}(h:(qJ s l&&qo s)=false):(qo s&&qw s nx l)=false:=by
 cases hs:qo s with
 |false=>rfl
 |true=>
  rw[hs,Bool.and_true] at h
  cases hq:qw s nx l with
  |false=>rfl
  |true=>
   have hall:=List.all_eq_true.1 (show(List.range l.length).all (qH s nx l)=true from by unfold qw at hq;rw[Bool.and_eq_true] at hq;exact hq.1)
   have:qJ s l=true:=jl (fun j hj=>by
    have h2:=hall j (List.mem_range.2 hj);unfold qH at h2;unfold zw;simp only[Bool.and_eq_true,Bool.or_eq_true,decide_eq_true_eq] at h2;obtain⟨h3,_,h4⟩:=h2;rw[h3,Bool.true_and];rcases Nat.eq_zero_or_pos j with rfl|h0
    ·rfl
    have h5:(l.getD (j - 1) default).id<(l.getD j default).id:=(by omega);rw[decide_eq_false (by omega:¬(l.getD j default).id≤(l.getD (j - 1) default).id)]
    simp)
   rw[this] at h;cases h
end Go.Proofs.YtipecejghioicaaGreat
set_option maxHeartbeats 1000000
namespace Go.Silo
open Go Go.RowKit
inductive E8 (V:World) (i:Nat) (V':World):List (Nat×Value)→World→Prop
 |pre:E8 V i V' [] V
 |post {x:Value}:E8 V i V' [(i,x)] V'
theorem E8.early {V V' W:World}{i:Nat}{us:List (Nat×Value)}(h:E8 V i V' us W) (hn:i∉us.map Prod.fst):us=[]∧W=V:=by
 cases h with
 |pre=>exact⟨rfl,rfl⟩
 |post=>exact absurd (by simp) hn
theorem E8.done {V V' W:World}{i:Nat}{us:List (Nat×Value)}(h:E8 V i V' us W) (hm:i∈us.map Prod.fst):W=V':=by
 cases h with
 |pre=>simp at hm
 |post=>rfl
end Go.Silo
namespace Go.Proofs.YtipecejghioicaaGreat
open Go.RowKit Go.Silo
theorem At_c {tg tg1:Bool}{T:TypeId}{S:Nat→Prop}{w:World}{A:Option Addr}{n c:Nat}{l:List Bb}{x:Int}(h:Sl tg T (qe tg1) w S A n c l):
  Calls Tryz.prog 51 #[.slice A n c,.int .i64 x] w (Bf (.int .i64 (D6 l x)) w):=by
 have HL:=zh h.len;have hcap:n≤9223372036854775807:=Nat.le_trans h.le h.cap
 go_enter Tryz.func51,Tryz.ntmps51
 go_wp2_with fail
 go_loopw [5] (fun i wr=>∃k:Nat,k≤n∧i=.int .i64 k∧wr=w∧Hid (∀j,j<k→(l.getD j default).id≠x)) (fun i _=>n - (intOf i).toNat)
 case atStart=>exact⟨0,Nat.zero_le _,rfl,by trivial,zh (fun j hj=>by omega)⟩
 case round=>
  obtain⟨k,hk,rfl,rfl,he⟩:=hrel;by_cases hlt:k<n
  ·obtain⟨b,off,A3,n3,c3,rfl,_,hbl,i0,i1,i2,_,z0,z1,z2,z3,_⟩:=h.Bq hlt;generalize hp:(l.getD k default).id=p at *;have HP:=zh hp;clear hp;clear z1 z2 z3;by_cases hd:p=x
   ·have HF:Hid (D6 l x=k):=zh (JG (by have:=HL.out;omega) (HP.out.trans hd) he.out);subst hd;go_wp2
    go_ret
    exact⟨by rw[HF.out];rfl,Below.refl _ _⟩
   have HF:Hid (∀j,j<k+1→(l.getD j default).id≠x):=zh (fun j hj=>by
    rcases Nat.lt_or_ge j k with h|h
    ·exact he.out j h
    obtain rfl:j=k:=by omega
    rw[HP.out];exact hd)
   go_wp2
   go_roundw
   case rel=>exact⟨k+1,by omega,by go_num,by trivial,HF⟩
   case measure=>simp[intOf];omega
  obtain rfl:k=n:=by omega
  have HF:Hid (D6 l x=-1):=zh (Zz (fun j hj=>he.out j (by have:=HL.out;omega)));go_wp2
  go_ret
  exact⟨by rw[HF.out];rfl,Below.refl _ _⟩
theorem XJ {s:Shape}(h:qo s=true):1≤s.K∧s.K≤8∧0≤s.M∧s.M≤6∧1≤s.size∧s.size≤120:=by
 unfold qo at h;exact of_decide_eq_true h
end Go.Proofs.YtipecejghioicaaGreat
