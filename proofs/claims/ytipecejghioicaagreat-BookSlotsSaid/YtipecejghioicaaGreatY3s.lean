/- Strings.Compare; book.Thing and the search of a tag: those that lie by rising texts. -/
import Derived.Test.YtipecejghioicaaGreatQ2s
import Derived.Test.YtipecejghioicaaGreatE1s
import Derived.Lib.Bytealg
import Derived.Lib.Bytes
import Derived.Deep.CutBlock
import Derived.Deep.Cut
import Derived.Deep.Light
import Derived.Test.YtipecejghioicaaGreatP0s
set_option maxHeartbeats 4000000
set_option maxRecDepth 100000
namespace Go.Proofs.YtipecejghioicaaGreat
open Go.RowKit Go.Silo
def jW (a b:ByteArray):Int:=Lib.compareBytes a.data.toList b.data.toList
theorem Zb:∀x y:List UInt8,(Lib.compareBytes x y<0)=(Op.bytesLess x y=true)∧(Lib.compareBytes x y==0)=decide (x=y)
 |[],[]=>by simp[Lib.compareBytes,Op.bytesLess]
 |[],_::_=>by simp[Lib.compareBytes,Op.bytesLess]
 |_::_,[]=>by simp[Lib.compareBytes,Op.bytesLess]
 |a::x,b::y=>by
  have ih:=Zb x y;unfold Op.bytesLess Lib.compareBytes;rcases Nat.lt_trichotomy a.toNat b.toNat with h|h|h
  ·have h1:a<b:=UInt8.lt_iff_toNat_lt.2 h;have h3:¬a=b:=fun e=>by subst e;omega
   simp[h1,h3]
  ·obtain rfl:=UInt8.toNat_inj.1 h;simp[ih.1,ih.2]
  have h1:¬a<b:=fun h'=>by have:=UInt8.lt_iff_toNat_lt.1 h';omega
  have h2:b<a:=UInt8.lt_iff_toNat_lt.2 h;have h3:¬a=b:=fun e=>by subst e;omega
  simp[h1,h2,h3]
theorem Qe (a b:ByteArray):jW a b<0↔qr a b=true:=by
 unfold jW qr;rw[Lib.toList_data,Lib.toList_data,(Zb _ _).1]
theorem QJ (a b:ByteArray):(jW a b==0)=decide (a=b):=by
 unfold jW;rw[(Zb _ _).2];exact decide_eq_decide.2 ⟨fun h=>by cases a;cases b;simp only[ByteArray.mk.injEq] at *;exact Array.toList_inj.1 h,fun h=>by rw[h]⟩
theorem Qf:∀x y z:List UInt8,Op.bytesLess x y=true→Op.bytesLess y z=true→Op.bytesLess x z=true
 |_,[],_,h,_=>by rename_i x z;cases x<;>simp[Op.bytesLess] at h
 |[],_::_,[],_,h=>by simp[Op.bytesLess] at h
 |[],_::_,_::_,_,_=>by simp[Op.bytesLess]
 |_::_,_::_,[],_,h=>by simp[Op.bytesLess] at h
 |a::x,b::y,c::z,h1,h2=>by
  unfold Op.bytesLess at h1 h2⊢;simp only[Bool.or_eq_true,Bool.and_eq_true,decide_eq_true_eq,beq_iff_eq] at *;rcases h1 with h1|⟨rfl,h1⟩<;>rcases h2 with h2|⟨rfl,h2⟩
  ·exact .inl (by rw[UInt8.lt_iff_toNat_lt] at *;omega)
  ·exact .inl h1
  ·exact .inl h2
  exact .inr ⟨rfl,Qf x y z h1 h2⟩
theorem ze {a b c:ByteArray}(h1:qr a b=true) (h2:qr b c=true):qr a c=true:=Qf _ _ _ h1 h2
theorem ko {a b:ByteArray}(h:qr a b=false) (hne:a≠b):qr b a=true:=by
 have h1:¬jW a b<0:=fun h'=>by rw[(Qe a b).1 h'] at h;cases h
 have h2:=jP a.toList b.toList;have h3:Op.bytesLess a.toList b.toList=false:=h;rw[h3] at h2;simp only[Bool.not_false,Bool.or_eq_true,beq_iff_eq] at h2;rcases h2 with h2|h2
 ·exact h2
 rw[Lib.toList_data,Lib.toList_data] at h2;exact absurd (by cases a;cases b;simp only[ByteArray.mk.injEq] at *;exact(Array.toList_inj.1 h2).symm) hne
theorem ZI {w:World}{a b:ByteArray}:Calls Tryz.prog 143 #[.string a,.string b] w (Bf (.int .i64 (jW a b)) w):=by
 go_enter Tryz.func143,Tryz.ntmps143
 go_wp2
 rw[run_callFunc_extern Tryz.func149 (by kernel_rfl) (by kernel_rfl) (by kernel_rfl) (e:=Extern.BytealgCompare.compare) (by kernel_rfl),Lib.run_compareString];simp only[Result.andThen];rw[Oper.upon_value];go_wp2
 go_ret
 exact⟨rfl,Below.refl _ _⟩
theorem jI {w:World}{a b:ByteArray}:Calls Tryz.prog 128 #[.string a,.string b] w (Bf (.int .i64 (jW a b)) w):=by
 go_enter Tryz.func128,Tryz.ntmps128
 go_wp2_with fail
 refine(ZI (a:=a) (b:=b)).mono ?_;rintro e w1 ⟨rfl,hb1⟩;go_wp2
 go_ret
 exact⟨rfl,hb1⟩
def jX {α:Type} [Inhabited α] (key:α→ByteArray) (l:List α) (x:ByteArray) (w:World) (e:Ending) (w':World):Prop:=
 ∃i:Nat,i≤l.length∧e=.returned (.tuple #[.int .i64 (i:Int),.bool (decide (i<l.length∧key (l.getD i default)=x))])∧(∀j,j<i→qr (key (l.getD j default)) x=true)∧(∀j,i≤j→j<l.length→qr (key (l.getD j default)) x=false)∧Below w.heap.size w w'
theorem Qg {w:World}{a x:ByteArray}{p1 p2 p3:Value}:
  Calls Tryz.prog 125 #[.agg #[.string a,p1,p2,p3],.string x] w (Bf (.int .i64 (jW a x)) w):=by
 go_enter Tryz.func125,Tryz.ntmps125
 go_wp2_with fail
 refine(jI (a:=a) (b:=x)).mono ?_;rintro e w1 ⟨rfl,hb1⟩
 (obtain⟨mb,hf_w1⟩:=qg hb1;have gU:w.heap.size<w1.heap.size:=(by have:=hb1.size;first|omega|(simp at this;omega)))
 go_wp2
 go_ret
 exact⟨by trivial,bz⟩
theorem Qt {tg1:Bool}{tg:Bool}{T:TypeId}{S:Nat→Prop}{w:World}{A:Option Addr}{n c:Nat}{l:List Entry}{x:ByteArray}(h:Sl tg T (ql tg1) w S A n c l) (hn:n<4611686018427387904)
  (hs:∀i j,i<j→j<n→qr (l.getD i default).digest (l.getD j default).digest=true):
  Calls Tryz.prog 124 #[.slice A n c,.string x,.func (.func 125) #[] #[]] w (jX Entry.digest l x w):=by
 have HL:=zh h.len;have HS:=zh hs;clear hs
 go_enter Tryz.func124,Tryz.ntmps124
 go_wp2_with fail
 go_loopw [9,10] (fun lo hi wr=>∃a b:Nat,a≤b∧b≤n∧lo=.int .i64 a∧hi=.int .i64 b∧Hid (Below w.heap.size w wr)∧Hid ((∀j,j<a→qr (l.getD j default).digest x=true)∧(∀j,b≤j→j<n→qr (l.getD j default).digest x=false))) (fun lo hi _=>(intOf hi).toNat - (intOf lo).toNat)
 case atStart=>exact⟨0,n,Nat.zero_le _,Nat.le_refl _,rfl,rfl,zh (Below.refl _ _),zh ⟨fun j hj=>by omega,fun j h1 h2=>by omega⟩⟩
 case round=>
  rename World=>wo
  obtain⟨a,b,hab,hbn,rfl,rfl,HB,HI⟩:=hrel;by_cases hlt:a<b
  ·obtain⟨m,hm⟩:∃m:Nat,m=(a+b) / 2:=⟨_,rfl⟩;have pX:((a:Int)+(b:Int)) / 2=(m:Int):=(by omega);have hma:a≤m:=(by omega);have hmb:m<b:=(by omega);have ni:m<n:=(by omega);clear hm
   go_upto_region 5 with (fail)
   clear pX;obtain⟨bs,os,A3,n3,c3,rfl,_,hbl,_,_,_,z0,z1,z2,z3,_⟩:=(h.all HB.out).BF ni
   have HV:=zh (fun j=>(⟨fun hj=>by
     rcases Nat.lt_or_ge j m with h'|h'
     ·exact HS.out j m h' ni
     omega,fun h1 h2=>HS.out m j h1 h2⟩:(j<m→qr (l.getD j default).digest (l.getD m default).digest=true)∧(m<j→j<n→qr (l.getD m default).digest (l.getD j default).digest=true)))
   generalize hid:(l.getD m default).digest=y at *;have uq:=zh hid;clear hid;go_wp2_with fail
   refine(Qg (a:=y)).mono ?_;clear z0 z1 z2 z3;rintro e w1 ⟨rfl,hb1⟩;have gB:=zt HB hb1;clear hb1;have hneg:=Qe y x;generalize jW y x=v at *;by_cases hv:v<0
   ·have hyx:=hneg.1 hv
    have uD:Hid ((∀j,j<m+1→qr (l.getD j default).digest x=true)∧(∀j,b≤j→j<n→qr (l.getD j default).digest x=false)):=zh ⟨fun j hj=>by
     rcases Nat.lt_or_ge j m with h'|h'
     ·exact ze ((HV.out j).1 h') hyx
     obtain rfl:j=m:=by omega
     rw[uq.out];exact hyx,HI.out.2⟩
    clear hneg hyx;go_wp2
    exact⟨⟨m+1,b,by omega,hbn,by go_num,rfl,gB,uD⟩,by simp[intOf];omega⟩
   have hyx:qr y x=false:=by
    cases hq:qr y x with
    |false=>rfl
    |true=>exact absurd (hneg.2 hq) hv
   have uD:Hid ((∀j,j<a→qr (l.getD j default).digest x=true)∧(∀j,m≤j→j<n→qr (l.getD j default).digest x=false)):=zh ⟨HI.out.1,fun j h1 h2=>by
    rcases Nat.lt_or_ge m j with h'|h'
    ·cases hq:qr (l.getD j default).digest x with
     |false=>rfl
     |true=>have:=ze ((HV.out j).2 h' h2) hq;rw[hyx] at this;cases this
    obtain rfl:j=m:=by omega
    rw[uq.out];exact hyx⟩
   clear hneg hyx;go_wp2
   exact⟨⟨a,m,hma,by omega,rfl,rfl,gB,uD⟩,by simp[intOf];omega⟩
  obtain rfl:a=b:=by omega
  by_cases hn':a<n
  ·obtain⟨bs,os,A3,n3,c3,rfl,_,hbl,_,_,_,z0,z1,z2,z3,_⟩:=(h.all HB.out).BF hn';generalize hid:(l.getD a default).digest=y at *;have uq:=zh hid;clear hid;go_wp2_with fail
   refine(Qg (a:=y)).mono ?_;clear z0 z1 z2 z3;rintro e w1 ⟨rfl,hb1⟩;have gB:=zt HB hb1;clear hb1;have hz:=QJ y x;generalize jW y x=v at *;have HZ:=zh hz;clear hz;go_wp2
   refine bodyPost_ret (v:=.tuple #[.int .i64 (a:Int),.bool (v==0)]) (by simp[results,Tryz.results124,go_sem, *];done) rfl ?_;exact⟨a,by have:=HL.out;omega,by rw[HZ.out];congr 4;rw[uq.out];have:=HL.out;simp;omega,HI.out.1,fun j h1 h2=>HI.out.2 j h1 (by have:=HL.out;omega),gB.out⟩
  go_wp2
  refine bodyPost_ret (v:=.tuple #[.int .i64 (a:Int),.bool false]) (by simp[results,Tryz.results124,go_sem, *];done) rfl ?_;exact⟨a,by have:=HL.out;omega,by rw[decide_eq_false (fun h=>hn' (by have:=HL.out;omega))],HI.out.1,fun j h1 h2=>HI.out.2 j h1 (by have:=HL.out;omega),HB.out⟩
theorem ZJ {w:World}{a x:ByteArray}{p1:Value}:
  Calls Tryz.prog 103 #[.agg #[.string a,p1],.string x] w (Bf (.int .i64 (jW a x)) w):=by
 go_enter Tryz.func103,Tryz.ntmps103
 go_wp2_with fail
 refine(jI (a:=a) (b:=x)).mono ?_;rintro e w1 ⟨rfl,hb1⟩
 (obtain⟨mb,hf_w1⟩:=qg hb1;have gU:w.heap.size<w1.heap.size:=(by have:=hb1.size;first|omega|(simp at this;omega)))
 go_wp2
 go_ret
 exact⟨by trivial,bz⟩
theorem kr {tg:Bool}{T:TypeId}{S:Nat→Prop}{w:World}{A:Option Addr}{n c:Nat}{l:List Tag}{x:ByteArray}(h:Sl tg T Bz w S A n c l) (hn:n<4611686018427387904)
  (hs:∀i j,i<j→j<n→qr (l.getD i default).name (l.getD j default).name=true):
  Calls Tryz.prog 102 #[.slice A n c,.string x,.func (.func 103) #[] #[]] w (jX Tag.name l x w):=by
 have HL:=zh h.len;have HS:=zh hs;clear hs
 go_enter Tryz.func102,Tryz.ntmps102
 go_wp2_with fail
 go_loopw [9,10] (fun lo hi wr=>∃a b:Nat,a≤b∧b≤n∧lo=.int .i64 a∧hi=.int .i64 b∧Hid (Below w.heap.size w wr)∧Hid ((∀j,j<a→qr (l.getD j default).name x=true)∧(∀j,b≤j→j<n→qr (l.getD j default).name x=false))) (fun lo hi _=>(intOf hi).toNat - (intOf lo).toNat)
 case atStart=>exact⟨0,n,Nat.zero_le _,Nat.le_refl _,rfl,rfl,zh (Below.refl _ _),zh ⟨fun j hj=>by omega,fun j h1 h2=>by omega⟩⟩
 case round=>
  rename World=>wo
  obtain⟨a,b,hab,hbn,rfl,rfl,HB,HI⟩:=hrel;by_cases hlt:a<b
  ·obtain⟨m,hm⟩:∃m:Nat,m=(a+b) / 2:=⟨_,rfl⟩;have pX:((a:Int)+(b:Int)) / 2=(m:Int):=(by omega);have hma:a≤m:=(by omega);have hmb:m<b:=(by omega);have ni:m<n:=(by omega);clear hm
   go_upto_region 5 with (fail)
   clear pX;obtain⟨bs,os,rfl,_,hbl,_,_,z0,z1,_⟩:=(h.all HB.out).Ci ni
   have HV:=zh (fun j=>(⟨fun hj=>by
     rcases Nat.lt_or_ge j m with h'|h'
     ·exact HS.out j m h' ni
     omega,fun h1 h2=>HS.out m j h1 h2⟩:(j<m→qr (l.getD j default).name (l.getD m default).name=true)∧(m<j→j<n→qr (l.getD m default).name (l.getD j default).name=true)))
   generalize hid:(l.getD m default).name=y at *;have uq:=zh hid;clear hid;go_wp2_with fail
   refine(ZJ (a:=y)).mono ?_;clear z0 z1;rintro e w1 ⟨rfl,hb1⟩;have gB:=zt HB hb1;clear hb1;have hneg:=Qe y x;generalize jW y x=v at *;by_cases hv:v<0
   ·have hyx:=hneg.1 hv
    have uD:Hid ((∀j,j<m+1→qr (l.getD j default).name x=true)∧(∀j,b≤j→j<n→qr (l.getD j default).name x=false)):=zh ⟨fun j hj=>by
     rcases Nat.lt_or_ge j m with h'|h'
     ·exact ze ((HV.out j).1 h') hyx
     obtain rfl:j=m:=by omega
     rw[uq.out];exact hyx,HI.out.2⟩
    clear hneg hyx;go_wp2
    exact⟨⟨m+1,b,by omega,hbn,by go_num,rfl,gB,uD⟩,by simp[intOf];omega⟩
   have hyx:qr y x=false:=by
    cases hq:qr y x with
    |false=>rfl
    |true=>exact absurd (hneg.2 hq) hv
   have uD:Hid ((∀j,j<a→qr (l.getD j default).name x=true)∧(∀j,m≤j→j<n→qr (l.getD j default).name x=false)):=zh ⟨HI.out.1,fun j h1 h2=>by
    rcases Nat.lt_or_ge m j with h'|h'
    ·cases hq:qr (l.getD j default).name x with
     |false=>rfl
     |true=>have:=ze ((HV.out j).2 h' h2) hq;rw[hyx] at this;cases this
    obtain rfl:j=m:=by omega
    rw[uq.out];exact hyx⟩
   clear hneg hyx;go_wp2
   exact⟨⟨a,m,hma,by omega,rfl,rfl,gB,uD⟩,by simp[intOf];omega⟩
  obtain rfl:a=b:=by omega
  by_cases hn':a<n
  ·obtain⟨bs,os,rfl,_,hbl,_,_,z0,z1,_⟩:=(h.all HB.out).Ci hn';generalize hid:(l.getD a default).name=y at *;have uq:=zh hid;clear hid;go_wp2_with fail
   refine(ZJ (a:=y)).mono ?_;clear z0 z1;rintro e w1 ⟨rfl,hb1⟩;have gB:=zt HB hb1;clear hb1;have hz:=QJ y x;generalize jW y x=v at *;have HZ:=zh hz;clear hz;go_wp2
   refine bodyPost_ret (v:=.tuple #[.int .i64 (a:Int),.bool (v==0)]) (by simp[results,Tryz.results102,go_sem, *];done) rfl ?_;exact⟨a,by have:=HL.out;omega,by rw[HZ.out];congr 4;rw[uq.out];have:=HL.out;simp;omega,HI.out.1,fun j h1 h2=>HI.out.2 j h1 (by have:=HL.out;omega),gB.out⟩
  go_wp2
  refine bodyPost_ret (v:=.tuple #[.int .i64 (a:Int),.bool false]) (by simp[results,Tryz.results102,go_sem, *];done) rfl ?_;exact⟨a,by have:=HL.out;omega,by rw[decide_eq_false (fun h=>hn' (by have:=HL.out;omega))],HI.out.1,fun j h1 h2=>HI.out.2 j h1 (by have:=HL.out;omega),HB.out⟩
theorem Zc {tg tg1:Bool}{S:Nat→Prop}{w:World}{A0 A1 A2:Option Addr}{n0 c0 n1 c1 n2 c2:Nat}{l:List Entry}{nx:Int}{x:ByteArray}(h:Sl tg 90 (ql tg1) w S A1 n1 c1 l) (hn:n1<4611686018427387904)
  (hs:∀i j,i<j→j<n1→qr (l.getD i default).digest (l.getD j default).digest=true):
  Calls Tryz.prog 99 #[.agg #[.slice A0 n0 c0,.slice A1 n1 c1,.slice A2 n2 c2,.int .i64 nx],.string x] w (jX Entry.digest l x w):=by
 have HC:=zh (fun W (hW:Below w.heap.size w W)=>Qt (w:=W) (x:=x) (h.all hW) hn hs);clear hs
 go_enter Tryz.func99,Tryz.ntmps99
 go_wp2_with fail
 refine(HC.out _ bz).mono ?_;rintro e w1 ⟨i,hi,rfl,h1,h2,hb1⟩;have HH:=zh (And.intro h1 h2);clear h1 h2
 (obtain⟨mb,hf_w1⟩:=qg hb1;have gU:w.heap.size<w1.heap.size:=(by have:=hb1.size;first|omega|(simp at this;omega)))
 go_wp2
 refine bodyPost_ret (v:=.tuple #[.int .i64 (i:Int),.bool (decide (i<l.length∧(l.getD i default).digest=x))]) (by simp[results,Tryz.results99,go_sem, *];done) rfl ?_;exact⟨i,hi,rfl,HH.out.1,HH.out.2,bz⟩
end Go.Proofs.YtipecejghioicaaGreat
