/- Book.Stripe, book.lens: the stripes of a thing are as long as they should be. -/
import Derived.Test.YtipecejghioicaaGreatE2p
import Derived.Deep.LoopGhost
import Derived.RegionTactic
import Derived.Test.YtipecejghioicaaGreatDatap
import Derived.Deep.CutBlock
import Derived.Deep.Cut
import Derived.Test.YtipecejghioicaaGreatB6p
namespace Go.Proofs.YtipecejghioicaaGreat
open Go.RowKit Go.Silo
theorem CY {w:World}{a:Int}:Calls Tryz.prog 135 #[.int .i64 a] w (Bf (.bool false) w):=by
 have h:(a !=a)=false:=by simp
 go_enter Tryz.func135,Tryz.ntmps135
 go_wp2
 go_ret
 exact⟨by simp,Below.refl _ _⟩
def QB (a b:Int):Int:=if a<b then -1 else if b<a then 1 else 0
theorem XX {w:World}{a b:Int}:Calls Tryz.prog 138 #[.int .i64 a,.int .i64 b] w (Bf (.int .i64 (QB a b)) w):=by
 have hr:Hid (QB a b=if a<b then -1 else if b<a then 1 else 0):=zh rfl;generalize QB a b=r at *;rcases (by omega:a<b∨a=b∨b<a) with h|h|h
 ·go_enter Tryz.func138,Tryz.ntmps138
  go_wp2_with (go_at_call 135;refine CY.mono ?_;rintro e w1 ⟨rfl,hb1⟩)
  go_ret
  exact⟨by rw[hr.out,if_pos h];rfl,bz⟩
 ·subst h
  go_enter Tryz.func138,Tryz.ntmps138
  go_wp2_with (go_at_call 135;refine CY.mono ?_;rintro e w1 ⟨rfl,hb1⟩)
  go_ret
  exact⟨by rw[hr.out];simp,bz⟩
 go_enter Tryz.func138,Tryz.ntmps138
 go_wp2_with (go_at_call 135;refine CY.mono ?_;rintro e w1 ⟨rfl,hb1⟩)
 go_ret
 exact⟨by rw[hr.out,if_neg (by omega),if_pos h];rfl,bz⟩
end Go.Proofs.YtipecejghioicaaGreat
namespace Go.Proofs.YtipecejghioicaaGreat
open Go.RowKit Go.Silo
def insR (key:Int→Int) (x:Int):List Int→List Int
 |[]=>[x]
 |y::ys=>if key y<key x then y::insR key x ys else x::y::ys
def sortR (key:Int→Int) (l:List Int):List Int:=l.foldl (fun R x=>insR key x R) []
def ER (key:Int→Int) (l:List Int):List Int:=(sortR key l).reverse
end Go.Proofs.YtipecejghioicaaGreat
namespace Go.Proofs.YtipecejghioicaaGreat
open Go.RowKit Go.Silo
theorem JO {a b:Int}:QB a b<0↔a<b:=by
 unfold QB
 split
 ·simp[*]
 split<;>simp[*]
end Go.Proofs.YtipecejghioicaaGreat
set_option maxHeartbeats 4000000
set_option maxRecDepth 100000
namespace Go.Proofs.YtipecejghioicaaGreat
open Go.RowKit Go.Silo
theorem JP {w:World}{a b c x:Int}{P:Value}:
  Calls Tryz.prog 121 #[.agg #[.int .i64 a,.int .i64 b,.int .i64 c,P],.int .i64 x] w (Bf (.int .i64 (QB a x)) w):=by
 go_enter Tryz.func121,Tryz.ntmps121
 go_wp2_with fail
 refine(XX (a:=a) (b:=x)).mono ?_;rintro e w1 ⟨rfl,hb1⟩
 (obtain⟨np,hf_w1⟩:=ql hb1;have mH:w.heap.size<w1.heap.size:=(by have:=hb1.size;first|omega|(simp at this;omega)))
 go_wp2
 go_ret
 exact⟨by trivial,bz⟩
def ZB (l:List Bc) (x:Int) (w:World) (e:Ending) (w':World):Prop:=
 ∃i:Nat,i≤l.length∧e=.returned (.tuple #[.int .i64 (i:Int),.bool (decide (i<l.length∧(l.getD i default).id=x))])∧(∀j,j<i→(l.getD j default).id<x)∧(∀j,i≤j→j<l.length→x≤(l.getD j default).id)∧Below w.heap.size w w'
theorem JQ {tg tg1:Bool}{T:TypeId}{S:Nat→Prop}{w:World}{A:Option Addr}{n c:Nat}{l:List Bc}{x:Int}(h:Sl tg T (qc tg1) w S A n c l) (hn:n<4611686018427387904)
  (hs:∀i j,i<j→j<n→(l.getD i default).id<(l.getD j default).id):
  Calls Tryz.prog 120 #[.slice A n c,.int .i64 x,.func (.func 121) #[] #[]] w (ZB l x w):=by
 have HL:=zh h.len;have HS:=zh hs;clear hs
 go_enter Tryz.func120,Tryz.ntmps120
 go_wp2_with fail
 go_loopw [9,10] (fun lo hi wr=>∃a b:Nat,a≤b∧b≤n∧lo=.int .i64 a∧hi=.int .i64 b∧Hid (Below w.heap.size w wr)∧Hid ((∀j,j<a→(l.getD j default).id<x)∧(∀j,b≤j→j<n→x≤(l.getD j default).id))) (fun lo hi _=>(intOf hi).toNat - (intOf lo).toNat)
 case atStart=>exact⟨0,n,Nat.zero_le _,Nat.le_refl _,rfl,rfl,zh (Below.refl _ _),zh ⟨fun j hj=>by omega,fun j h1 h2=>by omega⟩⟩
 case round=>
  rename World=>wo
  obtain⟨a,b,hab,hbn,rfl,rfl,HB,HI⟩:=hrel;by_cases hlt:a<b
  ·obtain⟨m,hm⟩:∃m:Nat,m=(a+b) / 2:=⟨_,rfl⟩;have p9:((a:Int)+(b:Int)) / 2=(m:Int):=(by omega);have hma:a≤m:=(by omega);have hmb:m<b:=(by omega);have rC:m<n:=(by omega);clear hm
   go_upto_region 5 with (fail)
   clear p9;obtain⟨bs,os,A3,n3,c3,rfl,_,hbl,_,_,_,_,z0,z1,z2,z3,_⟩:=(h.all HB.out).Bu rC
   have HV:=zh (fun j=>(⟨fun hj=>by
     rcases Nat.lt_or_ge j m with h'|h'
     ·exact HS.out j m h' rC
     ·omega,fun h1 h2=>by
     rcases Nat.lt_or_ge m j with h'|h'
     ·exact HS.out m j h' h2
     omega⟩:(j<m→(l.getD j default).id<(l.getD m default).id)∧(m<j→j<n→(l.getD m default).id<(l.getD j default).id)))
   generalize hid:(l.getD m default).id=y at *;have yT:=zh hid;clear hid;go_wp2_with fail
   refine(JP (a:=y)).mono ?_;clear z0 z1 z2 z3;rintro e w1 ⟨rfl,hb1⟩;have gV:=zt HB hb1;clear hb1;have hneg:=@JO y x;generalize QB y x=v at *;by_cases hv:v<0
   ·have hyx:=hneg.1 hv
    have Gc:Hid ((∀j,j<m+1→(l.getD j default).id<x)∧(∀j,b≤j→j<n→x≤(l.getD j default).id)):=zh ⟨fun j hj=>by
     rcases Nat.lt_or_ge j m with h'|h'
     ·have:=(HV.out j).1 h';omega
     obtain rfl:j=m:=by omega
     rw[yT.out];exact hyx,HI.out.2⟩
    clear hneg hyx;go_wp2
    exact⟨⟨m+1,b,by omega,hbn,by go_num,rfl,gV,Gc⟩,by simp[intOf];omega⟩
   have hyx:¬y<x:=fun h=>hv (hneg.2 h)
   have Gc:Hid ((∀j,j<a→(l.getD j default).id<x)∧(∀j,m≤j→j<n→x≤(l.getD j default).id)):=zh ⟨HI.out.1,fun j h1 h2=>by
    rcases Nat.lt_or_ge m j with h'|h'
    ·have:=(HV.out j).2 h' h2;omega
    obtain rfl:j=m:=by omega
    rw[yT.out];omega⟩
   clear hneg hyx;go_wp2
   exact⟨⟨a,m,hma,by omega,rfl,rfl,gV,Gc⟩,by simp[intOf];omega⟩
  obtain rfl:a=b:=by omega
  by_cases hn':a<n
  ·obtain⟨bs,os,A3,n3,c3,rfl,_,hbl,_,_,_,_,z0,z1,z2,z3,_⟩:=(h.all HB.out).Bu hn';generalize hid:(l.getD a default).id=y at *;have yT:=zh hid;clear hid;go_wp2_with fail
   refine(JP (a:=y)).mono ?_;clear z0 z1 z2 z3;rintro e w1 ⟨rfl,hb1⟩;have gV:=zt HB hb1;clear hb1
   have hz:(QB y x==0)=decide (y=x):=by
    unfold QB;rcases Int.lt_trichotomy y x with h'|h'|h'
    ·rw[if_pos h',decide_eq_false (by omega)];rfl
    ·subst h';rw[if_neg (by omega),if_neg (by omega),decide_eq_true rfl];rfl
    rw[if_neg (by omega),if_pos h',decide_eq_false (by omega)];rfl
   generalize QB y x=v at *;go_wp2
   refine bodyPost_ret (v:=.tuple #[.int .i64 (a:Int),.bool (v==0)]) (by simp[results,Tryz.results120,go_sem, *];done) rfl ?_;exact⟨a,by have:=HL.out;omega,by rw[hz];congr 4;rw[yT.out];have:=HL.out;simp;omega,HI.out.1,fun j h1 h2=>HI.out.2 j h1 (by have:=HL.out;omega),gV.out⟩
  go_wp2
  refine bodyPost_ret (v:=.tuple #[.int .i64 (a:Int),.bool false]) (by simp[results,Tryz.results120,go_sem, *];done) rfl ?_;exact⟨a,by have:=HL.out;omega,by rw[decide_eq_false (fun h=>hn' (by have:=HL.out;omega))],HI.out.1,fun j h1 h2=>HI.out.2 j h1 (by have:=HL.out;omega),HB.out⟩
end Go.Proofs.YtipecejghioicaaGreat
set_option maxHeartbeats 8000000
set_option maxRecDepth 100000
namespace Go.Proofs.YtipecejghioicaaGreat
open Go.RowKit Go.Silo
theorem Qe {tg tg1:Bool}{S:Nat→Prop}{w:World}{A0 A1 A2:Option Addr}{n0 c0 n1 c1 n2 c2:Nat}{l:List Bc}{nx x:Int}(h:Sl tg 86 (qc tg1) w S A0 n0 c0 l) (hn:n0<4611686018427387904)
  (hs:∀i j,i<j→j<n0→(l.getD i default).id<(l.getD j default).id):
  Calls Tryz.prog 96 #[.agg #[.slice A0 n0 c0,.slice A1 n1 c1,.slice A2 n2 c2,.int .i64 nx],.int .i64 x] w (ZB l x w):=by
 have HC:=zh (fun W (hW:Below w.heap.size w W)=>JQ (w:=W) (x:=x) (h.all hW) hn hs);clear hs
 go_enter Tryz.func96,Tryz.ntmps96
 go_wp2_with fail
 refine(HC.out _ bz).mono ?_;rintro e w1 ⟨i,hi,rfl,h1,h2,hb1⟩;have HH:=zh (And.intro h1 h2);clear h1 h2
 (obtain⟨np,hf_w1⟩:=ql hb1;have mH:w.heap.size<w1.heap.size:=(by have:=hb1.size;first|omega|(simp at this;omega)))
 go_wp2
 refine bodyPost_ret (v:=.tuple #[.int .i64 (i:Int),.bool (decide (i<l.length∧(l.getD i default).id=x))]) (by simp[results,Tryz.results96,go_sem, *];done) rfl ?_;exact⟨i,hi,rfl,HH.out.1,HH.out.2,bz⟩
def xB (l:List Bc) (id:Int):Option Bc:=l.find? (fun y=>decide (y.id=id))
def zA (W:Int) (l:List Bc):List Int→Int→Bool
 |[],left=>decide (left=0)
 |id::r,left=>match xB l id with
  |none=>false
  |some y=>if y.len=min left W then zA W l r (left - y.len) else false
theorem XY {l:List Bc}{x:Int}{i:Nat}(h:i<l.length∧(l.getD i default).id=x) (h1:∀j,j<i→(l.getD j default).id<x):xB l x=some (l.getD i default):=by
 unfold xB;rw[List.find?_eq_some_iff_getElem];have e:∀j (hj:j<l.length),l.getD j default=l[j]:=fun j hj=>by rw[List.getD_eq_getElem?_getD,List.getElem?_eq_getElem hj];rfl
 refine⟨by simpa using h.2,i,h.1,(e i h.1).symm,fun j hj=>?_⟩;have:=h1 j hj;rw[e j (by omega)] at this;simp;omega
theorem ZC {l:List Bc}{x:Int}{i:Nat}(h:¬(i<l.length∧(l.getD i default).id=x)) (h1:∀j,j<i→(l.getD j default).id<x) (h2:∀j,i≤j→j<l.length→x≤(l.getD j default).id) (hs:∀i j,i<j→j<l.length→(l.getD i default).id<(l.getD j default).id):xB l x=none:=by
 unfold xB;rw[List.find?_eq_none];intro y hy;obtain⟨j,hj,rfl⟩:=List.getElem_of_mem hy;have e:∀j (hj:j<l.length),l.getD j default=l[j]:=fun j hj=>by rw[List.getD_eq_getElem?_getD,List.getElem?_eq_getElem hj];rfl
 simp only[decide_eq_true_eq];intro he;rcases Nat.lt_trichotomy j i with uH|uH|uH
 ·have:=h1 j uH;rw[e j hj] at this;omega
 ·subst uH;exact h ⟨hj,by rw[e j hj];exact he⟩
 have h3:=hs i j uH hj;have h4:=h2 i (Nat.le_refl _) (by omega);rw[e j hj] at h3;omega
theorem ES {tg tg1 tg2:Bool}{S S2:Nat→Prop}{w:World}{A0 A1 A2 A3:Option Addr}{n0 c0 n1 c1 n2 c2 n3 c3:Nat}{s:Shape}{l:List Bc}{nx len:Int}{dg:ByteArray}{BO:Bool}{xs:List Int}(hsh:qt s=true) (hl0:0≤len) (hl1:len≤2000)
  (h:Sl tg 86 (qc tg1) w S A0 n0 c0 l) (hn:n0<4611686018427387904) (hs:∀i j,i<j→j<n0→(l.getD i default).id<(l.getD j default).id) (h3:Sl tg2 3 qD w S2 A3 n3 c3 xs):
  Calls Tryz.prog 112 #[.agg #[.int .i64 s.K,.int .i64 s.M,.int .i64 s.size],.agg #[.slice A0 n0 c0,.slice A1 n1 c1,.slice A2 n2 c2,.int .i64 nx],.agg #[.string dg,.int .i64 len,.bool BO,.slice A3 n3 c3]] w (Bf (.bool (zA (s.K* s.size) l xs len)) w):=by
 have hd:=hsh;unfold qt at hd;have hd:=of_decide_eq_true hd;clear hsh;have p1:1≤s.K* s.size:=by have:=Int.mul_pos (show 0<s.K by omega) (show 0<s.size by omega);omega
 have p2:s.K* s.size≤8* 120:=Int.mul_le_mul (by omega) (by omega) (by omega) (by omega);have vZ:=zh h3.len;have HL:=zh h.len;have hcap:n3≤9223372036854775807:=Nat.le_trans h3.le h3.cap;have pc:=zh hs;have HST:=zh (fun W (hW:Below w.heap.size w W) (x:Int)=>Qe (w:=W) (A1:=A1) (A2:=A2) (n1:=n1) (c1:=c1) (n2:=n2) (c2:=c2) (nx:=nx) (x:=x) (h.all hW) hn hs);clear hs;have HRS:=zh (fun W (hW:Below w.heap.size w W)=>h.all hW);have HR3:=zh (fun W (hW:Below w.heap.size w W)=>h3.all hW);obtain⟨R,hR⟩:∃R,R=zA (s.K* s.size) l xs len:=⟨_,rfl⟩;rw[←hR];have HR:=zh hR;clear hR;clear h h3
 go_enter Tryz.func112,Tryz.ntmps112
 go_upto_region 1 with (fail)
 obtain⟨W,hW⟩:∃W,W=s.K* s.size:=⟨_,rfl⟩;have hW1:=zh hW;have rH:Below w.heap.size w (((w.alloc (.cells #[.int .i64 s.K,.int .i64 s.M,.int .i64 s.size] 23)).alloc (.cells #[.slice A0 n0 c0,.slice A1 n1 c1,.slice A2 n2 c2,.int .i64 nx] 28)).alloc (.cells #[.string dg,.int .i64 len,.bool BO,.slice A3 n3 c3] 90)):=bz;have hsz:(((w.alloc (.cells #[.int .i64 s.K,.int .i64 s.M,.int .i64 s.size] 23)).alloc (.cells #[.slice A0 n0 c0,.slice A1 n1 c1,.slice A2 n2 c2,.int .i64 nx] 28)).alloc (.cells #[.string dg,.int .i64 len,.bool BO,.slice A3 n3 c3] 90)).heap.size=w.heap.size+3:=by simp
 have r0:(((w.alloc (.cells #[.int .i64 s.K,.int .i64 s.M,.int .i64 s.size] 23)).alloc (.cells #[.slice A0 n0 c0,.slice A1 n1 c1,.slice A2 n2 c2,.int .i64 nx] 28)).alloc (.cells #[.string dg,.int .i64 len,.bool BO,.slice A3 n3 c3] 90)).heap[w.heap.size]?=some (.cells #[.int .i64 s.K,.int .i64 s.M,.int .i64 s.size] 23 (0,0)):=by
  rw[Below.heap_alloc _ _ _ (by simp;omega),Below.heap_alloc _ _ _ (by simp)];exact heap_alloc_new _ _
 have r1:(((w.alloc (.cells #[.int .i64 s.K,.int .i64 s.M,.int .i64 s.size] 23)).alloc (.cells #[.slice A0 n0 c0,.slice A1 n1 c1,.slice A2 n2 c2,.int .i64 nx] 28)).alloc (.cells #[.string dg,.int .i64 len,.bool BO,.slice A3 n3 c3] 90)).heap[w.heap.size+1]?=some (.cells #[.slice A0 n0 c0,.slice A1 n1 c1,.slice A2 n2 c2,.int .i64 nx] 28 (0,0)):=by
  rw[Below.heap_alloc _ _ _ (by simp)];have:=heap_alloc_new (w.alloc (.cells #[.int .i64 s.K,.int .i64 s.M,.int .i64 s.size] 23)) (.cells #[.slice A0 n0 c0,.slice A1 n1 c1,.slice A2 n2 c2,.int .i64 nx] 28)
  rwa [World.size_alloc] at this
 have r2:(((w.alloc (.cells #[.int .i64 s.K,.int .i64 s.M,.int .i64 s.size] 23)).alloc (.cells #[.slice A0 n0 c0,.slice A1 n1 c1,.slice A2 n2 c2,.int .i64 nx] 28)).alloc (.cells #[.string dg,.int .i64 len,.bool BO,.slice A3 n3 c3] 90)).heap[w.heap.size+1+1]?=some (.cells #[.string dg,.int .i64 len,.bool BO,.slice A3 n3 c3] 90 (0,0)):=by
  have:=heap_alloc_new ((w.alloc (.cells #[.int .i64 s.K,.int .i64 s.M,.int .i64 s.size] 23)).alloc (.cells #[.slice A0 n0 c0,.slice A1 n1 c1,.slice A2 n2 c2,.int .i64 nx] 28)) (.cells #[.string dg,.int .i64 len,.bool BO,.slice A3 n3 c3] 90)
  rwa [World.size_alloc,World.size_alloc] at this
 generalize (((w.alloc (.cells #[.int .i64 s.K,.int .i64 s.M,.int .i64 s.size] 23)).alloc (.cells #[.slice A0 n0 c0,.slice A1 n1 c1,.slice A2 n2 c2,.int .i64 nx] 28)).alloc (.cells #[.string dg,.int .i64 len,.bool BO,.slice A3 n3 c3] 90))=w1 at *;have mq:=zh (fun V (hV:Below w1.heap.size w1 V)=>rH.trans (hV.mono rH.size));clear rH;have mb:=zh (fun V (hV:Below w1.heap.size w1 V)=>And.intro ((hV.block _ (by omega)).trans r0) ((hV.block _ (by omega)).trans r1));have z1:=zo 1 r2;have z3:=zo 3 r2;clear r0 r1 r2;go_wp2_with fail
 clear z1 z3
 go_loopw [17,7] (fun iv lf wr=>∃k:Nat,∃lv:Int,k≤n3∧iv=.int .i64 k∧lf=.int .i64 lv∧0≤lv∧lv≤2000∧Hid (Below w1.heap.size w1 wr)∧Hid (R=zA (s.K* s.size) l (xs.drop k) lv)) (fun iv _ _=>n3 - (intOf iv).toNat)
 case atStart=>exact⟨0,len,Nat.zero_le _,rfl,rfl,hl0,hl1,zh (Below.refl _ _),zh (by rw[HR.out];rfl)⟩
 case round=>
  rename World=>wo
  obtain⟨k,lf,hk,rfl,rfl,hf0,hf1,HB,uI⟩:=hrel;by_cases hlt:k<n3
  ·obtain⟨b3,o3,rfl,_,hb3,_,hc3,_⟩:=(HR3.out wo (mq.out wo HB.out)).BN hlt
   have hdrop:xs.drop k=xs.getD k 0::xs.drop (k+1):=by
    have hkl:k<xs.length:=(by have:=vZ.out;omega);rw[List.drop_eq_getElem_cons hkl,List.getD_eq_getElem?_getD,List.getElem?_eq_getElem hkl];rfl
   generalize xs.getD k 0=id at *;have HRK2:Hid (R=zA (s.K* s.size) l (id::xs.drop (k+1)) lf):=zh (by rw[←hdrop];exact uI.out);clear hdrop uI;obtain⟨_,q1⟩:=mb.out wo HB.out;have y0:=zo 0 q1;have y1:=zo 1 q1;have y2:=zo 2 q1;have y3:=zo 3 q1;clear q1;go_wp2_with fail
   refine(HST.out wo (mq.out wo HB.out) id).mono ?_;clear y0 y1 y2 y3 hc3;rintro e w5 ⟨i,hi,rfl,g1,g2,gG⟩;have mB:=zt HB gG;clear gG;by_cases hfd:i<l.length∧(l.getD i default).id=id
   ·have hfi:=XY hfd g1;rw[decide_eq_true hfd];have hin:i<n0:=(by have:=HL.out;omega);obtain⟨bs,os,A4,n4,c4,rfl,_,hbs,_,i64l,_,_,_,u1,_⟩:=(HRS.out w5 (mq.out w5 mB.out)).Bu hin;generalize l.getD i default=y at *;obtain⟨yl,x4⟩:∃yl,yl=y.len:=⟨_,rfl⟩;rw[←x4] at u1 i64l;unfold Bn at i64l
    have hstep:R=if yl=min lf (s.K* s.size) then zA (s.K* s.size) l (xs.drop (k+1)) (lf - yl) else false:=by
     rw[HRK2.out];show(match xB l id with|none=>false|some y=>if y.len=min lf (s.K* s.size) then zA (s.K* s.size) l (xs.drop (k+1)) (lf - y.len) else false)=_;rw[hfi,x4]
    have yU:=zh hstep;clear hstep hfi x4 hfd g1 g2;have gZ:=zh (fun V (hV:Below w5.heap.size w5 V)=>And.intro (mb.out V (zu mB hV)).1 (And.intro (mb.out V (zu mB hV)).2 ((hV.cell (p:=⟨bs,os+i* 4+1,none⟩) hbs).trans u1)));clear u1;by_cases hlen:yl=min lf (s.K* s.size)
    ·have hne:(yl !=min lf (s.K* s.size))=false:=(by simp[hlen]);have HE:Hid (R=zA (s.K* s.size) l (xs.drop (k+1)) (lf - yl)):=zh (by rw[yU.out,if_pos hlen]);have hb0:0≤yl:=(by omega);have hb1:yl≤lf:=(by omega);clear yU hlen;go_wp2_with fail
     refine rF 56 rfl [27,28,29,30,31,32,33,34,35,36,37,38,39,40,41,42,43,44] []
       [kt 27,kf 28,kf 29,kq 30 (w.heap.size+1) (0),kp 31 (.slice (some ⟨bs,os,none⟩) n0 c0),ki 32 i,kq 33 (bs) (os+i* 4),kq 34 (bs) (os+i* 4+1),kp 35 (.int .i64 yl),kp 36 (.int .i64 lf),kq 37 w.heap.size 0,kp 38 (.int .i64 s.K),kq 39 w.heap.size 2,kp 40 (.int .i64 s.size),kp 41 (.int .i64 (s.K* s.size)),kp 42 (.int .i64 (min lf (s.K* s.size))),kf 43,kf 44]
       [] [] (BZ w5 (fun _ _ _=>True)) .init ⟨.a,.a,.a,.a,?_,.a,?_,.a,.l (a:=⟨bs,os+i* 4+1,none⟩) fun us w6 hW _=>(by obtain⟨q0,q1,q2⟩:=gZ.out w6 hW.1;have z0:=zo 0 q0;have z2:=zo 2 q0;have z3:=zo 0 q1;assumption),.a,.a,?_,.a,.l fun us w6 hW _=>zo 2 ((gZ.out w6 hW.1).1),?_,?_,?_,.a,trivial⟩ ?_
     ·(refine .r1 (.pointer (some ⟨w.heap.size+1,0,none⟩)) fun _ _ w6 uD _ _ _ hW=>?_;obtain⟨q0,q1,q2⟩:=gZ.out w6 hW.1;have z0:=zo 0 q0;have z2:=zo 2 q0;have z3:=zo 0 q1;clear q0 q1;simp only[execOp,uD];go_simp;try rfl)
     ·(refine .r2 (.slice (some ⟨bs,os,none⟩) n0 c0) (.int .i64 (i:Int)) fun _ _ _ pm ry _ _ _ _=>?_;simp only[execOp,pm,ry];go_simp;try rfl)
     ·(refine .r1 (.pointer (some ⟨w.heap.size,0,none⟩)) fun _ _ w6 Hf _ _ _ hW=>?_;obtain⟨q0,q1,q2⟩:=gZ.out w6 hW.1;have z0:=zo 0 q0;have z2:=zo 2 q0;have z3:=zo 0 q1;clear q0 q1;simp only[execOp,Hf];go_simp;try rfl)
     ·(refine .r2 (.int .i64 s.K) (.int .i64 s.size) fun _ _ _ e38 e40 _ _ _ _=>?_;simp only[execOp,e38,e40];go_simp;rw[Go.IntWalk.i64_in _ (by omega)];rfl)
     ·(refine .r2 (.int .i64 lf) (.int .i64 (s.K* s.size)) fun _ _ _ _ _ _ _ _ _=>?_;simp only[execOp];go_simp;rw[show(if s.K* s.size<lf then s.K* s.size else lf)=min lf (s.K* s.size) by split<;>omega];rfl)
     ·(refine .r2 (.int .i64 yl) (.int .i64 (min lf (s.K* s.size))) fun _ _ _ rA e42 _ _ _ _=>?_;simp only[execOp,rA,e42];go_simp;try rfl)
     intro us w9 hmem hW;simp only[qa,BG,BH,BI,BJ,Act.put,BC,BD,BF];generalize mh:qx _ _ us=sv;have hq:sv 44=(.bool false:Value):=(by rw[←mh];rfl);rw[hq];have gF:=zh hW.1;clear mh hq hmem hW;have gB:=zh (zu mB gF.out);have q:=(gZ.out _ gF.out).2.2;have q1:=(gZ.out _ gF.out).2.1;have y0:=zo 0 q1;clear q1;go_wp2
     exact⟨⟨k+1,lf - yl,by omega,by go_num,rfl,by omega,by omega,gB,HE⟩,by simp[intOf];omega⟩
    have hne:(yl !=min lf (s.K* s.size))=true:=(by simp[hlen]);have HE:Hid (R=false):=zh (by rw[yU.out,if_neg hlen]);clear yU hlen;go_wp2_with fail
    refine rF 56 rfl [27,28,29,30,31,32,33,34,35,36,37,38,39,40,41,42,43,44] []
      [kt 27,kf 28,kf 29,kq 30 (w.heap.size+1) (0),kp 31 (.slice (some ⟨bs,os,none⟩) n0 c0),ki 32 i,kq 33 (bs) (os+i* 4),kq 34 (bs) (os+i* 4+1),kp 35 (.int .i64 yl),kp 36 (.int .i64 lf),kq 37 w.heap.size 0,kp 38 (.int .i64 s.K),kq 39 w.heap.size 2,kp 40 (.int .i64 s.size),kp 41 (.int .i64 (s.K* s.size)),kp 42 (.int .i64 (min lf (s.K* s.size))),kt 43,kt 44]
      [] [] (BZ w5 (fun _ _ _=>True)) .init ⟨.a,.a,.a,.a,?_,.a,?_,.a,.l (a:=⟨bs,os+i* 4+1,none⟩) fun us w6 hW _=>(by obtain⟨q0,q1,q2⟩:=gZ.out w6 hW.1;have z0:=zo 0 q0;have z2:=zo 2 q0;have z3:=zo 0 q1;assumption),.a,.a,?_,.a,.l fun us w6 hW _=>zo 2 ((gZ.out w6 hW.1).1),?_,?_,?_,.a,trivial⟩ ?_
    ·(refine .r1 (.pointer (some ⟨w.heap.size+1,0,none⟩)) fun _ _ w6 uD _ _ _ hW=>?_;obtain⟨q0,q1,q2⟩:=gZ.out w6 hW.1;have z0:=zo 0 q0;have z2:=zo 2 q0;have z3:=zo 0 q1;clear q0 q1;simp only[execOp,uD];go_simp;try rfl)
    ·(refine .r2 (.slice (some ⟨bs,os,none⟩) n0 c0) (.int .i64 (i:Int)) fun _ _ _ pm ry _ _ _ _=>?_;simp only[execOp,pm,ry];go_simp;try rfl)
    ·(refine .r1 (.pointer (some ⟨w.heap.size,0,none⟩)) fun _ _ w6 Hf _ _ _ hW=>?_;obtain⟨q0,q1,q2⟩:=gZ.out w6 hW.1;have z0:=zo 0 q0;have z2:=zo 2 q0;have z3:=zo 0 q1;clear q0 q1;simp only[execOp,Hf];go_simp;try rfl)
    ·(refine .r2 (.int .i64 s.K) (.int .i64 s.size) fun _ _ _ e38 e40 _ _ _ _=>?_;simp only[execOp,e38,e40];go_simp;rw[Go.IntWalk.i64_in _ (by omega)];rfl)
    ·(refine .r2 (.int .i64 lf) (.int .i64 (s.K* s.size)) fun _ _ _ _ _ _ _ _ _=>?_;simp only[execOp];go_simp;rw[show(if s.K* s.size<lf then s.K* s.size else lf)=min lf (s.K* s.size) by split<;>omega];rfl)
    ·(refine .r2 (.int .i64 yl) (.int .i64 (min lf (s.K* s.size))) fun _ _ _ rA e42 _ _ _ _=>?_;simp only[execOp,rA,e42];go_simp;try rfl)
    intro us w9 hmem hW;simp only[qa,BG,BH,BI,BJ,Act.put,BC,BD,BF];generalize mh:qx _ _ us=sv;have hq:sv 44=(.bool true:Value):=(by rw[←mh];rfl);rw[hq];have gF:=zh hW.1;clear mh hq hmem hW;go_wp2
    go_ret
    exact⟨by rw[HE.out];rfl,mq.out _ (zu mB gF.out)⟩
   have hfi:=ZC hfd g1 g2 (fun i j h1 h2=>pc.out i j h1 (by have:=HL.out;omega));rw[decide_eq_false hfd];have HE:Hid (R=false):=zh (by rw[HRK2.out];show(match xB l id with|none=>false|some y=>if y.len=min lf (s.K* s.size) then zA (s.K* s.size) l (xs.drop (k+1)) (lf - y.len) else false)=_;rw[hfi]);clear hfi hfd g1 g2;go_wp2_with fail
   refine rF 56 rfl [27,28,29,30,31,32,33,34,35,36,37,38,39,40,41,42,43,44] []
     [kf 27,kt 28,kt 29,kt 44]
     [] [] (BZ w5 (fun _ _ _=>True)) .init ⟨.a,.a,.a,.b,.b,.b,.b,.b,.b,.b,.b,.b,.b,.b,.b,.b,.b,.a,trivial⟩ ?_
   intro us w9 hmem hW;simp only[qa,BG,BH,BI,BJ,Act.put,BC,BD,BF];generalize mh:qx _ _ us=sv;have hq:sv 44=(.bool true:Value):=(by rw[←mh];rfl);rw[hq];have gF:=zh hW.1;clear mh hq hmem hW;go_wp2
   go_ret
   exact⟨by rw[HE.out];rfl,mq.out _ (zu mB gF.out)⟩
  obtain rfl:k=n3:=by omega
  have HE:Hid (R=decide (lf=0)):=zh (by rw[uI.out,List.drop_of_length_le (by have:=vZ.out;omega)];rfl);have hz:(lf==0)=decide (lf=0):=by by_cases h:lf=0<;>simp[h]
  go_wp2
  go_ret
  exact⟨by rw[HE.out,←hz];rfl,mq.out _ HB.out⟩
end Go.Proofs.YtipecejghioicaaGreat
