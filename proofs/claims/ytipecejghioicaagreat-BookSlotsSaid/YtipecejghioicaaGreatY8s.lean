/- Book.Commit; the drawn region of book.All. -/
import Derived.Test.YtipecejghioicaaGreatY1s
import Derived.Test.YtipecejghioicaaGreatS1s
import Derived.Test.YtipecejghioicaaGreatR2s
import Derived.Test.YtipecejghioicaaGreatB4s
import Derived.Test.YtipecejghioicaaGreatP0s
import Derived.Test.YtipecejghioicaaGreatE2s
import Derived.Deep.Cut
import Derived.Test.YtipecejghioicaaGreatQ1s
import Derived.Test.YtipecejghioicaaGreatQ12s
import Derived.Test.YtipecejghioicaaGreatY4s
import Derived.Deep.CutBlock
set_option maxHeartbeats 800000
set_option maxRecDepth 100000
namespace Go.Silo
open Go Go.RowKit
def Cr (mem:List Nat) (P:List Value→World→Prop) (us:List (Nat×Value)) (W:World):Prop:=us.map Prod.fst=mem.take us.length∧us.length≤mem.length∧P (us.map Prod.snd) W
section
variable {mem:List Nat}{P:List Value→World→Prop}{us:List (Nat×Value)}{W W':World}
theorem Cr.init (h:P [] W):Cr mem P [] W:=⟨by simp,by simp,h⟩
theorem Cr.short (h:Cr mem P us W) {j c:Nat}(hj:mem[j]?=some c) (hc:c∉us.map Prod.fst):us.length≤j:=by
 rcases Nat.lt_or_ge j us.length with h1|h1
 ·exact absurd (by rw[h.1];exact List.mem_iff_getElem?.2 ⟨j,by rw[List.getElem?_take_of_lt h1];exact hj⟩) hc
 exact h1
theorem Cr.long (hn:mem.Nodup) (h:Cr mem P us W) {j c:Nat}(hj:mem[j]?=some c) (hc:c∈us.map Prod.fst):j<us.length:=by
 rw[h.1] at hc;obtain⟨i,hi⟩:=List.mem_iff_getElem?.1 hc;have hi2:i<us.length:=by have:=(List.getElem?_eq_some_iff.1 hi).1;rw[List.length_take] at this;omega
 rw[List.getElem?_take_of_lt hi2] at hi;have h1:=(List.getElem?_eq_some_iff.1 hi).1;have h2:=(List.getElem?_eq_some_iff.1 hj).1;have:=(List.getElem_inj (i:=i) (j:=j) (h₀:=h1) (h₁:=h2) hn).1 (((List.getElem?_eq_some_iff.1 hi).2).trans (List.getElem?_eq_some_iff.1 hj).2.symm);omega
theorem Cr.snoc (h:Cr mem P us W) {j i:Nat}{x:Value}(hl:us.length=j) (hi:mem[j]?=some i) (hx:P (us.map Prod.snd++[x]) W'):Cr mem P (us++[(i,x)]) W':=by
 have hj:=(List.getElem?_eq_some_iff.1 hi).1;refine⟨?_,by rw[List.length_append,hl];exact hj,by rw[List.map_append];exact hx⟩;rw[List.map_append,h.1,List.length_append,hl,List.length_singleton,List.take_add_one,hi];rfl
theorem Cr.DT {m0:Nat}(h:Cr (m0::mem) P us W) (hl:us.length=1):∃a,us=[(m0,a)]∧P [a] W:=by
 obtain⟨p,rfl⟩:∃p,us=[p]:=List.length_eq_one_iff.1 hl;obtain⟨i,v⟩:=p;have e:=h.1;simp at e;subst e;exact⟨v,rfl,h.2.2⟩
theorem len2 {α:Type}{l:List α}(h:l.length=2):∃a b,l=[a,b]:=by
 match l,h with
 |[a,b],_=>exact⟨a,b,rfl⟩
theorem len3 {α:Type}{l:List α}(h:l.length=3):∃a b c,l=[a,b,c]:=by
 match l,h with
 |[a,b,c],_=>exact⟨a,b,c,rfl⟩
theorem len4 {α:Type}{l:List α}(h:l.length=4):∃a b c d,l=[a,b,c,d]:=by
 match l,h with
 |[a,b,c,d],_=>exact⟨a,b,c,d,rfl⟩
theorem len5 {α:Type}{l:List α}(h:l.length=5):∃a b c d e,l=[a,b,c,d,e]:=by
 match l,h with
 |[a,b,c,d,e],_=>exact⟨a,b,c,d,e,rfl⟩
theorem len6 {α:Type}{l:List α}(h:l.length=6):∃a b c d e f,l=[a,b,c,d,e,f]:=by
 match l,h with
 |[a,b,c,d,e,f],_=>exact⟨a,b,c,d,e,f,rfl⟩
theorem Cr.DU {m0 m1:Nat}(h:Cr (m0::m1::mem) P us W) (hl:us.length=2):∃a b,us=[(m0,a),(m1,b)]∧P [a,b] W:=by
 obtain⟨⟨i,v⟩,⟨i2,v2⟩,rfl⟩:=len2 hl;have e:=h.1;simp at e;obtain⟨rfl,rfl⟩:=e;exact⟨v,v2,rfl,h.2.2⟩
theorem Cr.vals3 {m0 m1 m2:Nat}(h:Cr (m0::m1::m2::mem) P us W) (hl:us.length=3):∃a b c,us=[(m0,a),(m1,b),(m2,c)]∧P [a,b,c] W:=by
 obtain⟨⟨i,v⟩,⟨i2,v2⟩,⟨i3,v3⟩,rfl⟩:=len3 hl;have e:=h.1;simp at e;obtain⟨rfl,rfl,rfl⟩:=e;exact⟨v,v2,v3,rfl,h.2.2⟩
theorem Cr.vals4 {m0 m1 m2 m3:Nat}(h:Cr (m0::m1::m2::m3::mem) P us W) (hl:us.length=4):∃a b c d,us=[(m0,a),(m1,b),(m2,c),(m3,d)]∧P [a,b,c,d] W:=by
 obtain⟨⟨i,v⟩,⟨i2,v2⟩,⟨i3,v3⟩,⟨i4,v4⟩,rfl⟩:=len4 hl;have e:=h.1;simp at e;obtain⟨rfl,rfl,rfl,rfl⟩:=e;exact⟨v,v2,v3,v4,rfl,h.2.2⟩
theorem Cr.vals5 {m0 m1 m2 m3 m4:Nat}(h:Cr (m0::m1::m2::m3::m4::mem) P us W) (hl:us.length=5):∃a b c d e,us=[(m0,a),(m1,b),(m2,c),(m3,d),(m4,e)]∧P [a,b,c,d,e] W:=by
 obtain⟨⟨i,v⟩,⟨i2,v2⟩,⟨i3,v3⟩,⟨i4,v4⟩,⟨i5,v5⟩,rfl⟩:=len5 hl;have e:=h.1;simp at e;obtain⟨rfl,rfl,rfl,rfl,rfl⟩:=e;exact⟨v,v2,v3,v4,v5,rfl,h.2.2⟩
theorem Cr.vals6 {m0 m1 m2 m3 m4 m5:Nat}(h:Cr (m0::m1::m2::m3::m4::m5::mem) P us W) (hl:us.length=6):∃a b c d e f,us=[(m0,a),(m1,b),(m2,c),(m3,d),(m4,e),(m5,f)]∧P [a,b,c,d,e,f] W:=by
 obtain⟨⟨i,v⟩,⟨i2,v2⟩,⟨i3,v3⟩,⟨i4,v4⟩,⟨i5,v5⟩,⟨i6,v6⟩,rfl⟩:=len6 hl;have e:=h.1;simp at e;obtain⟨rfl,rfl,rfl,rfl,rfl,rfl⟩:=e;exact⟨v,v2,v3,v4,v5,v6,rfl,h.2.2⟩
end
def jH {α:Type}(N:Nat) (E F:Enc α) (hsz:F.sz=E.sz):Enc (α×Bool) where
 sz:=E.sz
 R w S vs x:=match x.2 with|true=>E.R w (fun b=>S b∧N≤b) vs x.1|false=>F.R w S vs x.1
 len {w S vs x} h:=by
  obtain⟨x,m⟩:=x
  cases m with
  |true=>exact E.len h
  |false=>rw[←hsz];exact F.len h
 one {w S vs x} h:=by
  obtain⟨x,m⟩:=x
  cases m with
  |true=>exact E.one h
  |false=>exact F.one h
 mono {w S S' vs x} hS h:=by
  obtain⟨x,m⟩:=x
  cases m with
  |true=>exact E.mono (fun b hb hlt=>⟨hS b hb.1 hlt,hb.2⟩) h
  |false=>exact F.mono hS h
 frame {w w' S vs x} hA hs h:=by
  obtain⟨x,m⟩:=x
  cases m with
  |true=>exact E.frame (hA.mono (fun b hb _=>hb.1)) hs h
  |false=>exact F.frame hA hs h
def zE {α:Type}(k:Nat) (xs:List α):List (α×Bool):=(xs.take k).map (fun x=>(x,true))++(xs.drop k).map (fun x=>(x,false))
theorem xe {α:Type}{k:Nat}{xs:List α}:(zE k xs).length=xs.length:=by
 unfold zE;rw[List.length_append,List.length_map,List.length_map,←List.length_append,List.take_append_drop]
theorem Xm {α:Type}{xs:List α}:zE 0 xs=xs.map (fun x=>(x,false)):=by simp[zE]
theorem JN {α:Type}{k:Nat}{xs:List α}{d:α}(h:k<xs.length):(zE k xs)[k]?=some (xs.getD k d,false):=by
 unfold zE;rw[List.getElem?_append_right (by simp;omega)];simp only[List.length_map,List.length_take,Nat.min_eq_left (Nat.le_of_lt h),Nat.sub_self,List.getElem?_map,List.getElem?_drop,Nat.add_zero,List.getElem?_eq_getElem h,Option.map_some,List.getD_eq_getElem?_getD,Option.getD_some]
theorem QH {α:Type}{k:Nat}{xs:List α}{d:α}(h:k<xs.length):(zE k xs).set k (xs.getD k d,true)=zE (k+1) xs:=by
 refine List.ext_getElem? (fun i=>?_);rw[List.getElem?_set,xe];unfold zE;rcases Nat.lt_trichotomy k i with h1|h1|h1
 ·rw[if_neg (by omega),List.getElem?_append_right (by simp;omega),List.getElem?_append_right (by simp;omega)];simp only[List.length_map,List.length_take,List.getElem?_map,List.getElem?_drop];rw[Nat.min_eq_left (by omega:k≤xs.length),Nat.min_eq_left (by omega:k+1≤xs.length),show k+(i - k)=i by omega,show k+1+(i - (k+1))=i by omega]
 ·subst h1;rw[if_pos rfl,if_pos h,List.getElem?_append_left (by simp;omega)];simp only[List.getElem?_map,List.getElem?_take_of_lt (Nat.lt_succ_self k),List.getElem?_eq_getElem h,Option.map_some,List.getD_eq_getElem?_getD,Option.getD_some]
 rw[if_neg (by omega),List.getElem?_append_left (by simp;omega),List.getElem?_append_left (by simp;omega)];simp only[List.getElem?_map,List.getElem?_take_of_lt h1,List.getElem?_take_of_lt (show i<k+1 by omega)]
section
variable {α:Type}{T:TypeId}{E F:Enc α}{hsz:F.sz=E.sz}{w:World}{S:Nat→Prop}{A:Option Addr}{n c base N:Nat}{xs:List α}
theorem Be.Ev (h:Be T F w base S A n c xs):Be T (jH N E F hsz) w base S A n c (zE 0 xs):=by
 obtain⟨cs,ho,hl,hk⟩:=h;rw[hsz] at ho hk;refine⟨cs,ho,by rw[xe];exact hl,fun k x hx=>?_⟩;rw[Xm,List.getElem?_map] at hx
 cases hq:xs[k]? with
 |none=>rw[hq] at hx;cases hx
 |some y=>
  rw[hq] at hx;injection hx with hx
  subst hx;exact hk k y hq
theorem Be.DV (h:Be T (jH N E F hsz) w base S A n c (zE n xs)):Be T E w base (fun b=>S b∧N≤b) A n c xs:=by
 obtain⟨cs,ho,hl,hk⟩:=h;rw[xe] at hl;refine⟨cs,ho,hl,fun k x hx=>?_⟩;have hkn:k<n:=by have:=(List.getElem?_eq_some_iff.1 hx).1;omega
 have:=hk k (x,true) (by
  unfold zE
  rw[List.getElem?_append_left (by simp;omega),List.getElem?_map,List.getElem?_take_of_lt hkn,hx];rfl)
 exact E.mono (fun b hb _=>⟨⟨hb.1.1,hb.2⟩,hb.1.2⟩) (show E.R w (fun b=>(S b∧some b≠qa A)∧N≤b) _ x from this)
end
end Go.Silo
namespace Go.Proofs.YtipecejghioicaaGreat
open Go.RowKit Go.Silo
theorem Za {tg tg0:Bool}{T:TypeId}{S:Nat→Prop}{w:World}{A:Option Addr}{n c:Nat}{xs:List Bb}(h:Sl tg T (qe tg0) w S A n c xs) (hn:n≤100000000):
  Calls Tryz.prog 91 #[.slice A n c] w (xG 86 (qe tg0) w (fun b=>S b∧b<w.heap.size) xs):=by
 obtain⟨i0,hi,hz0,hz1,hz2⟩:=info_parts Tryz.Cj;have HL:=zh h.len;have hq:=fun W:World=>Lib.run_eql_slice_nil (P:=Tryz.prog) W 24 86 A n c 0 0 Tryz.underlying24
 cases A with
 |none=>
  go_enter Tryz.func91,Tryz.ntmps91
  go_wp2
  go_ret
  have hn0:n=0:=by
   rcases Nat.eq_zero_or_pos n with h0|h0
   ·exact h0
   obtain⟨_,_,e,_⟩:=h.2.2.2 h0;cases e
  subst hn0;obtain rfl:xs=[]:=List.eq_nil_of_length_eq_zero HL.out;exact⟨none,0,rfl,Be.BA,Below.refl _ _⟩
 |some ad=>
  have mo:Be 86 (qe tg0) (w.alloc (.cells #[] 86)) w.heap.size (fun b=>S b∧b<w.heap.size) (some ⟨w.heap.size,0,none⟩) 0 0 []:=Be.lit [] [] 0 (Nat.le_refl _) (by omega) (by simp) rfl (fun k y hy=>by simp at hy);have hsl:=(h.Bi).frame (Agree.alloc _ w (.cells #[] 86)) (by simp);rcases Nat.eq_zero_or_pos n with h0|h0
  ·subst h0;obtain rfl:xs=[]:=List.eq_nil_of_length_eq_zero HL.out
   go_enter Tryz.func91,Tryz.ntmps91
   go_wp2_with (at_builtin;refine qQ rfl _ _ 24 rfl i0 (.agg #[.int .i64 0,.int .i64 0,.int .i64 0,.slice none 0 0]) 48 Tryz.underlying24 hi hz0 hz1 hz2 rfl (show 0<4 by decide) rfl mo ad 0 _ [] [] rfl (by simp) (fun j u hj=>by simp at hj) rfl (fun k y hy=>by simp at hy) (fun u hu=>by simp at hu) (by omega) (by omega) (by simp) ?_)
   intro A2 c2 w2 hown2 hg2 _;go_wp2
   go_ret
   exact⟨A2,c2,rfl,hown2,((Below.refl _ w).alloc (Nat.le_refl _) _).grown hg2 (by simp) (fun k hk=>by simp[qa] at hk;omega)⟩
  obtain⟨b,off,e,_⟩:=h.2.2.2 h0;injection e with e
  subst e;have hup:∀vs y,y∈xs→((qe tg0)).R (w.alloc (.cells #[] 86)) (fun b=>S b∧b<w.heap.size) vs y→((qe tg0)).R (w.alloc (.cells #[] 86)) (fun b=>(S b∧b<w.heap.size)∧some b≠qa (some ⟨w.heap.size,0,none⟩)) vs y:=fun vs y _ hR=>((qe tg0)).mono (fun b hb _=>⟨hb,fun e=>by simp[qa] at e;omega⟩) hR
  go_enter Tryz.func91,Tryz.ntmps91
  go_wp2_with (at_builtin;refine qT rfl _ _ 24 rfl i0 (.agg #[.int .i64 0,.int .i64 0,.int .i64 0,.slice none 0 0]) 48 Tryz.underlying24 hi hz0 hz1 hz2 rfl (show 0<4 by decide) rfl mo rfl hsl hup (by omega) (by omega) (by simp) ?_)
  intro A2 c2 w2 hown2 hg2 _
  try simp only[Nat.zero_add,List.nil_append] at hown2
  have e1:=HL.out;subst e1;go_wp2
  go_ret
  exact⟨A2,c2,by simp,hown2,((Below.refl _ w).alloc (Nat.le_refl _) _).grown hg2 (by simp) (fun k hk=>by simp[qa] at hk;omega)⟩
theorem ZG {tg tg0:Bool}{T:TypeId}{S:Nat→Prop}{w:World}{A:Option Addr}{n c:Nat}{xs:List Entry}(h:Sl tg T (ql tg0) w S A n c xs) (hn:n≤100000000):
  Calls Tryz.prog 92 #[.slice A n c] w (xG 90 (ql tg0) w (fun b=>S b∧b<w.heap.size) xs):=by
 obtain⟨i0,hi,hz0,hz1,hz2⟩:=info_parts Tryz.Cs;have HL:=zh h.len;have hq:=fun W:World=>Lib.run_eql_slice_nil (P:=Tryz.prog) W 25 90 A n c 0 0 Tryz.underlying25
 cases A with
 |none=>
  go_enter Tryz.func92,Tryz.ntmps92
  go_wp2
  go_ret
  have hn0:n=0:=by
   rcases Nat.eq_zero_or_pos n with h0|h0
   ·exact h0
   obtain⟨_,_,e,_⟩:=h.2.2.2 h0;cases e
  subst hn0;obtain rfl:xs=[]:=List.eq_nil_of_length_eq_zero HL.out;exact⟨none,0,rfl,Be.BA,Below.refl _ _⟩
 |some ad=>
  have mo:Be 90 (ql tg0) (w.alloc (.cells #[] 90)) w.heap.size (fun b=>S b∧b<w.heap.size) (some ⟨w.heap.size,0,none⟩) 0 0 []:=Be.lit [] [] 0 (Nat.le_refl _) (by omega) (by simp) rfl (fun k y hy=>by simp at hy);have hsl:=(h.Bi).frame (Agree.alloc _ w (.cells #[] 90)) (by simp);rcases Nat.eq_zero_or_pos n with h0|h0
  ·subst h0;obtain rfl:xs=[]:=List.eq_nil_of_length_eq_zero HL.out
   go_enter Tryz.func92,Tryz.ntmps92
   go_wp2_with (at_builtin;refine qQ rfl _ _ 25 rfl i0 (.agg #[.string ByteArray.empty,.int .i64 0,.bool false,.slice none 0 0]) 56 Tryz.underlying25 hi hz0 hz1 hz2 rfl (show 0<4 by decide) rfl mo ad 0 _ [] [] rfl (by simp) (fun j u hj=>by simp at hj) rfl (fun k y hy=>by simp at hy) (fun u hu=>by simp at hu) (by omega) (by omega) (by simp) ?_)
   intro A2 c2 w2 hown2 hg2 _;go_wp2
   go_ret
   exact⟨A2,c2,rfl,hown2,((Below.refl _ w).alloc (Nat.le_refl _) _).grown hg2 (by simp) (fun k hk=>by simp[qa] at hk;omega)⟩
  obtain⟨b,off,e,_⟩:=h.2.2.2 h0;injection e with e
  subst e;have hup:∀vs y,y∈xs→((ql tg0)).R (w.alloc (.cells #[] 90)) (fun b=>S b∧b<w.heap.size) vs y→((ql tg0)).R (w.alloc (.cells #[] 90)) (fun b=>(S b∧b<w.heap.size)∧some b≠qa (some ⟨w.heap.size,0,none⟩)) vs y:=fun vs y _ hR=>((ql tg0)).mono (fun b hb _=>⟨hb,fun e=>by simp[qa] at e;omega⟩) hR
  go_enter Tryz.func92,Tryz.ntmps92
  go_wp2_with (at_builtin;refine qT rfl _ _ 25 rfl i0 (.agg #[.string ByteArray.empty,.int .i64 0,.bool false,.slice none 0 0]) 56 Tryz.underlying25 hi hz0 hz1 hz2 rfl (show 0<4 by decide) rfl mo rfl hsl hup (by omega) (by omega) (by simp) ?_)
  intro A2 c2 w2 hown2 hg2 _
  try simp only[Nat.zero_add,List.nil_append] at hown2
  have e1:=HL.out;subst e1;go_wp2
  go_ret
  exact⟨A2,c2,by simp,hown2,((Below.refl _ w).alloc (Nat.le_refl _) _).grown hg2 (by simp) (fun k hk=>by simp[qa] at hk;omega)⟩
theorem XW {tg:Bool}{T:TypeId}{S:Nat→Prop}{w:World}{A:Option Addr}{n c:Nat}{xs:List Tag}(h:Sl tg T Bz w S A n c xs) (hn:n≤100000000):
  Calls Tryz.prog 93 #[.slice A n c] w (xG 94 Bz w (fun b=>S b∧b<w.heap.size) xs):=by
 obtain⟨i0,hi,hz0,hz1,hz2⟩:=info_parts Tryz.CB;have HL:=zh h.len;have hq:=fun W:World=>Lib.run_eql_slice_nil (P:=Tryz.prog) W 26 94 A n c 0 0 Tryz.underlying26
 cases A with
 |none=>
  go_enter Tryz.func93,Tryz.ntmps93
  go_wp2
  go_ret
  have hn0:n=0:=by
   rcases Nat.eq_zero_or_pos n with h0|h0
   ·exact h0
   obtain⟨_,_,e,_⟩:=h.2.2.2 h0;cases e
  subst hn0;obtain rfl:xs=[]:=List.eq_nil_of_length_eq_zero HL.out;exact⟨none,0,rfl,Be.BA,Below.refl _ _⟩
 |some ad=>
  have mo:Be 94 Bz (w.alloc (.cells #[] 94)) w.heap.size (fun b=>S b∧b<w.heap.size) (some ⟨w.heap.size,0,none⟩) 0 0 []:=Be.lit [] [] 0 (Nat.le_refl _) (by omega) (by simp) rfl (fun k y hy=>by simp at hy);have hsl:=(h.Bi).frame (Agree.alloc _ w (.cells #[] 94)) (by simp);rcases Nat.eq_zero_or_pos n with h0|h0
  ·subst h0;obtain rfl:xs=[]:=List.eq_nil_of_length_eq_zero HL.out
   go_enter Tryz.func93,Tryz.ntmps93
   go_wp2_with (at_builtin;refine qQ rfl _ _ 26 rfl i0 (.agg #[.string ByteArray.empty,.string ByteArray.empty]) 32 Tryz.underlying26 hi hz0 hz1 hz2 rfl (show 0<2 by decide) rfl mo ad 0 _ [] [] rfl (by simp) (fun j u hj=>by simp at hj) rfl (fun k y hy=>by simp at hy) (fun u hu=>by simp at hu) (by omega) (by omega) (by simp) ?_)
   intro A2 c2 w2 hown2 hg2 _;go_wp2
   go_ret
   exact⟨A2,c2,rfl,hown2,((Below.refl _ w).alloc (Nat.le_refl _) _).grown hg2 (by simp) (fun k hk=>by simp[qa] at hk;omega)⟩
  obtain⟨b,off,e,_⟩:=h.2.2.2 h0;injection e with e
  subst e;have hup:∀vs y,y∈xs→(Bz).R (w.alloc (.cells #[] 94)) (fun b=>S b∧b<w.heap.size) vs y→(Bz).R (w.alloc (.cells #[] 94)) (fun b=>(S b∧b<w.heap.size)∧some b≠qa (some ⟨w.heap.size,0,none⟩)) vs y:=fun vs y _ hR=>(Bz).mono (fun b hb _=>⟨hb,fun e=>by simp[qa] at e;omega⟩) hR
  go_enter Tryz.func93,Tryz.ntmps93
  go_wp2_with (at_builtin;refine qT rfl _ _ 26 rfl i0 (.agg #[.string ByteArray.empty,.string ByteArray.empty]) 32 Tryz.underlying26 hi hz0 hz1 hz2 rfl (show 0<2 by decide) rfl mo rfl hsl hup (by omega) (by omega) (by simp) ?_)
  intro A2 c2 w2 hown2 hg2 _
  try simp only[Nat.zero_add,List.nil_append] at hown2
  have e1:=HL.out;subst e1;go_wp2
  go_ret
  exact⟨A2,c2,by simp,hown2,((Below.refl _ w).alloc (Nat.le_refl _) _).grown hg2 (by simp) (fun k hk=>by simp[qa] at hk;omega)⟩
end Go.Proofs.YtipecejghioicaaGreat
set_option maxHeartbeats 400000
namespace Go.Proofs.YtipecejghioicaaGreat
open Go.RowKit Go.Silo
theorem Qd {tg:Bool}{T:TypeId}{S:Nat→Prop}{w:World}{A:Option Addr}{n c:Nat}{xs:List (Slot)}(h:Sl tg T qz w S A n c xs) (hn:n≤100000000):
  Calls Tryz.prog 94 #[.slice A n c] w (zP 88 qz w xs):=by
 obtain⟨i0,hi,hz0,hz1,hz2⟩:=info_parts Tryz.CP;have HL:=zh h.len;have hq:=fun W:World=>Lib.run_eql_slice_nil (P:=Tryz.prog) W 59 88 A n c 0 0 Tryz.underlying59
 cases A with
 |none=>
  go_enter Tryz.func94,Tryz.ntmps94
  go_wp2
  go_ret
  have hn0:n=0:=by
   rcases Nat.eq_zero_or_pos n with h0|h0
   ·exact h0
   obtain⟨_,_,e,_⟩:=h.2.2.2 h0;cases e
  subst hn0;obtain rfl:xs=[]:=List.eq_nil_of_length_eq_zero HL.out;exact⟨none,0,rfl,Be.BA,Below.refl _ _⟩
 |some ad=>
  have mo:Be 88 qz (w.alloc (.cells #[] 88)) w.heap.size (fun b=>w.heap.size≤b) (some ⟨w.heap.size,0,none⟩) 0 0 []:=Be.lit [] [] 0 (Nat.le_refl _) (by omega) (by simp) rfl (fun k y hy=>by simp at hy);have hsl:=(h.Bi).frame (Agree.alloc _ w (.cells #[] 88)) (by simp);rcases Nat.eq_zero_or_pos n with h0|h0
  ·subst h0;obtain rfl:xs=[]:=List.eq_nil_of_length_eq_zero HL.out
   go_enter Tryz.func94,Tryz.ntmps94
   go_wp2_with (at_builtin;refine qQ rfl _ _ 59 rfl i0 (.agg #[.int .i64 0,.int .i64 0]) 16 Tryz.underlying59 hi hz0 hz1 hz2 rfl (by decide) rfl mo ad 0 _ [] [] rfl (by simp) (fun j u hj=>by simp at hj) rfl (fun k y hy=>by simp at hy) (fun u hu=>by simp at hu) (by omega) (by omega) (by simp) ?_)
   intro A2 c2 w2 hown2 hg2 _;go_wp2
   go_ret
   exact⟨A2,c2,rfl,hown2,((Below.refl _ w).alloc (Nat.le_refl _) _).grown hg2 (by simp) (fun k hk=>by simp[qa] at hk;omega)⟩
  obtain⟨b,off,e,_⟩:=h.2.2.2 h0;injection e with e
  subst e
  go_enter Tryz.func94,Tryz.ntmps94
  go_wp2_with (at_builtin;refine qT rfl _ _ 59 rfl i0 (.agg #[.int .i64 0,.int .i64 0]) 16 Tryz.underlying59 hi hz0 hz1 hz2 rfl (by decide) rfl mo rfl hsl (fun vs y _ hR=>hR) (by omega) (by omega) (by simp) ?_)
  intro A2 c2 w2 hown2 hg2 _
  try simp only[Nat.zero_add,List.nil_append] at hown2
  have e1:=HL.out;subst e1;go_wp2
  go_ret
  exact⟨A2,c2,by simp,hown2,((Below.refl _ w).alloc (Nat.le_refl _) _).grown hg2 (by simp) (fun k hk=>by simp[qa] at hk;omega)⟩
end Go.Proofs.YtipecejghioicaaGreat
namespace Go.Silo
open Go Go.RowKit
inductive Db (V:World) (R:Nat→Value→World→Prop) (s1:Nat) (R1:Value→World→World→Prop):List (Nat×Value)→World→Prop
 |pre {us:List (Nat×Value)}{W:World}:Below V.heap.size V W→(∀i v,(i,v)∈us→R i v W)→s1∉us.map Prod.fst→Db V R s1 R1 us W
 |mid {us:List (Nat×Value)}{W0 W:World}{v:Value}:Below V.heap.size V W0→(∀i v,(i,v)∈us→R i v W0)→R1 v W0 W→s1∉us.map Prod.fst→Db V R s1 R1 (us++[(s1,v)]) W
section
variable {V W W':World}{R:Nat→Value→World→Prop}{s1:Nat}{R1:Value→World→World→Prop}{us:List (Nat×Value)}
theorem Db.init:Db V R s1 R1 [] V.drew:=.pre (Below.refl _ _).drew (fun _ _ h=>by cases h) (by simp)
theorem Db.early (h:Db V R s1 R1 us W) (hn:s1∉us.map Prod.fst):Below V.heap.size V W∧(∀i v,(i,v)∈us→R i v W):=by
 cases h with
 |pre a b c=>exact⟨a,b⟩
 |mid _ _ _ _=>exact absurd (by simp) hn
theorem Db.snoc (h:Db V R s1 R1 us W) {i:Nat}{x:Value}(h1:i≠s1) (hn:s1∉us.map Prod.fst) (hb:Below W.heap.size W W') (hs:∀j v,R j v W→R j v W') (hx:R i x W'):Db V R s1 R1 (us++[(i,x)]) W':=by
 obtain⟨hB,hR⟩:=h.early hn;refine .pre (hB.trans (hb.mono hB.size)) (fun j v hj=>?_) ?_
 ·rcases List.mem_append.1 hj with hj|hj
  ·exact hs j v (hR j v hj)
  simp at hj;obtain⟨rfl,rfl⟩:=hj;exact hx
 rw[List.map_append,List.mem_append];rintro(h|h)
 ·exact hn h
 simp at h;exact h1 h.symm
theorem Db.call (h:Db V R s1 R1 us W) {x:Value}(hn:s1∉us.map Prod.fst) (hx:R1 x W W'):Db V R s1 R1 (us++[(s1,x)]) W':=.mid (h.early hn).1 (h.early hn).2 hx hn
theorem Db.last (h:Db V R s1 R1 us W) (h1:s1∈us.map Prod.fst):∃gL W0 v,us=gL++[(s1,v)]∧Below V.heap.size V W0∧R1 v W0 W∧s1∉gL.map Prod.fst:=by
 cases h with
 |pre _ _ h=>exact absurd h1 h
 |mid a _ b c=>exact⟨_,_,_,rfl,a,b,c⟩
theorem Db.kept {r:Option Nat}(h:Db V R s1 R1 us W) (hR:∀v W0 W,R1 v W0 W→Cq r W0 W) {g:Nat}(hg:g<V.heap.size) (h0:some g≠r):W.heap[g]?=V.heap[g]?:=by
 cases h with
 |pre a _ _=>exact a.block g hg
 |mid a _ b _=>exact((hR _ _ _ b).agree g h0 (Nat.lt_of_lt_of_le hg a.size)).trans (a.block g hg)
end
theorem Be.lower {α:Type}{T:TypeId}{E:Enc α}{w:World}{base base':Nat}{S:Nat→Prop}{A:Option Addr}{n c:Nat}{xs:List α}(h:Be T E w base S A n c xs) (hb:base'≤base):Be T E w base' S A n c xs:=by
 obtain⟨cs,⟨h1,h2⟩,h3,h4⟩:=h;refine⟨cs,⟨h1,?_⟩,h3,h4⟩;rcases h2 with h2|⟨g,cap,cur,e,hg,rest⟩
 ·exact .inl h2
 exact .inr ⟨g,cap,cur,e,Nat.le_trans hb hg,rest⟩
theorem JO {α:Type}{l:List α}{j:Nat}{d:α}(h:j<l.length):l.getD j d∈l:=by
 rw[List.getD_eq_getElem?_getD,List.getElem?_eq_getElem h];exact List.getElem_mem h
end Go.Silo
namespace Go.Proofs.YtipecejghioicaaGreat
open Go.RowKit Go.Silo
theorem QI:zd ByteArray.empty:=by unfold zd;simp
def RCm (ln gn:Int) (xs:List Slot) (V:World) (i:Nat) (v:Value) (W:World):Prop:=
 (i=6→∃g,v=.slice (some ⟨g,0,none⟩) 2 2∧V.heap.size≤g∧W.heap[g]?=some (.cells #[.int .i64 ln,.int .i64 gn] 3 (0,0)))∧
 (i=9→∃A c,v=.slice A xs.length c∧Sl true 88 qz W (fun q=>V.heap.size≤q) A xs.length c xs)
theorem RCm.all {ln gn:Int}{xs:List Slot}{V W W':World}(hb:Below W.heap.size W W') (j:Nat) (v:Value) (h:RCm ln gn xs V j v W):RCm ln gn xs V j v W':=
 ⟨fun hj=>by obtain⟨g,a,b,c⟩:=h.1 hj;exact⟨g,a,b,zb hb c⟩,fun hj=>by obtain⟨A,c,e,t⟩:=h.2 hj;exact⟨A,c,e,t.all hb⟩⟩
def RTh (kd ln:Int) (dg:ByteArray) (xs:List Int) (V:World) (i:Nat) (v:Value) (W:World):Prop:=
 (i=8→∃A c,v=.slice A xs.length c∧Sl true 3 Bd W (fun q=>V.heap.size≤q) A xs.length c xs)∧
 (i=9→∃A c,v=.agg #[.int .i64 kd,.int .i64 ln,.string ⟨#[]⟩,.string dg,.slice A xs.length c,.slice none 0 0]∧Sl true 3 Bd W (fun q=>V.heap.size≤q) A xs.length c xs)∧
 (i=10→∃g A c,v=.slice (some ⟨g,0,none⟩) 1 1∧V.heap.size≤g∧W.heap[g]?=some (.cells #[.int .i64 kd,.int .i64 ln,.string ⟨#[]⟩,.string dg,.slice A xs.length c,.slice none 0 0] 61 (0,0))∧Sl true 3 Bd W (fun q=>V.heap.size≤q) A xs.length c xs)
theorem RTh.all {kd ln:Int}{dg:ByteArray}{xs:List Int}{V W W':World}(hb:Below W.heap.size W W') (j:Nat) (v:Value) (h:RTh kd ln dg xs V j v W):RTh kd ln dg xs V j v W':=
 ⟨fun hj=>by obtain⟨A,c,e,t⟩:=h.1 hj;exact⟨A,c,e,t.all hb⟩,fun hj=>by obtain⟨A,c,e,t⟩:=h.2.1 hj;exact⟨A,c,e,t.all hb⟩,fun hj=>by obtain⟨g,A,c,e,hg,r,t⟩:=h.2.2 hj;exact⟨g,A,c,e,hg,zb hb r,t.all hb⟩⟩
end Go.Proofs.YtipecejghioicaaGreat
