/- Slices.Clone at Stripe, Entry, Tag; chains of memory steps; elements that are marked. -/
import Derived.Test.YtipecejghioicaaGreatY1p
import Derived.Test.YtipecejghioicaaGreatZcp
import Derived.Test.YtipecejghioicaaGreatR4p
import Derived.Test.YtipecejghioicaaGreatB4p
import Derived.Test.YtipecejghioicaaGreatDatap
set_option maxHeartbeats 800000
set_option maxRecDepth 100000
namespace Go.Silo
open Go Go.RowKit
def Cw (mem:List Nat) (P:List Value→World→Prop) (us:List (Nat×Value)) (W:World):Prop:=us.map Prod.fst=mem.take us.length∧us.length≤mem.length∧P (us.map Prod.snd) W
section
variable {mem:List Nat}{P:List Value→World→Prop}{us:List (Nat×Value)}{W W':World}
theorem Cw.init (h:P [] W):Cw mem P [] W:=⟨by simp,by simp,h⟩
theorem Cw.short (h:Cw mem P us W) {j c:Nat}(hj:mem[j]?=some c) (hc:c∉us.map Prod.fst):us.length≤j:=by
 rcases Nat.lt_or_ge j us.length with h1|h1
 ·exact absurd (by rw[h.1];exact List.mem_iff_getElem?.2 ⟨j,by rw[List.getElem?_take_of_lt h1];exact hj⟩) hc
 exact h1
theorem Cw.long (hn:mem.Nodup) (h:Cw mem P us W) {j c:Nat}(hj:mem[j]?=some c) (hc:c∈us.map Prod.fst):j<us.length:=by
 rw[h.1] at hc;obtain⟨i,hi⟩:=List.mem_iff_getElem?.1 hc;have hi2:i<us.length:=by have:=(List.getElem?_eq_some_iff.1 hi).1;rw[List.length_take] at this;omega
 rw[List.getElem?_take_of_lt hi2] at hi;have h1:=(List.getElem?_eq_some_iff.1 hi).1;have h2:=(List.getElem?_eq_some_iff.1 hj).1;have:=(List.getElem_inj (i:=i) (j:=j) (h₀:=h1) (h₁:=h2) hn).1 (((List.getElem?_eq_some_iff.1 hi).2).trans (List.getElem?_eq_some_iff.1 hj).2.symm);omega
theorem Cw.snoc (h:Cw mem P us W) {j i:Nat}{x:Value}(hl:us.length=j) (hi:mem[j]?=some i) (hx:P (us.map Prod.snd++[x]) W'):Cw mem P (us++[(i,x)]) W':=by
 have hj:=(List.getElem?_eq_some_iff.1 hi).1;refine⟨?_,by rw[List.length_append,hl];exact hj,by rw[List.map_append];exact hx⟩;rw[List.map_append,h.1,List.length_append,hl,List.length_singleton,List.take_add_one,hi];rfl
theorem Cw.DX {m0:Nat}(h:Cw (m0::mem) P us W) (hl:us.length=1):∃a,us=[(m0,a)]∧P [a] W:=by
 obtain⟨p,rfl⟩:∃p,us=[p]:=List.length_eq_one_iff.1 hl;obtain⟨i,v⟩:=p;have e:=h.1;simp at e;subst e;exact⟨v,rfl,h.2.2⟩
theorem len2 {α:Type}{l:List α}(h:l.length=2):∃a b,l=[a,b]:=by
 match l,h with
 |[a,b],_=>exact⟨a,b,rfl⟩
theorem len3 {α:Type}{l:List α}(h:l.length=3):∃a b c,l=[a,b,c]:=by
 match l,h with
 |[a,b,c],_=>exact⟨a,b,c,rfl⟩
theorem len4 {α:Type}{l:List α}(h:l.length=4):∃a b c d,l=[a,b,c,d]:=by
 match l,h with
 |[a,b,c,d],_=>exact⟨a,b,c,d,rfl⟩
theorem len5 {α:Type}{l:List α}(h:l.length=5):∃a b c d e,l=[a,b,c,d,e]:=by
 match l,h with
 |[a,b,c,d,e],_=>exact⟨a,b,c,d,e,rfl⟩
theorem len6 {α:Type}{l:List α}(h:l.length=6):∃a b c d e f,l=[a,b,c,d,e,f]:=by
 match l,h with
 |[a,b,c,d,e,f],_=>exact⟨a,b,c,d,e,f,rfl⟩
theorem Cw.DY {m0 m1:Nat}(h:Cw (m0::m1::mem) P us W) (hl:us.length=2):∃a b,us=[(m0,a),(m1,b)]∧P [a,b] W:=by
 obtain⟨⟨i,v⟩,⟨i2,v2⟩,rfl⟩:=len2 hl;have e:=h.1;simp at e;obtain⟨rfl,rfl⟩:=e;exact⟨v,v2,rfl,h.2.2⟩
theorem Cw.vals3 {m0 m1 m2:Nat}(h:Cw (m0::m1::m2::mem) P us W) (hl:us.length=3):∃a b c,us=[(m0,a),(m1,b),(m2,c)]∧P [a,b,c] W:=by
 obtain⟨⟨i,v⟩,⟨i2,v2⟩,⟨i3,v3⟩,rfl⟩:=len3 hl;have e:=h.1;simp at e;obtain⟨rfl,rfl,rfl⟩:=e;exact⟨v,v2,v3,rfl,h.2.2⟩
theorem Cw.vals4 {m0 m1 m2 m3:Nat}(h:Cw (m0::m1::m2::m3::mem) P us W) (hl:us.length=4):∃a b c d,us=[(m0,a),(m1,b),(m2,c),(m3,d)]∧P [a,b,c,d] W:=by
 obtain⟨⟨i,v⟩,⟨i2,v2⟩,⟨i3,v3⟩,⟨i4,v4⟩,rfl⟩:=len4 hl;have e:=h.1;simp at e;obtain⟨rfl,rfl,rfl,rfl⟩:=e;exact⟨v,v2,v3,v4,rfl,h.2.2⟩
theorem Cw.vals5 {m0 m1 m2 m3 m4:Nat}(h:Cw (m0::m1::m2::m3::m4::mem) P us W) (hl:us.length=5):∃a b c d e,us=[(m0,a),(m1,b),(m2,c),(m3,d),(m4,e)]∧P [a,b,c,d,e] W:=by
 obtain⟨⟨i,v⟩,⟨i2,v2⟩,⟨i3,v3⟩,⟨i4,v4⟩,⟨i5,v5⟩,rfl⟩:=len5 hl;have e:=h.1;simp at e;obtain⟨rfl,rfl,rfl,rfl,rfl⟩:=e;exact⟨v,v2,v3,v4,v5,rfl,h.2.2⟩
theorem Cw.vals6 {m0 m1 m2 m3 m4 m5:Nat}(h:Cw (m0::m1::m2::m3::m4::m5::mem) P us W) (hl:us.length=6):∃a b c d e f,us=[(m0,a),(m1,b),(m2,c),(m3,d),(m4,e),(m5,f)]∧P [a,b,c,d,e,f] W:=by
 obtain⟨⟨i,v⟩,⟨i2,v2⟩,⟨i3,v3⟩,⟨i4,v4⟩,⟨i5,v5⟩,⟨i6,v6⟩,rfl⟩:=len6 hl;have e:=h.1;simp at e;obtain⟨rfl,rfl,rfl,rfl,rfl,rfl⟩:=e;exact⟨v,v2,v3,v4,v5,v6,rfl,h.2.2⟩
end
def ke {α:Type}(N:Nat) (E F:Enc α) (hsz:F.sz=E.sz):Enc (α×Bool) where
 sz:=E.sz
 R w S vs x:=match x.2 with|true=>E.R w (fun b=>S b∧N≤b) vs x.1|false=>F.R w S vs x.1
 len {w S vs x} h:=by
  obtain⟨x,m⟩:=x
  cases m with
  |true=>exact E.len h
  |false=>rw[←hsz];exact F.len h
 one {w S vs x} h:=by
  obtain⟨x,m⟩:=x
  cases m with
  |true=>exact E.one h
  |false=>exact F.one h
 mono {w S S' vs x} hS h:=by
  obtain⟨x,m⟩:=x
  cases m with
  |true=>exact E.mono (fun b hb hlt=>⟨hS b hb.1 hlt,hb.2⟩) h
  |false=>exact F.mono hS h
 frame {w w' S vs x} hA hs h:=by
  obtain⟨x,m⟩:=x
  cases m with
  |true=>exact E.frame (hA.mono (fun b hb _=>hb.1)) hs h
  |false=>exact F.frame hA hs h
def zP {α:Type}(k:Nat) (xs:List α):List (α×Bool):=(xs.take k).map (fun x=>(x,true))++(xs.drop k).map (fun x=>(x,false))
theorem xC {α:Type}{k:Nat}{xs:List α}:(zP k xs).length=xs.length:=by
 unfold zP;rw[List.length_append,List.length_map,List.length_map,←List.length_append,List.take_append_drop]
theorem Xt {α:Type}{xs:List α}:zP 0 xs=xs.map (fun x=>(x,false)):=by simp[zP]
theorem Ke {α:Type}{k:Nat}{xs:List α}{d:α}(h:k<xs.length):(zP k xs)[k]?=some (xs.getD k d,false):=by
 unfold zP;rw[List.getElem?_append_right (by simp;omega)];simp only[List.length_map,List.length_take,Nat.min_eq_left (Nat.le_of_lt h),Nat.sub_self,List.getElem?_map,List.getElem?_drop,Nat.add_zero,List.getElem?_eq_getElem h,Option.map_some,List.getD_eq_getElem?_getD,Option.getD_some]
theorem QR {α:Type}{k:Nat}{xs:List α}{d:α}(h:k<xs.length):(zP k xs).set k (xs.getD k d,true)=zP (k+1) xs:=by
 refine List.ext_getElem? (fun i=>?_);rw[List.getElem?_set,xC];unfold zP;rcases Nat.lt_trichotomy k i with h1|h1|h1
 ·rw[if_neg (by omega),List.getElem?_append_right (by simp;omega),List.getElem?_append_right (by simp;omega)];simp only[List.length_map,List.length_take,List.getElem?_map,List.getElem?_drop];rw[Nat.min_eq_left (by omega:k≤xs.length),Nat.min_eq_left (by omega:k+1≤xs.length),show k+(i - k)=i by omega,show k+1+(i - (k+1))=i by omega]
 ·subst h1;rw[if_pos rfl,if_pos h,List.getElem?_append_left (by simp;omega)];simp only[List.getElem?_map,List.getElem?_take_of_lt (Nat.lt_succ_self k),List.getElem?_eq_getElem h,Option.map_some,List.getD_eq_getElem?_getD,Option.getD_some]
 rw[if_neg (by omega),List.getElem?_append_left (by simp;omega),List.getElem?_append_left (by simp;omega)];simp only[List.getElem?_map,List.getElem?_take_of_lt h1,List.getElem?_take_of_lt (show i<k+1 by omega)]
section
variable {α:Type}{T:TypeId}{E F:Enc α}{hsz:F.sz=E.sz}{w:World}{S:Nat→Prop}{A:Option Addr}{n c base N:Nat}{xs:List α}
theorem Bo.EH (h:Bo T F w base S A n c xs):Bo T (ke N E F hsz) w base S A n c (zP 0 xs):=by
 obtain⟨cs,ho,hl,hk⟩:=h;rw[hsz] at ho hk;refine⟨cs,ho,by rw[xC];exact hl,fun k x hx=>?_⟩;rw[Xt,List.getElem?_map] at hx
 cases hq:xs[k]? with
 |none=>rw[hq] at hx;cases hx
 |some y=>
  rw[hq] at hx;injection hx with hx
  subst hx;exact hk k y hq
theorem Bo.DZ (h:Bo T (ke N E F hsz) w base S A n c (zP n xs)):Bo T E w base (fun b=>S b∧N≤b) A n c xs:=by
 obtain⟨cs,ho,hl,hk⟩:=h;rw[xC] at hl;refine⟨cs,ho,hl,fun k x hx=>?_⟩;have hkn:k<n:=by have:=(List.getElem?_eq_some_iff.1 hx).1;omega
 have:=hk k (x,true) (by
  unfold zP
  rw[List.getElem?_append_left (by simp;omega),List.getElem?_map,List.getElem?_take_of_lt hkn,hx];rfl)
 exact E.mono (fun b hb _=>⟨⟨hb.1.1,hb.2⟩,hb.1.2⟩) (show E.R w (fun b=>(S b∧some b≠qd A)∧N≤b) _ x from this)
end
end Go.Silo
namespace Go.Proofs.YtipecejghioicaaGreat
open Go.RowKit Go.Silo
theorem Zj {tg tg0:Bool}{T:TypeId}{S:Nat→Prop}{w:World}{A:Option Addr}{n c:Nat}{xs:List Bc}(h:Sl tg T (qc tg0) w S A n c xs) (hn:n≤100000000):
  Calls Tryz.prog 91 #[.slice A n c] w (ja 86 (qc tg0) w (fun b=>S b∧b<w.heap.size) xs):=by
 obtain⟨i0,hi,hz0,hz1,hz2⟩:=info_parts Tryz.BV;have HL:=zh h.len;have hq:=fun W:World=>Lib.run_eql_slice_nil (P:=Tryz.prog) W 24 86 A n c 0 0 Tryz.underlying24
 cases A with
 |none=>
  go_enter Tryz.func91,Tryz.ntmps91
  go_wp2
  go_ret
  have hn0:n=0:=by
   rcases Nat.eq_zero_or_pos n with h0|h0
   ·exact h0
   obtain⟨_,_,e,_⟩:=h.2.2.2 h0;cases e
  subst hn0;obtain rfl:xs=[]:=List.eq_nil_of_length_eq_zero HL.out;exact⟨none,0,rfl,Bo.Bz,Below.refl _ _⟩
 |some ad=>
  have pV:Bo 86 (qc tg0) (w.alloc (.cells #[] 86)) w.heap.size (fun b=>S b∧b<w.heap.size) (some ⟨w.heap.size,0,none⟩) 0 0 []:=Bo.lit [] [] 0 (Nat.le_refl _) (by omega) (by simp) rfl (fun k y hy=>by simp at hy);have hsl:=(h.Bd).frame (Agree.alloc _ w (.cells #[] 86)) (by simp);rcases Nat.eq_zero_or_pos n with h0|h0
  ·subst h0;obtain rfl:xs=[]:=List.eq_nil_of_length_eq_zero HL.out
   go_enter Tryz.func91,Tryz.ntmps91
   go_wp2_with (at_builtin;refine zy rfl _ _ 24 rfl i0 (.agg #[.int .i64 0,.int .i64 0,.int .i64 0,.slice none 0 0]) 48 Tryz.underlying24 hi hz0 hz1 hz2 rfl (show 0<4 by decide) rfl pV ad 0 _ [] [] rfl (by simp) (fun j u hj=>by simp at hj) rfl (fun k y hy=>by simp at hy) (fun u hu=>by simp at hu) (by omega) (by omega) (by simp) ?_)
   intro A2 c2 w2 hown2 hg2 _;go_wp2
   go_ret
   exact⟨A2,c2,rfl,hown2,((Below.refl _ w).alloc (Nat.le_refl _) _).grown hg2 (by simp) (fun k hk=>by simp[qd] at hk;omega)⟩
  obtain⟨b,off,e,_⟩:=h.2.2.2 h0;injection e with e
  subst e;have hup:∀vs y,y∈xs→((qc tg0)).R (w.alloc (.cells #[] 86)) (fun b=>S b∧b<w.heap.size) vs y→((qc tg0)).R (w.alloc (.cells #[] 86)) (fun b=>(S b∧b<w.heap.size)∧some b≠qd (some ⟨w.heap.size,0,none⟩)) vs y:=fun vs y _ hR=>((qc tg0)).mono (fun b hb _=>⟨hb,fun e=>by simp[qd] at e;omega⟩) hR
  go_enter Tryz.func91,Tryz.ntmps91
  go_wp2_with (at_builtin;refine qB rfl _ _ 24 rfl i0 (.agg #[.int .i64 0,.int .i64 0,.int .i64 0,.slice none 0 0]) 48 Tryz.underlying24 hi hz0 hz1 hz2 rfl (show 0<4 by decide) rfl pV rfl hsl hup (by omega) (by omega) (by simp) ?_)
  intro A2 c2 w2 hown2 hg2 _
  try simp only[Nat.zero_add,List.nil_append] at hown2
  have e1:=HL.out;subst e1;go_wp2
  go_ret
  exact⟨A2,c2,by simp,hown2,((Below.refl _ w).alloc (Nat.le_refl _) _).grown hg2 (by simp) (fun k hk=>by simp[qd] at hk;omega)⟩
theorem ZS {tg tg0:Bool}{T:TypeId}{S:Nat→Prop}{w:World}{A:Option Addr}{n c:Nat}{xs:List Entry}(h:Sl tg T (qj tg0) w S A n c xs) (hn:n≤100000000):
  Calls Tryz.prog 92 #[.slice A n c] w (ja 90 (qj tg0) w (fun b=>S b∧b<w.heap.size) xs):=by
 obtain⟨i0,hi,hz0,hz1,hz2⟩:=info_parts Tryz.Bt;have HL:=zh h.len;have hq:=fun W:World=>Lib.run_eql_slice_nil (P:=Tryz.prog) W 25 90 A n c 0 0 Tryz.underlying25
 cases A with
 |none=>
  go_enter Tryz.func92,Tryz.ntmps92
  go_wp2
  go_ret
  have hn0:n=0:=by
   rcases Nat.eq_zero_or_pos n with h0|h0
   ·exact h0
   obtain⟨_,_,e,_⟩:=h.2.2.2 h0;cases e
  subst hn0;obtain rfl:xs=[]:=List.eq_nil_of_length_eq_zero HL.out;exact⟨none,0,rfl,Bo.Bz,Below.refl _ _⟩
 |some ad=>
  have pV:Bo 90 (qj tg0) (w.alloc (.cells #[] 90)) w.heap.size (fun b=>S b∧b<w.heap.size) (some ⟨w.heap.size,0,none⟩) 0 0 []:=Bo.lit [] [] 0 (Nat.le_refl _) (by omega) (by simp) rfl (fun k y hy=>by simp at hy);have hsl:=(h.Bd).frame (Agree.alloc _ w (.cells #[] 90)) (by simp);rcases Nat.eq_zero_or_pos n with h0|h0
  ·subst h0;obtain rfl:xs=[]:=List.eq_nil_of_length_eq_zero HL.out
   go_enter Tryz.func92,Tryz.ntmps92
   go_wp2_with (at_builtin;refine zy rfl _ _ 25 rfl i0 (.agg #[.string ByteArray.empty,.int .i64 0,.bool false,.slice none 0 0]) 56 Tryz.underlying25 hi hz0 hz1 hz2 rfl (show 0<4 by decide) rfl pV ad 0 _ [] [] rfl (by simp) (fun j u hj=>by simp at hj) rfl (fun k y hy=>by simp at hy) (fun u hu=>by simp at hu) (by omega) (by omega) (by simp) ?_)
   intro A2 c2 w2 hown2 hg2 _;go_wp2
   go_ret
   exact⟨A2,c2,rfl,hown2,((Below.refl _ w).alloc (Nat.le_refl _) _).grown hg2 (by simp) (fun k hk=>by simp[qd] at hk;omega)⟩
  obtain⟨b,off,e,_⟩:=h.2.2.2 h0;injection e with e
  subst e;have hup:∀vs y,y∈xs→((qj tg0)).R (w.alloc (.cells #[] 90)) (fun b=>S b∧b<w.heap.size) vs y→((qj tg0)).R (w.alloc (.cells #[] 90)) (fun b=>(S b∧b<w.heap.size)∧some b≠qd (some ⟨w.heap.size,0,none⟩)) vs y:=fun vs y _ hR=>((qj tg0)).mono (fun b hb _=>⟨hb,fun e=>by simp[qd] at e;omega⟩) hR
  go_enter Tryz.func92,Tryz.ntmps92
  go_wp2_with (at_builtin;refine qB rfl _ _ 25 rfl i0 (.agg #[.string ByteArray.empty,.int .i64 0,.bool false,.slice none 0 0]) 56 Tryz.underlying25 hi hz0 hz1 hz2 rfl (show 0<4 by decide) rfl pV rfl hsl hup (by omega) (by omega) (by simp) ?_)
  intro A2 c2 w2 hown2 hg2 _
  try simp only[Nat.zero_add,List.nil_append] at hown2
  have e1:=HL.out;subst e1;go_wp2
  go_ret
  exact⟨A2,c2,by simp,hown2,((Below.refl _ w).alloc (Nat.le_refl _) _).grown hg2 (by simp) (fun k hk=>by simp[qd] at hk;omega)⟩
theorem Jl {tg:Bool}{T:TypeId}{S:Nat→Prop}{w:World}{A:Option Addr}{n c:Nat}{xs:List Tag}(h:Sl tg T Bv w S A n c xs) (hn:n≤100000000):
  Calls Tryz.prog 93 #[.slice A n c] w (ja 94 Bv w (fun b=>S b∧b<w.heap.size) xs):=by
 obtain⟨i0,hi,hz0,hz1,hz2⟩:=info_parts Tryz.BX;have HL:=zh h.len;have hq:=fun W:World=>Lib.run_eql_slice_nil (P:=Tryz.prog) W 26 94 A n c 0 0 Tryz.underlying26
 cases A with
 |none=>
  go_enter Tryz.func93,Tryz.ntmps93
  go_wp2
  go_ret
  have hn0:n=0:=by
   rcases Nat.eq_zero_or_pos n with h0|h0
   ·exact h0
   obtain⟨_,_,e,_⟩:=h.2.2.2 h0;cases e
  subst hn0;obtain rfl:xs=[]:=List.eq_nil_of_length_eq_zero HL.out;exact⟨none,0,rfl,Bo.Bz,Below.refl _ _⟩
 |some ad=>
  have pV:Bo 94 Bv (w.alloc (.cells #[] 94)) w.heap.size (fun b=>S b∧b<w.heap.size) (some ⟨w.heap.size,0,none⟩) 0 0 []:=Bo.lit [] [] 0 (Nat.le_refl _) (by omega) (by simp) rfl (fun k y hy=>by simp at hy);have hsl:=(h.Bd).frame (Agree.alloc _ w (.cells #[] 94)) (by simp);rcases Nat.eq_zero_or_pos n with h0|h0
  ·subst h0;obtain rfl:xs=[]:=List.eq_nil_of_length_eq_zero HL.out
   go_enter Tryz.func93,Tryz.ntmps93
   go_wp2_with (at_builtin;refine zy rfl _ _ 26 rfl i0 (.agg #[.string ByteArray.empty,.string ByteArray.empty]) 32 Tryz.underlying26 hi hz0 hz1 hz2 rfl (show 0<2 by decide) rfl pV ad 0 _ [] [] rfl (by simp) (fun j u hj=>by simp at hj) rfl (fun k y hy=>by simp at hy) (fun u hu=>by simp at hu) (by omega) (by omega) (by simp) ?_)
   intro A2 c2 w2 hown2 hg2 _;go_wp2
   go_ret
   exact⟨A2,c2,rfl,hown2,((Below.refl _ w).alloc (Nat.le_refl _) _).grown hg2 (by simp) (fun k hk=>by simp[qd] at hk;omega)⟩
  obtain⟨b,off,e,_⟩:=h.2.2.2 h0;injection e with e
  subst e;have hup:∀vs y,y∈xs→(Bv).R (w.alloc (.cells #[] 94)) (fun b=>S b∧b<w.heap.size) vs y→(Bv).R (w.alloc (.cells #[] 94)) (fun b=>(S b∧b<w.heap.size)∧some b≠qd (some ⟨w.heap.size,0,none⟩)) vs y:=fun vs y _ hR=>(Bv).mono (fun b hb _=>⟨hb,fun e=>by simp[qd] at e;omega⟩) hR
  go_enter Tryz.func93,Tryz.ntmps93
  go_wp2_with (at_builtin;refine qB rfl _ _ 26 rfl i0 (.agg #[.string ByteArray.empty,.string ByteArray.empty]) 32 Tryz.underlying26 hi hz0 hz1 hz2 rfl (show 0<2 by decide) rfl pV rfl hsl hup (by omega) (by omega) (by simp) ?_)
  intro A2 c2 w2 hown2 hg2 _
  try simp only[Nat.zero_add,List.nil_append] at hown2
  have e1:=HL.out;subst e1;go_wp2
  go_ret
  exact⟨A2,c2,by simp,hown2,((Below.refl _ w).alloc (Nat.le_refl _) _).grown hg2 (by simp) (fun k hk=>by simp[qd] at hk;omega)⟩
end Go.Proofs.YtipecejghioicaaGreat
