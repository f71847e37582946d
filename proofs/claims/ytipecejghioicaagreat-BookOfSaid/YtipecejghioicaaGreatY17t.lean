/- The book of records, one by one: what stays within bounds. -/
import Derived.Test.YtipecejghioicaaGreatY11t
set_option maxHeartbeats 2000000
set_option maxRecDepth 100000
namespace Go.Silo
open Go Go.RowKit
section
variable {α κ:Type}{key:α→κ}{lt:κ→κ→Bool}
theorem KA {β:Type}{l:List β}{p:Nat}{v:β}(h:l[p]?=some v):l.set p v=l:=by
 refine List.ext_getElem? (fun j=>?_);rw[List.getElem?_set]
 split
 ·next e=>subst e;rw[if_pos (List.getElem?_eq_some_iff.1 h).1,h]
 rfl
theorem kF [DecidableEq κ] [Inhabited α] (htr:∀a b c,lt a b=true→lt b c=true→lt a c=true) (hto:∀a b,lt a b=false→a≠b→lt b a=true) {l:List α}{x:α}{p:Nat}{is:Bool}(h:l.Pairwise (fun a b=>lt (key a) (key b)=true))
  (hp:p=(l.takeWhile (fun y=>lt (key y) (key x))).length) (his:is=decide (p<l.length∧key (l.getD p default)=key x)):(qV p is x l).Pairwise (fun a b=>lt (key a) (key b)=true):=by
 have hle:p≤l.length:=by rw[hp];exact(List.takeWhile_prefix _).length_le
 have htk:l.take p=l.takeWhile (fun y=>lt (key y) (key x)):=by
  rw[hp];exact(List.prefix_iff_eq_take.1 (List.takeWhile_prefix _)).symm
 have hlt:∀a∈l.take p,lt (key a) (key x)=true:=fun a ha=>by
  rw[htk] at ha;exact(List.all_eq_true.1 (List.all_takeWhile (p:=fun y=>lt (key y) (key x)) (l:=l))) a ha
 have hhd:∀c,l[p]?=some c→lt (key c) (key x)=false:=fun c hc=>by
  have hdw:l.drop p=l.dropWhile (fun y=>lt (key y) (key x)):=by
   have h1:=List.takeWhile_append_dropWhile (p:=fun y=>lt (key y) (key x)) (l:=l);have h2:=List.take_append_drop p l;rw[htk] at h2;exact List.append_cancel_left (h2.trans h1.symm)
  have hd0:(l.dropWhile (fun y=>lt (key y) (key x))).head?=some c:=by rw[←hdw,List.head?_drop];exact hc
  have hne:l.dropWhile (fun y=>lt (key y) (key x))≠[]:=fun e=>by rw[e] at hd0;cases hd0
  have h3:=List.head_dropWhile_not (fun y=>lt (key y) (key x)) hne
  have h4:(l.dropWhile (fun y=>lt (key y) (key x))).head hne=c:=by
   have:=List.head?_eq_some_head hne;rw[this] at hd0;injection hd0
  rw[h4] at h3;exact h3
 unfold qV
 cases is with
 |true=>
  obtain⟨hpl,hk⟩:=of_decide_eq_true his.symm;simp only[if_true]
  have hm:(l.set p x).map key=l.map key:=by
   rw[List.map_set];refine KA ?_;rw[List.getElem?_map,List.getElem?_eq_getElem hpl];rw[List.getD_eq_getElem?_getD,List.getElem?_eq_getElem hpl] at hk;exact congrArg some hk
  have h2:(l.map key).Pairwise (fun a b=>lt a b=true):=List.pairwise_map.2 h;rw[←hm] at h2;exact List.pairwise_map.1 h2
 |false=>
  simp only[Bool.false_eq_true,if_false];unfold xa;have hsp:=h;rw[←List.take_append_drop p l,List.pairwise_append] at hsp;obtain⟨h1,h2,h3⟩:=hsp
  have hx:∀b∈l.drop p,lt (key x) (key b)=true:=by
   cases hd:l.drop p with
   |nil=>intro b hb;cases hb
   |cons c r=>
    have hc:l[p]?=some c:=(by have:=List.head?_drop (l:=l) (i:=p);rw[hd] at this;exact this.symm);have hpl:p<l.length:=(List.getElem?_eq_some_iff.1 hc).1
    have hck:key c≠key x:=fun e=>by
     have:=of_decide_eq_false his.symm;exact this ⟨hpl,by rw[List.getD_eq_getElem?_getD,hc];exact e⟩
    have hxc:=hto _ _ (hhd c hc) hck;intro b hb;rcases List.mem_cons.1 hb with rfl|hb
    ·exact hxc
    rw[hd] at h2;exact htr _ _ _ hxc ((List.pairwise_cons.1 h2).1 b hb)
  rw[List.pairwise_append];refine⟨h1,?_,fun a ha b hb=>?_⟩
  ·rw[List.singleton_append,List.pairwise_cons];exact⟨hx,h2⟩
  rw[List.singleton_append] at hb;rcases List.mem_cons.1 hb with rfl|hb
  ·exact hlt a ha
  exact h3 a ha b hb
theorem kG {R:α→α→Prop}{l:List α}{p:Nat}(h:l.Pairwise R):(xh p l).Pairwise R:=by
 unfold xh;refine h.sublist ?_;have h2:=List.take_append_drop p l;conv=>rhs;rw[←h2]
 refine List.Sublist.append (List.Sublist.refl _) ?_;rw[show l.drop (p+1)=(l.drop p).drop 1 by rw[List.drop_drop]];exact List.drop_sublist _ _
end
end Go.Silo
namespace Go.Proofs.YtipecejghioicaaGreat
open Go.RowKit Go.Silo
theorem BA {α:Type} [Inhabited α] {R:α→α→Prop}{l:List α}:l.Pairwise R↔∀i j,i<j→j<l.length→R (l.getD i default) (l.getD j default):=by
 rw[List.pairwise_iff_getElem];have e:∀j (hj:j<l.length),l.getD j default=l[j]:=fun j hj=>by rw[List.getD_eq_getElem?_getD,List.getElem?_eq_getElem hj];rfl
 constructor
 ·intro h i j hij hj;rw[e i (by omega),e j hj];exact h i j (by omega) hj hij
 intro h i j hi hj hij;have:=h i j hij hj
 rwa [e i hi,e j hj] at this
theorem Fq (a b c:Int) (h1:decide (a<b)=true) (h2:decide (b<c)=true):decide (a<c)=true:=by simp at *;omega
theorem Fs (a b:Int) (h1:decide (a<b)=false) (h2:a≠b):decide (b<a)=true:=by simp at *;omega
theorem Sorted.EK {b:Book}{r:Bb}(h:Sorted b):Sorted (EK b r):=by
 unfold Proofs.YtipecejghioicaaGreat.EK
 split
 ·exact⟨h.s,h.t,h.g⟩
 split
 ·refine⟨?_,h.t,h.g⟩;have h1:b.Ba.Pairwise (fun x y=>decide (x.id<y.id)=true):=BA.2 (fun i j hij hj=>decide_eq_true (h.s i j hij hj));have h2:=kF (key:=Bc.id) (lt:=fun a b=>decide (a<b)) Fq Fs (x:=⟨r.id,r.list.getD 0 0,r.list.getD 1 0,r.slots⟩) h1 (p:=xA b.Ba r.id) rfl (is:=CB b.Ba r.id) rfl;intro i j hij hj;exact of_decide_eq_true (BA.1 h2 i j hij hj)
 split
 ·refine⟨h.s,?_,h.g⟩;have h1:b.things.Pairwise (fun x y=>qr x.digest y.digest=true):=BA.2 h.t;exact BA.1 (kF (key:=Entry.digest) (lt:=qr) (fun _ _ _=>qZ) (fun _ _=>kP) (x:=⟨r.digest,r.id,decide (r.kind=5),r.list⟩) h1 (p:=zr Entry.digest b.things r.digest) rfl (is:=Ce Entry.digest b.things r.digest) rfl)
 refine⟨h.s,h.t,?_⟩;have h1:b.tags.Pairwise (fun x y=>qr x.name y.name=true):=BA.2 h.g;exact BA.1 (kF (key:=Tag.name) (lt:=qr) (fun _ _ _=>qZ) (fun _ _=>kP) (x:=⟨r.name,r.digest⟩) h1 (p:=zr Tag.name b.tags r.name) rfl (is:=Ce Tag.name b.tags r.name) rfl)
theorem Sorted.Cj {b b':Book}{r:Bb}(h:Sorted b) (he:Cj b r=some b'):Sorted b':=by
 unfold Proofs.YtipecejghioicaaGreat.Cj at he
 split at he
 ·split at he
  ·injection he with he;subst he
   exact⟨(BA (R:=fun(x y:Bc)=>x.id<y.id)).1 (kG ((BA (R:=fun(x y:Bc)=>x.id<y.id)).2 h.s)),h.t,h.g⟩
  cases he
 split at he
 ·split at he
  ·injection he with he;subst he
   exact⟨h.s,(BA (R:=fun(x y:Entry)=>qr x.digest y.digest=true)).1 (kG ((BA (R:=fun(x y:Entry)=>qr x.digest y.digest=true)).2 h.t)),h.g⟩
  cases he
 split at he
 ·split at he
  ·injection he with he;subst he
   exact⟨h.s,h.t,(BA (R:=fun(x y:Tag)=>qr x.name y.name=true)).1 (kG ((BA (R:=fun(x y:Tag)=>qr x.name y.name=true)).2 h.g))⟩
  cases he
 injection he with he;subst he
 exact h.EK
theorem zT {r:Bb}(h:qp r=true):(1≤r.kind∧r.kind≤8)∧(0≤r.id∧r.id≤1073741824)∧(r.kind=2→r.list.length=2)∧(r.list.length≤2000∧r.slots.length≤14):=by
 unfold qp at h;simp only[Bool.and_eq_true,decide_eq_true_eq] at h;obtain⟨hk,hi,_,_,hl,hs,hi0,_,_,hl0,hs0⟩:=h;refine⟨hk,?_,fun h2=>?_,?_,?_⟩
 ·cases hq:qi r.kind 105 with
  |true=>rw[hq] at hi;simp only[Bool.not_true,Bool.false_or] at hi;unfold qg at hi;exact of_decide_eq_true hi
  |false=>rw[hq] at hi0;simp only[Bool.false_or] at hi0;have:=of_decide_eq_true hi0;omega
 ·rw[h2,show qi 2 108=true by decide] at hl;simp only[Bool.not_true,Bool.false_or] at hl;unfold qO at hl;simp only[Bool.and_eq_true] at hl;have:=hl.1;simpa using this
 ·cases hq:qi r.kind 108 with
  |true=>
   rw[hq] at hl;simp only[Bool.not_true,Bool.false_or] at hl;unfold qO at hl;simp only[Bool.and_eq_true] at hl;exact of_decide_eq_true hl.2.1
  |false=>rw[hq] at hl0;simp only[Bool.false_or] at hl0;have:=of_decide_eq_true hl0;omega
 cases hq:qi r.kind 115 with
 |true=>
  rw[hq] at hs;simp only[Bool.not_true,Bool.false_or] at hs;unfold qA at hs;simp only[Bool.and_eq_true] at hs;exact of_decide_eq_true hs.2.1
 |false=>rw[hq] at hs0;simp only[Bool.false_or] at hs0;have:=of_decide_eq_true hs0;omega
theorem Jj {tg:Bool}{S:Nat→Prop}{X:Nat→Option Obj}{β bb:Nat}{w:World}{A0:Option Addr}{n0 c0:Nat}{A1:Option Addr}{n1 c1:Nat}{A2:Option Addr}{n2 c2:Nat}{A4 A5:Option Addr}{n4 c4 n5 c5:Nat}{b:Book}{r:Bb}(mi:OB X β bb A0 n0 c0 A1 n1 c1 A2 n2 c2 b w) (hs:Sorted b)
  (hn:n0≤999999∧n1≤999999∧n2≤999999) (hnx:b.next≤1073741825∧-1≤b.next) (hst:qM r.name∧qM r.digest) (hl:Sl tg 3 Bo w S A4 n4 c4 r.list) (hsl:Sl tg 88 qq w S A5 n5 c5 r.slots) (hS:∀k,S k→k<β) (mX:n4≤100000000∧n5≤100000000) (hok:qp r=true):
  Calls Tryz.prog 63 #[.pointer (some ⟨bb,0,none⟩),.agg #[.int .i64 r.kind,.int .i64 r.id,.string r.name,.string r.digest,.slice A4 n4 c4,.slice A5 n5 c5]] w (Cw X β bb (Cj b r) b w):=by
 obtain⟨⟨k1,k2⟩,hid,hl2,_⟩:=zT hok;by_cases ho:r.kind=3∨r.kind=6∨r.kind=8
 ·exact KL mi hs hn hnx hid hst hl hsl hS mX ho
 have hi:r.kind=1∨(r.kind=2∧r.list.length=2)∨r.kind=4∨r.kind=5∨r.kind=7:=by
  rcases (by omega:r.kind=1∨r.kind=2∨r.kind=4∨r.kind=5∨r.kind=7) with h|h|h|h|h
  ·exact .inl h
  ·exact .inr (.inl ⟨h,hl2 h⟩)
  ·exact .inr (.inr (.inl h))
  ·exact .inr (.inr (.inr (.inl h)))
  exact .inr (.inr (.inr (.inr h)))
 have hd:Cj b r=some (EK b r):=by
  unfold Cj;rw[if_neg (fun h=>ho (.inl h)),if_neg (fun h=>ho (.inr (.inl h))),if_neg (fun h=>ho (.inr (.inr h)))]
 refine(Do_c mi hs hn hnx hid hst hl hsl hS mX hi).mono ?_;rintro e w' ⟨h1,h2,h3⟩;rw[hd];exact⟨h1,h2,h3⟩
theorem KN {tg:Bool}{S:Nat→Prop}{w:World}{A4 A5:Option Addr}{n4 c4 n5 c5:Nat}{r:Bb}(hl:Sl tg 3 Bo w S A4 n4 c4 r.list) (hs:Sl tg 88 qq w S A5 n5 c5 r.slots):
  Calls Tryz.prog 71 #[.agg #[.int .i64 r.kind,.int .i64 r.id,.string r.name,.string r.digest,.slice A4 n4 c4,.slice A5 n5 c5]] w (Bl (.bool (!qp r)) w):=by
 have HC:=zh (fun W (hW:Below w.heap.size w W)=>ZY (w:=W) (r:=r) (hl.all hW) (hs.all hW));generalize qp r=q at *
 go_enter Tryz.func71,Tryz.ntmps71
 go_wp2_with fail
 refine(HC.out _ bz).mono ?_;rintro e w1 ⟨rfl,hb1⟩;go_wp2
 go_ret
 exact⟨rfl,bz⟩
theorem QT {tg:Bool}{T:TypeId}{S:Nat→Prop}{w:World}{A:Option Addr}{n c:Nat}{xs:List Bb}(h:Sl tg T (qw tg) w S A n c xs):
  Calls Tryz.prog 108 #[.slice A n c,.func (.func 71) #[] #[]] w (Bl (.int .i64 (idxOf (fun r=>!qp r) xs)) w):=by
 have HL:=zh h.len;have hcap:n≤9223372036854775807:=Nat.le_trans h.le h.cap
 go_enter Tryz.func108,Tryz.ntmps108
 go_wp2
 go_loopw [5,8] (fun _ i wr=>∃k:Nat,k≤n∧i=.int .i64 k∧Below w.heap.size w wr∧Hid (∀j,j<k→(!qp (xs.getD j default))=false)) (fun _ i _=>n - (intOf i).toNat)
 case atStart=>exact⟨0,Nat.zero_le _,rfl,Below.refl _ _,zh (fun j hj=>by omega)⟩
 case round=>
  obtain⟨k,hk,rfl,hB,he⟩:=hrel;by_cases hlt:k<n
  ·obtain⟨b,off,A4,n4,c4,A5,n5,c5,rfl,hS,hbl,g1,g2,g3,g4,hl4,hs5,hc0,hc1,hc2,hc3,z7,hc5,_⟩:=(h.all hB).Ca hlt;have hcall:=KN (r:=xs.getD k default) hl4 hs5;generalize hx:xs.getD k default=x at *;have HX:=zh hx;clear hx;have HB:=zh hB;clear hB;have HC:=zh hcall;clear hcall;go_wp2_with fail
   refine HC.out.mono ?_;rintro e w2 ⟨rfl,hb2⟩;have gF:=zh hb2;clear hb2;clear hl4 hs5
   cases hpx:(!qp x) with
   |true=>
    have HF:Hid (idxOf (fun r=>!qp r) xs=(k:Int)):=zh (xB (d:=default) (by have:=HL.out;omega) (by rw[HX.out];exact hpx) he.out);clear hpx;go_wp2
    go_ret
    exact⟨by rw[HF.out];rfl,via HB.out gF.out (Nat.le_refl _)⟩
   |false=>
    have HF:Hid (∀j,j<k+1→(!qp (xs.getD j default))=false):=zh (fun j hj=>by
     by_cases hjk:j=k
     ·subst hjk;rw[HX.out];exact hpx
     exact he.out j (by omega))
    clear hpx;go_wp2
    go_roundw
    case rel=>exact⟨k+1,by omega,by go_num,via HB.out gF.out (Nat.le_refl _),HF⟩
    case measure=>simp[intOf];omega
  have HF:Hid (idxOf (fun r=>!qp r) xs=-1):=zh (xP (d:=default) fun j hj=>he.out j (by have:=HL.out;omega));go_wp2
  go_ret
  exact⟨by rw[HF.out];rfl,hB⟩
theorem kH {tg:Bool}{T:TypeId}{S:Nat→Prop}{w:World}{A:Option Addr}{n c:Nat}{xs:List Bb}(h:Sl tg T (qw tg) w S A n c xs):
  Calls Tryz.prog 73 #[.slice A n c,.func (.func 71) #[] #[]] w (Bl (.bool (xs.any (fun r=>!qp r))) w):=by
 have HQ:=zh (jk (xs:=xs) (p:=fun r=>!qp r))
 go_enter Tryz.func73,Tryz.ntmps73
 go_wp2_with fail
 refine(QT h).mono ?_;rintro e w2 ⟨rfl,hb2⟩;generalize hi:idxOf (fun r=>!qp r) xs=i at *;go_wp2
 all_goals
  go_ret
  refine⟨?_,hb2⟩;rw[HQ.out]
  first|rfl|(congr 2;simp_all;done)|(congr 2;simp_all;omega)
end Go.Proofs.YtipecejghioicaaGreat
namespace Go.Silo
open Go Go.RowKit
theorem ku {a b:List Nat}(h:a.Sublist b):a.sum≤b.sum:=by
 induction h with
 |slnil=>exact Nat.le_refl _
 |cons a _ ih=>rw[List.sum_cons];omega
 |cons_cons a _ ih=>rw[List.sum_cons,List.sum_cons];omega
theorem ZZ {α:Type}{f:α→Nat}{l:List α}{p:Nat}{is:Bool}{x:α}:((qV p is x l).map f).sum≤(l.map f).sum+f x:=by
 have hd:=List.take_append_drop p l
 have hs:(l.map f).sum=((l.take p).map f).sum+((l.drop p).map f).sum:=by
  conv=>lhs;rw[←hd]
  rw[List.map_append,List.sum_append]
 unfold qV
 cases is with
 |true=>
  simp only[if_true];rw[List.set_eq_take_append_cons_drop]
  split
  ·have h1:((l.drop (p+1)).map f).sum≤((l.drop p).map f).sum:=by
    refine ku (List.Sublist.map f ?_);rw[show l.drop (p+1)=(l.drop p).drop 1 by rw[List.drop_drop]];exact List.drop_sublist _ _
   rw[List.map_append,List.sum_append,List.map_cons,List.sum_cons,hs];omega
  omega
 |false=>
  simp only[Bool.false_eq_true,if_false];unfold xa;rw[List.map_append,List.sum_append,List.map_append,List.sum_append,hs];simp;omega
theorem Cs {α:Type}{l:List α}{p:Nat}:(xh p l).Sublist l:=by
 unfold xh;have h2:=List.take_append_drop p l;conv=>rhs;rw[←h2]
 refine List.Sublist.append (List.Sublist.refl _) ?_;rw[show l.drop (p+1)=(l.drop p).drop 1 by rw[List.drop_drop]];exact List.drop_sublist _ _
end Go.Silo
namespace Go.Proofs.YtipecejghioicaaGreat
open Go.RowKit Go.Silo
def zU (l:List Bb):Option Book:=l.foldl (fun o r=>o.bind (fun b=>Cj b r)) (some ⟨[],[],[],0⟩)
theorem kR (l:List Bb) (r:Bb):zU (l++[r])=(zU l).bind (fun b=>Cj b r):=by simp[zU,List.foldl_append]
theorem XL (l:List Bb):l.foldl (fun(o:Option Book) r=>o.bind (fun b=>Cj b r)) none=none:=by
 induction l with
 |nil=>rfl
 |cons a l ih=>exact ih
theorem kS {l:List Bb}{k:Nat}(h:zU (l.take k)=none):zU l=none:=by
 have h2:=List.take_append_drop k l;rw[←h2];unfold zU at *;rw[List.foldl_append,h];exact XL _
structure BInv (b:Book) (k t:Nat):Prop where
 so:Sorted b
 ls:b.Ba.length≤k
 lt:b.things.length≤k
 lg:b.tags.length≤k
 nx:0≤b.next∧b.next≤1073741825
 ss:(b.Ba.map (fun y=>y.place.length)).sum≤14* k
 st:(b.things.map (fun y=>y.list.length)).sum≤t
theorem BInv.start:BInv ⟨[],[],[],0⟩ 0 0:=⟨⟨fun i j _ h=>by simp at h,fun i j _ h=>by simp at h,fun i j _ h=>by simp at h⟩,Nat.le_refl _,Nat.le_refl _,Nat.le_refl _,by simp,by simp,by simp⟩
theorem BInv.step {b b':Book}{k t:Nat}{r:Bb}(h:BInv b k t) (hr:qp r=true) (he:Cj b r=some b'):BInv b' (k+1) (t+r.list.length):=by
 obtain⟨_,⟨hi1,hi2⟩,_,_,hsl⟩:=zT hr;have mP:=h.so.Cj he;obtain⟨_,h1,h2,h3,⟨h4,h4'⟩,h5,h6⟩:=h;unfold Cj at he
 split at he
 ·split at he
  ·injection he with he;subst he
   exact⟨mP,Nat.le_trans (Cs.length_le) (by omega),by simp only;omega,by simp only;omega,⟨h4,h4'⟩,Nat.le_trans (ku (List.Sublist.map _ Cs)) (by omega),by simp only;omega⟩
  cases he
 split at he
 ·split at he
  ·injection he with he;subst he
   exact⟨mP,by simp only;omega,Nat.le_trans (Cs.length_le) (by omega),by simp only;omega,⟨h4,h4'⟩,by simp only;omega,Nat.le_trans (ku (List.Sublist.map _ Cs)) (by omega)⟩
  cases he
 split at he
 ·split at he
  ·injection he with he;subst he
   exact⟨mP,by simp only;omega,by simp only;omega,Nat.le_trans (Cs.length_le) (by omega),⟨h4,h4'⟩,by simp only;omega,by simp only;omega⟩
  cases he
 injection he with he;subst he
 revert mP
 unfold EK
 split
 ·intro mP;exact⟨mP,by simp only;omega,by simp only;omega,by simp only;omega,by simp only;omega,by simp only;omega,by simp only;omega⟩
 split
 ·intro mP;refine⟨mP,?_,by simp only;omega,by simp only;omega,by simp only;omega,?_,by simp only;omega⟩
  ·have:=Qx (is:=CB b.Ba r.id) (x:=(⟨r.id,r.list.getD 0 0,r.list.getD 1 0,r.slots⟩:Bc)) (Ji b.Ba r.id);show(E8 b.Ba _).length≤_;unfold E8;simp only at *;omega
  have:=ZZ (f:=fun(y:Bc)=>y.place.length) (l:=b.Ba) (p:=xA b.Ba r.id) (is:=CB b.Ba r.id) (x:=(⟨r.id,r.list.getD 0 0,r.list.getD 1 0,r.slots⟩:Bc));show((E8 b.Ba _).map _).sum≤_;unfold E8;simp only at *;omega
 split
 ·intro mP;refine⟨mP,by simp only;omega,?_,by simp only;omega,⟨h4,h4'⟩,by simp only;omega,?_⟩
  ·have:=Qx (is:=Ce Entry.digest b.things r.digest) (x:=(⟨r.digest,r.id,decide (r.kind=5),r.list⟩:Entry)) (ks Entry.digest b.things r.digest);show(ZW Entry.digest b.things _).length≤_;unfold ZW;simp only at *;omega
  have:=ZZ (f:=fun(y:Entry)=>y.list.length) (l:=b.things) (p:=zr Entry.digest b.things r.digest) (is:=Ce Entry.digest b.things r.digest) (x:=(⟨r.digest,r.id,decide (r.kind=5),r.list⟩:Entry));show((ZW Entry.digest b.things _).map _).sum≤_;unfold ZW;simp only at *;omega
 intro mP;refine⟨mP,by simp only;omega,by simp only;omega,?_,⟨h4,h4'⟩,by simp only;omega,by simp only;omega⟩;have:=Qx (is:=Ce Tag.name b.tags r.name) (x:=(⟨r.name,r.digest⟩:Tag)) (ks Tag.name b.tags r.name);show(ZW Tag.name b.tags _).length≤_;unfold ZW;simp only at *;omega
theorem BInv.few {b:Book}{k t:Nat}(h:BInv b k t) (hk:k≤4000) (ht:t≤1000000):Ej b:=by
 refine⟨Nat.le_trans h.ls hk,?_,?_⟩
 ·unfold qh;rw[List.take_length,List.length_flatMap];have:=h.ss;omega
 unfold qu;rw[List.take_length,List.length_flatMap];have:=h.st;omega
end Go.Proofs.YtipecejghioicaaGreat
