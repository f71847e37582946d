/- Book.Of: the book that records make. -/
import Derived.Test.YtipecejghioicaaGreatY14s
import Derived.Test.YtipecejghioicaaGreatY11s
import Derived.Test.YtipecejghioicaaGreatP0s
import Derived.Test.YtipecejghioicaaGreatY8s
import Derived.Deep.CutRange
import Derived.Deep.Light
namespace Go.Silo
open Go Go.RowKit
section
variable {α κ:Type}{key:α→κ}{lt:κ→κ→Bool}
theorem JT {β:Type}{l:List β}{p:Nat}{v:β}(h:l[p]?=some v):l.set p v=l:=by
 refine List.ext_getElem? (fun j=>?_);rw[List.getElem?_set]
 split
 ·next e=>subst e;rw[if_pos (List.getElem?_eq_some_iff.1 h).1,h]
 rfl
theorem jY [DecidableEq κ] [Inhabited α] (htr:∀a b c,lt a b=true→lt b c=true→lt a c=true) (hto:∀a b,lt a b=false→a≠b→lt b a=true) {l:List α}{x:α}{p:Nat}{is:Bool}(h:l.Pairwise (fun a b=>lt (key a) (key b)=true))
  (hp:p=(l.takeWhile (fun y=>lt (key y) (key x))).length) (his:is=decide (p<l.length∧key (l.getD p default)=key x)):(xV p is x l).Pairwise (fun a b=>lt (key a) (key b)=true):=by
 have hle:p≤l.length:=by rw[hp];exact(List.takeWhile_prefix _).length_le
 have htk:l.take p=l.takeWhile (fun y=>lt (key y) (key x)):=by
  rw[hp];exact(List.prefix_iff_eq_take.1 (List.takeWhile_prefix _)).symm
 have hlt:∀a∈l.take p,lt (key a) (key x)=true:=fun a ha=>by
  rw[htk] at ha;exact(List.all_eq_true.1 (List.all_takeWhile (p:=fun y=>lt (key y) (key x)) (l:=l))) a ha
 have hhd:∀c,l[p]?=some c→lt (key c) (key x)=false:=fun c hc=>by
  have hdw:l.drop p=l.dropWhile (fun y=>lt (key y) (key x)):=by
   have h1:=List.takeWhile_append_dropWhile (p:=fun y=>lt (key y) (key x)) (l:=l);have h2:=List.take_append_drop p l;rw[htk] at h2;exact List.append_cancel_left (h2.trans h1.symm)
  have hd0:(l.dropWhile (fun y=>lt (key y) (key x))).head?=some c:=by rw[←hdw,List.head?_drop];exact hc
  have hne:l.dropWhile (fun y=>lt (key y) (key x))≠[]:=fun e=>by rw[e] at hd0;cases hd0
  have h3:=List.head_dropWhile_not (fun y=>lt (key y) (key x)) hne
  have h4:(l.dropWhile (fun y=>lt (key y) (key x))).head hne=c:=by
   have:=List.head?_eq_some_head hne;rw[this] at hd0;injection hd0
  rw[h4] at h3;exact h3
 unfold xV
 cases is with
 |true=>
  obtain⟨hpl,hk⟩:=of_decide_eq_true his.symm;simp only[if_true]
  have hm:(l.set p x).map key=l.map key:=by
   rw[List.map_set];refine JT ?_;rw[List.getElem?_map,List.getElem?_eq_getElem hpl];rw[List.getD_eq_getElem?_getD,List.getElem?_eq_getElem hpl] at hk;exact congrArg some hk
  have h2:(l.map key).Pairwise (fun a b=>lt a b=true):=List.pairwise_map.2 h;rw[←hm] at h2;exact List.pairwise_map.1 h2
 |false=>
  simp only[Bool.false_eq_true,if_false];unfold xj;have hsp:=h;rw[←List.take_append_drop p l,List.pairwise_append] at hsp;obtain⟨h1,h2,h3⟩:=hsp
  have hx:∀b∈l.drop p,lt (key x) (key b)=true:=by
   cases hd:l.drop p with
   |nil=>intro b hb;cases hb
   |cons c r=>
    have hc:l[p]?=some c:=(by have:=List.head?_drop (l:=l) (i:=p);rw[hd] at this;exact this.symm);have hpl:p<l.length:=(List.getElem?_eq_some_iff.1 hc).1
    have hck:key c≠key x:=fun e=>by
     have:=of_decide_eq_false his.symm;exact this ⟨hpl,by rw[List.getD_eq_getElem?_getD,hc];exact e⟩
    have hxc:=hto _ _ (hhd c hc) hck;intro b hb;rcases List.mem_cons.1 hb with rfl|hb
    ·exact hxc
    rw[hd] at h2;exact htr _ _ _ hxc ((List.pairwise_cons.1 h2).1 b hb)
  rw[List.pairwise_append];refine⟨h1,?_,fun a ha b hb=>?_⟩
  ·rw[List.singleton_append,List.pairwise_cons];exact⟨hx,h2⟩
  rw[List.singleton_append] at hb;rcases List.mem_cons.1 hb with rfl|hb
  ·exact hlt a ha
  exact h3 a ha b hb
theorem jZ {R:α→α→Prop}{l:List α}{p:Nat}(h:l.Pairwise R):(qN p l).Pairwise R:=by
 unfold qN;refine h.sublist ?_;have h2:=List.take_append_drop p l;conv=>rhs;rw[←h2]
 refine List.Sublist.append (List.Sublist.refl _) ?_;rw[show l.drop (p+1)=(l.drop p).drop 1 by rw[List.drop_drop]];exact List.drop_sublist _ _
end
end Go.Silo
namespace Go.Proofs.YtipecejghioicaaGreat
open Go.RowKit Go.Silo
theorem Bp {α:Type} [Inhabited α] {R:α→α→Prop}{l:List α}:l.Pairwise R↔∀i j,i<j→j<l.length→R (l.getD i default) (l.getD j default):=by
 rw[List.pairwise_iff_getElem];have e:∀j (hj:j<l.length),l.getD j default=l[j]:=fun j hj=>by rw[List.getD_eq_getElem?_getD,List.getElem?_eq_getElem hj];rfl
 constructor
 ·intro h i j hij hj;rw[e i (by omega),e j hj];exact h i j (by omega) hj hij
 intro h i j hi hj hij;have:=h i j hij hj
 rwa [e i hi,e j hj] at this
theorem F5 (a b c:Int) (h1:decide (a<b)=true) (h2:decide (b<c)=true):decide (a<c)=true:=by simp at *;omega
theorem F6 (a b:Int) (h1:decide (a<b)=false) (h2:a≠b):decide (b<a)=true:=by simp at *;omega
theorem Sorted.Ex {b:Book}{r:Bt}(h:Sorted b):Sorted (Ex b r):=by
 unfold Proofs.YtipecejghioicaaGreat.Ex
 split
 ·exact⟨h.s,h.t,h.g⟩
 split
 ·refine⟨?_,h.t,h.g⟩;have h1:b.Ba.Pairwise (fun x y=>decide (x.id<y.id)=true):=Bp.2 (fun i j hij hj=>decide_eq_true (h.s i j hij hj));have h2:=jY (key:=Bb.id) (lt:=fun a b=>decide (a<b)) F5 F6 (x:=⟨r.id,r.list.getD 0 0,r.list.getD 1 0,r.slots⟩) h1 (p:=jx b.Ba r.id) rfl (is:=Dk b.Ba r.id) rfl;intro i j hij hj;exact of_decide_eq_true (Bp.1 h2 i j hij hj)
 split
 ·refine⟨h.s,?_,h.g⟩;have h1:b.things.Pairwise (fun x y=>qr x.digest y.digest=true):=Bp.2 h.t;exact Bp.1 (jY (key:=Entry.digest) (lt:=qr) (fun _ _ _=>ze) (fun _ _=>ko) (x:=⟨r.digest,r.id,decide (r.kind=5),r.list⟩) h1 (p:=xl Entry.digest b.things r.digest) rfl (is:=Cw Entry.digest b.things r.digest) rfl)
 refine⟨h.s,h.t,?_⟩;have h1:b.tags.Pairwise (fun x y=>qr x.name y.name=true):=Bp.2 h.g;exact Bp.1 (jY (key:=Tag.name) (lt:=qr) (fun _ _ _=>ze) (fun _ _=>ko) (x:=⟨r.name,r.digest⟩) h1 (p:=xl Tag.name b.tags r.name) rfl (is:=Cw Tag.name b.tags r.name) rfl)
theorem Sorted.CL {b b':Book}{r:Bt}(h:Sorted b) (he:CL b r=some b'):Sorted b':=by
 unfold Proofs.YtipecejghioicaaGreat.CL at he
 split at he
 ·split at he
  ·injection he with he;subst he
   exact⟨(Bp (R:=fun(x y:Bb)=>x.id<y.id)).1 (jZ ((Bp (R:=fun(x y:Bb)=>x.id<y.id)).2 h.s)),h.t,h.g⟩
  cases he
 split at he
 ·split at he
  ·injection he with he;subst he
   exact⟨h.s,(Bp (R:=fun(x y:Entry)=>qr x.digest y.digest=true)).1 (jZ ((Bp (R:=fun(x y:Entry)=>qr x.digest y.digest=true)).2 h.t)),h.g⟩
  cases he
 split at he
 ·split at he
  ·injection he with he;subst he
   exact⟨h.s,h.t,(Bp (R:=fun(x y:Tag)=>qr x.name y.name=true)).1 (jZ ((Bp (R:=fun(x y:Tag)=>qr x.name y.name=true)).2 h.g))⟩
  cases he
 injection he with he;subst he
 exact h.Ex
end Go.Proofs.YtipecejghioicaaGreat
namespace Go.Proofs.YtipecejghioicaaGreat
open Go.RowKit Go.Silo
theorem xw {r:Bt}(h:qK r=true):(1≤r.kind∧r.kind≤8)∧(0≤r.id∧r.id≤1073741824)∧(r.kind=2→r.list.length=2)∧(r.list.length≤2000∧r.slots.length≤14):=by
 unfold qK at h;simp only[Bool.and_eq_true,decide_eq_true_eq] at h;obtain⟨hk,hi,_,_,hl,hs,hi0,_,_,hl0,hs0⟩:=h;refine⟨hk,?_,fun h2=>?_,?_,?_⟩
 ·cases hq:qh r.kind 105 with
  |true=>rw[hq] at hi;simp only[Bool.not_true,Bool.false_or] at hi;unfold qM at hi;exact of_decide_eq_true hi
  |false=>rw[hq] at hi0;simp only[Bool.false_or] at hi0;have:=of_decide_eq_true hi0;omega
 ·rw[h2,show qh 2 108=true by decide] at hl;simp only[Bool.not_true,Bool.false_or] at hl;unfold xc at hl;simp only[Bool.and_eq_true] at hl;have:=hl.1;simpa using this
 ·cases hq:qh r.kind 108 with
  |true=>
   rw[hq] at hl;simp only[Bool.not_true,Bool.false_or] at hl;unfold xc at hl;simp only[Bool.and_eq_true] at hl;exact of_decide_eq_true hl.2.1
  |false=>rw[hq] at hl0;simp only[Bool.false_or] at hl0;have:=of_decide_eq_true hl0;omega
 cases hq:qh r.kind 115 with
 |true=>
  rw[hq] at hs;simp only[Bool.not_true,Bool.false_or] at hs;unfold zU at hs;simp only[Bool.and_eq_true] at hs;exact of_decide_eq_true hs.2.1
 |false=>rw[hq] at hs0;simp only[Bool.false_or] at hs0;have:=of_decide_eq_true hs0;omega
theorem Kh {tg:Bool}{S:Nat→Prop}{X:Nat→Option Obj}{β bb:Nat}{w:World}{A0:Option Addr}{n0 c0:Nat}{A1:Option Addr}{n1 c1:Nat}{A2:Option Addr}{n2 c2:Nat}{A4 A5:Option Addr}{n4 c4 n5 c5:Nat}{b:Book}{r:Bt}(gw:OB X β bb A0 n0 c0 A1 n1 c1 A2 n2 c2 b w) (hs:Sorted b)
  (hn:n0≤999999∧n1≤999999∧n2≤999999) (hnx:b.next≤1073741825∧-1≤b.next) (hst:zd r.name∧zd r.digest) (hl:Sl tg 3 Bd w S A4 n4 c4 r.list) (hsl:Sl tg 88 qz w S A5 n5 c5 r.slots) (hS:∀k,S k→k<β) (rW:n4≤100000000∧n5≤100000000) (hok:qK r=true):
  Calls Tryz.prog 63 #[.pointer (some ⟨bb,0,none⟩),.agg #[.int .i64 r.kind,.int .i64 r.id,.string r.name,.string r.digest,.slice A4 n4 c4,.slice A5 n5 c5]] w (Cv X β bb (CL b r) b w):=by
 obtain⟨⟨k1,k2⟩,hid,hl2,_⟩:=xw hok;by_cases ho:r.kind=3∨r.kind=6∨r.kind=8
 ·exact Kf gw hs hn hnx hid hst hl hsl hS rW ho
 have hi:r.kind=1∨(r.kind=2∧r.list.length=2)∨r.kind=4∨r.kind=5∨r.kind=7:=by
  rcases (by omega:r.kind=1∨r.kind=2∨r.kind=4∨r.kind=5∨r.kind=7) with h|h|h|h|h
  ·exact .inl h
  ·exact .inr (.inl ⟨h,hl2 h⟩)
  ·exact .inr (.inr (.inl h))
  ·exact .inr (.inr (.inr (.inl h)))
  exact .inr (.inr (.inr (.inr h)))
 have hd:CL b r=some (Ex b r):=by
  unfold CL;rw[if_neg (fun h=>ho (.inl h)),if_neg (fun h=>ho (.inr (.inl h))),if_neg (fun h=>ho (.inr (.inr h)))]
 refine(Do_c gw hs hn hnx hid hst hl hsl hS rW hi).mono ?_;rintro e w' ⟨h1,h2,h3⟩;rw[hd];exact⟨h1,h2,h3⟩
end Go.Proofs.YtipecejghioicaaGreat
namespace Go.Silo
open Go Go.RowKit
theorem Zf {a b:List Nat}(h:a.Sublist b):a.sum≤b.sum:=by
 induction h with
 |slnil=>exact Nat.le_refl _
 |cons a _ ih=>rw[List.sum_cons];omega
 |cons_cons a _ ih=>rw[List.sum_cons,List.sum_cons];omega
theorem ZM {α:Type}{f:α→Nat}{l:List α}{p:Nat}{is:Bool}{x:α}:((xV p is x l).map f).sum≤(l.map f).sum+f x:=by
 have hd:=List.take_append_drop p l
 have hs:(l.map f).sum=((l.take p).map f).sum+((l.drop p).map f).sum:=by
  conv=>lhs;rw[←hd]
  rw[List.map_append,List.sum_append]
 unfold xV
 cases is with
 |true=>
  simp only[if_true];rw[List.set_eq_take_append_cons_drop]
  split
  ·have h1:((l.drop (p+1)).map f).sum≤((l.drop p).map f).sum:=by
    refine Zf (List.Sublist.map f ?_);rw[show l.drop (p+1)=(l.drop p).drop 1 by rw[List.drop_drop]];exact List.drop_sublist _ _
   rw[List.map_append,List.sum_append,List.map_cons,List.sum_cons,hs];omega
  omega
 |false=>
  simp only[Bool.false_eq_true,if_false];unfold xj;rw[List.map_append,List.sum_append,List.map_append,List.sum_append,hs];simp;omega
theorem Ck {α:Type}{l:List α}{p:Nat}:(qN p l).Sublist l:=by
 unfold qN;have h2:=List.take_append_drop p l;conv=>rhs;rw[←h2]
 refine List.Sublist.append (List.Sublist.refl _) ?_;rw[show l.drop (p+1)=(l.drop p).drop 1 by rw[List.drop_drop]];exact List.drop_sublist _ _
end Go.Silo
namespace Go.Proofs.YtipecejghioicaaGreat
open Go.RowKit Go.Silo
structure BInv (b:Book) (k t:Nat):Prop where
 so:Sorted b
 ls:b.Ba.length≤k
 lt:b.things.length≤k
 lg:b.tags.length≤k
 nx:0≤b.next∧b.next≤1073741825
 ss:(b.Ba.map (fun y=>y.place.length)).sum≤14* k
 st:(b.things.map (fun y=>y.list.length)).sum≤t
theorem BInv.step {b b':Book}{k t:Nat}{r:Bt}(h:BInv b k t) (hr:qK r=true) (he:CL b r=some b'):BInv b' (k+1) (t+r.list.length):=by
 obtain⟨_,⟨hi1,hi2⟩,_,_,hsl⟩:=xw hr;have py:=h.so.CL he;obtain⟨_,h1,h2,h3,⟨h4,h4'⟩,h5,h6⟩:=h;unfold CL at he
 split at he
 ·split at he
  ·injection he with he;subst he
   exact⟨py,Nat.le_trans (Ck.length_le) (by omega),by simp only;omega,by simp only;omega,⟨h4,h4'⟩,Nat.le_trans (Zf (List.Sublist.map _ Ck)) (by omega),by simp only;omega⟩
  cases he
 split at he
 ·split at he
  ·injection he with he;subst he
   exact⟨py,by simp only;omega,Nat.le_trans (Ck.length_le) (by omega),by simp only;omega,⟨h4,h4'⟩,by simp only;omega,Nat.le_trans (Zf (List.Sublist.map _ Ck)) (by omega)⟩
  cases he
 split at he
 ·split at he
  ·injection he with he;subst he
   exact⟨py,by simp only;omega,by simp only;omega,Nat.le_trans (Ck.length_le) (by omega),⟨h4,h4'⟩,by simp only;omega,by simp only;omega⟩
  cases he
 injection he with he;subst he
 revert py
 unfold Ex
 split
 ·intro py;exact⟨py,by simp only;omega,by simp only;omega,by simp only;omega,by simp only;omega,by simp only;omega,by simp only;omega⟩
 split
 ·intro py;refine⟨py,?_,by simp only;omega,by simp only;omega,by simp only;omega,?_,by simp only;omega⟩
  ·have:=kY (is:=Dk b.Ba r.id) (x:=(⟨r.id,r.list.getD 0 0,r.list.getD 1 0,r.slots⟩:Bb)) (Xy b.Ba r.id);show(DX b.Ba _).length≤_;unfold DX;simp only at *;omega
  have:=ZM (f:=fun(y:Bb)=>y.place.length) (l:=b.Ba) (p:=jx b.Ba r.id) (is:=Dk b.Ba r.id) (x:=(⟨r.id,r.list.getD 0 0,r.list.getD 1 0,r.slots⟩:Bb));show((DX b.Ba _).map _).sum≤_;unfold DX;simp only at *;omega
 split
 ·intro py;refine⟨py,by simp only;omega,?_,by simp only;omega,⟨h4,h4'⟩,by simp only;omega,?_⟩
  ·have:=kY (is:=Cw Entry.digest b.things r.digest) (x:=(⟨r.digest,r.id,decide (r.kind=5),r.list⟩:Entry)) (jK Entry.digest b.things r.digest);show(ZK Entry.digest b.things _).length≤_;unfold ZK;simp only at *;omega
  have:=ZM (f:=fun(y:Entry)=>y.list.length) (l:=b.things) (p:=xl Entry.digest b.things r.digest) (is:=Cw Entry.digest b.things r.digest) (x:=(⟨r.digest,r.id,decide (r.kind=5),r.list⟩:Entry));show((ZK Entry.digest b.things _).map _).sum≤_;unfold ZK;simp only at *;omega
 intro py;refine⟨py,by simp only;omega,by simp only;omega,?_,⟨h4,h4'⟩,by simp only;omega,by simp only;omega⟩;have:=kY (is:=Cw Tag.name b.tags r.name) (x:=(⟨r.name,r.digest⟩:Tag)) (jK Tag.name b.tags r.name);show(ZK Tag.name b.tags _).length≤_;unfold ZK;simp only at *;omega
theorem BInv.few {b:Book}{k t:Nat}(h:BInv b k t) (hk:k≤4000) (ht:t≤1000000):DF b:=by
 refine⟨Nat.le_trans h.ls hk,?_,?_⟩
 ·unfold qd;rw[List.take_length,List.length_flatMap];have:=h.ss;omega
 unfold qb;rw[List.take_length,List.length_flatMap];have:=h.st;omega
end Go.Proofs.YtipecejghioicaaGreat
namespace Go.Silo
open Go Go.RowKit
theorem Jg {w:World}{g:Nat}{a b c d a' b' c' d':Value}{T:TypeId}(h:w.heap[g]?=some (.cells #[a',b',c',d'] T (0,0))):
  ((((w.setCell ⟨g,0,none⟩ a).setCell ⟨g,1,none⟩ b).setCell ⟨g,2,none⟩ c).setCell ⟨g,3,none⟩ d).heap[g]?=some (.cells #[a,b,c,d] T (0,0))∧
  (∀B,B≤g→Below B w ((((w.setCell ⟨g,0,none⟩ a).setCell ⟨g,1,none⟩ b).setCell ⟨g,2,none⟩ c).setCell ⟨g,3,none⟩ d))∧
  Agree (fun q=>q≠g) w ((((w.setCell ⟨g,0,none⟩ a).setCell ⟨g,1,none⟩ b).setCell ⟨g,2,none⟩ c).setCell ⟨g,3,none⟩ d):=
 ⟨Jq (a:=a) (b:=b) (c:=c) (d:=d) h,fun B hB=>zG hB [a,b,c,d] 0 w (Below.refl B w),fun _ hq _=>zF hq [a,b,c,d] 0 w⟩
end Go.Silo
namespace Go.Proofs.YtipecejghioicaaGreat
open Go.RowKit Go.Silo
def RetOf (r:Book×Int) (w:World) (e:Ending) (w':World):Prop:=
 ∃A0 n0 c0 A1 n1 c1 A2 n2 c2,e=.returned (.tuple #[.agg #[.slice A0 n0 c0,.slice A1 n1 c1,.slice A2 n2 c2,.int .i64 r.1.next],.int .i64 r.2])∧BG w' (fun q=>w.heap.size≤q) true true true true A0 n0 c0 A1 n1 c1 A2 n2 c2 r.1∧Below w.heap.size w w'
end Go.Proofs.YtipecejghioicaaGreat
