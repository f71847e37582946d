/- Short words for what is said often. -/
import Derived.Test.YtipecejghioicaaGreatBases
namespace Go.Silo
open Go.RowKit
theorem zo {w:World}{g:Nat}{cs:Array Value}{t:TypeId}{fr:Nat×Nat}(j:Nat) (h:w.heap[g]?=some (.cells cs t fr)):w.cell? ⟨g,j,none⟩=cs[j]?:=cell_of_row w g j cs t fr h
theorem zc {w:World}{g:Nat}{cs:Array Value}{t:TypeId}{fr:Nat×Nat}(j:Nat) (h:w.heap[g]?=some (.cells cs t fr)) (x:Value) (e:cs[j]?=some x):w.cell? ⟨g,j,none⟩=some x:=(cell_of_row w g j cs t fr h).trans e
theorem zf {w:World}{g:Nat}{cs:Array Value}{t:TypeId}(j:Nat) (h:w.heap[g]?=some (.cells cs t (0,0))):w.frozen? ⟨g,j,none⟩=false:=frozen_of_row w g j cs t h
theorem zh {p:Prop}(h:p):Hid p:=Lib.hid h
theorem zl {α:Type}{a:Array α}{i:Nat}{x:α}(h:a[i]?=some x):i<a.size:=(Array.getElem?_eq_some_iff.1 h).1
theorem zb {w w':World}{g:Nat}{x:Obj}(b:Below w.heap.size w w') (h:w.heap[g]?=some x):w'.heap[g]?=some x:=(b.block _ (zl h)).trans h
theorem zv {a b:Value}(h:a=b) (c:Value) (e:b=c):a=c:=h.trans e
theorem zu {w w' w'':World}(h:Hid (Below w.heap.size w w')) (k:Below w'.heap.size w' w''):Below w.heap.size w w'':=h.out.trans (k.mono h.out.size)
theorem zt {w w' w'':World}(h:Hid (Below w.heap.size w w')) (k:Below w'.heap.size w' w''):Hid (Below w.heap.size w w''):=h.out.trans (k.mono h.out.size)
theorem bz {B:Nat}{w w':World}(h:Below B w w':=by repeat' (first|(with_reducible exact Below.refl _ _)|(with_reducible refine Below.alloc ?_ ?_ _)|(with_reducible refine Below.drew ?_)|(with_reducible refine below_drewN ?_ _)|(with_reducible refine Below.setCell ?_ ?_ _)|(refine via ?_ (by with_reducible assumption) ?_)|(refine via ?_ (qx _ _) ?_)|go_size)):Below B w w':=h
theorem BO {α:Type}(l:List α) (i:Nat) (a:α):l.toArray.setIfInBounds i a=(l.set i a).toArray:=List.setIfInBounds_toArray l i a
theorem BP {α:Type}{x:α}{xs:List α}{i:Nat}{a:α}:(x::xs).set (i+1) a=x::xs.set i a:=rfl
theorem BQ {α:Type}{x:α}{xs:List α}{a:α}:(x::xs).set 0 a=a::xs:=rfl
theorem BR {α β:Type}{f:α→β}{a:α}{l:List α}:(a::l).map f=f a::l.map f:=rfl
theorem BS {α β:Type}{f:α→β}:([]:List α).map f=[]:=rfl
theorem BU {α β:Type}{f:β→α→β}{b:β}{a:α}{l:List α}:(a::l).foldl f b=l.foldl f (f b a):=rfl
theorem BV {α β:Type}{f:β→α→β}{b:β}:([]:List α).foldl f b=b:=rfl
end Go.Silo
