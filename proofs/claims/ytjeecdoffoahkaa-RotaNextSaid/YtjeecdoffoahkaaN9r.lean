/- siloref0.CopyBook: a copy of a book. -/
import Derived.Test.YtjeecdoffoahkaaZdr
import Derived.Test.YtjeecdoffoahkaaQ9r
namespace Go.Proofs.Ytjeecdoffoahkaa
open Go.RowKit Go.Silo

set_option maxHeartbeats 2000000 in
theorem CopyBook_c {tg tg0 tg1 tg2 : Bool} {S : Nat → Prop} {w : World} {A0 A1 A2 : Option Addr} {n0 c0 n1 c1 n2 c2 : Nat} {x : Book} (hi : I64 x.next)
    (h0 : Sl tg 97 (stripeE tg0) w S A0 n0 c0 x.stripes) (h1 : Sl tg 130 (entryE tg1) w S A1 n1 c1 x.things) (h2 : Sl tg2 133 tagE w S A2 n2 c2 x.tags)
    (hn0 : n0 ≤ 100000000) (hn1 : n1 ≤ 100000000) (hn2 : n2 ≤ 100000000) (hx0 : ∀ y ∈ x.stripes, y.place.length ≤ 100000000) (hx1 : ∀ y ∈ x.things, y.list.length ≤ 100000000) :
    Calls Try.prog 14 #[.agg #[.slice A0 n0 c0, .slice A1 n1 c1, .slice A2 n2 c2, .int .i64 x.next]] w (RetE (bookE true) w x) := by
  have HX0 := Lib.hid hx0; clear hx0
  have HX1 := Lib.hid hx1; clear hx1
  go_enter Try.func14, Try.ntmps14
  go_wp2_with fail
  refine (CopyStripes_c (h0.all (by repeat' (first | (with_reducible exact Below.refl _ _) | (with_reducible refine Below.alloc ?_ ?_ _) | (with_reducible refine Below.drew ?_) | (with_reducible refine below_drewN ?_ _) | (with_reducible refine Below.setCell ?_ ?_ _) | (refine via ?_ (by with_reducible assumption) ?_) | (refine via ?_ (below_ext _ _) ?_) | go_size))) hn0 HX0.out).mono ?_
  rintro e w1 ⟨A3, c3, rfl, hown3, hb3⟩
  (obtain ⟨hc_w1, hf_w1⟩ := bcell hb3; have z_w1_0 : w.heap.size < w1.heap.size := (by have := hb3.size; first | omega | (simp at this; omega)); have z_w1_1 : w.heap.size + 1 < w1.heap.size := (by have := hb3.size; first | omega | (simp at this; omega)); have z_w1_2 : w.heap.size + 1 + 1 < w1.heap.size := (by have := hb3.size; first | omega | (simp at this; omega)))
  go_wp2_with fail
  refine (CopyEntries_c (h1.all (by repeat' (first | (with_reducible exact Below.refl _ _) | (with_reducible refine Below.alloc ?_ ?_ _) | (with_reducible refine Below.drew ?_) | (with_reducible refine below_drewN ?_ _) | (with_reducible refine Below.setCell ?_ ?_ _) | (refine via ?_ (by with_reducible assumption) ?_) | (refine via ?_ (below_ext _ _) ?_) | go_size))) hn1 HX1.out).mono ?_
  rintro e w2 ⟨A4, c4, rfl, hown4, hb4⟩
  (obtain ⟨hc_w2, hf_w2⟩ := bcell hb4; have z_w2_0 : w.heap.size < w2.heap.size := (by have := hb4.size; first | omega | (simp at this; omega)); have z_w2_1 : w.heap.size + 1 < w2.heap.size := (by have := hb4.size; first | omega | (simp at this; omega)); have z_w2_2 : w.heap.size + 1 + 1 < w2.heap.size := (by have := hb4.size; first | omega | (simp at this; omega)))
  go_wp2_with fail
  refine (CopyTags_c (h2.all (by repeat' (first | (with_reducible exact Below.refl _ _) | (with_reducible refine Below.alloc ?_ ?_ _) | (with_reducible refine Below.drew ?_) | (with_reducible refine below_drewN ?_ _) | (with_reducible refine Below.setCell ?_ ?_ _) | (refine via ?_ (by with_reducible assumption) ?_) | (refine via ?_ (below_ext _ _) ?_) | go_size))) hn2).mono ?_
  rintro e w3 ⟨A5, c5, rfl, hown5, hb5⟩
  (obtain ⟨hc_w3, hf_w3⟩ := bcell hb5; have z_w3_0 : w.heap.size < w3.heap.size := (by have := hb5.size; first | omega | (simp at this; omega)); have z_w3_1 : w.heap.size + 1 < w3.heap.size := (by have := hb5.size; first | omega | (simp at this; omega)); have z_w3_2 : w.heap.size + 1 + 1 < w3.heap.size := (by have := hb5.size; first | omega | (simp at this; omega)))
  go_wp2_with fail
  refine bodyPost_ret (v := .agg #[.slice A3 x.stripes.length c3, .slice A4 x.things.length c4, .slice A5 x.tags.length c5, .int .i64 x.next]) (by simp [results, Try.results14, go_sem, *]; done) rfl ?_
  have hr3 := (hown3.sl (tg := true)).mono (S' := fun b => w.heap.size + 3 ≤ b) (fun b hb _ => by simp at hb; omega)
  have hr4 := (hown4.sl (tg := true)).mono (S' := fun b => w.heap.size + 3 ≤ b) (fun b hb _ => by simp at hb; omega)
  have hr5 := (hown5.sl (tg := true)).mono (S' := fun b => w.heap.size + 3 ≤ b) (fun b hb _ => by simp at hb; omega)
  exact ⟨_, rfl, ⟨_, _, _, _, _, _, _, _, _, rfl, hi, (hr3.keep (by repeat' (first | (with_reducible exact Keeps.refl _ _) | (with_reducible refine Keeps.alloc ?_ _) | (with_reducible refine Keeps.drew ?_) | (with_reducible refine Keeps.drewN ?_ _) | (with_reducible refine Keeps.setCell ?_ ?_ _) | (refine Keeps.call ?_ (by with_reducible assumption)) | (with_reducible refine Keeps.ext ?_ _) | (simp; done) | (simp; omega) | omega))).mono (fun b hb _ => by omega), (hr4.keep (by repeat' (first | (with_reducible exact Keeps.refl _ _) | (with_reducible refine Keeps.alloc ?_ _) | (with_reducible refine Keeps.drew ?_) | (with_reducible refine Keeps.drewN ?_ _) | (with_reducible refine Keeps.setCell ?_ ?_ _) | (refine Keeps.call ?_ (by with_reducible assumption)) | (with_reducible refine Keeps.ext ?_ _) | (simp; done) | (simp; omega) | omega))).mono (fun b hb _ => by omega), (hr5.keep (by repeat' (first | (with_reducible exact Keeps.refl _ _) | (with_reducible refine Keeps.alloc ?_ _) | (with_reducible refine Keeps.drew ?_) | (with_reducible refine Keeps.drewN ?_ _) | (with_reducible refine Keeps.setCell ?_ ?_ _) | (refine Keeps.call ?_ (by with_reducible assumption)) | (with_reducible refine Keeps.ext ?_ _) | (simp; done) | (simp; omega) | omega))).mono (fun b hb _ => by omega)⟩, (by repeat' (first | (with_reducible exact Below.refl _ _) | (with_reducible refine Below.alloc ?_ ?_ _) | (with_reducible refine Below.drew ?_) | (with_reducible refine below_drewN ?_ _) | (with_reducible refine Below.setCell ?_ ?_ _) | (refine via ?_ (by with_reducible assumption) ?_) | (refine via ?_ (below_ext _ _) ?_) | go_size))⟩
theorem Few.places {b : Book} (h : Few b) : ∀ y ∈ b.stripes, y.place.length ≤ 100000000 := fun y hy => by
  have h1 := h.sl
  unfold slotsTo at h1
  rw [List.take_length] at h1
  obtain ⟨s, t, e⟩ := List.append_of_mem hy
  rw [e, List.flatMap_append, List.flatMap_cons, List.length_append, List.length_append] at h1
  omega
theorem Few.lists {b : Book} (h : Few b) : ∀ y ∈ b.things, y.list.length ≤ 100000000 := fun y hy => by
  have h1 := h.nm
  unfold namedTo at h1
  rw [List.take_length] at h1
  obtain ⟨s, t, e⟩ := List.append_of_mem hy
  rw [e, List.flatMap_append, List.flatMap_cons, List.length_append, List.length_append] at h1
  omega
end Go.Proofs.Ytjeecdoffoahkaa
