/- How silolaw16's scripts and silolaw17's asks read; no list is longer than the reach. Printed by gen_l5.py. -/
import Derived.Test.YtjeecdoffoahkaaL3r
namespace Go.Silo
open Go.RowKit Go.ChangeShapes Go.WideShapes Go.Deep

def StrB (x : ByteArray) : Prop := x.size ≤ reachBytes
theorem reads_strB {P : Program} {t : TypeId} (ht : P.underlying t = some .string) : ReadsB P strE t StrB := by
  intro H enc w fuel cs x h _ hw
  obtain ⟨s, rfl, rfl, h3⟩ := DataW.trod_string ht h
  refine ⟨s, ⟨rfl, h3⟩, ?_⟩
  have := hw s.data.toList.length (by simp [DataW.weights])
  simpa [StrB] using this
end Go.Silo
namespace Go.Proofs.Ytjeecdoffoahkaa
open Go.RowKit Go.ChangeShapes Go.WideShapes Go.Deep Go.Silo

def EntryB (x : Entry) : Prop := StrB x.digest ∧ x.list.length * 8 ≤ reachBytes
def TagB (x : Tag) : Prop := StrB x.name ∧ StrB x.digest
def RecordB (x : Record) : Prop := StrB x.name ∧ StrB x.digest ∧ x.list.length * 8 ≤ reachBytes ∧ x.slots.length * 16 ≤ reachBytes
def BookB (x : Book) : Prop := (x.stripes.length * 48 ≤ reachBytes ∧ ∀ y ∈ x.stripes, StripeB y) ∧ (x.things.length * 56 ≤ reachBytes ∧ ∀ y ∈ x.things, EntryB y) ∧ (x.tags.length * 32 ≤ reachBytes ∧ ∀ y ∈ x.tags, TagB y)
set_option maxRecDepth 100000 in
theorem readsB_entry : ReadsB Try.prog (entryE false) 130 EntryB := by
  intro H enc w fuel cs x h hfz hw
  obtain ⟨xs, n, _, rfl, hl, hlen, hf⟩ := DataW.trod_struct Try.underlying130 h
  have hc : Try.prog.cellsOf 130 = 4 := by kernel_rfl
  rw [hc] at hl
  have hs0 : Try.prog.cellsOf 9 = 1 := by kernel_rfl
  have hs1 : Try.prog.cellsOf 3 = 1 := by kernel_rfl
  have hs2 : Try.prog.cellsOf 4 = 1 := by kernel_rfl
  have hs3 : Try.prog.cellsOf 52 = 1 := by kernel_rfl
  match cs, hl with
  | [c0, c1, c2, c3], _ =>
  match xs, hlen with
  | [y0, y1, y2, y3], _ =>
  have h0 : DataW.trod enc Try.prog w 0 (fun _ => true) true n 9 (([c0, c1, c2, c3].drop 0).take (Try.prog.cellsOf 9)) = some y0 := hf 0 _ rfl
  rw [hs0] at h0
  have h1 : DataW.trod enc Try.prog w 0 (fun _ => true) true n 3 (([c0, c1, c2, c3].drop 1).take (Try.prog.cellsOf 3)) = some y1 := hf 1 _ rfl
  rw [hs1] at h1
  have h2 : DataW.trod enc Try.prog w 0 (fun _ => true) true n 4 (([c0, c1, c2, c3].drop 2).take (Try.prog.cellsOf 4)) = some y2 := hf 2 _ rfl
  rw [hs2] at h2
  have h3 : DataW.trod enc Try.prog w 0 (fun _ => true) true n 52 (([c0, c1, c2, c3].drop 3).take (Try.prog.cellsOf 52)) = some y3 := hf 3 _ rfl
  rw [hs3] at h3
  have hz : ∀ y ∈ [y0, y1, y2, y3], w.noneFrozen y.2 := fun y hy b o hm => hfz b o (List.mem_flatMap.2 ⟨y, hy, hm⟩)
  simp only [DataW.weights, Try.underlying130] at hw
  obtain ⟨a0, ⟨e0, i0⟩, j0⟩ := (reads_strB Try.underlying9) H enc w n _ _ h0 (hz _ (by simp)) (fun k hk => hw k (DataW.weights_mem_each (j := 0) (t := 9) (d := y0.1) rfl rfl k hk))
  obtain ⟨a1, e1, i1⟩ := reads_int Try.underlying3 H enc w n _ _ h1 (hz _ (by simp))
  obtain ⟨a2, e2, _⟩ := reads_bool Try.underlying4 H enc w n _ _ h2 (hz _ (by simp))
  obtain ⟨a3, ⟨A3, n3, k3, e3, i3⟩, j3⟩ := readsB_ints H enc w n _ _ h3 (hz _ (by simp)) (fun k hk => hw k (DataW.weights_mem_each (j := 3) (t := 52) (d := y3.1) rfl rfl k hk))
  simp at e0 e1 e2 e3
  subst e0 e1 e2 e3
  exact ⟨⟨a0, a1, a2, a3⟩, ⟨A3, n3, k3, rfl, ⟨i0, i1⟩, i3⟩, ⟨j0, j3.1⟩⟩
theorem readsB_entries : ReadsB Try.prog (slE false 130 (entryE false)) 25 (fun xs => xs.length * 56 ≤ reachBytes ∧ ∀ y ∈ xs, EntryB y) := reads_sliceB Try.underlying25 (by kernel_rfl) (by decide) 56 (by kernel_rfl) readsB_entry
set_option maxRecDepth 100000 in
theorem readsB_tag : ReadsB Try.prog tagE 133 TagB := by
  intro H enc w fuel cs x h hfz hw
  obtain ⟨xs, n, _, rfl, hl, hlen, hf⟩ := DataW.trod_struct Try.underlying133 h
  have hc : Try.prog.cellsOf 133 = 2 := by kernel_rfl
  rw [hc] at hl
  have hs0 : Try.prog.cellsOf 9 = 1 := by kernel_rfl
  match cs, hl with
  | [c0, c1], _ =>
  match xs, hlen with
  | [y0, y1], _ =>
  have h0 : DataW.trod enc Try.prog w 0 (fun _ => true) true n 9 (([c0, c1].drop 0).take (Try.prog.cellsOf 9)) = some y0 := hf 0 _ rfl
  rw [hs0] at h0
  have h1 : DataW.trod enc Try.prog w 0 (fun _ => true) true n 9 (([c0, c1].drop 1).take (Try.prog.cellsOf 9)) = some y1 := hf 1 _ rfl
  rw [hs0] at h1
  have hz : ∀ y ∈ [y0, y1], w.noneFrozen y.2 := fun y hy b o hm => hfz b o (List.mem_flatMap.2 ⟨y, hy, hm⟩)
  simp only [DataW.weights, Try.underlying133] at hw
  obtain ⟨a0, ⟨e0, i0⟩, j0⟩ := (reads_strB Try.underlying9) H enc w n _ _ h0 (hz _ (by simp)) (fun k hk => hw k (DataW.weights_mem_each (j := 0) (t := 9) (d := y0.1) rfl rfl k hk))
  obtain ⟨a1, ⟨e1, i1⟩, j1⟩ := (reads_strB Try.underlying9) H enc w n _ _ h1 (hz _ (by simp)) (fun k hk => hw k (DataW.weights_mem_each (j := 1) (t := 9) (d := y1.1) rfl rfl k hk))
  simp at e0 e1
  subst e0 e1
  exact ⟨⟨a0, a1⟩, ⟨rfl, i0, i1⟩, ⟨j0, j1⟩⟩
theorem readsB_tags : ReadsB Try.prog (slE false 133 tagE) 26 (fun xs => xs.length * 32 ≤ reachBytes ∧ ∀ y ∈ xs, TagB y) := reads_sliceB Try.underlying26 (by kernel_rfl) (by decide) 32 (by kernel_rfl) readsB_tag
set_option maxRecDepth 100000 in
theorem readsB_record : ReadsB Try.prog (recordE false) 183 RecordB := by
  intro H enc w fuel cs x h hfz hw
  obtain ⟨xs, n, _, rfl, hl, hlen, hf⟩ := DataW.trod_struct Try.underlying183 h
  have hc : Try.prog.cellsOf 183 = 6 := by kernel_rfl
  rw [hc] at hl
  have hs0 : Try.prog.cellsOf 3 = 1 := by kernel_rfl
  have hs1 : Try.prog.cellsOf 9 = 1 := by kernel_rfl
  have hs2 : Try.prog.cellsOf 52 = 1 := by kernel_rfl
  have hs3 : Try.prog.cellsOf 75 = 1 := by kernel_rfl
  match cs, hl with
  | [c0, c1, c2, c3, c4, c5], _ =>
  match xs, hlen with
  | [y0, y1, y2, y3, y4, y5], _ =>
  have h0 : DataW.trod enc Try.prog w 0 (fun _ => true) true n 3 (([c0, c1, c2, c3, c4, c5].drop 0).take (Try.prog.cellsOf 3)) = some y0 := hf 0 _ rfl
  rw [hs0] at h0
  have h1 : DataW.trod enc Try.prog w 0 (fun _ => true) true n 3 (([c0, c1, c2, c3, c4, c5].drop 1).take (Try.prog.cellsOf 3)) = some y1 := hf 1 _ rfl
  rw [hs0] at h1
  have h2 : DataW.trod enc Try.prog w 0 (fun _ => true) true n 9 (([c0, c1, c2, c3, c4, c5].drop 2).take (Try.prog.cellsOf 9)) = some y2 := hf 2 _ rfl
  rw [hs1] at h2
  have h3 : DataW.trod enc Try.prog w 0 (fun _ => true) true n 9 (([c0, c1, c2, c3, c4, c5].drop 3).take (Try.prog.cellsOf 9)) = some y3 := hf 3 _ rfl
  rw [hs1] at h3
  have h4 : DataW.trod enc Try.prog w 0 (fun _ => true) true n 52 (([c0, c1, c2, c3, c4, c5].drop 4).take (Try.prog.cellsOf 52)) = some y4 := hf 4 _ rfl
  rw [hs2] at h4
  have h5 : DataW.trod enc Try.prog w 0 (fun _ => true) true n 75 (([c0, c1, c2, c3, c4, c5].drop 5).take (Try.prog.cellsOf 75)) = some y5 := hf 5 _ rfl
  rw [hs3] at h5
  have hz : ∀ y ∈ [y0, y1, y2, y3, y4, y5], w.noneFrozen y.2 := fun y hy b o hm => hfz b o (List.mem_flatMap.2 ⟨y, hy, hm⟩)
  simp only [DataW.weights, Try.underlying183] at hw
  obtain ⟨a0, e0, i0⟩ := reads_int Try.underlying3 H enc w n _ _ h0 (hz _ (by simp))
  obtain ⟨a1, e1, i1⟩ := reads_int Try.underlying3 H enc w n _ _ h1 (hz _ (by simp))
  obtain ⟨a2, ⟨e2, i2⟩, j2⟩ := (reads_strB Try.underlying9) H enc w n _ _ h2 (hz _ (by simp)) (fun k hk => hw k (DataW.weights_mem_each (j := 2) (t := 9) (d := y2.1) rfl rfl k hk))
  obtain ⟨a3, ⟨e3, i3⟩, j3⟩ := (reads_strB Try.underlying9) H enc w n _ _ h3 (hz _ (by simp)) (fun k hk => hw k (DataW.weights_mem_each (j := 3) (t := 9) (d := y3.1) rfl rfl k hk))
  obtain ⟨a4, ⟨A4, n4, k4, e4, i4⟩, j4⟩ := readsB_ints H enc w n _ _ h4 (hz _ (by simp)) (fun k hk => hw k (DataW.weights_mem_each (j := 4) (t := 52) (d := y4.1) rfl rfl k hk))
  obtain ⟨a5, ⟨A5, n5, k5, e5, i5⟩, j5⟩ := readsB_places H enc w n _ _ h5 (hz _ (by simp)) (fun k hk => hw k (DataW.weights_mem_each (j := 5) (t := 75) (d := y5.1) rfl rfl k hk))
  simp at e0 e1 e2 e3 e4 e5
  subst e0 e1 e2 e3 e4 e5
  exact ⟨⟨a0, a1, a2, a3, a4, a5⟩, ⟨A4, n4, k4, A5, n5, k5, rfl, ⟨i0, i1, i2, i3⟩, i4, i5⟩, ⟨j2, j3, j4.1, j5.1⟩⟩
theorem readsB_records : ReadsB Try.prog (slE false 183 (recordE false)) 29 (fun xs => xs.length * 96 ≤ reachBytes ∧ ∀ y ∈ xs, RecordB y) := reads_sliceB Try.underlying29 (by kernel_rfl) (by decide) 96 (by kernel_rfl) readsB_record
set_option maxRecDepth 100000 in
theorem readsB_book : ReadsB Try.prog (bookE false) 28 BookB := by
  intro H enc w fuel cs x h hfz hw
  obtain ⟨xs, n, _, rfl, hl, hlen, hf⟩ := DataW.trod_struct Try.underlying28 h
  have hc : Try.prog.cellsOf 28 = 4 := by kernel_rfl
  rw [hc] at hl
  have hs0 : Try.prog.cellsOf 24 = 1 := by kernel_rfl
  have hs1 : Try.prog.cellsOf 25 = 1 := by kernel_rfl
  have hs2 : Try.prog.cellsOf 26 = 1 := by kernel_rfl
  have hs3 : Try.prog.cellsOf 3 = 1 := by kernel_rfl
  match cs, hl with
  | [c0, c1, c2, c3], _ =>
  match xs, hlen with
  | [y0, y1, y2, y3], _ =>
  have h0 : DataW.trod enc Try.prog w 0 (fun _ => true) true n 24 (([c0, c1, c2, c3].drop 0).take (Try.prog.cellsOf 24)) = some y0 := hf 0 _ rfl
  rw [hs0] at h0
  have h1 : DataW.trod enc Try.prog w 0 (fun _ => true) true n 25 (([c0, c1, c2, c3].drop 1).take (Try.prog.cellsOf 25)) = some y1 := hf 1 _ rfl
  rw [hs1] at h1
  have h2 : DataW.trod enc Try.prog w 0 (fun _ => true) true n 26 (([c0, c1, c2, c3].drop 2).take (Try.prog.cellsOf 26)) = some y2 := hf 2 _ rfl
  rw [hs2] at h2
  have h3 : DataW.trod enc Try.prog w 0 (fun _ => true) true n 3 (([c0, c1, c2, c3].drop 3).take (Try.prog.cellsOf 3)) = some y3 := hf 3 _ rfl
  rw [hs3] at h3
  have hz : ∀ y ∈ [y0, y1, y2, y3], w.noneFrozen y.2 := fun y hy b o hm => hfz b o (List.mem_flatMap.2 ⟨y, hy, hm⟩)
  simp only [DataW.weights, Try.underlying28] at hw
  obtain ⟨a0, ⟨A0, n0, k0, e0, i0⟩, j0⟩ := readsB_stripes H enc w n _ _ h0 (hz _ (by simp)) (fun k hk => hw k (DataW.weights_mem_each (j := 0) (t := 24) (d := y0.1) rfl rfl k hk))
  obtain ⟨a1, ⟨A1, n1, k1, e1, i1⟩, j1⟩ := readsB_entries H enc w n _ _ h1 (hz _ (by simp)) (fun k hk => hw k (DataW.weights_mem_each (j := 1) (t := 25) (d := y1.1) rfl rfl k hk))
  obtain ⟨a2, ⟨A2, n2, k2, e2, i2⟩, j2⟩ := readsB_tags H enc w n _ _ h2 (hz _ (by simp)) (fun k hk => hw k (DataW.weights_mem_each (j := 2) (t := 26) (d := y2.1) rfl rfl k hk))
  obtain ⟨a3, e3, i3⟩ := reads_int Try.underlying3 H enc w n _ _ h3 (hz _ (by simp))
  simp at e0 e1 e2 e3
  subst e0 e1 e2 e3
  exact ⟨⟨a0, a1, a2, a3⟩, ⟨A0, n0, k0, A1, n1, k1, A2, n2, k2, rfl, i3, i0, i1, i2⟩, ⟨j0, j1, j2⟩⟩
set_option maxRecDepth 100000 in
theorem readsB_cursor : ReadsB Try.prog cursorE 44 (fun _ => True) := by
  intro H enc w fuel cs x h hfz hw
  obtain ⟨xs, n, _, rfl, hl, hlen, hf⟩ := DataW.trod_struct Try.underlying44 h
  have hc : Try.prog.cellsOf 44 = 2 := by kernel_rfl
  rw [hc] at hl
  have hs0 : Try.prog.cellsOf 3 = 1 := by kernel_rfl
  match cs, hl with
  | [c0, c1], _ =>
  match xs, hlen with
  | [y0, y1], _ =>
  have h0 : DataW.trod enc Try.prog w 0 (fun _ => true) true n 3 (([c0, c1].drop 0).take (Try.prog.cellsOf 3)) = some y0 := hf 0 _ rfl
  rw [hs0] at h0
  have h1 : DataW.trod enc Try.prog w 0 (fun _ => true) true n 3 (([c0, c1].drop 1).take (Try.prog.cellsOf 3)) = some y1 := hf 1 _ rfl
  rw [hs0] at h1
  have hz : ∀ y ∈ [y0, y1], w.noneFrozen y.2 := fun y hy b o hm => hfz b o (List.mem_flatMap.2 ⟨y, hy, hm⟩)
  simp only [DataW.weights, Try.underlying44] at hw
  obtain ⟨a0, e0, i0⟩ := reads_int Try.underlying3 H enc w n _ _ h0 (hz _ (by simp))
  obtain ⟨a1, e1, i1⟩ := reads_int Try.underlying3 H enc w n _ _ h1 (hz _ (by simp))
  simp at e0 e1
  subst e0 e1
  exact ⟨⟨a0, a1⟩, ⟨rfl, i0, i1⟩, trivial⟩
theorem readsB_cursors : ReadsB Try.prog (slE false 44 cursorE) 33 (fun xs => xs.length * 16 ≤ reachBytes ∧ ∀ y ∈ xs, True) := reads_sliceB Try.underlying33 (by kernel_rfl) (by decide) 16 (by kernel_rfl) readsB_cursor
/-- A script: a shape, a book, records, which disks live, a number. -/
structure ScriptD where
  s : Shape
  b : Book
  l : List Record
  live : List Bool
  n : Int
def ScriptDB (p : ScriptD) : Prop := BookB p.b ∧ (p.l.length * 96 ≤ reachBytes ∧ ∀ y ∈ p.l, RecordB y) ∧ p.live.length ≤ reachBytes
def scriptDE (tg : Bool) : Enc ScriptD where
  sz := 10
  R w S vs x := ∃ A0 n0 c0 A1 n1 c1 A2 n2 c2 A3 n3 c3 A4 n4 c4, vs = [.int .i64 x.s.K, .int .i64 x.s.M, .int .i64 x.s.size, .slice A0 n0 c0, .slice A1 n1 c1, .slice A2 n2 c2, .int .i64 x.b.next, .slice A3 n3 c3, .slice A4 n4 c4, .int .i64 x.n] ∧ (I64 x.s.K ∧ I64 x.s.M ∧ I64 x.s.size) ∧ (I64 x.b.next ∧ I64 x.n) ∧
    (Sl tg 97 (stripeE tg) w S A0 n0 c0 x.b.stripes ∧ Sl tg 130 (entryE tg) w S A1 n1 c1 x.b.things ∧ Sl tg 133 tagE w S A2 n2 c2 x.b.tags) ∧ Sl tg 183 (recordE tg) w S A3 n3 c3 x.l ∧ Sl tg 4 boolE w S A4 n4 c4 x.live
  len h := by obtain ⟨_, _, _, _, _, _, _, _, _, _, _, _, _, _, _, rfl, _⟩ := h; rfl
  one h := by obtain ⟨_, _, _, _, _, _, _, _, _, _, _, _, _, _, _, rfl, _⟩ := h; simp [Value.oneCell']
  mono hS h := by obtain ⟨_, _, _, _, _, _, _, _, _, _, _, _, _, _, _, rfl, h1, h2, ⟨q0, q1, q2⟩, q3, q4⟩ := h; exact ⟨_, _, _, _, _, _, _, _, _, _, _, _, _, _, _, rfl, h1, h2, ⟨q0.mono hS, q1.mono hS, q2.mono hS⟩, q3.mono hS, q4.mono hS⟩
  frame hA hs h := by obtain ⟨_, _, _, _, _, _, _, _, _, _, _, _, _, _, _, rfl, h1, h2, ⟨q0, q1, q2⟩, q3, q4⟩ := h; exact ⟨_, _, _, _, _, _, _, _, _, _, _, _, _, _, _, rfl, h1, h2, ⟨q0.frame hA hs, q1.frame hA hs, q2.frame hA hs⟩, q3.frame hA hs, q4.frame hA hs⟩
set_option maxRecDepth 100000 in
theorem readsB_script : ReadsB Try.prog (scriptDE false) 32 ScriptDB := by
  intro H enc w fuel cs x h hfz hw
  obtain ⟨xs, n, _, rfl, hl, hlen, hf⟩ := DataW.trod_struct Try.underlying32 h
  have hc : Try.prog.cellsOf 32 = 10 := by kernel_rfl
  rw [hc] at hl
  have hs0 : Try.prog.cellsOf 23 = 3 := by kernel_rfl
  have hs1 : Try.prog.cellsOf 28 = 4 := by kernel_rfl
  have hs2 : Try.prog.cellsOf 29 = 1 := by kernel_rfl
  have hs3 : Try.prog.cellsOf 30 = 1 := by kernel_rfl
  have hs4 : Try.prog.cellsOf 3 = 1 := by kernel_rfl
  match cs, hl with
  | [c0, c1, c2, c3, c4, c5, c6, c7, c8, c9], _ =>
  match xs, hlen with
  | [y0, y1, y2, y3, y4], _ =>
  have h0 : DataW.trod enc Try.prog w 0 (fun _ => true) true n 23 (([c0, c1, c2, c3, c4, c5, c6, c7, c8, c9].drop 0).take (Try.prog.cellsOf 23)) = some y0 := hf 0 _ rfl
  rw [hs0] at h0
  have h1 : DataW.trod enc Try.prog w 0 (fun _ => true) true n 28 (([c0, c1, c2, c3, c4, c5, c6, c7, c8, c9].drop 3).take (Try.prog.cellsOf 28)) = some y1 := hf 1 _ rfl
  rw [hs1] at h1
  have h2 : DataW.trod enc Try.prog w 0 (fun _ => true) true n 29 (([c0, c1, c2, c3, c4, c5, c6, c7, c8, c9].drop 7).take (Try.prog.cellsOf 29)) = some y2 := hf 2 _ rfl
  rw [hs2] at h2
  have h3 : DataW.trod enc Try.prog w 0 (fun _ => true) true n 30 (([c0, c1, c2, c3, c4, c5, c6, c7, c8, c9].drop 8).take (Try.prog.cellsOf 30)) = some y3 := hf 3 _ rfl
  rw [hs3] at h3
  have h4 : DataW.trod enc Try.prog w 0 (fun _ => true) true n 3 (([c0, c1, c2, c3, c4, c5, c6, c7, c8, c9].drop 9).take (Try.prog.cellsOf 3)) = some y4 := hf 4 _ rfl
  rw [hs4] at h4
  have hz : ∀ y ∈ [y0, y1, y2, y3, y4], w.noneFrozen y.2 := fun y hy b o hm => hfz b o (List.mem_flatMap.2 ⟨y, hy, hm⟩)
  simp only [DataW.weights, Try.underlying32] at hw
  obtain ⟨a0, ⟨e0, i0⟩, j0⟩ := readsB_shape H enc w n _ _ h0 (hz _ (by simp)) (fun k hk => hw k (DataW.weights_mem_each (j := 0) (t := 23) (d := y0.1) rfl rfl k hk))
  obtain ⟨a1, ⟨A0, n0, k0, A1, n1, k1, A2, n2, k2, e1, i1, r0, r1, r2⟩, j1⟩ := readsB_book H enc w n _ _ h1 (hz _ (by simp)) (fun k hk => hw k (DataW.weights_mem_each (j := 1) (t := 28) (d := y1.1) rfl rfl k hk))
  obtain ⟨a2, ⟨A2', n2', k2', e2, i2⟩, j2⟩ := readsB_records H enc w n _ _ h2 (hz _ (by simp)) (fun k hk => hw k (DataW.weights_mem_each (j := 2) (t := 29) (d := y2.1) rfl rfl k hk))
  obtain ⟨a3, ⟨A3, n3, k3, e3, i3⟩, j3⟩ := readsB_bools H enc w n _ _ h3 (hz _ (by simp)) (fun k hk => hw k (DataW.weights_mem_each (j := 3) (t := 30) (d := y3.1) rfl rfl k hk))
  obtain ⟨a4, e4, i4⟩ := reads_int Try.underlying3 H enc w n _ _ h4 (hz _ (by simp))
  simp at e0 e1 e2 e3 e4
  obtain ⟨e0', e0'', e0'''⟩ := e0
  obtain ⟨e1', e1'', e1''', e1''''⟩ := e1
  subst e0' e0'' e0''' e1' e1'' e1''' e1'''' e2 e3 e4
  exact ⟨⟨a0, a1, a2, a3, a4⟩, ⟨A0, n0, k0, A1, n1, k1, A2, n2, k2, A2', n2', k2', A3, n3, k3, rfl, i0, ⟨i1, i4⟩, ⟨r0, r1, r2⟩, i2, i3⟩, ⟨j1, j2, by rw [← Nat.mul_one a3.length]; exact j3.1⟩⟩
/-- An ask: a script's shape and book, cursors, a number. -/
structure AskC where
  p : ScriptD
  c : List Cursor
  n : Int
def AskCB (q : AskC) : Prop := ScriptDB q.p ∧ q.c.length * 16 ≤ reachBytes
def askCE (tg : Bool) : Enc AskC where
  sz := 12
  R w S vs x := ∃ us A n c, vs = us ++ [.slice A n c, .int .i64 x.n] ∧ (scriptDE tg).R w S us x.p ∧ I64 x.n ∧ Sl tg 44 cursorE w S A n c x.c
  len h := by obtain ⟨us, _, _, _, rfl, h, _⟩ := h; rw [List.length_append, (scriptDE tg).len h]; rfl
  one h := by
    obtain ⟨us, _, _, _, rfl, h, _⟩ := h
    intro v hv
    rcases List.mem_append.1 hv with hv | hv
    · exact (scriptDE tg).one h v hv
    · simp at hv; rcases hv with rfl | rfl <;> simp [Value.oneCell']
  mono hS h := by obtain ⟨us, _, _, _, rfl, h, hi, hc⟩ := h; exact ⟨us, _, _, _, rfl, (scriptDE tg).mono hS h, hi, hc.mono hS⟩
  frame hA hs h := by obtain ⟨us, _, _, _, rfl, h, hi, hc⟩ := h; exact ⟨us, _, _, _, rfl, (scriptDE tg).frame hA hs h, hi, hc.frame hA hs⟩
set_option maxRecDepth 100000 in
theorem readsB_ask : ReadsB Try.prog (askCE false) 35 AskCB := by
  intro H enc w fuel cs x h hfz hw
  obtain ⟨xs, n, _, rfl, hl, hlen, hf⟩ := DataW.trod_struct Try.underlying35 h
  have hc : Try.prog.cellsOf 35 = 12 := by kernel_rfl
  rw [hc] at hl
  have hs0 : Try.prog.cellsOf 32 = 10 := by kernel_rfl
  have hs1 : Try.prog.cellsOf 33 = 1 := by kernel_rfl
  have hs2 : Try.prog.cellsOf 3 = 1 := by kernel_rfl
  match cs, hl with
  | [c0, c1, c2, c3, c4, c5, c6, c7, c8, c9, c10, c11], _ =>
  match xs, hlen with
  | [y0, y1, y2], _ =>
  have h0 : DataW.trod enc Try.prog w 0 (fun _ => true) true n 32 (([c0, c1, c2, c3, c4, c5, c6, c7, c8, c9, c10, c11].drop 0).take (Try.prog.cellsOf 32)) = some y0 := hf 0 _ rfl
  rw [hs0] at h0
  have h1 : DataW.trod enc Try.prog w 0 (fun _ => true) true n 33 (([c0, c1, c2, c3, c4, c5, c6, c7, c8, c9, c10, c11].drop 10).take (Try.prog.cellsOf 33)) = some y1 := hf 1 _ rfl
  rw [hs1] at h1
  have h2 : DataW.trod enc Try.prog w 0 (fun _ => true) true n 3 (([c0, c1, c2, c3, c4, c5, c6, c7, c8, c9, c10, c11].drop 11).take (Try.prog.cellsOf 3)) = some y2 := hf 2 _ rfl
  rw [hs2] at h2
  have hz : ∀ y ∈ [y0, y1, y2], w.noneFrozen y.2 := fun y hy b o hm => hfz b o (List.mem_flatMap.2 ⟨y, hy, hm⟩)
  simp only [DataW.weights, Try.underlying35] at hw
  obtain ⟨a0, e0, j0⟩ := readsB_script H enc w n _ _ h0 (hz _ (by simp)) (fun k hk => hw k (DataW.weights_mem_each (j := 0) (t := 32) (d := y0.1) rfl rfl k hk))
  obtain ⟨a1, ⟨A1, n1, k1, e1, i1⟩, j1⟩ := readsB_cursors H enc w n _ _ h1 (hz _ (by simp)) (fun k hk => hw k (DataW.weights_mem_each (j := 1) (t := 33) (d := y1.1) rfl rfl k hk))
  obtain ⟨a2, e2, i2⟩ := reads_int Try.underlying3 H enc w n _ _ h2 (hz _ (by simp))
  simp at e1 e2
  simp only [List.drop_zero, List.take_succ_cons, List.take_zero] at e0
  subst e1 e2
  exact ⟨⟨a0, a1, a2⟩, ⟨_, A1, n1, k1, rfl, e0, i2, i1⟩, ⟨j0, j1.1⟩⟩
set_option maxRecDepth 100000 in
theorem open_ask17 {H : Type} {enc : TypeId × Value → H} {w : World} {v : Value} {d : DataW H} {p : List MemPlace} {r : Reach} {b0 : Nat} (hv : Value.okWide Try.prog w r b0 35 v) (h : DataW.Trod enc Try.prog w 0 (fun _ => true) true 35 v d p) (hfz : w.noneFrozen p)
    (hw : ∀ k ∈ d.weights Try.prog 35, k ≤ reachBytes) :
    ∃ vs, ∃ q : AskC, v = .agg (List.toArray vs) ∧ (askCE false).R w (fun b => b < w.heap.size) vs q ∧ AskCB q := by
  obtain ⟨cs, rfl, hsz⟩ := okWide_struct Try.underlying35 hv
  obtain ⟨fuel, hf0⟩ := h
  obtain ⟨q, hR, hQ⟩ := readsB_ask H enc w fuel cs.toList _ hf0 hfz hw
  exact ⟨cs.toList, q, by rw [Array.toArray_toList], hR, hQ⟩
end Go.Proofs.Ytjeecdoffoahkaa
