/- The insertion sort of the library, by falling keys, of few numbers; a stable sort of at most twenty. -/
import Derived.Test.YtfccghfcilccfaaS5
import Derived.RegionTactic
namespace Go.Proofs.Ytfccghfcilccfaa
open Go.RowKit Go.Silo

/-- x finds its place among those that are ahead (in turned order). -/
def insR (key : Int → Int) (x : Int) : List Int → List Int
  | [] => [x]
  | y :: ys => if key y < key x then y :: insR key x ys else x :: y :: ys
def sortR (key : Int → Int) (l : List Int) : List Int := l.foldl (fun R x => insR key x R) []
def sortBy (key : Int → Int) (l : List Int) : List Int := (sortR key l).reverse
theorem insR_length (key : Int → Int) (x : Int) (l : List Int) : (insR key x l).length = l.length + 1 := by
  induction l with
  | nil => rfl
  | cons y ys ih => rw [insR]; split <;> simp [ih]
theorem sortR_snoc (key : Int → Int) (l : List Int) (x : Int) : sortR key (l ++ [x]) = insR key x (sortR key l) := by simp [sortR]
theorem sortR_length (key : Int → Int) (l : List Int) : (sortR key l).length = l.length := by
  have : ∀ (m : List Int) (R : List Int), (m.foldl (fun R x => insR key x R) R).length = R.length + m.length := by
    intro m
    induction m with
    | nil => simp
    | cons x m ih => intro R; rw [List.foldl_cons, ih, insR_length, List.length_cons]; omega
  simpa [sortR] using this l []
theorem insR_pass (key : Int → Int) (x : Int) (M L : List Int) (h : ∀ y ∈ M, key y < key x) : insR key x (M ++ L) = M ++ insR key x L := by
  induction M with
  | nil => rfl
  | cons y M ih => rw [List.cons_append, insR, if_pos (h y (by simp)), ih (fun z hz => h z (by simp [hz])), List.cons_append]
theorem insR_stop (key : Int → Int) (x : Int) (L : List Int) (h : ∀ y, L.head? = some y → ¬ key y < key x) : insR key x L = x :: L := by
  cases L with
  | nil => rfl
  | cons y L => rw [insR, if_neg (h y rfl)]
theorem mem_insR {key : Int → Int} {x y : Int} {l : List Int} : y ∈ insR key x l ↔ y = x ∨ y ∈ l := by
  induction l with
  | nil => simp [insR]
  | cons z zs ih =>
    rw [insR]
    split
    · simp only [List.mem_cons, ih]; constructor <;> (rintro (h | h | h) <;> simp [h])
    · simp
theorem mem_sortR {key : Int → Int} {y : Int} {l : List Int} : y ∈ sortR key l ↔ y ∈ l := by
  have : ∀ (m : List Int) (R : List Int), y ∈ m.foldl (fun R x => insR key x R) R ↔ y ∈ R ∨ y ∈ m := by
    intro m
    induction m with
    | nil => simp
    | cons x m ih =>
      intro R; rw [List.foldl_cons, ih, mem_insR, List.mem_cons]; constructor
      · rintro ((h | h) | h) <;> simp [h]
      · rintro (h | h | h) <;> simp [h]
  simpa [sortR] using this l []

/-- The row as the inner loop has it: 'L' (turned) is ahead still, x moves, 'M' (turned) has been passed. -/
def rowAt (L : List Int) (x : Int) (M rest : List Int) : List Int := L.reverse ++ x :: (M.reverse ++ rest)
theorem rowAt_x {L M rest : List Int} {x : Int} : (rowAt L x M rest).getD L.length 0 = x := by simp [rowAt, List.getD_eq_getElem?_getD]
theorem rowAt_y {L M rest : List Int} {x y : Int} : (rowAt (y :: L) x M rest).getD L.length 0 = y := by
  simp [rowAt, List.getD_eq_getElem?_getD]
theorem rowAt_swap {L M rest : List Int} {x y : Int} : ((rowAt (y :: L) x M rest).set (L.length + 1) y).set L.length x = rowAt L x (M ++ [y]) rest := by
  simp [rowAt]
end Go.Proofs.Ytfccghfcilccfaa
