/- Slots on unlike disks are taken: the program's way, whole. -/
import Derived.Test.YtipecejghioicaaS7r
import Derived.Test.YtipecejghioicaaB2r
import Derived.Test.YtipecejghioicaaS3r
import Derived.StillTailTactics
-- from S8
namespace Go.Proofs.Ytipecejghioicaa
open Go.RowKit Go.Silo

/-- How many slots of disk d are free. -/
def room (x : SlotsD) (d : Int) : Int := ((x.free.getD d.toNat []).length : Int)

end Go.Proofs.Ytipecejghioicaa
namespace Go.Proofs.Ytipecejghioicaa
open Go.RowKit Go.Silo

/-- Which of the first k disks live and are not named. -/
def candTo (live : List Bool) (not : List Int) (k : Nat) : List Int := (upto k).filter (fun d => live.getD d.toNat false && !decide (d ∈ not))
def cands (x : SlotsD) (not : List Int) : List Int := candTo x.live not x.live.length
def withRoom (x : SlotsD) (l : List Int) : List Int := l.filter (fun d => decide (0 < room x d))
def chosen (x : SlotsD) (n : Nat) (not : List Int) : List Int := (sortBy (room x) (withRoom x (cands x not))).take n
def slotOf (x : SlotsD) (d : Int) : Slot := ⟨d, (x.free.getD d.toNat []).getD 0 0⟩
def tailAt (f : List (List Int)) (d : Int) : List (List Int) := f.set d.toNat (f.getD d.toNat []).tail
/-- The error of so many slots that are to be taken. -/
def takeErr (x : SlotsD) (n : Nat) (not : List Int) : Int := if (cands x not).length < n then 6 else if (withRoom x (cands x not)).length < n then 5 else 0
def takeL (x : SlotsD) (n : Nat) (not : List Int) : List Slot := (chosen x n not).map (slotOf x)
def takeX (x : SlotsD) (n : Nat) (not : List Int) : SlotsD := ⟨x.live, (chosen x n not).foldl tailAt x.free⟩

theorem _root_.Go.Silo.Sl.tagAt {α : Type} {T : TypeId} {E : Enc α} {w : World} {S : Nat → Prop} {b off n c : Nat} {xs : List α} (h : Sl true T E w S (some ⟨b, off, none⟩) n c xs) (hn : 0 < n) : ∃ q, w.shape? b = some (T, q) := by
  obtain ⟨b', off', e, _, _, ht, _⟩ := h.2.2.2 hn
  injection e with e; injection e with e1 e2 _; subst e1
  exact ht rfl
/-- What Some leaves. -/
def SomePost (S : Nat → Prop) (w : World) (x : SlotsD) (n : Nat) (not : List Int) (A1 : Option Addr) (n1 c1 : Nat) (e : Ending) (w' : World) : Prop :=
  (takeErr x n not ≠ 0 ∧ e = .returned (.tuple #[.slice none 0 0, .int .i64 (takeErr x n not)]) ∧ Below w.heap.size w w') ∨
  (takeErr x n not = 0 ∧ ∃ A c, e = .returned (.tuple #[.slice A n c, .int .i64 0]) ∧ (takeL x n not).length = n ∧ Own 67 slotE w' w.heap.size (fun b => w.heap.size ≤ b) A n c (takeL x n not) ∧
    Sl true 44 (slE true 3 intE) w' S A1 n1 c1 (takeX x n not).free ∧ Turns S 44 w w')

end Go.Proofs.Ytipecejghioicaa
