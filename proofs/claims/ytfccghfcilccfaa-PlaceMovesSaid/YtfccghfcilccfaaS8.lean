/- Slots on unlike disks are taken: the program's way. -/
import Derived.Test.YtfccghfcilccfaaS7
import Derived.Test.YtfccghfcilccfaaS2
import Derived.Test.YtfccghfcilccfaaB2
namespace Go.Proofs.Ytfccghfcilccfaa
open Go.RowKit Go.Silo

/-- How many slots of disk d are free. -/
def room (x : SlotsD) (d : Int) : Int := ((x.free.getD d.toNat []).length : Int)

set_option maxHeartbeats 2000000 in
theorem Some1_c {tg : Bool} {W : World} {S : Nat → Prop} {g3 g : Nat} {A1 : Option Addr} {n1 c1 : Nat} {x : SlotsD} {a b : Int} (hp : W.cell? ⟨g3, 0, none⟩ = some (.pointer (some ⟨g, 0, none⟩))) (hf : W.cell? ⟨g, 1, none⟩ = some (.slice A1 n1 c1))
    (h1 : Sl tg 52 (slE tg 3 intE) W S A1 n1 c1 x.free) (ha : 0 ≤ a ∧ a < n1) (hb : 0 ≤ b ∧ b < n1) :
    Calls Try.prog 158 #[.int .i64 a, .int .i64 b, .pointer (some ⟨g3, 0, none⟩)] W (RetV (.int .i64 (cmp3 (room x b) (room x a))) W) := by
  obtain ⟨a, rfl⟩ := Int.eq_ofNat_of_zero_le ha.1
  obtain ⟨b, rfl⟩ := Int.eq_ofNat_of_zero_le hb.1
  have ha' : a < n1 := by omega
  have hb' : b < n1 := by omega
  clear ha hb
  have hcap : n1 ≤ 9223372036854775807 := Nat.le_trans h1.le h1.cap
  obtain ⟨bb, off, Aa, na, ca, rfl, _, hbl, hla, hca, _⟩ := h1.sl_at ha'
  obtain ⟨bb', off', Ab, nb, cb, e, _, _, hlb, hcb, _⟩ := h1.sl_at hb'
  injection e with e; injection e with e1 e2 _; subst e1; subst e2
  have h3 := block_lt_of_cell hp
  have h4 := block_lt_of_cell hf
  have ea := hla.len
  have eb := hlb.len
  have hr : Hid (cmp3 (room x b) (room x a) = cmp3 (nb : Int) (na : Int)) := Lib.hid (by unfold room; simp only [Int.toNat_natCast]; rw [ea, eb])
  clear ea eb
  rw [hr.out]
  have hext := cell_ext W
  have hc := fun X => (Compare_c : Calls Try.prog 159 #[.int .i64 (nb : Int), .int .i64 (na : Int)] (W.ext X) _)
  have HC := Lib.hid hc; clear hc
  go_enter Try.func158, Try.ntmps158
  go_wp2
  refine region_ext (by kernel_rfl) (by kernel_rfl) ?_
  repeat (go_big_quiet_step ((go_at_call 159; exact RetV.ext (HC.out _))))
  refine wpQuiet_nil ?_
  rintro _ ⟨X, rfl⟩
  go_wp2
  go_ret
  exact ⟨rfl, (by repeat' (first | (with_reducible exact Below.refl _ _) | (with_reducible refine Below.alloc ?_ ?_ _) | (with_reducible refine Below.drew ?_) | (with_reducible refine below_drewN ?_ _) | (with_reducible refine Below.setCell ?_ ?_ _) | (refine via ?_ (by with_reducible assumption) ?_) | (refine via ?_ (below_ext _ _) ?_) | go_size))⟩
end Go.Proofs.Ytfccghfcilccfaa
