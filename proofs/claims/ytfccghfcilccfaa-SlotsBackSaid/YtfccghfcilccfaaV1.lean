/- What was taken lies on unlike disks that live; given back all is as it was: silolaw11.SlotsBack answers true at every input, and leaves the input as it was. Conditions: none beyond the row's own. -/
import Derived.Test.YtfccghfcilccfaaRows
import Derived.Test.YtfccghfcilccfaaChecked
import Derived.Test.YtfccghfcilccfaaU1
import Derived.Test.YtfccghfcilccfaaL1
namespace Go.Proofs.Ytfccghfcilccfaa
open Go.ChangeShapes Go.WideShapes Go.ChangeAt Go.RowKit Go.Silo

theorem Try.own : ownKnob Try.prog.godebug = none := by kernel_rfl
theorem Try.laidOut : laidOutB Try.prog = true := by kernel_rfl

set_option maxRecDepth 100000 in
theorem slotsBack_lifted (os : Os) (started : os.Started) (H : Type) (enc : TypeId × Value → H) :
    ReturnsInHanded {} Try.checked os 12 .any (Rows.slotsBackSpec.pre6 enc Try.prog Try.f12 Rows.slotsBackRow.domain false) (Rows.slotsBackSpec.post enc Try.prog Try.f12 false true false false) := by
  refine returnsInHanded_of_change (C := Try.checked) Try.own started (by kernel_rfl) Try.func12
    (ChangeSpec.witness6 (enc := enc) (C := Try.checked) false ⟨#[], #[.agg #[.slice none 0 0, .slice none 0 0, .slice none 0 0]], []⟩ 8 (by kernel_rfl) (by kernel_rfl) (by kernel_rfl) (by kernel_rfl)) ?_
  intro W base args ds gs before hval0 hW hcnd _
  have hval : ∀ (j : Nat) t v, Try.f12.params[j]? = some t → args[j]? = some v → Value.okWide Try.prog W .any base t v := hval0
  have hW' := hW
  obtain ⟨p, q, hA0, hV, rfl, hfz, hnd⟩ := hW
  have hA : DataW.TrodAll enc Try.prog W 0 (fun _ => true) true Try.f12.params.toList args.toList ds p := hA0
  rw [Try.params12] at hA hval
  obtain ⟨v, d, rfl, rfl, h⟩ := trodAll_one hA
  obtain ⟨rfl, rfl⟩ := trodVars_none hV
  rw [List.append_nil] at hfz hW'
  obtain ⟨A0, n0, c0, A1, n1, c1, A2, n2, c2, x, l, rfl, s0, s1, s2⟩ := open_script (hval 0 _ _ rfl rfl) h hfz
  have hlt : ∀ x ∈ p, x.block < W.heap.size := fun x hx => hW'.lt x hx
  clear hA0 hval0 hA hval hV hcnd hnd
  refine (SlotsBack_c s0 s1 s2).mono fun e W' ⟨he, hb⟩ => ?_
  subst he
  refine ⟨_, rfl, law_post (pa := p) (pv := []) hW' (trodAll_mk1 (shut_bool Try.underlying4 _)) ?_ rfl hb⟩
  have := trodAll_mk1 (hb.trod Try.laidOut (by kernel_rfl) (by decide) h hlt)
  exact this

theorem slotsBack_holds : Rows.SlotsBackSaid :=
  OpenClaim.holds_of_wide 12 Try.f12 rfl rfl rfl rfl rfl rfl rfl ⟨rfl, rfl, rfl, rfl, rfl⟩ rfl rfl rfl rfl rfl (by kernel_rfl) Try.func12 (by kernel_rfl)
    (of_decide_eq_true (by kernel_rfl)) (by unfold Func.isWrapper; first | (rw [if_pos (by decide +kernel)]; kernel_rfl) | (rw [if_neg (by decide +kernel)]; exact ⟨rfl, rfl⟩))
    (fun os started H enc _ => slotsBack_lifted os started H enc)
#print axioms slotsBack_holds
end Go.Proofs.Ytfccghfcilccfaa
