/- Where any text's stripes go, and how many go in, is the page's, or the error is: silolaw18.FitText answers true at every input, and leaves the input as it was. Conditions: none beyond the row's own. -/
import Derived.Test.YtfccghfcilccfaaRows
import Derived.Test.YtfccghfcilccfaaChecked
import Derived.Test.YtfccghfcilccfaaM3
import Derived.Test.YtfccghfcilccfaaL4
namespace Go.Proofs.Ytfccghfcilccfaa
open Go.ChangeShapes Go.WideShapes Go.ChangeAt Go.RowKit Go.Silo

theorem Try.own : ownKnob Try.prog.godebug = none := by kernel_rfl
theorem Try.laidOut : laidOutB Try.prog = true := by kernel_rfl

set_option maxRecDepth 100000 in
theorem fitText_lifted (os : Os) (started : os.Started) (H : Type) (enc : TypeId × Value → H) :
    ReturnsInHanded {} Try.checked os 7 .any (Rows.fitTextSpec.pre6 enc Try.prog Try.f7 Rows.fitTextRow.domain false) (Rows.fitTextSpec.post enc Try.prog Try.f7 false true false false) := by
  refine returnsInHanded_of_change_sized (C := Try.checked) Try.own started (by kernel_rfl) Try.func7
    (ChangeSpec.witness6 (enc := enc) (C := Try.checked) false ⟨#[], #[.agg #[.slice none 0 0, .slice none 0 0, .slice none 0 0, .int .i64 0]], []⟩ 8 (by kernel_rfl) (by kernel_rfl) (by kernel_rfl) (by kernel_rfl)) ?_
  intro W base args ds gs before hval0 hW hcnd hsz0 _
  have hval : ∀ (j : Nat) t v, Try.f7.params[j]? = some t → args[j]? = some v → Value.okWide Try.prog W .any base t v := hval0
  have hW' := hW
  obtain ⟨p, q, hA0, hV, rfl, hfz, hnd⟩ := hW
  have hA : DataW.TrodAll enc Try.prog W 0 (fun _ => true) true Try.f7.params.toList args.toList ds p := hA0
  have hsz : (DataW.weightsEach Try.prog (Try.f7.params.toList ++ []) (ds ++ gs)).all (· ≤ reachBytes) = true := hsz0
  rw [Try.params7] at hA hval hsz
  obtain ⟨v, d, rfl, rfl, h⟩ := trodAll_one hA
  obtain ⟨rfl, rfl⟩ := trodVars_none hV
  have hw : ∀ k ∈ d.weights Try.prog 64, k ≤ reachBytes := fun k hk => by
    have h1 := List.all_eq_true.1 hsz k (DataW.weights_mem_each (j := 0) (t := 64) (d := d) rfl rfl k hk)
    simpa using h1
  rw [List.append_nil] at hfz hW'
  obtain ⟨As, ns, cs, A0, n0, c0, A1, n1, c1, x, rfl, s0, hB⟩ := open_askF (hval 0 _ _ rfl rfl) h hfz hw
  have hlt : ∀ x ∈ p, x.block < W.heap.size := fun x hx => hW'.lt x hx
  clear hA0 hval0 hA hval hV hcnd hnd hsz0 hsz hw
  refine (FitText_c hB s0).mono fun e W' ⟨he, hb⟩ => ?_
  subst he
  refine ⟨_, rfl, law_post (pa := p) (pv := []) hW' (trodAll_mk1 (shut_bool Try.underlying4 _)) ?_ rfl hb⟩
  have := trodAll_mk1 (hb.trod Try.laidOut (by kernel_rfl) (by decide) h hlt)
  exact this

theorem fitText_holds : Rows.FitTextSaid :=
  OpenClaim.holds_of_wide 7 Try.f7 rfl rfl rfl rfl rfl rfl rfl ⟨rfl, rfl, rfl, rfl, rfl⟩ rfl rfl rfl rfl rfl (by kernel_rfl) Try.func7 (by kernel_rfl)
    (of_decide_eq_true (by kernel_rfl)) (by unfold Func.isWrapper; first | (rw [if_pos (by decide +kernel)]; kernel_rfl) | (rw [if_neg (by decide +kernel)]; exact ⟨rfl, rfl⟩))
    (fun os started H enc _ => fitText_lifted os started H enc)
#print axioms fitText_holds
end Go.Proofs.Ytfccghfcilccfaa
