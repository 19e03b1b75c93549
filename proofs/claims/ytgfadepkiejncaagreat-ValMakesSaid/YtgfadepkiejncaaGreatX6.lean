/- For every list of at most 60 formed values of at most 400 nodes, or om, Tuple and Set return what the specification returns: the statement ValMakes. Conditions: those of the given statement alone. -/
import Derived.Test.YtgfadepkiejncaaGreatLb
import Derived.Test.YtgfadepkiejncaaGreatLe
import Derived.Test.YtgfadepkiejncaaGreatRows
set_option linter.unusedVariables false
set_option linter.unusedSimpArgs false
namespace Go.Proofs.YtgfadepkiejncaaGreat
open Go.Ab Go.ChangeShapes Go.WideShapes Go.ChangeAt Go.RowKit
set_option maxHeartbeats 0
set_option maxRecDepth 100000
theorem valMakes_lifted (os : Os) (started : os.Started) (H : Type) (enc : TypeId × Value → H) :
    ReturnsInHanded {} Tryz.checked os 6 .any (Rows.valMakesSpec.pre6 enc Tryz.prog Tryz.f6 Rows.valMakesRow.domain false) (Rows.valMakesSpec.post enc Tryz.prog Tryz.f6 false true false false) := by
  refine returnsInHanded_of_change_sized (C := Tryz.checked) own started (by kernel_rfl) Tryz.func6
    (ChangeSpec.witness6 (enc := enc) (C := Tryz.checked) false ⟨#[], #[.slice none 0 0], []⟩ 8 (by kernel_rfl) (by kernel_rfl) (by kernel_rfl) (by kernel_rfl)) ?_
  intro W base args ds gs before hval0 hW _ hsz _
  have hval : ∀ (j : Nat) t v, Tryz.f6.params[j]? = some t → args[j]? = some v → Value.okWide Tryz.prog W .any base t v := hval0
  have hW' := hW
  obtain ⟨p, q, hA0, hV, rfl, hfz, hnd⟩ := hW
  have hA : DataW.TrodAll enc Tryz.prog W 0 (fun _ => true) true Tryz.f6.params.toList args.toList ds p := hA0
  rw [Tryz.params6] at hA hval
  obtain ⟨v0, d0, rfl, rfl, h0⟩ := trodAll_one hA
  obtain ⟨rfl, rfl⟩ := trodVars_none hV
  have hsz2 : (DataW.weightsEach Tryz.prog [25] ([d0] ++ [])).all (· ≤ reachBytes) = true := hsz
  have hz : ∀ n ∈ DataW.weightsEach Tryz.prog [25] [d0], n ≤ reachBytes := fun n hn => by
    have := List.all_eq_true.1 hsz2 n hn
    simpa using this
  obtain ⟨z0, hz⟩ := weights_cons hz
  obtain ⟨g0, o0, r0⟩ := arg25 h0 (hval 0 25 v0 rfl rfl) z0
  refine (law_calls (us := #[v0]) (((law6 g0 o0.1) _).mono (fun _ _ h => h.1)) ⟨v0, [], rfl, r0, rfl⟩).mono ?_
  rintro e W' ⟨rfl, hb⟩
  exact ⟨_, rfl, law_post hW' rfl (by rfl) (by decide +kernel) (fun ds hd => by
    match ds, hd with
    | [da], _ => exact ⟨rfl, rfl, rfl⟩) hb⟩
theorem valMakes_holds : Rows.ValMakesSaid :=
  OpenClaim.holds_of_wide 6 Tryz.f6 rfl rfl rfl rfl rfl rfl rfl ⟨rfl, rfl, rfl, rfl, rfl⟩ rfl rfl rfl rfl rfl (by kernel_rfl) Tryz.func6 (by kernel_rfl)
    (of_decide_eq_true (by kernel_rfl)) (by unfold Func.isWrapper; rw [if_neg (by decide +kernel)]; exact ⟨rfl, rfl⟩)
    (fun os started H enc _ => valMakes_lifted os started H enc)
end Go.Proofs.YtgfadepkiejncaaGreat
