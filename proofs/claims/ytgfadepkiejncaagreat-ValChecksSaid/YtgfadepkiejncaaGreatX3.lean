/- ValChecks: for every api.Val, sanity holds, and if the value has at most 3100 nodes and no large field, Check of package val returns what the reference returns: law function 3 returns true for every argument that the statement lets in. No conditions beside those that the statement itself states. -/
import Derived.Test.YtgfadepkiejncaaGreatLb
import Derived.Test.YtgfadepkiejncaaGreatLd
import Derived.Test.YtgfadepkiejncaaGreatRows
set_option linter.unusedVariables false
set_option linter.unusedSimpArgs false
namespace Go.Proofs.YtgfadepkiejncaaGreat
open Go.Ab Go.ChangeShapes Go.WideShapes Go.ChangeAt Go.RowKit
set_option maxHeartbeats 0
set_option maxRecDepth 100000
theorem valChecks_lifted (os : Os) (started : os.Started) (H : Type) (enc : TypeId × Value → H) :
    ReturnsInHanded {} Tryz.checked os 3 .any (Rows.valChecksSpec.pre6 enc Tryz.prog Tryz.f3 Rows.valChecksRow.domain false) (Rows.valChecksSpec.post enc Tryz.prog Tryz.f3 false true false false) := by
  refine returnsInHanded_of_change_sized (C := Tryz.checked) own started (by kernel_rfl) Tryz.func3
    (ChangeSpec.witness6 (enc := enc) (C := Tryz.checked) false ⟨#[], #[.agg #[.int .i64 0, .int .i64 0, .bool false, .slice none 0 0, .string ⟨#[]⟩, .slice none 0 0]], []⟩ 8 (by kernel_rfl) (by kernel_rfl) (by kernel_rfl) (by kernel_rfl)) ?_
  intro W base args ds gs before hval0 hW _ hsz _
  have hval : ∀ (j : Nat) t v, Tryz.f3.params[j]? = some t → args[j]? = some v → Value.okWide Tryz.prog W .any base t v := hval0
  have hW' := hW
  obtain ⟨p, q, hA0, hV, rfl, hfz, hnd⟩ := hW
  have hA : DataW.TrodAll enc Tryz.prog W 0 (fun _ => true) true Tryz.f3.params.toList args.toList ds p := hA0
  rw [Tryz.params3] at hA hval
  obtain ⟨v0, d0, rfl, rfl, h0⟩ := trodAll_one hA
  obtain ⟨rfl, rfl⟩ := trodVars_none hV
  have hsz2 : (DataW.weightsEach Tryz.prog [27] ([d0] ++ [])).all (· ≤ reachBytes) = true := hsz
  have hz : ∀ n ∈ DataW.weightsEach Tryz.prog [27] [d0], n ≤ reachBytes := fun n hn => by
    have := List.all_eq_true.1 hsz2 n hn
    simpa using this
  obtain ⟨z0, hz⟩ := weights_cons hz
  obtain ⟨g0, o0, r0⟩ := arg27 (.inr trivial) h0 (okWide_agg27 (hval 0 27 v0 rfl rfl)) z0
  refine (law_calls (us := #[v0]) (((law3 g0 o0) _).mono (fun _ _ h => h.1)) ⟨v0, [], rfl, r0, rfl⟩).mono ?_
  rintro e W' ⟨rfl, hb⟩
  exact ⟨_, rfl, law_post hW' rfl (by rfl) (by decide +kernel) (fun ds hd => by
    match ds, hd with
    | [da], _ => exact ⟨rfl, rfl, rfl⟩) hb⟩
theorem valChecks_holds : Rows.ValChecksSaid :=
  OpenClaim.holds_of_wide 3 Tryz.f3 rfl rfl rfl rfl rfl rfl rfl ⟨rfl, rfl, rfl, rfl, rfl⟩ rfl rfl rfl rfl rfl (by kernel_rfl) Tryz.func3 (by kernel_rfl)
    (of_decide_eq_true (by kernel_rfl)) (by unfold Func.isWrapper; rw [if_neg (by decide +kernel)]; exact ⟨rfl, rfl⟩)
    (fun os started H enc _ => valChecks_lifted os started H enc)
end Go.Proofs.YtgfadepkiejncaaGreat
