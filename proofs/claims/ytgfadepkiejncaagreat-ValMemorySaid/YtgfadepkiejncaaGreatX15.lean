/- The results of the value functions share no memory with their arguments. -/
import Derived.Test.YtgfadepkiejncaaGreatLb
import Derived.Test.YtgfadepkiejncaaGreatLf
import Derived.Test.YtgfadepkiejncaaGreatRows
set_option linter.unusedVariables false
set_option linter.unusedSimpArgs false
namespace Go.Proofs.YtgfadepkiejncaaGreat
open Go.Ab Go.ChangeShapes Go.WideShapes Go.ChangeAt Go.RowKit
set_option maxHeartbeats 0
set_option maxRecDepth 100000
theorem valMemory_lifted (os : Os) (started : os.Started) (H : Type) (enc : TypeId × Value → H) :
    ReturnsInHanded {} Tryz.checked os 15 .any (Rows.valMemorySpec.pre6 enc Tryz.prog Tryz.f15 Rows.valMemoryRow.domain false) (Rows.valMemorySpec.post enc Tryz.prog Tryz.f15 false true false false) := by
  refine returnsInHanded_of_change_sized (C := Tryz.checked) own started (by kernel_rfl) Tryz.func15
    (ChangeSpec.witness6 (enc := enc) (C := Tryz.checked) false ⟨#[], #[.agg #[.int .i64 0, .int .i64 0, .bool false, .slice none 0 0, .string ⟨#[]⟩, .slice none 0 0], .agg #[.int .i64 0, .int .i64 0, .bool false, .slice none 0 0, .string ⟨#[]⟩, .slice none 0 0]], []⟩ 8 (by kernel_rfl) (by kernel_rfl) (by kernel_rfl) (by kernel_rfl)) ?_
  intro W base args ds gs before hval0 hW _ hsz _
  have hval : ∀ (j : Nat) t v, Tryz.f15.params[j]? = some t → args[j]? = some v → Value.okWide Tryz.prog W .any base t v := hval0
  have hW' := hW
  obtain ⟨p, q, hA0, hV, rfl, hfz, hnd⟩ := hW
  have hA : DataW.TrodAll enc Tryz.prog W 0 (fun _ => true) true Tryz.f15.params.toList args.toList ds p := hA0
  rw [Tryz.params15] at hA hval
  obtain ⟨us, rfl⟩ : ∃ us : List Value, args = us.toArray := ⟨args.toList, by simp⟩
  simp only [List.toList_toArray] at hA
  obtain ⟨v0, us, d0, ds, p0, p, rfl, rfl, rfl, h0, hA⟩ := trodAll_cons hA
  obtain ⟨v1, us, d1, ds, p1, p, rfl, rfl, rfl, h1, hA⟩ := trodAll_cons hA
  obtain ⟨rfl, rfl, rfl⟩ := trodAll_nil hA
  obtain ⟨rfl, rfl⟩ := trodVars_none hV
  have hsz2 : (DataW.weightsEach Tryz.prog [27, 27] ([d0, d1] ++ [])).all (· ≤ reachBytes) = true := hsz
  have hz : ∀ n ∈ DataW.weightsEach Tryz.prog [27, 27] [d0, d1], n ≤ reachBytes := fun n hn => by
    have := List.all_eq_true.1 hsz2 n hn
    simpa using this
  obtain ⟨z0, hz⟩ := weights_cons hz
  obtain ⟨g0, o0, r0⟩ := arg27 (.inr trivial) h0 (okWide_agg27 (hval 0 27 v0 rfl rfl)) z0
  obtain ⟨z1, hz⟩ := weights_cons hz
  obtain ⟨g1, o1, r1⟩ := arg27 (.inr trivial) h1 (okWide_agg27 (hval 1 27 v1 rfl rfl)) z1
  refine (law_calls (us := #[v0, v1]) (((law15 g0 g1 o0 o1) _).mono (fun _ _ h => h.1)) ⟨v0, [v1], rfl, r0, ⟨v1, [], rfl, r1, rfl⟩⟩).mono ?_
  rintro e W' ⟨rfl, hb⟩
  exact ⟨_, rfl, law_post hW' rfl (by rfl) (by decide +kernel) (fun ds hd => by
    match ds, hd with
    | [da, db], _ => exact ⟨rfl, rfl, rfl⟩) hb⟩
theorem valMemory_holds : Rows.ValMemorySaid :=
  OpenClaim.holds_of_wide 15 Tryz.f15 rfl rfl rfl rfl rfl rfl rfl ⟨rfl, rfl, rfl, rfl, rfl⟩ rfl rfl rfl rfl rfl (by kernel_rfl) Tryz.func15 (by kernel_rfl)
    (of_decide_eq_true (by kernel_rfl)) (by unfold Func.isWrapper; rw [if_neg (by decide +kernel)]; exact ⟨rfl, rfl⟩)
    (fun os started H enc _ => valMemory_lifted os started H enc)
end Go.Proofs.YtgfadepkiejncaaGreat
