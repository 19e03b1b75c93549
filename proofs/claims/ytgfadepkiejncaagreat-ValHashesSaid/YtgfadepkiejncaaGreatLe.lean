/- Texts of the proof, part Le: they prove nothing by themselves that is claimed. -/
import Derived.Test.YtgfadepkiejncaaGreatLc
import Derived.Test.YtgfadepkiejncaaGreatLd
set_option linter.unusedVariables false
set_option linter.unusedSimpArgs false
namespace Go.Proofs.YtgfadepkiejncaaGreat
open Go.Ab
set_option maxHeartbeats 0
set_option maxRecDepth 100000
attribute [local irreducible] AW AList ACall DA AExit.then AExit.inBlock

/-- What formed says of sizes. -/
theorem lightF_nodes {v : GV} {most : Int} (h : lightF v most = true) : (nodes v : Int) ≤ most ∧ ∀ x ∈ walkV v, small x = true := by
  unfold lightF at h
  split at h
  · cases h
  · rename_i hlt
    have h3 := (wt_spec v most).2.2 (by omega)
    exact ⟨by omega, fun x hx => List.all_eq_true.1 h x hx⟩
theorem formedF_sizes {v : GV} (h : formedF v = true) : nodes v ≤ 400 ∧ ∀ x ∈ walkV v, x.abs.length ≤ 60 ∧ x.str.size ≤ 1100 := by
  simp only [formedF, Bool.and_eq_true] at h
  obtain ⟨h1, h2⟩ := lightF_nodes h.1
  refine ⟨by omega, fun x hx => ?_⟩
  have := h2 x hx
  simp [small] at this
  omega
mutual
theorem sameV_refl : ∀ a : GV, sameV a a = true
  | .mk k n ng a s l => by simp [sameV, sameInt, sameL_refl l]
theorem sameL_refl : ∀ l : List GV, sameL l l = true
  | [] => rfl
  | a :: l => by simp [sameL, sameV_refl a, sameL_refl l]
end
/-! ValMeasures -/
theorem law5 (v : GV) (hv : v.ok) : Gives Tryz.prog 5 [v.pv] (vB true) := by
  intro m
  refine ACall.of_aw Tryz.func5 Tryz.ntmps5 rfl rfl (by simp) ?_
  refine tS ?_
  refine tS1 fun K Kp hK hKp => ?_; refine Gives.at (law_formed v hv) ?_; apply hK; clear hK hKp K Kp
  refine tS ?_
  by_cases hf : formedF v = true
  · obtain ⟨h1, h2⟩ := formedF_sizes hf
    have hab : ∀ x ∈ walkV v, x.abs.length ≤ 1099511627776 := fun x hx => by have := (h2 x hx).1; omega
    have hw : (walkV v).length ≤ 400 := by rw [walk_len]; exact h1
    refine AW.cond (t := false) (by simp [upd_lit, hf]) (fun h => by cases h) (fun _ => ?_)
    refine tS ?_
    refine AW.draw [.R, .S, .R, .R, .R, .R, .S, .S, .S, .R, .R, .R, .R, .S, .S, .S, .R, .R, .R, .R, .S, .S, .R, .R, .R, .R, .R, .S, .S] (by decide +kernel) ?_; refine DA.R 0 rfl (by decide +kernel) (by decide) (by intro K hK; simp [↓aop, ↓Ab.opv, ↓upd_lit, ↓map_ta, ↓List.map_cons, ↓List.map_nil, Nat.add_assoc, sameV_refl, sameLst, sameL_refl]; (try (simp (disch := omega) only [wrap_i64]; try simp [↓aop, ↓Ab.opv, ↓upd_lit, ↓map_ta, ↓List.map_cons, ↓List.map_nil, Nat.add_assoc, sameV_refl, sameLst, sameL_refl])); exact Gives.at ((sanity)) hK) ?_; refine DA.S 1 rfl (by decide +kernel) (by decide) (by intro m K hK; simp [↓aop, ↓Ab.opv, ↓upd_lit, ↓map_ta, ↓List.map_cons, ↓List.map_nil, Nat.add_assoc, sameV_refl, sameLst, sameL_refl]; (try (simp (disch := omega) only [wrap_i64]; try simp [↓aop, ↓Ab.opv, ↓upd_lit, ↓map_ta, ↓List.map_cons, ↓List.map_nil, Nat.add_assoc, sameV_refl, sameLst, sameL_refl])); exact hK) ?_; refine DA.RG 2 rfl (by decide +kernel) (by decide) rfl (by decide) (by first | rfl | (simp [↓upd_lit, sameV_refl, sameLst, sameL_refl]; done)) (by intro K hK; simp [↓aop, ↓Ab.opv, ↓upd_lit, ↓map_ta, ↓List.map_cons, ↓List.map_nil, Nat.add_assoc, sameV_refl, sameLst, sameL_refl]; (try (simp (disch := omega) only [wrap_i64]; try simp [↓aop, ↓Ab.opv, ↓upd_lit, ↓map_ta, ↓List.map_cons, ↓List.map_nil, Nat.add_assoc, sameV_refl, sameLst, sameL_refl])); exact hK) ?_; refine DA.RG 3 rfl (by decide +kernel) (by decide) rfl (by decide) (by first | rfl | (simp [↓upd_lit, sameV_refl, sameLst, sameL_refl]; done)) (by intro K hK; simp [↓aop, ↓Ab.opv, ↓upd_lit, ↓map_ta, ↓List.map_cons, ↓List.map_nil, Nat.add_assoc, sameV_refl, sameLst, sameL_refl]; (try (simp (disch := omega) only [wrap_i64]; try simp [↓aop, ↓Ab.opv, ↓upd_lit, ↓map_ta, ↓List.map_cons, ↓List.map_nil, Nat.add_assoc, sameV_refl, sameLst, sameL_refl])); exact Gives.at ((val_nodes v (by omega))) hK) ?_; refine DA.RG 4 rfl (by decide +kernel) (by decide) rfl (by decide) (by first | rfl | (simp [↓upd_lit, sameV_refl, sameLst, sameL_refl]; done)) (by intro K hK; simp [↓aop, ↓Ab.opv, ↓upd_lit, ↓map_ta, ↓List.map_cons, ↓List.map_nil, Nat.add_assoc, sameV_refl, sameLst, sameL_refl]; (try (simp (disch := omega) only [wrap_i64]; try simp [↓aop, ↓Ab.opv, ↓upd_lit, ↓map_ta, ↓List.map_cons, ↓List.map_nil, Nat.add_assoc, sameV_refl, sameLst, sameL_refl])); exact hK) ?_; refine DA.RG 5 rfl (by decide +kernel) (by decide) rfl (by decide) (by first | rfl | (simp [↓upd_lit, sameV_refl, sameLst, sameL_refl]; done)) (by intro K hK; simp [↓aop, ↓Ab.opv, ↓upd_lit, ↓map_ta, ↓List.map_cons, ↓List.map_nil, Nat.add_assoc, sameV_refl, sameLst, sameL_refl]; (try (simp (disch := omega) only [wrap_i64]; try simp [↓aop, ↓Ab.opv, ↓upd_lit, ↓map_ta, ↓List.map_cons, ↓List.map_nil, Nat.add_assoc, sameV_refl, sameLst, sameL_refl])); exact Gives.at ((ref_nodes v (by omega))) hK) ?_; refine DA.SG 6 rfl (by decide +kernel) (by decide) rfl (by decide) (by first | rfl | (simp [↓upd_lit, sameV_refl, sameLst, sameL_refl]; done)) (by intro m K hK; simp [↓aop, ↓Ab.opv, ↓upd_lit, ↓map_ta, ↓List.map_cons, ↓List.map_nil, Nat.add_assoc, sameV_refl, sameLst, sameL_refl]; (try (simp (disch := omega) only [wrap_i64]; try simp [↓aop, ↓Ab.opv, ↓upd_lit, ↓map_ta, ↓List.map_cons, ↓List.map_nil, Nat.add_assoc, sameV_refl, sameLst, sameL_refl])); exact hK) ?_; refine DA.S 7 rfl (by decide +kernel) (by decide) (by intro m K hK; simp [↓aop, ↓Ab.opv, ↓upd_lit, ↓map_ta, ↓List.map_cons, ↓List.map_nil, Nat.add_assoc, sameV_refl, sameLst, sameL_refl]; (try (simp (disch := omega) only [wrap_i64]; try simp [↓aop, ↓Ab.opv, ↓upd_lit, ↓map_ta, ↓List.map_cons, ↓List.map_nil, Nat.add_assoc, sameV_refl, sameLst, sameL_refl])); exact hK) ?_; refine DA.S 8 rfl (by decide +kernel) (by decide) (by intro m K hK; simp [↓aop, ↓Ab.opv, ↓upd_lit, ↓map_ta, ↓List.map_cons, ↓List.map_nil, Nat.add_assoc, sameV_refl, sameLst, sameL_refl]; (try (simp (disch := omega) only [wrap_i64]; try simp [↓aop, ↓Ab.opv, ↓upd_lit, ↓map_ta, ↓List.map_cons, ↓List.map_nil, Nat.add_assoc, sameV_refl, sameLst, sameL_refl])); exact hK) ?_; refine DA.RG 9 rfl (by decide +kernel) (by decide) rfl (by decide) (by first | rfl | (simp [↓upd_lit, sameV_refl, sameLst, sameL_refl]; done)) (by intro K hK; simp [↓aop, ↓Ab.opv, ↓upd_lit, ↓map_ta, ↓List.map_cons, ↓List.map_nil, Nat.add_assoc, sameV_refl, sameLst, sameL_refl]; (try (simp (disch := omega) only [wrap_i64]; try simp [↓aop, ↓Ab.opv, ↓upd_lit, ↓map_ta, ↓List.map_cons, ↓List.map_nil, Nat.add_assoc, sameV_refl, sameLst, sameL_refl])); exact hK) ?_; refine DA.RG 10 rfl (by decide +kernel) (by decide) rfl (by decide) (by first | rfl | (simp [↓upd_lit, sameV_refl, sameLst, sameL_refl]; done)) (by intro K hK; simp [↓aop, ↓Ab.opv, ↓upd_lit, ↓map_ta, ↓List.map_cons, ↓List.map_nil, Nat.add_assoc, sameV_refl, sameLst, sameL_refl]; (try (simp (disch := omega) only [wrap_i64]; try simp [↓aop, ↓Ab.opv, ↓upd_lit, ↓map_ta, ↓List.map_cons, ↓List.map_nil, Nat.add_assoc, sameV_refl, sameLst, sameL_refl])); exact Gives.at ((val_deep v (by omega))) hK) ?_; refine DA.RG 11 rfl (by decide +kernel) (by decide) rfl (by decide) (by first | rfl | (simp [↓upd_lit, sameV_refl, sameLst, sameL_refl]; done)) (by intro K hK; simp [↓aop, ↓Ab.opv, ↓upd_lit, ↓map_ta, ↓List.map_cons, ↓List.map_nil, Nat.add_assoc, sameV_refl, sameLst, sameL_refl]; (try (simp (disch := omega) only [wrap_i64]; try simp [↓aop, ↓Ab.opv, ↓upd_lit, ↓map_ta, ↓List.map_cons, ↓List.map_nil, Nat.add_assoc, sameV_refl, sameLst, sameL_refl])); exact hK) ?_; refine DA.RG 12 rfl (by decide +kernel) (by decide) rfl (by decide) (by first | rfl | (simp [↓upd_lit, sameV_refl, sameLst, sameL_refl]; done)) (by intro K hK; simp [↓aop, ↓Ab.opv, ↓upd_lit, ↓map_ta, ↓List.map_cons, ↓List.map_nil, Nat.add_assoc, sameV_refl, sameLst, sameL_refl]; (try (simp (disch := omega) only [wrap_i64]; try simp [↓aop, ↓Ab.opv, ↓upd_lit, ↓map_ta, ↓List.map_cons, ↓List.map_nil, Nat.add_assoc, sameV_refl, sameLst, sameL_refl])); exact Gives.at ((ref_deep v (by omega))) hK) ?_; refine DA.SG 13 rfl (by decide +kernel) (by decide) rfl (by decide) (by first | rfl | (simp [↓upd_lit, sameV_refl, sameLst, sameL_refl]; done)) (by intro m K hK; simp [↓aop, ↓Ab.opv, ↓upd_lit, ↓map_ta, ↓List.map_cons, ↓List.map_nil, Nat.add_assoc, sameV_refl, sameLst, sameL_refl]; (try (simp (disch := omega) only [wrap_i64]; try simp [↓aop, ↓Ab.opv, ↓upd_lit, ↓map_ta, ↓List.map_cons, ↓List.map_nil, Nat.add_assoc, sameV_refl, sameLst, sameL_refl])); exact hK) ?_; refine DA.S 14 rfl (by decide +kernel) (by decide) (by intro m K hK; simp [↓aop, ↓Ab.opv, ↓upd_lit, ↓map_ta, ↓List.map_cons, ↓List.map_nil, Nat.add_assoc, sameV_refl, sameLst, sameL_refl]; (try (simp (disch := omega) only [wrap_i64]; try simp [↓aop, ↓Ab.opv, ↓upd_lit, ↓map_ta, ↓List.map_cons, ↓List.map_nil, Nat.add_assoc, sameV_refl, sameLst, sameL_refl])); exact hK) ?_; refine DA.S 15 rfl (by decide +kernel) (by decide) (by intro m K hK; simp [↓aop, ↓Ab.opv, ↓upd_lit, ↓map_ta, ↓List.map_cons, ↓List.map_nil, Nat.add_assoc, sameV_refl, sameLst, sameL_refl]; (try (simp (disch := omega) only [wrap_i64]; try simp [↓aop, ↓Ab.opv, ↓upd_lit, ↓map_ta, ↓List.map_cons, ↓List.map_nil, Nat.add_assoc, sameV_refl, sameLst, sameL_refl])); exact hK) ?_; refine DA.RG 16 rfl (by decide +kernel) (by decide) rfl (by decide) (by first | rfl | (simp [↓upd_lit, sameV_refl, sameLst, sameL_refl]; done)) (by intro K hK; simp [↓aop, ↓Ab.opv, ↓upd_lit, ↓map_ta, ↓List.map_cons, ↓List.map_nil, Nat.add_assoc, sameV_refl, sameLst, sameL_refl]; (try (simp (disch := omega) only [wrap_i64]; try simp [↓aop, ↓Ab.opv, ↓upd_lit, ↓map_ta, ↓List.map_cons, ↓List.map_nil, Nat.add_assoc, sameV_refl, sameLst, sameL_refl])); exact hK) ?_; refine DA.RG 17 rfl (by decide +kernel) (by decide) rfl (by decide) (by first | rfl | (simp [↓upd_lit, sameV_refl, sameLst, sameL_refl]; done)) (by intro K hK; simp [↓aop, ↓Ab.opv, ↓upd_lit, ↓map_ta, ↓List.map_cons, ↓List.map_nil, Nat.add_assoc, sameV_refl, sameLst, sameL_refl]; (try (simp (disch := omega) only [wrap_i64]; try simp [↓aop, ↓Ab.opv, ↓upd_lit, ↓map_ta, ↓List.map_cons, ↓List.map_nil, Nat.add_assoc, sameV_refl, sameLst, sameL_refl])); exact Gives.at ((val_copy v (by omega) hab)) hK) ?_; refine DA.RG 18 rfl (by decide +kernel) (by decide) rfl (by decide) (by first | rfl | (simp [↓upd_lit, sameV_refl, sameLst, sameL_refl]; done)) (by intro K hK; simp [↓aop, ↓Ab.opv, ↓upd_lit, ↓map_ta, ↓List.map_cons, ↓List.map_nil, Nat.add_assoc, sameV_refl, sameLst, sameL_refl]; (try (simp (disch := omega) only [wrap_i64]; try simp [↓aop, ↓Ab.opv, ↓upd_lit, ↓map_ta, ↓List.map_cons, ↓List.map_nil, Nat.add_assoc, sameV_refl, sameLst, sameL_refl])); exact hK) ?_; refine DA.RG 19 rfl (by decide +kernel) (by decide) rfl (by decide) (by first | rfl | (simp [↓upd_lit, sameV_refl, sameLst, sameL_refl]; done)) (by intro K hK; simp [↓aop, ↓Ab.opv, ↓upd_lit, ↓map_ta, ↓List.map_cons, ↓List.map_nil, Nat.add_assoc, sameV_refl, sameLst, sameL_refl]; (try (simp (disch := omega) only [wrap_i64]; try simp [↓aop, ↓Ab.opv, ↓upd_lit, ↓map_ta, ↓List.map_cons, ↓List.map_nil, Nat.add_assoc, sameV_refl, sameLst, sameL_refl])); exact Gives.at ((ref_same v v hv hv)) hK) ?_; refine DA.S 20 rfl (by decide +kernel) (by decide) (by intro m K hK; simp [↓aop, ↓Ab.opv, ↓upd_lit, ↓map_ta, ↓List.map_cons, ↓List.map_nil, Nat.add_assoc, sameV_refl, sameLst, sameL_refl]; (try (simp (disch := omega) only [wrap_i64]; try simp [↓aop, ↓Ab.opv, ↓upd_lit, ↓map_ta, ↓List.map_cons, ↓List.map_nil, Nat.add_assoc, sameV_refl, sameLst, sameL_refl])); exact hK) ?_; refine DA.S 21 rfl (by decide +kernel) (by decide) (by intro m K hK; simp [↓aop, ↓Ab.opv, ↓upd_lit, ↓map_ta, ↓List.map_cons, ↓List.map_nil, Nat.add_assoc, sameV_refl, sameLst, sameL_refl]; (try (simp (disch := omega) only [wrap_i64]; try simp [↓aop, ↓Ab.opv, ↓upd_lit, ↓map_ta, ↓List.map_cons, ↓List.map_nil, Nat.add_assoc, sameV_refl, sameLst, sameL_refl])); exact hK) ?_; refine DA.RG 22 rfl (by decide +kernel) (by decide) rfl (by decide) (by first | rfl | (simp [↓upd_lit, sameV_refl, sameLst, sameL_refl]; done)) (by intro K hK; simp [↓aop, ↓Ab.opv, ↓upd_lit, ↓map_ta, ↓List.map_cons, ↓List.map_nil, Nat.add_assoc, sameV_refl, sameLst, sameL_refl]; (try (simp (disch := omega) only [wrap_i64]; try simp [↓aop, ↓Ab.opv, ↓upd_lit, ↓map_ta, ↓List.map_cons, ↓List.map_nil, Nat.add_assoc, sameV_refl, sameLst, sameL_refl])); exact hK) ?_; refine DA.RG 23 rfl (by decide +kernel) (by decide) rfl (by decide) (by first | rfl | (simp [↓upd_lit, sameV_refl, sameLst, sameL_refl]; done)) (by intro K hK; simp [↓aop, ↓Ab.opv, ↓upd_lit, ↓map_ta, ↓List.map_cons, ↓List.map_nil, Nat.add_assoc, sameV_refl, sameLst, sameL_refl]; (try (simp (disch := omega) only [wrap_i64]; try simp [↓aop, ↓Ab.opv, ↓upd_lit, ↓map_ta, ↓List.map_cons, ↓List.map_nil, Nat.add_assoc, sameV_refl, sameLst, sameL_refl])); exact Gives.at ((val_walk v (by omega) hab)) hK) ?_; refine DA.RG 24 rfl (by decide +kernel) (by decide) rfl (by decide) (by first | rfl | (simp [↓upd_lit, sameV_refl, sameLst, sameL_refl]; done)) (by intro K hK; simp [↓aop, ↓Ab.opv, ↓upd_lit, ↓map_ta, ↓List.map_cons, ↓List.map_nil, Nat.add_assoc, sameV_refl, sameLst, sameL_refl]; (try (simp (disch := omega) only [wrap_i64]; try simp [↓aop, ↓Ab.opv, ↓upd_lit, ↓map_ta, ↓List.map_cons, ↓List.map_nil, Nat.add_assoc, sameV_refl, sameLst, sameL_refl])); exact hK) ?_; refine DA.RG 25 rfl (by decide +kernel) (by decide) rfl (by decide) (by first | rfl | (simp [↓upd_lit, sameV_refl, sameLst, sameL_refl]; done)) (by intro K hK; simp [↓aop, ↓Ab.opv, ↓upd_lit, ↓map_ta, ↓List.map_cons, ↓List.map_nil, Nat.add_assoc, sameV_refl, sameLst, sameL_refl]; (try (simp (disch := omega) only [wrap_i64]; try simp [↓aop, ↓Ab.opv, ↓upd_lit, ↓map_ta, ↓List.map_cons, ↓List.map_nil, Nat.add_assoc, sameV_refl, sameLst, sameL_refl])); exact Gives.at ((ref_walk v (by omega))) hK) ?_; refine DA.RG 26 rfl (by decide +kernel) (by decide) rfl (by decide) (by first | rfl | (simp [↓upd_lit, sameV_refl, sameLst, sameL_refl]; done)) (by intro K hK; simp [↓aop, ↓Ab.opv, ↓upd_lit, ↓map_ta, ↓List.map_cons, ↓List.map_nil, Nat.add_assoc, sameV_refl, sameLst, sameL_refl]; (try (simp (disch := omega) only [wrap_i64]; try simp [↓aop, ↓Ab.opv, ↓upd_lit, ↓map_ta, ↓List.map_cons, ↓List.map_nil, Nat.add_assoc, sameV_refl, sameLst, sameL_refl])); exact Gives.at ((ref_sameList _ _ (walk_ok v hv) (walk_ok v hv) (by omega) (by omega))) hK) ?_; refine DA.S 27 rfl (by decide +kernel) (by decide) (by intro m K hK; simp [↓aop, ↓Ab.opv, ↓upd_lit, ↓map_ta, ↓List.map_cons, ↓List.map_nil, Nat.add_assoc, sameV_refl, sameLst, sameL_refl]; (try (simp (disch := omega) only [wrap_i64]; try simp [↓aop, ↓Ab.opv, ↓upd_lit, ↓map_ta, ↓List.map_cons, ↓List.map_nil, Nat.add_assoc, sameV_refl, sameLst, sameL_refl])); exact hK) ?_; refine DA.S 28 rfl (by decide +kernel) (by decide) (by intro m K hK; simp [↓aop, ↓Ab.opv, ↓upd_lit, ↓map_ta, ↓List.map_cons, ↓List.map_nil, Nat.add_assoc, sameV_refl, sameLst, sameL_refl]; (try (simp (disch := omega) only [wrap_i64]; try simp [↓aop, ↓Ab.opv, ↓upd_lit, ↓map_ta, ↓List.map_cons, ↓List.map_nil, Nat.add_assoc, sameV_refl, sameLst, sameL_refl])); exact hK) ?_; refine DA.done (by decide +kernel) ?_; refine AExit.norT ?_
    refine tS ?_
    exact Fin.ret rfl ((Same.refl m).newLoc _) (by simp [upd_lit, PV.strip]) (by simp [PV.sc]) ⟨rfl, rfl⟩
  · refine AW.cond (t := true) (by simp [upd_lit, hf]) (fun _ => ?_) (fun h => by cases h)
    refine tS ?_
    refine tS1 fun K Kp hK hKp => ?_; refine Gives.at (sanity) ?_; apply hK; clear hK hKp K Kp
    refine tS ?_
    exact Fin.ret rfl ((Same.refl m).newLoc _) (by simp [upd_lit]) (by simp) ⟨rfl, rfl⟩
end Go.Proofs.YtgfadepkiejncaaGreat
namespace Go.Proofs.YtgfadepkiejncaaGreat
open Go.Ab
set_option maxHeartbeats 0
set_option maxRecDepth 100000
attribute [local irreducible] AW AList ACall DA AExit.then AExit.inBlock YCall DCall

theorem formedF_good {v : GV} (hv : v.ok) (h : formedF v = true) : good v ∧ v.dk := by
  simp only [formedF, Bool.and_eq_true, decide_eq_true_eq] at h
  exact ⟨⟨(checkF_ok.1 h.2).1, hv⟩, fol_dk v 0 1 h.2⟩
/-! ValCompares -/
theorem law4 (a b : GV) (s n : Int) (ha : a.ok) (hb : b.ok) : Gives Tryz.prog 4 [a.pv, b.pv, vW s, vI n] (vB true) := by
  intro m
  refine ACall.of_aw Tryz.func4 Tryz.ntmps4 rfl rfl (by simp) ?_
  refine tS ?_
  refine tS1 fun K Kp hK hKp => ?_; refine Gives.at (law_formed a ha) ?_; apply hK; clear hK hKp K Kp
  by_cases h1 : formedF a = true
  · have F := @h1; refine tFa ?_; (try clear F)
    have F := @h1; refine tFc (law_formed b hb) ?_; (try clear F)
    by_cases h2 : formedF b = true
    · obtain ⟨ga, da⟩ := formedF_good ha h1
      obtain ⟨gb, db⟩ := formedF_good hb h2
      have F := (aand @h1 @h2); refine tFa ?_; (try clear F)
      refine AW.draw [.R, .S, .R, .R, .R, .R, .R, .R, .S, .S, .S, .R, .R, .R, .R, .S, .S, .S, .R, .R, .R, .R, .S, .S, .S, .S, .S, .R, .S, .S, .R, .S, .S, .S] (by decide +kernel) ?_; have F := True.intro; refine dC ((sanity)) 0 ?_; refine dS 1 ?_; refine dRG 2 ?_; refine dRG 3 ?_; refine dCG ((val_compare a b ga gb)) 4 ?_; refine dRG 5 ?_; refine dRG 6 ?_; refine dCG ((ref_compare a b ha hb da db)) 7 ?_; refine dSG 8 ?_; refine dS 9 ?_; refine dS 10 ?_; refine dRG 11 ?_; refine dCG ((val_hash a ha)) 12 ?_; refine dRG 13 ?_; refine dCG ((ref_hash a ha)) 14 ?_; refine dSG 15 ?_; refine dS 16 ?_; refine dS 17 ?_; refine dRG 18 ?_; refine dCG ((val_share b hb)) 19 ?_; refine dRG 20 ?_; refine dCG ((ref_share b hb)) 21 ?_; refine dSG 22 ?_; refine dS 23 ?_; refine dS 24 ?_; refine dSG 25 ?_; refine dSG 26 ?_; refine dCG ((val_total s n)) 27 ?_; refine dSG 28 ?_; refine dSG 29 ?_; refine dCG ((ref_total s n)) 30 ?_; refine dSG 31 ?_; refine dS 32 ?_; refine dS 33 ?_; (try clear F); first | refine dN ?_ | refine dB ?_ | refine DA.done (by decide +kernel) ?_
      refine tS ?_
      exact Fin.gives Same.auto
    · have F := (aand @h1 @h2); refine tFa ?_; (try clear F)
      refine tS1 fun K Kp hK hKp => ?_; refine Gives.at (sanity) ?_; apply hK; clear hK hKp K Kp
      refine tS ?_
      exact Fin.gives Same.auto
  · have F := @h1; refine tFa ?_; (try clear F)
    refine tS1 fun K Kp hK hKp => ?_; refine Gives.at (sanity) ?_; apply hK; clear hK hKp K Kp
    refine tS ?_
    exact Fin.gives Same.auto
end Go.Proofs.YtgfadepkiejncaaGreat
namespace Go.Ab
theorem Fin.gives2 {P : Program} {fn : Func} {m m' : St} {σ : Nat → PV} {r : PV} (hm : Same m m') (hp : ResP P fn.results.toList σ m' r) (hq : r.strip = r := by simp) (hs : r.sc m.nloc m.ntok := by simp) : Fin P fn m (fun r' m' => r' = .ret r ∧ m' = m) .ret σ m' :=
  Fin.ret hp hm hq hs ⟨rfl, rfl⟩
end Go.Ab
namespace Go.Proofs.YtgfadepkiejncaaGreat
open Go.Ab
set_option maxHeartbeats 0
set_option maxRecDepth 100000
attribute [local irreducible] AW AList ACall DA AExit.then AExit.inBlock YCall DCall

/-! slices.BinarySearchFunc, val.Find -/
theorem bin_search (l : List GV) (x : GV) (gl : goods l) (gx : good x) (ll : l.length < 100000000000) : Gives Tryz.prog 118 [GV.pvs l, x.pv, .clo 22 [] []] (.tup [vI (atF l x), vB (isF l x)]) := by
  intro m
  refine ACall.of_aw Tryz.func118 Tryz.ntmps118 rfl rfl (by simp) ?_
  refine tS ?_
  refine AW.loop (ι := Nat × Nat) (fun p σ m' => p.1 ≤ p.2 ∧ p.2 ≤ l.length ∧ bsF l x p.1 p.2 = atF l x ∧ σ 9 = vI p.1 ∧ σ 10 = vI p.2 ∧ σ 8 = vI l.length ∧ σ 4 = .loc m.nloc 0 ∧ σ 0 = GV.pvs l ∧ σ 2 = .clo 22 [] [] ∧ m' = m.newLoc x.cells) (fun p => p.2 - p.1) (0, l.length) ?_ ?_
  · exact ⟨by simp, by simp, rfl, by simp [upd_lit], by simp [upd_lit], by simp [upd_lit], by simp [upd_lit], by simp [upd_lit], by simp [upd_lit], rfl⟩
  rintro ⟨lo, hi⟩ σ m' ⟨h1, h2, hb, h9, h10, h8, t4, t0, t2, rfl⟩
  simp only at h1 h2 hb h9 h10 ⊢
  have F := (aand @h9 @h10); refine tF ?_; (try clear F)
  refine AW.condD (p := lo < hi) (by simp [upd_lit]) (fun hlt => ?_) (fun hge => ?_)
  · rw [bsF, dif_pos hlt] at hb
    obtain ⟨q, eq⟩ : ∃ q, q = (lo + hi) / 2 := ⟨_, rfl⟩
    rw [← eq] at hb
    have hm : q < l.length := by omega
    rw [List.getElem?_eq_getElem hm, Option.getD_some] at hb
    have w1 : IntKind.u64.wrap ((lo : Int) + hi) = (lo : Int) + hi := wrap_u64 _ (by omega) (by omega)
    have e1 : ((lo : Int) + hi) / 2 = (q : Int) := by omega
    have F := (aand @h9 (aand @h10 (aand @w1 @e1))); refine tF ?_; (try clear F)
    repeat (first | refine AW.seq ?_ | refine AW.block ?_ | refine AW.skip ?_ | refine AExit.norT ?_ | refine AExit.norB ?_ | refine AList.nil ?_)
    refine AW.draw [.S, .S, .S, .S, .S, .R, .R, .S] (by decide +kernel) ?_; have F := (aand @t0 (aand @t2 (aand @t4 (aand @hm @rows_getD)))); refine dS 0 ?_; refine dS 1 ?_; refine dS 2 ?_; refine dS 3 ?_; refine dS 4 ?_; refine dR 5 ?_; refine dC ((val_compare _ _ (gl _ (List.getElem_mem hm)) gx)) 6 ?_; refine dS 7 ?_; (try clear F); first | refine dN ?_ | refine dB ?_ | refine DA.done (by decide +kernel) ?_
    refine AW.condD (p := cmpV l[q] x < 0) (by simp [upd_lit]) (fun hc => ?_) (fun hc => ?_)
    · refine tS ?_
      rw [if_pos hc] at hb
      exact ⟨(q + 1, hi), ⟨by simp; omega, h2, hb, by simp [upd_lit], by simp [upd_lit, h10], by simp [upd_lit, h8], by simp [upd_lit, t4], by simp [upd_lit, t0], by simp [upd_lit, t2], rfl⟩, by simp; omega⟩
    · refine tS ?_
      rw [if_neg hc] at hb
      exact ⟨(lo, q), ⟨by simp; omega, by simp; omega, hb, by simp [upd_lit, h9], by simp [upd_lit], by simp [upd_lit, h8], by simp [upd_lit, t4], by simp [upd_lit, t0], by simp [upd_lit, t2], rfl⟩, by simp; omega⟩
  · rw [bsF, dif_neg hge] at hb
    subst hb
    refine tS ?_
    by_cases hlt : atF l x < l.length
    · have hi' : isF l x = decide (cmpV l[atF l x] x = 0) := by simp [isF, hlt]
      rw [hi']
      repeat (first | refine AW.seq ?_ | refine AW.block ?_ | refine AW.skip ?_ | refine AExit.norT ?_ | refine AExit.norB ?_ | refine AList.nil ?_)
      refine AW.draw [.S, .S, .S, .S, .S, .S, .S, .S, .S, .R, .R, .R, .S, .S, .S, .S] (by decide +kernel) ?_; have F := (aand @h9 (aand @h8 (aand @t0 (aand @t2 (aand @t4 (aand @hlt @rows_getD)))))); refine dS 0 ?_; refine dS 1 ?_; refine dS 2 ?_; refine dS 3 ?_; refine dS 4 ?_; refine dSG 5 ?_; refine dSG 6 ?_; refine dSG 7 ?_; refine dSG 8 ?_; refine dRG 9 ?_; refine dRG 10 ?_; refine dCG ((val_compare _ _ (gl _ (List.getElem_mem hlt)) gx)) 11 ?_; refine dSG 12 ?_; refine dS 13 ?_; refine dS 14 ?_; refine dS 15 ?_; (try clear F); first | refine dN ?_ | refine dB ?_ | refine DA.done (by decide +kernel) ?_
      refine tS ?_
      exact Fin.gives2 Same.auto (by simp [ResP, ResL, resV, upd_lit, show Tryz.f118.results.toList = [.tmp 6, .tmp 7] from rfl])
    · have hi' : isF l x = false := by simp [isF, hlt]
      rw [hi']
      repeat (first | refine AW.seq ?_ | refine AW.block ?_ | refine AW.skip ?_ | refine AExit.norT ?_ | refine AExit.norB ?_ | refine AList.nil ?_)
      refine AW.draw [.S, .S, .S, .S, .S, .S, .S, .S, .S, .R, .R, .R, .S, .S, .S, .S] (by decide +kernel) ?_; have F := (aand @h9 (aand @h8 (aand @t0 (aand @t2 (aand @t4 @hlt))))); refine dS 0 ?_; refine dS 1 ?_; refine dS 2 ?_; refine dS 3 ?_; refine dS 4 ?_; refine dXx 5 ?_; refine dXx 6 ?_; refine dXx 7 ?_; refine dXx 8 ?_; refine dXX 9 ?_; refine dXX 10 ?_; refine dXX 11 ?_; refine dXx 12 ?_; refine dS 13 ?_; refine dS 14 ?_; refine dS 15 ?_; (try clear F); first | refine dN ?_ | refine dB ?_ | refine DA.done (by decide +kernel) ?_
      refine tS ?_
      exact Fin.gives2 Same.auto (by simp [ResP, ResL, resV, upd_lit, show Tryz.f118.results.toList = [.tmp 6, .tmp 7] from rfl])
theorem val_find (s x : GV) (gs : good s) (gx : good x) (ls : nodes s < 100000000000) : Gives Tryz.prog 66 [s.pv, x.pv] (if s.kind = 8 then .tup [vI (atF s.els x), vB (isF s.els x)] else .tup [vI 0, vB false]) := by
  have es := nodes_eq s
  have ns := nodesL_len s.els
  intro m
  refine ACall.of_aw Tryz.func66 Tryz.ntmps66 rfl rfl (by simp) ?_
  by_cases h : s.kind = 8
  · rw [if_pos h]
    have F := @h; refine tFa ?_; (try clear F)
    refine tS1 fun K Kp hK hKp => ?_; refine Gives.at (bin_search s.els x gs.els gx (by omega)) ?_; apply hK; clear hK hKp K Kp
    refine tS ?_
    exact Fin.gives2 Same.auto (by simp [ResP, ResL, resV, upd_lit, show Tryz.f66.results.toList = [.tmp 4, .tmp 5] from rfl])
  · rw [if_neg h]
    have F := @h; refine tFa ?_; (try clear F)
    exact Fin.gives2 Same.auto (by simp [ResP, ResL, resV, upd_lit, show Tryz.f66.results.toList = [.tmp 4, .tmp 5] from rfl])
theorem val_within (a b : GV) (ga : good a) (gb : good b) (la : nodes a < 10000000000) (lb : nodes b < 10000000000) :
    Gives Tryz.prog 70 [a.pv, b.pv] (if a.kind = 8 ∧ b.kind = 8 then .tup [vB (decide (fitE (setV (mrg stM a.els b.els)) = 0) && decide ((fitV (setV (mrg stM a.els b.els))).els = [])), vE (fitE (setV (mrg stM a.els b.els)))] else .tup [vB false, vE 7]) := by
  have hm := val_minus a b ga gb la lb
  have key : ∀ (v : GV) (e : Int), Gives Tryz.prog 69 [a.pv, b.pv] (outP v e) → Gives Tryz.prog 70 [a.pv, b.pv] (.tup [vB (decide (e = 0) && decide (v.els = [])), vE e]) := by
    intro v e hv m
    refine ACall.of_aw Tryz.func70 Tryz.ntmps70 rfl rfl (by simp) ?_
    refine tS ?_
    refine tS1 fun K Kp hK hKp => ?_; refine Gives.at (hv) ?_; apply hK; clear hK hKp K Kp
    by_cases h0 : e = 0
    · have F := @h0; refine tFg ?_; (try clear F)
      exact Fin.gives2 Same.auto (by simp [ResP, ResL, resV, upd_lit, show Tryz.f70.results.toList = [.tmp 4, .tmp 5] from rfl, h0])
    · have F := @h0; refine tFg ?_; (try clear F)
      exact Fin.gives2 Same.auto (by simp [ResP, ResL, resV, upd_lit, show Tryz.f70.results.toList = [.tmp 4, .tmp 5] from rfl, h0])
  by_cases h : a.kind = 8 ∧ b.kind = 8
  · rw [if_pos h] at hm ⊢
    exact key _ _ hm
  · rw [if_neg h] at hm ⊢
    exact key _ _ hm
/-! the law's own helpers -/
def someF (v : GV) : Bool := !decide (v.kind = 0) && formedF v
theorem law_some (v : GV) (hv : v.ok) : Gives Tryz.prog 45 [v.pv] (vB (someF v)) := by
  intro m
  refine ACall.of_aw Tryz.func45 Tryz.ntmps45 rfl rfl (by simp) ?_
  by_cases h : v.kind = 0
  · have F := @h; refine tFg ?_; (try clear F)
    exact Fin.gives Same.auto rfl (by simp [upd_lit, someF, h])
  · have F := @h; refine tFg ?_; (try clear F)
    have F := @h; refine tFc (law_formed v hv) ?_; (try clear F)
    have F := @h; refine tFg ?_; (try clear F)
    exact Fin.gives Same.auto rfl (by simp [upd_lit, someF, h])
theorem law_same (v w : GV) (e f : Int) (hv : v.ok) (hw : w.ok) : Gives Tryz.prog 42 [v.pv, vE e, made w f] (vB (decide (e = f) && sameV v w)) := by
  have hs := ref_same v w hv hw
  rw [show w.pv = .agg [vI w.kind, vI w.num, vB w.neg, .list .no (limbs w.abs), vS w.str, .list .no (GV.rows w.els)] from congrArg PV.agg (cells_eq w)] at hs
  intro m
  refine ACall.of_aw Tryz.func42 Tryz.ntmps42 rfl rfl (by simp) ?_
  by_cases h : e = f
  · have F := @h; refine tFg ?_; (try clear F)
    have F := @h; refine tFc (hs) ?_; (try clear F)
    have F := @h; refine tFg ?_; (try clear F)
    exact Fin.gives Same.auto rfl (by simp [upd_lit, h])
  · have F := @h; refine tFg ?_; (try clear F)
    exact Fin.gives Same.auto rfl (by simp [upd_lit, h])
theorem law_has (s x : GV) (gs : good s) (gx : good x) (h8 : s.kind = 8) (ls : nodes s < 100000000000) : Gives Tryz.prog 61 [s.pv, x.pv] (vB (isF s.els x)) := by
  have hf := val_find s x gs gx ls
  rw [if_pos h8] at hf
  intro m
  refine ACall.of_aw Tryz.func61 Tryz.ntmps61 rfl rfl (by simp) ?_
  refine tS ?_
  refine tS1 fun K Kp hK hKp => ?_; refine Gives.at (hf) ?_; apply hK; clear hK hKp K Kp
  refine tS ?_
  exact Fin.gives Same.auto
end Go.Proofs.YtgfadepkiejncaaGreat
namespace Go.Proofs.YtgfadepkiejncaaGreat
open Go.Ab
set_option maxHeartbeats 0
set_option maxRecDepth 100000
attribute [local irreducible] AW AList ACall DA AExit.then AExit.inBlock YCall DCall

/-! what merging comes to, for sets -/
theorem set_nonom {a : GV} (h : good a) (h8 : a.kind = 8) : ∀ x ∈ a.els, x.kind ≠ 0 := by
  have := h.1
  rw [fmd_eq] at this
  exact (this.2.1 h8).1
theorem mem_stU {a b : List GV} (ha : Inc a) (hb : Inc b) (ga : goods a) (gb : goods b) (z : GV) : z ∈ mrg stU a b ↔ z ∈ a ∨ z ∈ b := by
  rw [mem_mrg stU a b ha hb ga gb]
  constructor
  · rintro ⟨p, q, hp, hq, h, _⟩
    cases p with
    | true => exact .inl (hp.1 rfl)
    | false => simp at h; exact .inr (hq.1 h)
  · intro h
    classical
    exact ⟨decide (z ∈ a), decide (z ∈ b), by simp, by simp, by simpa using h, rfl⟩
theorem mem_stC {a b : List GV} (ha : Inc a) (hb : Inc b) (ga : goods a) (gb : goods b) (z : GV) : z ∈ mrg stC a b ↔ z ∈ a ∧ z ∈ b := by
  rw [mem_mrg stC a b ha hb ga gb]
  constructor
  · rintro ⟨p, q, hp, hq, _, h⟩
    simp [stC] at h
    exact ⟨hp.1 h.1, hq.1 h.2⟩
  · rintro ⟨h1, h2⟩
    exact ⟨true, true, by simp [h1], by simp [h2], rfl, rfl⟩
theorem mem_stM {a b : List GV} (ha : Inc a) (hb : Inc b) (ga : goods a) (gb : goods b) (z : GV) : z ∈ mrg stM a b ↔ z ∈ a ∧ ¬ z ∈ b := by
  rw [mem_mrg stM a b ha hb ga gb]
  constructor
  · rintro ⟨p, q, hp, hq, _, h⟩
    simp [stM] at h
    exact ⟨hp.1 h.1, fun k => by rw [hq.2 k] at h; simp at h⟩
  · rintro ⟨h1, h2⟩
    exact ⟨true, false, by simp [h1], by simp [h2], rfl, rfl⟩
theorem mem_stL {a b : List GV} (ha : Inc a) (hb : Inc b) (ga : goods a) (gb : goods b) (z : GV) : z ∈ mrg stL a b ↔ z ∈ a ∧ ¬ z ∈ b := by
  rw [mem_mrg stL a b ha hb ga gb]
  constructor
  · rintro ⟨p, q, hp, hq, h1, h⟩
    simp [stL] at h
    subst h
    simp at h1
    exact ⟨hp.1 h1, fun k => by have := hq.2 k; cases this⟩
  · rintro ⟨h1, h2⟩
    exact ⟨true, false, by simp [h1], by simp [h2], rfl, rfl⟩
theorem union_eq {a b : List GV} (ha : Inc a) (hb : Inc b) (ga : goods a) (gb : goods b) (na : ∀ x ∈ a, x.kind ≠ 0) (nb : ∀ x ∈ b, x.kind ≠ 0) : mrg stU a b = setF (a ++ b) :=
  setF_eq (fun x hx => (List.mem_append.1 hx).elim (ga x) (gb x)) (mrg_Inc stU a b ha hb ga gb) fun z => by
    rw [mem_stU ha hb ga gb, List.mem_append]
    exact ⟨fun h => ⟨h, h.elim (na z) (nb z)⟩, fun h => h.1⟩
theorem filt_Inc {f : GV → Bool} {l : List GV} (h : Inc l) : Inc (l.filter f) := List.Pairwise.filter f h
theorem mem_kept {l : List GV} {s : GV} {has : Bool} (gl : goods l) (gs : good s) (h8 : s.kind = 8) (z : GV) : z ∈ keptL l s has ↔ z ∈ l ∧ (z ∈ s.els ↔ has = true) := by
  unfold keptL
  rw [List.mem_filter]
  constructor
  · rintro ⟨h1, h2⟩
    refine ⟨h1, ?_⟩
    rw [← isF_mem s.els z (gl z h1) gs.els (set_Inc gs h8)]
    have : isF s.els z = has := by simpa using h2
    rw [this]
  · rintro ⟨h1, h2⟩
    refine ⟨h1, ?_⟩
    rw [← isF_mem s.els z (gl z h1) gs.els (set_Inc gs h8)] at h2
    rw [beq_iff_eq, Bool.eq_iff_iff]; exact h2
theorem common_eq {a b : GV} (ga : good a) (gb : good b) (ha : a.kind = 8) (hb : b.kind = 8) : mrg stC a.els b.els = keptL a.els b true :=
  Inc_unique _ _ (mrg_Inc stC _ _ (set_Inc ga ha) (set_Inc gb hb) ga.els gb.els) (filt_Inc (set_Inc ga ha)) fun z => by
    rw [mem_stC (set_Inc ga ha) (set_Inc gb hb) ga.els gb.els, mem_kept ga.els gb hb]; simp
theorem minus_eq {a b : GV} (ga : good a) (gb : good b) (ha : a.kind = 8) (hb : b.kind = 8) : mrg stM a.els b.els = keptL a.els b false :=
  Inc_unique _ _ (mrg_Inc stM _ _ (set_Inc ga ha) (set_Inc gb hb) ga.els gb.els) (filt_Inc (set_Inc ga ha)) fun z => by
    rw [mem_stM (set_Inc ga ha) (set_Inc gb hb) ga.els gb.els, mem_kept ga.els gb hb]; simp
theorem less_eq {a x : GV} (ga : good a) (gx : good x) (hx : x.kind ≠ 0) (ha : a.kind = 8) : mrg stL a.els [x] = keptL a.els (setV [x]) false := by
  have g1 : goods [x] := fun y hy => by simp at hy; rw [hy]; exact gx
  have i1 : Inc [x] := List.pairwise_singleton _ _
  refine Inc_unique _ _ (mrg_Inc stL _ _ (set_Inc ga ha) i1 ga.els g1) (filt_Inc (set_Inc ga ha)) fun z => ?_
  rw [mem_stL (set_Inc ga ha) i1 ga.els g1, mem_kept ga.els (one_good gx hx) rfl]
  simp [GV.els]
theorem with_eq {a x : GV} (ga : good a) (gx : good x) (hx : x.kind ≠ 0) (ha : a.kind = 8) : mrg stU a.els [x] = setF (a.els ++ [x]) :=
  union_eq (set_Inc ga ha) (List.pairwise_singleton _ _) ga.els (fun y hy => by simp at hy; rw [hy]; exact gx) (set_nonom ga ha) (fun y hy => by simp at hy; rw [hy]; exact hx)
theorem setV_ok {l : List GV} (g : goods l) (hl : l.length < 1000000) : (setV l).ok :=
  ⟨by omega, by omega, by decide, by show (0 : Nat) < _; omega, by omega, fun x hx => (by cases hx), (okL_iff l).2 fun x hx => (g x hx).2⟩
theorem omV_ok : omV.ok := ⟨by omega, by omega, by decide, by show (0 : Nat) < _; omega, by decide, fun x hx => (by cases hx), trivial⟩
theorem fitV_ok {v : GV} (h : v.ok) : (fitV v).ok := by unfold fitV; split; exact h; exact omV_ok
theorem deepL_sub {l s : List GV} (hs : ∀ x ∈ s, x ∈ l) : deepL s ≤ deepL l := by
  have h1 : ∀ (l : List GV) (x : GV), x ∈ l → deep x ≤ deepL l := by
    intro l
    induction l with
    | nil => simp
    | cons v l ih =>
      intro x hx
      rcases List.mem_cons.1 hx with rfl | hx
      · simp [deepL]; omega
      · have := ih x hx; simp [deepL]; omega
  induction s with
  | nil => simp [deepL]
  | cons v s ih =>
    have := h1 l v (hs v (by simp))
    have := ih fun x hx => hs x (by simp [hx])
    simp [deepL]; omega
/-- Formed, and of at most 400 nodes. -/
structure Fm (a : GV) : Prop where
  good : good a
  nodes : nodes a ≤ 400
  deep : deep a ≤ 20
theorem formed_Fm {v : GV} (hv : v.ok) (h : formedF v = true) : Fm v := by
  have h1 := (formedF_good hv h).1
  have h2 := (formedF_sizes h).1
  simp only [formedF, Bool.and_eq_true, decide_eq_true_eq] at h
  exact ⟨h1, h2, (checkF_ok.1 h.2).2.2⟩
theorem Fm.len {a : GV} (h : Fm a) : a.els.length ≤ 400 := by have := h.nodes; have := nodes_eq a; have := nodesL_len a.els; omega
theorem with_both {a b : GV} (ha : Fm a) (hb : Fm b) (h0 : b.kind ≠ 0) : ∃ v e, v.ok ∧ Gives Tryz.prog 63 [a.pv, b.pv] (outP v e) ∧ Gives Tryz.prog 72 [a.pv, b.pv] (made v e) := by
  have h1 := val_with a b ha.good hb.good h0 (by have := ha.nodes; omega) (by have := hb.nodes; omega)
  have h2 := ref_with a b ha.good hb.good h0 (by have := ha.nodes; omega) (by have := hb.nodes; omega)
  by_cases h8 : a.kind = 8
  · rw [if_pos h8] at h1 h2
    rw [with_eq ha.good hb.good h0 h8] at h1
    obtain ⟨_, s2, _⟩ := setF_spec (a.els ++ [b]) (fun x hx => by
      rcases List.mem_append.1 hx with h | h
      · exact ha.good.els x h
      · simp at h; rw [h]; exact hb.good)
    have := setF_len (a.els ++ [b])
    have := ha.len
    exact ⟨_, _, fitV_ok (setV_ok s2 (by simp at *; omega)), h1, h2⟩
  · rw [if_neg h8] at h1 h2
    exact ⟨_, _, omV_ok, h1, h2⟩
theorem less_both {a b : GV} (ha : Fm a) (hb : Fm b) (h0 : b.kind ≠ 0) : ∃ v e, v.ok ∧ Gives Tryz.prog 68 [a.pv, b.pv] (outP v e) ∧ Gives Tryz.prog 73 [a.pv, b.pv] (made v e) := by
  have h1 := val_less a b ha.good hb.good h0 (by have := ha.nodes; omega) (by have := hb.nodes; omega)
  have h2 := ref_less a b ha.good hb.good h0 (by have := ha.nodes; omega)
  by_cases h8 : a.kind = 8
  · rw [if_pos h8] at h1 h2
    rw [less_eq ha.good hb.good h0 h8] at h1
    have := ha.len
    have : (keptL a.els (setV [b]) false).length ≤ a.els.length := List.length_filter_le _ _
    exact ⟨_, _, fitV_ok (setV_ok (l := keptL a.els (setV [b]) false) (filt_goods ha.good.els) (by omega)), h1, h2⟩
  · rw [if_neg h8] at h1 h2
    exact ⟨_, _, omV_ok, h1, h2⟩
theorem union_both {a b : GV} (ha : Fm a) (hb : Fm b) : ∃ v e, v.ok ∧ Gives Tryz.prog 65 [a.pv, b.pv] (outP v e) ∧ Gives Tryz.prog 74 [a.pv, b.pv] (made v e) := by
  have h1 := val_union a b ha.good hb.good (by have := ha.nodes; omega) (by have := hb.nodes; omega)
  have h2 := ref_union a b ha.good hb.good (by have := ha.nodes; omega) (by have := hb.nodes; omega)
  by_cases h8 : a.kind = 8 ∧ b.kind = 8
  · rw [if_pos h8] at h1 h2
    rw [union_eq (set_Inc ha.good h8.1) (set_Inc hb.good h8.2) ha.good.els hb.good.els (set_nonom ha.good h8.1) (set_nonom hb.good h8.2)] at h1
    obtain ⟨_, s2, _⟩ := setF_spec (a.els ++ b.els) (fun x hx => (List.mem_append.1 hx).elim (ha.good.els x) (hb.good.els x))
    have := setF_len (a.els ++ b.els)
    have := ha.len
    have := hb.len
    exact ⟨_, _, fitV_ok (setV_ok s2 (by simp at *; omega)), h1, h2⟩
  · rw [if_neg h8] at h1 h2
    exact ⟨_, _, omV_ok, h1, h2⟩
theorem common_both {a b : GV} (ha : Fm a) (hb : Fm b) : ∃ v e, v.ok ∧ Gives Tryz.prog 64 [a.pv, b.pv] (outP v e) ∧ Gives Tryz.prog 75 [a.pv, b.pv] (made v e) := by
  have h1 := val_common a b ha.good hb.good (by have := ha.nodes; omega) (by have := hb.nodes; omega)
  have h2 := ref_common a b ha.good hb.good (by have := ha.nodes; omega)
  by_cases h8 : a.kind = 8 ∧ b.kind = 8
  · rw [if_pos h8] at h1 h2
    rw [common_eq ha.good hb.good h8.1 h8.2] at h1
    have := ha.len
    have : (keptL a.els b true).length ≤ a.els.length := List.length_filter_le _ _
    exact ⟨_, _, fitV_ok (setV_ok (l := keptL a.els b true) (filt_goods ha.good.els) (by omega)), h1, h2⟩
  · rw [if_neg h8] at h1 h2
    exact ⟨_, _, omV_ok, h1, h2⟩
theorem minus_both {a b : GV} (ha : Fm a) (hb : Fm b) : ∃ v e, v.ok ∧ Gives Tryz.prog 69 [a.pv, b.pv] (outP v e) ∧ Gives Tryz.prog 76 [a.pv, b.pv] (made v e) := by
  have h1 := val_minus a b ha.good hb.good (by have := ha.nodes; omega) (by have := hb.nodes; omega)
  have h2 := ref_minus a b ha.good hb.good (by have := ha.nodes; omega)
  by_cases h8 : a.kind = 8 ∧ b.kind = 8
  · rw [if_pos h8] at h1 h2
    rw [minus_eq ha.good hb.good h8.1 h8.2] at h1
    have := ha.len
    have : (keptL a.els b false).length ≤ a.els.length := List.length_filter_le _ _
    exact ⟨_, _, fitV_ok (setV_ok (l := keptL a.els b false) (filt_goods ha.good.els) (by omega)), h1, h2⟩
  · rw [if_neg h8] at h1 h2
    exact ⟨_, _, omV_ok, h1, h2⟩
/-- A part of a set fits. -/
theorem sub_fits {a : GV} (ha : Fm a) {s : List GV} (h : s.Nodup) (hs : ∀ x ∈ s, x ∈ a.els) : fitB (setV s) = true := by
  have h1 := nodesL_sub h hs
  have h2 := deepL_sub hs
  have h3 := ha.nodes
  have h4 := ha.deep
  rw [nodes_eq] at h3
  rw [deep_eq] at h4
  have e1 : nodes (setV s) = 1 + nodesL s := nodes_eq _
  have e2 : deep (setV s) = 1 + deepL s := deep_eq _
  simp [fitB, e1, e2]; omega
theorem within_both {a b : GV} (ha : Fm a) (hb : Fm b) : ∃ t e, Gives Tryz.prog 70 [a.pv, b.pv] (.tup [vB t, vE e]) ∧ Gives Tryz.prog 71 [a.pv, b.pv] (ansP t e) := by
  have h1 := val_within a b ha.good hb.good (by have := ha.nodes; omega) (by have := hb.nodes; omega)
  have h2 := ref_within a b ha.good hb.good (by have := ha.nodes; omega)
  by_cases h8 : a.kind = 8 ∧ b.kind = 8
  · rw [if_pos h8] at h1 h2
    rw [minus_eq ha.good hb.good h8.1 h8.2] at h1
    have hf : fitB (setV (keptL a.els b false)) = true := sub_fits ha (Inc_nodup (filt_Inc (set_Inc ha.good h8.1))) fun x hx => (List.mem_filter.1 hx).1
    rw [show fitV (setV (keptL a.els b false)) = setV (keptL a.els b false) from by simp [fitV, hf], show fitE (setV (keptL a.els b false)) = 0 from by simp [fitE, hf]] at h1
    have e : (decide ((0 : Int) = 0) && decide ((setV (keptL a.els b false)).els = [])) = decide (keptL a.els b false = []) := by rw [decide_eq_true rfl, Bool.true_and]; rfl
    rw [e] at h1
    exact ⟨_, _, h1, h2⟩
  · rw [if_neg h8] at h1 h2
    exact ⟨_, _, h1, h2⟩
theorem find_both {a b : GV} (ha : Fm a) (hb : Fm b) : ∃ (i : Int) (t : Bool), Gives Tryz.prog 66 [a.pv, b.pv] (.tup [vI i, vB t]) ∧ Gives Tryz.prog 67 [a.pv, b.pv] (placeP i t) := by
  have h1 := val_find a b ha.good hb.good (by have := ha.nodes; omega)
  have h2 := ref_find a b ha.good hb.good
  by_cases h8 : a.kind = 8
  · rw [if_pos h8] at h1 h2
    exact ⟨_, _, h1, h2⟩
  · rw [if_neg h8] at h1 h2
    exact ⟨_, _, h1, h2⟩
theorem same_self (v : GV) (e : Int) (hv : v.ok) : Gives Tryz.prog 42 [v.pv, vE e, made v e] (vB true) := by
  have := law_same v v e e hv hv
  simpa [sameV_refl] using this
abbrev zc : List PV := [PV.v (Value.int IntKind.i64 0), PV.v (Value.int IntKind.i64 0), PV.v (Value.bool false), PV.list Own.full [], PV.v (Value.string { data := #[] }), PV.list Own.full []]
/-! ValSets -/
theorem law13 (a b : GV) (ha : a.ok) (hb : b.ok) : Gives Tryz.prog 13 [a.pv, b.pv] (vB true) := by
  intro m
  refine ACall.of_aw Tryz.func13 Tryz.ntmps13 rfl rfl (by simp) ?_
  refine tS ?_
  refine tS1 fun K Kp hK hKp => ?_; refine Gives.at (law_some a ha) ?_; apply hK; clear hK hKp K Kp
  cases h1 : someF a with
  | false =>
    have F := @h1; refine tFa ?_; (try clear F)
    refine tS1 fun K Kp hK hKp => ?_; refine Gives.at (sanity) ?_; apply hK; clear hK hKp K Kp
    refine tS ?_
    exact Fin.gives Same.auto
  | true =>
  have F := @h1; refine tFg ?_; (try clear F)
  have F := @h1; refine tFc (law_some b hb) ?_; (try clear F)
  cases h2 : someF b with
  | false =>
    have F := (aand @h1 @h2); refine tFa ?_; (try clear F)
    refine tS1 fun K Kp hK hKp => ?_; refine Gives.at (sanity) ?_; apply hK; clear hK hKp K Kp
    refine tS ?_
    exact Fin.gives Same.auto
  | true =>
  simp only [someF, Bool.and_eq_true, Bool.not_eq_true', decide_eq_false_iff_not] at h1 h2
  have fa := formed_Fm ha h1.2
  have fb := formed_Fm hb h2.2
  obtain ⟨i0, t0, f1, f2⟩ := find_both fa fb
  obtain ⟨v1, e1, o1, w1, w2⟩ := with_both fa fb h2.1
  obtain ⟨v2, e2, o2, l1, l2⟩ := less_both fa fb h2.1
  obtain ⟨v3, e3, o3, u1, u2⟩ := union_both fa fb
  obtain ⟨v4, e4, o4, c1, c2⟩ := common_both fa fb
  obtain ⟨v5, e5, o5, m1, m2⟩ := minus_both fa fb
  obtain ⟨t6, e6, n1, n2⟩ := within_both fa fb
  clear h1 h2
  refine tSa ?_
  refine tS1 fun K Kp hK hKp => ?_; refine Gives.at (f1) ?_; apply hK; clear hK hKp K Kp
  refine tS ?_
  refine tS1 fun K Kp hK hKp => ?_; refine Gives.at (f2) ?_; apply hK; clear hK hKp K Kp
  refine tS ?_
  refine tS1 fun K Kp hK hKp => ?_; refine Gives.at (w1) ?_; apply hK; clear hK hKp K Kp
  refine tS ?_
  refine tS1 fun K Kp hK hKp => ?_; refine Gives.at (l1) ?_; apply hK; clear hK hKp K Kp
  refine tS ?_
  refine tS1 fun K Kp hK hKp => ?_; refine Gives.at (u1) ?_; apply hK; clear hK hKp K Kp
  refine tS ?_
  refine tS1 fun K Kp hK hKp => ?_; refine Gives.at (c1) ?_; apply hK; clear hK hKp K Kp
  refine tS ?_
  refine tS1 fun K Kp hK hKp => ?_; refine Gives.at (m1) ?_; apply hK; clear hK hKp K Kp
  refine tS ?_
  refine tS1 fun K Kp hK hKp => ?_; refine Gives.at (n1) ?_; apply hK; clear hK hKp K Kp
  refine tS ?_
  refine tS1 fun K Kp hK hKp => ?_; refine Gives.at (n2) ?_; apply hK; clear hK hKp K Kp
  refine tS ?_
  have sm : Same m ((((((((((((((((m.newLoc a.cells).newLoc b.cells).newLoc [PV.v (Value.int IntKind.i64 0), PV.v (Value.bool false)]).setLoc (m.nloc + 2) [vI i0, vB t0]).newLoc zc).setLoc (m.nloc + 3) v1.cells).newLoc zc).setLoc (m.nloc + 4) v2.cells).newLoc zc).setLoc (m.nloc + 5) v3.cells).newLoc zc).setLoc (m.nloc + 6) v4.cells).newLoc zc).setLoc (m.nloc + 7) v5.cells).newLoc [PV.v (Value.bool false), PV.v (Value.int IntKind.i64 0)]).setLoc (m.nloc + 8) [vB t6, vE e6]) := Same.auto
  generalize hmm : (((((((((((((((m.newLoc a.cells).newLoc b.cells).newLoc [PV.v (Value.int IntKind.i64 0), PV.v (Value.bool false)]).setLoc (m.nloc + 2) [vI i0, vB t0]).newLoc zc).setLoc (m.nloc + 3) v1.cells).newLoc zc).setLoc (m.nloc + 4) v2.cells).newLoc zc).setLoc (m.nloc + 5) v3.cells).newLoc zc).setLoc (m.nloc + 6) v4.cells).newLoc zc).setLoc (m.nloc + 7) v5.cells).newLoc [PV.v (Value.bool false), PV.v (Value.int IntKind.i64 0)]).setLoc (m.nloc + 8) [vB t6, vE e6] = mm at *
  have g0 : mm.loc (m.nloc) = some (a.cells) := by rw [← hmm]; simp [Nat.add_assoc]
  have g1 : mm.loc (m.nloc + 1) = some (b.cells) := by rw [← hmm]; simp <;> (intros; omega)
  have g2 : mm.loc (m.nloc + 2) = some ([vI i0, vB t0]) := by rw [← hmm]; simp <;> (intros; omega)
  have g3 : mm.loc (m.nloc + 3) = some (v1.cells) := by rw [← hmm]; simp <;> (intros; omega)
  have g4 : mm.loc (m.nloc + 4) = some (v2.cells) := by rw [← hmm]; simp <;> (intros; omega)
  have g5 : mm.loc (m.nloc + 5) = some (v3.cells) := by rw [← hmm]; simp <;> (intros; omega)
  have g6 : mm.loc (m.nloc + 6) = some (v4.cells) := by rw [← hmm]; simp <;> (intros; omega)
  have g7 : mm.loc (m.nloc + 7) = some (v5.cells) := by rw [← hmm]; simp <;> (intros; omega)
  have g8 : mm.loc (m.nloc + 8) = some ([vB t6, vE e6]) := by rw [← hmm]; simp <;> (intros; omega)
  have n0n : m.nloc < mm.nloc := by rw [← hmm]; simp <;> omega
  have n1n : m.nloc + 1 < mm.nloc := by rw [← hmm]; simp <;> omega
  have n2n : m.nloc + 2 < mm.nloc := by rw [← hmm]; simp <;> omega
  have n3n : m.nloc + 3 < mm.nloc := by rw [← hmm]; simp <;> omega
  have n4n : m.nloc + 4 < mm.nloc := by rw [← hmm]; simp <;> omega
  have n5n : m.nloc + 5 < mm.nloc := by rw [← hmm]; simp <;> omega
  have n6n : m.nloc + 6 < mm.nloc := by rw [← hmm]; simp <;> omega
  have n7n : m.nloc + 7 < mm.nloc := by rw [← hmm]; simp <;> omega
  have n8n : m.nloc + 8 < mm.nloc := by rw [← hmm]; simp <;> omega
  clear hmm
  refine AW.draw [.S, .S, .R, .S, .S, .S, .S, .R, .S, .S, .S, .S, .S, .R, .S, .S, .S, .S, .S, .R, .S, .S, .S, .R, .S, .R, .R, .R, .R, .S, .S, .S, .R, .S, .R, .R, .R, .R, .S, .S] (by decide +kernel) ?_; have F := (aand @g0 (aand @g1 (aand @g2 (aand @g3 (aand @g4 (aand @g5 (aand @g6 (aand @g7 (aand @g8 (aand @n0n (aand @n1n (aand @n2n (aand @n3n (aand @n4n (aand @n5n (aand @n6n (aand @n7n @n8n))))))))))))))))); refine dS 0 ?_; refine dS 1 ?_; refine dR 2 ?_; refine dS 3 ?_; refine dS 4 ?_; refine dSG 5 ?_; refine dSG 6 ?_; refine dRG 7 ?_; refine dSG 8 ?_; refine dS 9 ?_; refine dS 10 ?_; refine dSG 11 ?_; refine dSG 12 ?_; refine dRG 13 ?_; refine dSG 14 ?_; refine dS 15 ?_; refine dS 16 ?_; refine dSG 17 ?_; refine dSG 18 ?_; refine dRG 19 ?_; refine dSG 20 ?_; refine dS 21 ?_; refine dS 22 ?_; refine dRG 23 ?_; refine dSG 24 ?_; refine dRG 25 ?_; refine dRG 26 ?_; refine dCG ((w2)) 27 ?_; refine dCG ((same_self v1 e1 o1)) 28 ?_; refine dSG 29 ?_; refine dS 30 ?_; refine dS 31 ?_; refine dRG 32 ?_; refine dSG 33 ?_; refine dRG 34 ?_; refine dRG 35 ?_; refine dCG ((l2)) 36 ?_; refine dCG ((same_self v2 e2 o2)) 37 ?_; refine dSG 38 ?_; refine dS 39 ?_; (try clear F); first | refine dN ?_ | refine dB ?_ | refine DA.done (by decide +kernel) ?_
  refine tSa ?_
  refine AW.draw [.R, .S, .R, .S, .R, .R, .R, .R, .S, .S, .R, .S, .R, .R, .R, .R, .S, .S, .R, .S, .R, .R, .R, .R, .S, .S] (by decide +kernel) ?_; have F := (aand @g0 (aand @g1 (aand @g2 (aand @g3 (aand @g4 (aand @g5 (aand @g6 (aand @g7 (aand @g8 (aand @n0n (aand @n1n (aand @n2n (aand @n3n (aand @n4n (aand @n5n (aand @n6n (aand @n7n @n8n))))))))))))))))); refine dC ((sanity)) 0 ?_; refine dS 1 ?_; refine dRG 2 ?_; refine dSG 3 ?_; refine dRG 4 ?_; refine dRG 5 ?_; refine dCG ((u2)) 6 ?_; refine dCG ((same_self v3 e3 o3)) 7 ?_; refine dS 8 ?_; refine dS 9 ?_; refine dRG 10 ?_; refine dSG 11 ?_; refine dRG 12 ?_; refine dRG 13 ?_; refine dCG ((c2)) 14 ?_; refine dCG ((same_self v4 e4 o4)) 15 ?_; refine dS 16 ?_; refine dS 17 ?_; refine dRG 18 ?_; refine dSG 19 ?_; refine dRG 20 ?_; refine dRG 21 ?_; refine dCG ((m2)) 22 ?_; refine dCG ((same_self v5 e5 o5)) 23 ?_; refine dS 24 ?_; refine dS 25 ?_; (try clear F); first | refine dN ?_ | refine dB ?_ | refine DA.done (by decide +kernel) ?_
  refine tS ?_
  exact Fin.gives sm
end Go.Proofs.YtgfadepkiejncaaGreat
namespace Go.Proofs.YtgfadepkiejncaaGreat
open Go.Ab
set_option maxHeartbeats 0
set_option maxRecDepth 100000
attribute [local irreducible] AW AList ACall DA AExit.then AExit.inBlock YCall DCall

/-! sums over sets do not depend on the order -/
theorem sum_same (f : GV → Int) : ∀ (s l : List GV), s.Nodup → l.Nodup → (∀ x, x ∈ s ↔ x ∈ l) → (s.map f).sum = (l.map f).sum ∧ s.length = l.length
  | [], l, _, _, h => by
    have : l = [] := List.eq_nil_iff_forall_not_mem.2 fun x hx => by have := (h x).2 hx; simp at this
    subst this; simp
  | x :: s, l, hs, hl, h => by
    obtain ⟨h1, h2⟩ := List.nodup_cons.1 hs
    obtain ⟨p, q, rfl⟩ := List.append_of_mem ((h x).1 (by simp))
    have hl' : (p ++ q).Nodup := by
      rw [List.nodup_append] at hl ⊢
      obtain ⟨a1, a2, a3⟩ := hl
      exact ⟨a1, (List.nodup_cons.1 a2).2, fun y hy z hz => a3 y hy z (by simp [hz])⟩
    have hx : x ∉ p ++ q := by
      rw [List.nodup_append] at hl
      obtain ⟨a1, a2, a3⟩ := hl
      intro k
      rcases List.mem_append.1 k with k | k
      · exact a3 x k x (by simp) rfl
      · exact (List.nodup_cons.1 a2).1 k
    obtain ⟨e1, e2⟩ := sum_same f s (p ++ q) h2 hl' fun y => by
      have := h y
      constructor
      · intro hy
        have k := this.1 (by simp [hy])
        rcases List.mem_append.1 k with k | k
        · simp [k]
        · rcases List.mem_cons.1 k with k | k
          · subst k; exact absurd hy h1
          · simp [k]
      · intro hy
        have k := this.2 (by rcases List.mem_append.1 hy with k | k <;> simp [k])
        rcases List.mem_cons.1 k with k | k
        · subst k; exact absurd hy hx
        · exact k
    simp at e1 e2 ⊢
    exact ⟨by omega, by omega⟩
theorem hashL_map : ∀ l : List GV, hashL l = l.map hashV
  | [] => rfl
  | v :: l => by rw [hashL, hashL_map l]; rfl
theorem sumF_mod (l : List Int) : sumF l = (l.map shareH).sum % 4294967296 := by
  have key : ∀ (l : List Int) (s : Int), l.foldl (fun s h => w32 (s + shareH h)) (s % 4294967296) = (s + (l.map shareH).sum) % 4294967296 := by
    intro l
    induction l with
    | nil => intro s; simp
    | cons h l ih =>
      intro s
      simp only [List.foldl_cons, List.map_cons, List.sum_cons]
      rw [show w32 (s % 4294967296 + shareH h) = (s + shareH h) % 4294967296 from by simp only [w32, wrap_u32]; omega, ih]
      congr 1; omega
  have := key l 0
  simpa [sumF] using this
theorem hash_set {l : List GV} : hashV (setV l) = totalF (sumF (hashL l)) l.length := by
  rw [hashV_eq]
  show hashN 8 0 false [] ⟨#[]⟩ (hashL l) = _
  rw [hashN, if_neg (by omega), if_neg (by omega), if_neg (by omega), if_neg (by omega), if_pos rfl, hashL_len]
theorem hash_kind8 {a : GV} (h : a.kind = 8) : hashV a = totalF (sumF (hashL a.els)) a.els.length := by
  rw [hashV_eq, hashN, if_neg (by omega), if_neg (by omega), if_neg (by omega), if_neg (by omega), if_pos h, hashL_len]
theorem sum_union {a b s : List GV} (hs : Inc s) (ha : Inc a) (hb : Inc b) (hd : ∀ x ∈ a, x ∉ b) (h : ∀ x, x ∈ s ↔ x ∈ a ∨ x ∈ b) : sumF (hashL s) = w32 (sumF (hashL a) + sumF (hashL b)) ∧ s.length = a.length + b.length := by
  obtain ⟨e1, e2⟩ := sum_same (fun v => shareH (hashV v)) s (a ++ b) (Inc_nodup hs) (List.nodup_append.2 ⟨Inc_nodup ha, Inc_nodup hb, fun x hx y hy e => hd x hx (e ▸ hy)⟩) (fun x => by rw [h, List.mem_append])
  refine ⟨?_, by rw [e2, List.length_append]⟩
  rw [sumF_mod, sumF_mod, sumF_mod]
  simp only [w32, wrap_u32, hashL_map]
  simp only [List.map_map]
  simp only [List.map_append, List.sum_append] at e1
  have e1 : (List.map (shareH ∘ hashV) s).sum = (List.map (shareH ∘ hashV) a).sum + (List.map (shareH ∘ hashV) b).sum := e1
  rw [e1]; omega
theorem sumF_one (x : GV) : sumF (hashL [x]) = w32 (shareH (hashV x)) := by simp [sumF, hashL]
theorem w32_add (s t : Int) : w32 (s + w32 t) = w32 (s + t) := by simp only [w32, wrap_u32]; omega
/-- What With says of hashes. -/
theorem with_hash {a x : GV} (ha : Fm a) (hx : Fm x) (h0 : x.kind ≠ 0) (h8 : a.kind = 8) : ∃ w e, w.ok ∧ Gives Tryz.prog 63 [a.pv, x.pv] (outP w e) ∧ (e = 0 → isF a.els x = false → hashV w = totalF (w32 (sumF (hashL a.els) + shareH (hashV x))) (a.els.length + 1)) := by
  have h1 := val_with a x ha.good hx.good h0 (by have := ha.nodes; omega) (by have := hx.nodes; omega)
  rw [if_pos h8] at h1
  have ia := set_Inc ha.good h8
  have g1 : goods [x] := fun y hy => by simp at hy; rw [hy]; exact hx.good
  have i1 : Inc [x] := List.pairwise_singleton _ _
  have gm := mrg_goods (st := stU) ia i1 ha.good.els g1
  have hl := mrg_len stU a.els [x]
  have := ha.len
  refine ⟨_, _, fitV_ok (setV_ok gm (by simp at hl; omega)), h1, fun he hi => ?_⟩
  have hf : fitB (setV (mrg stU a.els [x])) = true := by
    unfold fitE at he; split at he; assumption; cases he
  rw [show fitV (setV (mrg stU a.els [x])) = setV (mrg stU a.els [x]) from by simp [fitV, hf], hash_set]
  have hn : x ∉ a.els := fun k => by rw [(isF_mem a.els x hx.good ha.good.els ia).2 k] at hi; cases hi
  obtain ⟨e1, e2⟩ := sum_union (mrg_Inc stU _ _ ia i1 ha.good.els g1) ia i1 (fun y hy k => by simp at k; subst k; exact hn hy) (fun y => mem_stU ia i1 ha.good.els g1 y)
  rw [e1, e2, sumF_one, w32_add]
  simp
theorem union_hash {a b : GV} (ha : Fm a) (hb : Fm b) (h8 : a.kind = 8) (k8 : b.kind = 8) : ∃ c u e, c.ok ∧ u.ok ∧ Gives Tryz.prog 64 [a.pv, b.pv] (outP c 0) ∧ Gives Tryz.prog 65 [a.pv, b.pv] (outP u e) ∧
    (e = 0 → c.els = [] → hashV u = totalF (w32 (sumF (hashL a.els) + sumF (hashL b.els))) (a.els.length + b.els.length)) := by
  have h1 := val_union a b ha.good hb.good (by have := ha.nodes; omega) (by have := hb.nodes; omega)
  have h2 := val_common a b ha.good hb.good (by have := ha.nodes; omega) (by have := hb.nodes; omega)
  rw [if_pos ⟨h8, k8⟩] at h1 h2
  have ia := set_Inc ha.good h8
  have ib := set_Inc hb.good k8
  have mc := mem_stC ia ib ha.good.els hb.good.els
  have hfc : fitB (setV (mrg stC a.els b.els)) = true := sub_fits ha (Inc_nodup (mrg_Inc stC _ _ ia ib ha.good.els hb.good.els)) fun x hx => ((mc x).1 hx).1
  have := ha.len
  have := hb.len
  have l1 := mrg_len stU a.els b.els
  have l2 := mrg_len stC a.els b.els
  rw [show fitV (setV (mrg stC a.els b.els)) = setV (mrg stC a.els b.els) from by simp [fitV, hfc], show fitE (setV (mrg stC a.els b.els)) = 0 from by simp [fitE, hfc]] at h2
  refine ⟨_, _, _, setV_ok (mrg_goods (st := stC) ia ib ha.good.els hb.good.els) (by omega), fitV_ok (setV_ok (mrg_goods (st := stU) ia ib ha.good.els hb.good.els) (by omega)), h2, h1, fun he hc => ?_⟩
  have hf : fitB (setV (mrg stU a.els b.els)) = true := by
    unfold fitE at he; split at he; assumption; cases he
  rw [show fitV (setV (mrg stU a.els b.els)) = setV (mrg stU a.els b.els) from by simp [fitV, hf], hash_set]
  have hc' : mrg stC a.els b.els = [] := hc
  obtain ⟨e1, e2⟩ := sum_union (mrg_Inc stU _ _ ia ib ha.good.els hb.good.els) ia ib (fun y hy k => by
    have := (mc y).2 ⟨hy, k⟩
    rw [hc'] at this; simp at this) (fun y => mem_stU ia ib ha.good.els hb.good.els y)
  rw [e1, e2]
  simp
/-! ValHashes -/
theorem law12 (a b x : GV) (ha : a.ok) (hb : b.ok) (hx : x.ok) : Gives Tryz.prog 12 [a.pv, b.pv, x.pv] (vB true) := by
  intro m
  refine ACall.of_aw Tryz.func12 Tryz.ntmps12 rfl rfl (by simp) ?_
  refine tS ?_
  refine tS1 fun K Kp hK hKp => ?_; refine Gives.at (law_some a ha) ?_; apply hK; clear hK hKp K Kp
  cases h1 : someF a with
  | false =>
    have F := @h1; refine tFa ?_; (try clear F)
    refine tS1 fun K Kp hK hKp => ?_; refine Gives.at (sanity) ?_; apply hK; clear hK hKp K Kp
    refine tS ?_
    exact Fin.gives Same.auto
  | true =>
  have F := @h1; refine tFg ?_; (try clear F)
  have F := @h1; refine tFc (law_some b hb) ?_; (try clear F)
  cases h2 : someF b with
  | false =>
    have F := (aand @h1 @h2); refine tFa ?_; (try clear F)
    refine tS1 fun K Kp hK hKp => ?_; refine Gives.at (sanity) ?_; apply hK; clear hK hKp K Kp
    refine tS ?_
    exact Fin.gives Same.auto
  | true =>
  have F := (aand @h1 @h2); refine tFg ?_; (try clear F)
  have F := (aand @h1 @h2); refine tFc (law_some x hx) ?_; (try clear F)
  cases h3 : someF x with
  | false =>
    have F := (aand @h1 (aand @h2 @h3)); refine tFa ?_; (try clear F)
    refine tS1 fun K Kp hK hKp => ?_; refine Gives.at (sanity) ?_; apply hK; clear hK hKp K Kp
    refine tS ?_
    exact Fin.gives Same.auto
  | true =>
  by_cases h8 : a.kind = 8
  rotate_left
  · have F := (aand @h1 (aand @h2 (aand @h3 @h8))); refine tFa ?_; (try clear F)
    refine tS1 fun K Kp hK hKp => ?_; refine Gives.at (sanity) ?_; apply hK; clear hK hKp K Kp
    refine tS ?_
    exact Fin.gives Same.auto
  by_cases k8 : b.kind = 8
  rotate_left
  · have F := (aand @h1 (aand @h2 (aand @h3 (aand @h8 @k8)))); refine tFa ?_; (try clear F)
    refine tS1 fun K Kp hK hKp => ?_; refine Gives.at (sanity) ?_; apply hK; clear hK hKp K Kp
    refine tS ?_
    exact Fin.gives Same.auto
  have F := (aand @h1 (aand @h2 (aand @h3 (aand @h8 @k8)))); refine tFa ?_; (try clear F)
  simp only [someF, Bool.and_eq_true, Bool.not_eq_true', decide_eq_false_iff_not] at h1 h2 h3
  have fa := formed_Fm ha h1.2
  have fb := formed_Fm hb h2.2
  have fx := formed_Fm hx h3.2
  obtain ⟨w, e, ow, hw, hwe⟩ := with_hash fa fx h3.1 h8
  obtain ⟨c, u, g, oc, ou, hc, hu, hue⟩ := union_hash fa fb h8 k8
  have hcopy := val_copy x (by have := fx.nodes; omega) (good_small fx.good)
  have hhas := law_has a x fa.good fx.good h8 (by have := fa.nodes; omega)
  have hha := val_hash a ha
  rw [hash_kind8 h8] at hha
  have la := fa.len
  have lb := fb.len
  clear h1 h2 h3
  have sm : Same m (((m.newLoc a.cells).newLoc b.cells).newLoc x.cells) := Same.auto
  generalize hmm : ((m.newLoc a.cells).newLoc b.cells).newLoc x.cells = mm at *
  have g0 : mm.loc m.nloc = some a.cells := by rw [← hmm]; simp [Nat.add_assoc]
  have g1 : mm.loc (m.nloc + 1) = some b.cells := by rw [← hmm]; simp [Nat.add_assoc]
  have g2 : mm.loc (m.nloc + 2) = some x.cells := by rw [← hmm]; simp [Nat.add_assoc]
  have hnl : mm.nloc = m.nloc + 3 := by rw [← hmm]; simp
  clear hmm
  have n0 : m.nloc < mm.nloc := by omega
  have n1 : m.nloc + 1 < mm.nloc := by omega
  have n2 : m.nloc + 2 < mm.nloc := by omega
  have hLa := hashL_len a.els
  have hLb := hashL_len b.els
  refine AW.loop (ι := Nat) (fun i σ m' => i ≤ a.els.length ∧ σ 8 = vI i ∧ σ 7 = vW (sumF ((hashL a.els).take i)) ∧ σ 3 = .loc m.nloc 0 ∧ σ 4 = .loc (m.nloc + 1) 0 ∧ σ 5 = .loc (m.nloc + 2) 0 ∧ m' = mm) (fun i => a.els.length - i) 0 ?_ ?_
  · exact ⟨by simp, by simp [upd_lit], by simp [upd_lit, sumF], by simp [upd_lit], by simp [upd_lit], by simp [upd_lit], rfl⟩
  rintro i σ m' ⟨hi, t8, t7, t3, t4, t5, rfl⟩
  have F := (aand @t8 (aand @t3 (aand @g0 @n0))); refine tF ?_; (try clear F)
  refine AW.condD (p := i < a.els.length) (by simp [upd_lit]) (fun hlt => ?_) (fun hge => ?_)
  · have hg := hashL_get a.els i hlt
    have F := (aand @t8 (aand @t7 (aand @t3 (aand @g0 (aand @n0 (aand @hlt @rows_getD)))))); refine tF ?_; (try clear F)
    refine tS1 fun K Kp hK hKp => ?_; refine Gives.at (val_share a.els[i] ((okL_iff _).1 ha.els _ (List.getElem_mem hlt))) ?_; apply hK; clear hK hKp K Kp
    have F := (aand @t8 @t7); refine tF ?_; (try clear F)
    exact ⟨i + 1, ⟨by omega, by simp [upd_lit], by simp [upd_lit]; rw [sumF_take _ _ (by omega), hg], by simp [upd_lit, t3], by simp [upd_lit, t4], by simp [upd_lit, t5], rfl⟩, by omega⟩
  have ei : i = a.els.length := by omega
  subst ei
  rw [List.take_of_length_le (by omega)] at t7
  generalize hSa : sumF (hashL a.els) = Sa at *
  refine tS ?_
  refine AW.loop (ι := Nat) (fun i τ m'' => i ≤ b.els.length ∧ τ 10 = vI i ∧ τ 9 = vW (sumF ((hashL b.els).take i)) ∧ τ 7 = vW Sa ∧ τ 3 = .loc m.nloc 0 ∧ τ 4 = .loc (m.nloc + 1) 0 ∧ τ 5 = .loc (m.nloc + 2) 0 ∧ m'' = m') (fun i => b.els.length - i) 0 ?_ ?_
  · exact ⟨by simp, by simp [upd_lit], by simp [upd_lit, sumF], by simp [upd_lit, t7], by simp [upd_lit, t3], by simp [upd_lit, t4], by simp [upd_lit, t5], rfl⟩
  clear t3 t4 t5 t7 t8 σ hi hge
  rintro i σ m'' ⟨hi, t10, t9, t7, t3, t4, t5, rfl⟩
  have F := (aand @t10 (aand @t4 (aand @g1 @n1))); refine tF ?_; (try clear F)
  refine AW.condD (p := i < b.els.length) (by simp [upd_lit]) (fun hlt => ?_) (fun hge => ?_)
  · have hg := hashL_get b.els i hlt
    have F := (aand @t10 (aand @t9 (aand @t4 (aand @g1 (aand @n1 (aand @hlt @rows_getD)))))); refine tF ?_; (try clear F)
    refine tS1 fun K Kp hK hKp => ?_; refine Gives.at (val_share b.els[i] ((okL_iff _).1 hb.els _ (List.getElem_mem hlt))) ?_; apply hK; clear hK hKp K Kp
    have F := (aand @t10 @t9); refine tF ?_; (try clear F)
    exact ⟨i + 1, ⟨by omega, by simp [upd_lit], by simp [upd_lit]; rw [sumF_take _ _ (by omega), hg], by simp [upd_lit, t7], by simp [upd_lit, t3], by simp [upd_lit, t4], by simp [upd_lit, t5], rfl⟩, by omega⟩
  have ei : i = b.els.length := by omega
  subst ei
  rw [List.take_of_length_le (by omega)] at t9
  generalize hSb : sumF (hashL b.els) = Sb at *
  refine tS ?_
  refine AW.draw [.R, .R, .S, .S, .R, .S, .R, .S, .S, .R, .R, .R, .R, .R, .S, .S] (by decide +kernel) ?_; have F := (aand @t7 (aand @t3 (aand @t5 (aand @g0 (aand @g2 (aand @n0 @n2)))))); refine dR 0 ?_; refine dC ((hha)) 1 ?_; refine dS 2 ?_; refine dS 3 ?_; refine dR 4 ?_; refine dS 5 ?_; refine dC ((val_total Sa a.els.length)) 6 ?_; refine dS 7 ?_; refine dS 8 ?_; refine dRG 9 ?_; refine dCG ((hcopy)) 10 ?_; refine dCG ((val_hash x hx)) 11 ?_; refine dRG 12 ?_; refine dCG ((val_hash x hx)) 13 ?_; refine dSG 14 ?_; refine dS 15 ?_; (try clear F); first | refine dN ?_ | refine dB ?_ | refine DA.done (by decide +kernel) ?_
  refine tSa ?_
  have F := (aand @t3 (aand @t5 (aand @g0 (aand @g2 (aand @n0 @n2))))); refine tF ?_; (try clear F)
  refine tS1 fun K Kp hK hKp => ?_; refine Gives.at (hw) ?_; apply hK; clear hK hKp K Kp
  refine tS ?_
  generalize hM : (m''.newLoc [vI 0, vI 0, vB false, .list .full [], .v (.string ⟨#[]⟩), .list .full []]).setLoc m''.nloc w.cells = m1
  have sm1 : Same m m1 := by rw [← hM]; exact Same.auto
  have nl1 : m1.nloc = m.nloc + 4 := by rw [← hM]; simp [hnl]
  have g01 : m1.loc m.nloc = some a.cells := by rw [← hM]; simp [hnl, g0]
  have g11 : m1.loc (m.nloc + 1) = some b.cells := by rw [← hM]; simp [hnl, g1]
  have g21 : m1.loc (m.nloc + 2) = some x.cells := by rw [← hM]; simp [hnl, g2]
  have g31 : m1.loc (m.nloc + 3) = some w.cells := by rw [← hM]; simp [hnl]
  have hn3 : m''.nloc = m.nloc + 3 := hnl
  rw [hnl]
  clear hM g0 g1 g2 n0 n1 n2 hnl sm
  have n0 : m.nloc < m1.nloc := by omega
  have n2 : m.nloc + 2 < m1.nloc := by omega
  have n3 : m.nloc + 3 < m1.nloc := by omega
  refine AW.mono (Q := fun y τ' m2 => y = .normal ∧ τ' 114 = vB false ∧ τ' 3 = .loc m.nloc 0 ∧ τ' 4 = .loc (m.nloc + 1) 0 ∧ τ' 7 = vW Sa ∧ τ' 9 = vW Sb ∧ m2 = m1) ?_ ?_
  · by_cases he : e = 0
    · cases hi : isF a.els x with
      | true =>
        refine AW.draw [.S, .S, .S, .R, .R, .R, .S, .S, .S, .R, .R, .S, .R, .R, .S, .S, .R, .S, .S, .R, .S, .S] (by decide +kernel) ?_; have F := (aand @t3 (aand @t5 (aand @g01 (aand @g21 (aand @n0 (aand @n2 (aand @he @hi))))))); refine dS 0 ?_; refine dS 1 ?_; refine dS 2 ?_; refine dRG 3 ?_; refine dRG 4 ?_; refine dCG ((hhas)) 5 ?_; refine dSG 6 ?_; refine dS 7 ?_; refine dS 8 ?_; refine dXX 9 ?_; refine dXX 10 ?_; refine dXx 11 ?_; refine dXX 12 ?_; refine dXX 13 ?_; refine dXx 14 ?_; refine dXx 15 ?_; refine dXX 16 ?_; refine dXx 17 ?_; refine dXx 18 ?_; refine dXX 19 ?_; refine dXx 20 ?_; refine dS 21 ?_; (try clear F); first | refine dN ?_ | refine dB ?_ | refine DA.done (by decide +kernel) ?_
        exact ⟨rfl, by simp [upd_lit], by simp [upd_lit, t3], by simp [upd_lit, t4], by simp [upd_lit, t7], by simp [upd_lit, t9], rfl⟩
      | false =>
        have hwe := hwe he hi
        refine AW.draw [.S, .S, .S, .R, .R, .R, .S, .S, .S, .R, .R, .S, .R, .R, .S, .S, .R, .S, .S, .R, .S, .S] (by decide +kernel) ?_; have F := (aand @t3 (aand @t5 (aand @t7 (aand @g01 (aand @g21 (aand @g31 (aand @n0 (aand @n2 (aand @n3 (aand @he (aand @hi @hwe))))))))))); refine dS 0 ?_; refine dS 1 ?_; refine dS 2 ?_; refine dRG 3 ?_; refine dRG 4 ?_; refine dCG ((hhas)) 5 ?_; refine dSG 6 ?_; refine dS 7 ?_; refine dS 8 ?_; refine dRG 9 ?_; refine dCG ((val_hash w ow)) 10 ?_; refine dSG 11 ?_; refine dRG 12 ?_; refine dCG ((val_share x hx)) 13 ?_; refine dSG 14 ?_; refine dSG 15 ?_; refine dRG 16 ?_; refine dSG 17 ?_; refine dSG 18 ?_; refine dCG ((val_total _ _)) 19 ?_; refine dSG 20 ?_; refine dS 21 ?_; (try clear F); first | refine dN ?_ | refine dB ?_ | refine DA.done (by decide +kernel) ?_
        exact ⟨rfl, by simp [upd_lit], by simp [upd_lit, t3], by simp [upd_lit, t4], by simp [upd_lit, t7], by simp [upd_lit, t9], rfl⟩
    · refine AW.draw [.S, .S, .S, .R, .R, .R, .S, .S, .S, .R, .R, .S, .R, .R, .S, .S, .R, .S, .S, .R, .S, .S] (by decide +kernel) ?_; have F := (aand @t3 (aand @t5 (aand @g01 (aand @g21 (aand @n0 (aand @n2 @he)))))); refine dS 0 ?_; refine dS 1 ?_; refine dS 2 ?_; refine dXX 3 ?_; refine dXX 4 ?_; refine dXX 5 ?_; refine dXx 6 ?_; refine dS 7 ?_; refine dS 8 ?_; refine dXX 9 ?_; refine dXX 10 ?_; refine dXx 11 ?_; refine dXX 12 ?_; refine dXX 13 ?_; refine dXx 14 ?_; refine dXx 15 ?_; refine dXX 16 ?_; refine dXx 17 ?_; refine dXx 18 ?_; refine dXX 19 ?_; refine dXx 20 ?_; refine dS 21 ?_; (try clear F); first | refine dN ?_ | refine dB ?_ | refine DA.done (by decide +kernel) ?_
      exact ⟨rfl, by simp [upd_lit], by simp [upd_lit, t3], by simp [upd_lit, t4], by simp [upd_lit, t7], by simp [upd_lit, t9], rfl⟩
  clear t3 t4 t5 t7 t9 t10 hge
  rintro y τ m2 ⟨rfl, t114, t3, t4, t7, t9, rfl⟩
  have n1 : m.nloc + 1 < m2.nloc := by omega
  have F := @t114; refine tFa ?_; (try clear F)
  have F := (aand @t3 (aand @t4 (aand @g01 (aand @g11 (aand @n0 @n1))))); refine tF ?_; (try clear F)
  refine tS1 fun K Kp hK hKp => ?_; refine Gives.at (hc) ?_; apply hK; clear hK hKp K Kp
  have F := (aand @t3 (aand @t4 (aand @g01 (aand @g11 (aand @n0 (aand @n1 @nl1)))))); refine tF ?_; (try clear F)
  refine tS1 fun K Kp hK hKp => ?_; refine Gives.at (hu) ?_; apply hK; clear hK hKp K Kp
  refine tSa ?_
  simp only [nl1, Nat.add_assoc, Nat.reduceAdd]
  generalize hM : (((m2.newLoc [vI 0, vI 0, vB false, .list .full [], .v (.string ⟨#[]⟩), .list .full []]).setLoc (m.nloc + 4) c.cells).newLoc [vI 0, vI 0, vB false, .list .full [], .v (.string ⟨#[]⟩), .list .full []]).setLoc (m.nloc + 5) u.cells = m3
  have sm3 : Same m m3 := by rw [← hM]; exact Same.auto
  have nl3 : m3.nloc = m.nloc + 6 := by rw [← hM]; simp [nl1]
  have g03 : m3.loc m.nloc = some a.cells := by rw [← hM]; simp [nl1, g01] <;> omega
  have g13 : m3.loc (m.nloc + 1) = some b.cells := by rw [← hM]; simp [nl1, g11] <;> omega
  have g43 : m3.loc (m.nloc + 4) = some c.cells := by rw [← hM]; simp [nl1]
  have g53 : m3.loc (m.nloc + 5) = some u.cells := by rw [← hM]; simp [nl1]
  clear hM g01 g11 g21 g31 n0 n1 n2 n3 sm1 nl1
  have n0 : m.nloc < m3.nloc := by omega
  have n1 : m.nloc + 1 < m3.nloc := by omega
  have n4 : m.nloc + 4 < m3.nloc := by omega
  have n5 : m.nloc + 5 < m3.nloc := by omega
  have t3' : τ 3 = .loc m.nloc 0 := t3
  by_cases hg : g = 0
  · have hue := hue hg
    cases hce : c.els with
    | cons p q =>
      refine AW.draw [.R, .S, .S, .S, .S, .S, .R, .S, .S, .S, .S, .R, .R, .S, .S, .S, .S, .R, .S, .S, .R, .S, .S, .R, .S, .S, .S, .S] (by decide +kernel) ?_; have F := (aand @t3 (aand @t4 (aand @t7 (aand @t9 (aand @g03 (aand @g13 (aand @g43 (aand @g53 (aand @n0 (aand @n1 (aand @n4 (aand @n5 (aand @hg @hce))))))))))))); refine dC ((sanity)) 0 ?_; refine dS 1 ?_; refine dSG 2 ?_; refine dSG 3 ?_; refine dSG 4 ?_; refine dSG 5 ?_; refine dRG 6 ?_; refine dSG 7 ?_; refine dSG 8 ?_; refine dSG 9 ?_; refine dSG 10 ?_; refine dXX 11 ?_; refine dXX 12 ?_; refine dXx 13 ?_; refine dXx 14 ?_; refine dXx 15 ?_; refine dXx 16 ?_; refine dXX 17 ?_; refine dXx 18 ?_; refine dXx 19 ?_; refine dXX 20 ?_; refine dXx 21 ?_; refine dXx 22 ?_; refine dXX 23 ?_; refine dXx 24 ?_; refine dSG 25 ?_; refine dS 26 ?_; refine dS 27 ?_; (try clear F); first | refine dN ?_ | refine dB ?_ | refine DA.done (by decide +kernel) ?_
      refine tSa ?_
      exact Fin.gives Same.auto
    | nil =>
      have hue := hue hce
      refine AW.draw [.R, .S, .S, .S, .S, .S, .R, .S, .S, .S, .S, .R, .R, .S, .S, .S, .S, .R, .S, .S, .R, .S, .S, .R, .S, .S, .S, .S] (by decide +kernel) ?_; have F := (aand @t3 (aand @t4 (aand @t7 (aand @t9 (aand @g03 (aand @g13 (aand @g43 (aand @g53 (aand @n0 (aand @n1 (aand @n4 (aand @n5 (aand @hg (aand @hce @hue)))))))))))))); refine dC ((sanity)) 0 ?_; refine dS 1 ?_; refine dSG 2 ?_; refine dSG 3 ?_; refine dSG 4 ?_; refine dSG 5 ?_; refine dRG 6 ?_; refine dSG 7 ?_; refine dSG 8 ?_; refine dSG 9 ?_; refine dSG 10 ?_; refine dRG 11 ?_; refine dCG ((val_hash u ou)) 12 ?_; refine dSG 13 ?_; refine dSG 14 ?_; refine dSG 15 ?_; refine dSG 16 ?_; refine dRG 17 ?_; refine dSG 18 ?_; refine dSG 19 ?_; refine dRG 20 ?_; refine dSG 21 ?_; refine dSG 22 ?_; refine dCG ((val_total _ _)) 23 ?_; refine dSG 24 ?_; refine dSG 25 ?_; refine dS 26 ?_; refine dS 27 ?_; (try clear F); first | refine dN ?_ | refine dB ?_ | refine DA.done (by decide +kernel) ?_
      refine tSa ?_
      exact Fin.gives Same.auto
  · refine AW.draw [.R, .S, .S, .S, .S, .S, .R, .S, .S, .S, .S, .R, .R, .S, .S, .S, .S, .R, .S, .S, .R, .S, .S, .R, .S, .S, .S, .S] (by decide +kernel) ?_; have F := (aand @t3 (aand @t4 (aand @t7 (aand @t9 (aand @g03 (aand @g13 (aand @g43 (aand @g53 (aand @n0 (aand @n1 (aand @n4 (aand @n5 @hg)))))))))))); refine dC ((sanity)) 0 ?_; refine dS 1 ?_; refine dSG 2 ?_; refine dSG 3 ?_; refine dSG 4 ?_; refine dXx 5 ?_; refine dXX 6 ?_; refine dXx 7 ?_; refine dXx 8 ?_; refine dSG 9 ?_; refine dSG 10 ?_; refine dXX 11 ?_; refine dXX 12 ?_; refine dXx 13 ?_; refine dXx 14 ?_; refine dXx 15 ?_; refine dXx 16 ?_; refine dXX 17 ?_; refine dXx 18 ?_; refine dXx 19 ?_; refine dXX 20 ?_; refine dXx 21 ?_; refine dXx 22 ?_; refine dXX 23 ?_; refine dXx 24 ?_; refine dSG 25 ?_; refine dS 26 ?_; refine dS 27 ?_; (try clear F); first | refine dN ?_ | refine dB ?_ | refine DA.done (by decide +kernel) ?_
    refine tSa ?_
    exact Fin.gives Same.auto
end Go.Proofs.YtgfadepkiejncaaGreat
