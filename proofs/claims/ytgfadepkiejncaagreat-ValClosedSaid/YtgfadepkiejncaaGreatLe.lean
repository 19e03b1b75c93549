/- Texts of the proof, part Le: they prove nothing by themselves that is claimed. -/
import Derived.Test.YtgfadepkiejncaaGreatLc
import Derived.Test.YtgfadepkiejncaaGreatLd
import Derived.Sort.LotC
import Derived.Sort.LotB
import Derived.Test.YtgfadepkiejncaaGreatLb
import Derived.Lib.DecodeN
set_option linter.unusedVariables false
set_option linter.unusedSimpArgs false
namespace Go.Ab
theorem AW.stepX {P : Program} {N : Nat} {Q : APost} {σ : Nat → PV} {m : St} {c : Code} (k : Nat) (I : (Nat → PV) → St → Prop) (h : AW P N c (fun y σ m => y = .exit k ∧ I σ m) σ m) (kk : ∀ σ m, I σ m → Q (.exit k) σ m) : AW P N c Q σ m :=
  AW.mono h fun _ _ _ ⟨e, hi⟩ => e ▸ kk _ _ hi
end Go.Ab
namespace Go.Proofs.YtgfadepkiejncaaGreat
open Go.Ab Go.Sort
set_option maxHeartbeats 0
set_option maxRecDepth 100000
attribute [local irreducible] AW AList ACall DA AExit.then AExit.inBlock YCall DCall
theorem partitionEqualG {m : St} {n L cap : Nat} {d : Array GG} {r : List PV} (H : Arr m n L d r) (a b p : Nat) (hp1 : a ≤ p) (hp2 : p < b) (hb : b ≤ L) :
    GivesTo Tryz.prog 181 [mar n L cap, vI a, vI b, vI p, cloC] m (vI (partitionEqual ltG d a b p).1) (m.setLoc n (ar (partitionEqual ltG d a b p).2 r)) := by
  have hn := H.lt
  have hm := H.loc
  have hL := H.size
  have hS := H.small
  refine ACall.of_aw Tryz.func181 Tryz.ntmps181 rfl rfl (by simp) ?_
  rw [partitionEqual]
  have a1 : a < d.size := by omega
  have a2 : (a : Int) < L := by omega
  have p1 : p < d.size := by omega
  have p2 : (p : Int) < L := by omega
  obtain ⟨j0, hj0⟩ : ∃ j, j + 1 = b := ⟨b - 1, by omega⟩
  rw [show b - 1 = j0 from by omega]
  have ej : (b : Int) - 1 = (j0 : Int) := by omega
  refine tS ?_
  refine AW.draw [.S, .S, .S, .S, .S, .S, .S, .R, .S, .S, .S, .R, .S, .W, .S, .W] (by decide +kernel) ?_; have F := (aand @a1 (aand @a2 (aand @p1 (aand @p2 (aand @hn (aand @hm (aand @ar_get (aand @ar_fit (aand @ar_set @setLoc_setLoc))))))))); refine dST 0 ?_; refine dST 1 ?_; refine dST 2 ?_; refine dST 3 ?_; refine dST 4 ?_; refine dST 5 ?_; refine dST 6 ?_; refine dRT 7 ?_; refine dST 8 ?_; refine dST 9 ?_; refine dST 10 ?_; refine dRT 11 ?_; refine dST 12 ?_; refine dW 13 ?_; refine dST 14 ?_; refine dW 15 ?_; (try clear F); first | refine dN ?_ | refine dB ?_ | refine DA.done (by decide +kernel) ?_
  simp only [put]
  rw [swp_gt]
  have hs0 : (swp d a p).size = L := by rw [swp_size]; exact hL
  generalize swp d a p = d0 at *
  clear a1 p1 p2
  have F := @ej; refine tF ?_; (try clear F)
  refine AW.loop (ι := Nat × Nat) (fun q σ m' => a + 1 ≤ q.1 ∧ q.1 ≤ b + 1 ∧ q.2 < b ∧ σ 11 = vI q.1 ∧ σ 12 = vI q.2 ∧ σ 0 = mar n L cap ∧ σ 1 = vI a ∧ σ 4 = cloC ∧ ∃ d', d'.size = L ∧ partEqLoop ltG a q.1 q.2 d' = partEqLoop ltG a (a + 1) j0 d0 ∧ m' = m.setLoc n (ar d' r)) (fun q => q.2 + 1 - q.1) (a + 1, j0) ?_ ?_
  · exact ⟨Nat.le_refl _, by show a + 1 ≤ b + 1; omega, by show j0 < b; omega, by simp [upd_lit], by simp [upd_lit], by simp [upd_lit], by simp [upd_lit], by simp [upd_lit], d0, hs0, rfl, rfl⟩
  rintro ⟨i, j⟩ σ m' ⟨hi, hib, hj, tI, tJ, t0, t1, t4, d1, hs, hD, rfl⟩
  simp only at hi hib hj tI tJ hD
  rw [partEqLoop_eq] at hD
  repeat (first | refine AW.seq ?_ | refine AW.block ?_ | refine AW.skip ?_ | refine AExit.norT ?_ | refine AExit.norB ?_ | refine AList.nil ?_)
  obtain ⟨u, hu⟩ : ∃ z, z = scanUp (fun x => !ltG d1[a]! x) d1 j i := ⟨_, rfl⟩
  refine AW.stepX 2 (fun τ m3 => τ 11 = vI u ∧ τ 12 = vI j ∧ τ 0 = mar n L cap ∧ τ 1 = vI a ∧ τ 4 = cloC ∧ m3 = m.setLoc n (ar d1 r)) ?_ ?_
  · refine AW.loop (ι := Nat) (fun k τ m3 => i ≤ k ∧ scanUp (fun x => !ltG d1[a]! x) d1 j k = u ∧ τ 11 = vI k ∧ τ 12 = vI j ∧ τ 0 = mar n L cap ∧ τ 1 = vI a ∧ τ 4 = cloC ∧ m3 = m.setLoc n (ar d1 r)) (fun k => j + 1 - k) i ?_ ?_
    · exact ⟨Nat.le_refl _, hu.symm, by simp [upd_lit, tI], by simp [upd_lit, tJ], by simp [upd_lit, t0], by simp [upd_lit, t1], by simp [upd_lit, t4], rfl⟩
    rintro k τ m3 ⟨hk, hE, tI, tJ, t0, t1, t4, rfl⟩
    by_cases hkj : k ≤ j
    rotate_left
    · rw [scanUp, if_neg (by simp; omega)] at hE
      subst hE
      repeat (first | refine AW.seq ?_ | refine AW.block ?_ | refine AW.skip ?_ | refine AExit.norT ?_ | refine AExit.norB ?_ | refine AList.nil ?_)
      refine AW.draw [.S, .S, .S, .S, .S, .S, .S, .S, .R, .S, .S, .S, .R, .R, .S, .S, .S] (by decide +kernel) ?_; have F := (aand @tI (aand @tJ @hkj)); refine dS 0 ?_; refine dS 1 ?_; refine dS 2 ?_; refine dS 3 ?_; refine dXx 4 ?_; refine dXx 5 ?_; refine dXx 6 ?_; refine dXx 7 ?_; refine dXX 8 ?_; refine dXx 9 ?_; refine dXx 10 ?_; refine dXx 11 ?_; refine dXX 12 ?_; refine dXX 13 ?_; refine dXx 14 ?_; refine dXx 15 ?_; refine dS 16 ?_; (try clear F); first | refine dN ?_ | refine dB ?_ | refine DA.done (by decide +kernel) ?_
      refine tSa ?_
      exact ⟨rfl, by simp [upd_lit, tI], by simp [upd_lit, tJ], by simp [upd_lit, t0], by simp [upd_lit, t1], by simp [upd_lit, t4], rfl⟩
    rw [scanUp] at hE
    have k1 : k < d1.size := by omega
    have k2 : (k : Int) < L := by omega
    have a1 : a < d1.size := by omega
    have hcmp := cmpG (gt d1 a) (gt d1 k)
    repeat (first | refine AW.seq ?_ | refine AW.block ?_ | refine AW.skip ?_ | refine AExit.norT ?_ | refine AExit.norB ?_ | refine AList.nil ?_)
    refine AW.draw [.S, .S, .S, .S, .S, .S, .S, .S, .R, .S, .S, .S, .R, .R, .S, .S, .S] (by decide +kernel) ?_; have F := (aand @tI (aand @tJ (aand @t0 (aand @t1 (aand @t4 (aand @hkj (aand @k1 (aand @k2 (aand @a1 (aand @a2 (aand @hn (aand @ar_get @ar_fit)))))))))))); refine dS 0 ?_; refine dS 1 ?_; refine dS 2 ?_; refine dS 3 ?_; refine dSG 4 ?_; refine dSG 5 ?_; refine dSG 6 ?_; refine dSG 7 ?_; refine dRG 8 ?_; refine dSG 9 ?_; refine dSG 10 ?_; refine dSG 11 ?_; refine dRG 12 ?_; refine dCG ((hcmp)) 13 ?_; refine dSG 14 ?_; refine dSG 15 ?_; refine dS 16 ?_; (try clear F); first | refine dN ?_ | refine dB ?_ | refine DA.done (by decide +kernel) ?_
    by_cases hl : cmpV (gt d1 a).1 (gt d1 k).1 < 0
    · rw [if_neg (by simp only [gt_eq]; simp [ltG, hl])] at hE
      subst hE
      have F := @hl; refine tFa ?_; (try clear F)
      exact ⟨rfl, by simp [upd_lit, tI], by simp [upd_lit, tJ], by simp [upd_lit, t0], by simp [upd_lit, t1], by simp [upd_lit, t4], rfl⟩
    · rw [if_pos (by simp only [gt_eq]; simp only [ltG, hl, decide_true, decide_false, Bool.not_true, Bool.not_false, Bool.and_true, decide_eq_true_eq]; omega)] at hE
      have F := (aand @hl @tI); refine tFa ?_; (try clear F)
      exact ⟨k + 1, ⟨by omega, hE, by simp [upd_lit], by simp [upd_lit, tJ], by simp [upd_lit, t0], by simp [upd_lit, t1], by simp [upd_lit, t4], rfl⟩, by omega⟩
  rintro τ m3 ⟨tI, tJ, t0, t1, t4, rfl⟩
  have hu1 : i ≤ u ∧ u ≤ b + 1 := by
    have h1 := scanUp_spec (fun x => !ltG d1[a]! x) d1 j _ i rfl
    rw [← hu] at h1
    by_cases hij : i ≤ j + 1
    · have := h1.2.1 hij; omega
    · have hx : scanUp (fun x => !ltG d1[a]! x) d1 j i = i := by rw [scanUp, if_neg (by simp; omega)]
      omega
  rw [← hu] at hD
  refine AExit.exiB ?_
  repeat (first | refine AW.seq ?_ | refine AW.block ?_ | refine AW.skip ?_ | refine AExit.norT ?_ | refine AExit.norB ?_ | refine AList.nil ?_)
  obtain ⟨v, hv⟩ : ∃ z, z = scanDown (fun x => ltG d1[a]! x) d1 u j := ⟨_, rfl⟩
  refine AW.stepX 4 (fun τ m3 => τ 11 = vI u ∧ τ 12 = vI v ∧ τ 0 = mar n L cap ∧ τ 1 = vI a ∧ τ 4 = cloC ∧ m3 = m.setLoc n (ar d1 r)) ?_ ?_
  · refine AW.loop (ι := Nat) (fun k τ m3 => k ≤ j ∧ scanDown (fun x => ltG d1[a]! x) d1 u k = v ∧ τ 11 = vI u ∧ τ 12 = vI k ∧ τ 0 = mar n L cap ∧ τ 1 = vI a ∧ τ 4 = cloC ∧ m3 = m.setLoc n (ar d1 r)) (fun k => k) j ?_ ?_
    · exact ⟨Nat.le_refl _, hv.symm, by simp [upd_lit, tI], by simp [upd_lit, tJ], by simp [upd_lit, t0], by simp [upd_lit, t1], by simp [upd_lit, t4], rfl⟩
    rintro k τ m3 ⟨hk, hE, tI, tJ, t0, t1, t4, rfl⟩
    by_cases hkj : u ≤ k
    rotate_left
    · have hE2 : scanDown (fun x => ltG d1[a]! x) d1 u k = k := by
        cases k with
        | zero => rfl
        | succ w => rw [scanDown, if_neg (by simp; omega)]
      rw [hE2] at hE
      subst hE
      repeat (first | refine AW.seq ?_ | refine AW.block ?_ | refine AW.skip ?_ | refine AExit.norT ?_ | refine AExit.norB ?_ | refine AList.nil ?_)
      refine AW.draw [.S, .S, .S, .S, .S, .S, .S, .S, .R, .S, .S, .S, .R, .R, .S, .S] (by decide +kernel) ?_; have F := (aand @tI (aand @tJ @hkj)); refine dS 0 ?_; refine dS 1 ?_; refine dS 2 ?_; refine dS 3 ?_; refine dXx 4 ?_; refine dXx 5 ?_; refine dXx 6 ?_; refine dXx 7 ?_; refine dXX 8 ?_; refine dXx 9 ?_; refine dXx 10 ?_; refine dXx 11 ?_; refine dXX 12 ?_; refine dXX 13 ?_; refine dXx 14 ?_; refine dS 15 ?_; (try clear F); first | refine dN ?_ | refine dB ?_ | refine DA.done (by decide +kernel) ?_
      refine tSa ?_
      exact ⟨rfl, by simp [upd_lit, tI], by simp [upd_lit, tJ], by simp [upd_lit, t0], by simp [upd_lit, t1], by simp [upd_lit, t4], rfl⟩
    obtain ⟨w, rfl⟩ : ∃ w, k = w + 1 := ⟨k - 1, by omega⟩
    have e4 : ((w + 1 : Nat) : Int) - 1 = (w : Int) := by omega
    rw [scanDown] at hE
    generalize hkk : w + 1 = k at *
    have k1 : k < d1.size := by omega
    have k2 : (k : Int) < L := by omega
    have a1 : a < d1.size := by omega
    have hcmp := cmpG (gt d1 a) (gt d1 k)
    repeat (first | refine AW.seq ?_ | refine AW.block ?_ | refine AW.skip ?_ | refine AExit.norT ?_ | refine AExit.norB ?_ | refine AList.nil ?_)
    refine AW.draw [.S, .S, .S, .S, .S, .S, .S, .S, .R, .S, .S, .S, .R, .R, .S, .S] (by decide +kernel) ?_; have F := (aand @tI (aand @tJ (aand @t0 (aand @t1 (aand @t4 (aand @hkj (aand @k1 (aand @k2 (aand @a1 (aand @a2 (aand @hn (aand @ar_get @ar_fit)))))))))))); refine dS 0 ?_; refine dS 1 ?_; refine dS 2 ?_; refine dS 3 ?_; refine dSG 4 ?_; refine dSG 5 ?_; refine dSG 6 ?_; refine dSG 7 ?_; refine dRG 8 ?_; refine dSG 9 ?_; refine dSG 10 ?_; refine dSG 11 ?_; refine dRG 12 ?_; refine dCG ((hcmp)) 13 ?_; refine dSG 14 ?_; refine dS 15 ?_; (try clear F); first | refine dN ?_ | refine dB ?_ | refine DA.done (by decide +kernel) ?_
    by_cases hl : cmpV (gt d1 a).1 (gt d1 k).1 < 0
    · rw [if_pos (by simp only [gt_eq]; simp only [ltG, hl, decide_true, decide_false, Bool.not_true, Bool.not_false, Bool.and_true, decide_eq_true_eq]; omega)] at hE
      have F := (aand @hl (aand @tJ @e4)); refine tFa ?_; (try clear F)
      exact ⟨w, ⟨by omega, hE, by simp [upd_lit, tI], by simp [upd_lit], by simp [upd_lit, t0], by simp [upd_lit, t1], by simp [upd_lit, t4], rfl⟩, by omega⟩
    · rw [if_neg (by simp only [gt_eq]; simp [ltG, hl])] at hE
      subst hE
      have F := @hl; refine tFa ?_; (try clear F)
      exact ⟨rfl, by simp [upd_lit, tI], by simp [upd_lit, tJ], by simp [upd_lit, t0], by simp [upd_lit, t1], by simp [upd_lit, t4], rfl⟩
  rintro τ m3 ⟨tI, tJ, t0, t1, t4, rfl⟩
  have hv1 : v ≤ j := by rw [hv]; exact scanDown_le _ _ _ _
  rw [← hv] at hD
  refine AExit.exiB ?_
  by_cases hvu : v < u
  · rw [if_pos hvu] at hD
    rw [← hD]
    have F := (aand @tI (aand @tJ @hvu)); refine tFa ?_; (try clear F)
    exact Fin.here (r := vI u) (by rfl) (.inr rfl) ⟨rfl, rfl⟩
  rw [if_neg (by omega)] at hD
  have u1 : u < d1.size := by omega
  have u2 : (u : Int) < L := by omega
  have v1 : v < d1.size := by omega
  have v2 : (v : Int) < L := by omega
  obtain ⟨w, hw⟩ : ∃ w, w + 1 = v := ⟨v - 1, by omega⟩
  have ew : (v : Int) - 1 = (w : Int) := by omega
  rw [show v - 1 = w from by omega] at hD
  have F := (aand @tI (aand @tJ @hvu)); refine tFa ?_; (try clear F)
  repeat (first | refine AW.seq ?_ | refine AW.block ?_ | refine AW.skip ?_ | refine AExit.norT ?_ | refine AExit.norB ?_ | refine AList.nil ?_)
  refine AW.draw [.S, .S, .S, .S, .S, .S, .S, .R, .S, .S, .S, .R, .S, .W, .S, .W] (by decide +kernel) ?_; have F := (aand @tI (aand @tJ (aand @t0 (aand @u1 (aand @u2 (aand @v1 (aand @v2 (aand @hn (aand @ar_get (aand @ar_fit (aand @ar_set @setLoc_setLoc))))))))))); refine dST 0 ?_; refine dST 1 ?_; refine dST 2 ?_; refine dST 3 ?_; refine dST 4 ?_; refine dST 5 ?_; refine dST 6 ?_; refine dRT 7 ?_; refine dST 8 ?_; refine dST 9 ?_; refine dST 10 ?_; refine dRT 11 ?_; refine dST 12 ?_; refine dW 13 ?_; refine dST 14 ?_; refine dW 15 ?_; (try clear F); first | refine dN ?_ | refine dB ?_ | refine DA.done (by decide +kernel) ?_
  simp only [put]
  rw [swp_gt]
  have F := (aand @tI (aand @tJ @ew)); refine tF ?_; (try clear F)
  exact ⟨(u + 1, w), ⟨by show a + 1 ≤ u + 1; omega, by show u + 1 ≤ b + 1; omega, by show w < b; omega, by simp [upd_lit], by simp [upd_lit], by simp [upd_lit, t0], by simp [upd_lit, t1], by simp [upd_lit, t4], _, by rw [swp_size]; exact hs, hD, rfl⟩, by show w + 1 - (u + 1) < j + 1 - i; omega⟩
theorem partitionG {m : St} {n L cap : Nat} {d : Array GG} {r : List PV} (H : Arr m n L d r) (a b p : Nat) (hp1 : a ≤ p) (hp2 : p < b) (hb : b ≤ L) :
    GivesTo Tryz.prog 182 [mar n L cap, vI a, vI b, vI p, cloC] m (.tup [vI (partition ltG d a b p).1, vB (partition ltG d a b p).2.1]) (m.setLoc n (ar (partition ltG d a b p).2.2 r)) := by
  have hn := H.lt
  have hm := H.loc
  have hL := H.size
  have hS := H.small
  refine ACall.of_aw Tryz.func182 Tryz.ntmps182 rfl rfl (by simp) ?_
  obtain ⟨pt, hpt⟩ : ∃ pt, pt = partition ltG d a b p := ⟨_, rfl⟩
  rw [← hpt]
  rw [partition] at hpt
  dsimp only at hpt
  have a1 : a < d.size := by omega
  have a2 : (a : Int) < L := by omega
  have p1 : p < d.size := by omega
  have p2 : (p : Int) < L := by omega
  obtain ⟨j0, hj0⟩ : ∃ j, j + 1 = b := ⟨b - 1, by omega⟩
  rw [show b - 1 = j0 from by omega] at hpt
  have ej : (b : Int) - 1 = (j0 : Int) := by omega
  refine tS ?_
  refine AW.draw [.S, .S, .S, .S, .S, .S, .S, .R, .S, .S, .S, .R, .S, .W, .S, .W] (by decide +kernel) ?_; have F := (aand @a1 (aand @a2 (aand @p1 (aand @p2 (aand @hn (aand @hm (aand @ar_get (aand @ar_fit (aand @ar_set @setLoc_setLoc))))))))); refine dST 0 ?_; refine dST 1 ?_; refine dST 2 ?_; refine dST 3 ?_; refine dST 4 ?_; refine dST 5 ?_; refine dST 6 ?_; refine dRT 7 ?_; refine dST 8 ?_; refine dST 9 ?_; refine dST 10 ?_; refine dRT 11 ?_; refine dST 12 ?_; refine dW 13 ?_; refine dST 14 ?_; refine dW 15 ?_; (try clear F); first | refine dN ?_ | refine dB ?_ | refine DA.done (by decide +kernel) ?_
  simp only [put]
  rw [swp_gt]
  have hs0 : (swp d a p).size = L := by rw [swp_size]; exact hL
  generalize swp d a p = d0 at *
  clear a1 p1 p2
  have F := @ej; refine tF ?_; (try clear F)
  obtain ⟨u, hu⟩ : ∃ z, z = scanUp (fun x => ltG x d0[a]!) d0 j0 (a + 1) := ⟨_, rfl⟩
  refine AW.stepX 0 (fun τ m3 => τ 12 = vI u ∧ τ 13 = vI j0 ∧ τ 0 = mar n L cap ∧ τ 1 = vI a ∧ τ 4 = cloC ∧ m3 = m.setLoc n (ar d0 r)) ?_ ?_
  · refine AW.loop (ι := Nat) (fun k τ m3 => (a + 1) ≤ k ∧ scanUp (fun x => ltG x d0[a]!) d0 j0 k = u ∧ τ 12 = vI k ∧ τ 13 = vI j0 ∧ τ 0 = mar n L cap ∧ τ 1 = vI a ∧ τ 4 = cloC ∧ m3 = m.setLoc n (ar d0 r)) (fun k => j0 + 1 - k) (a + 1) ?_ ?_
    · exact ⟨Nat.le_refl _, hu.symm, by simp [upd_lit], by simp [upd_lit], by simp [upd_lit], by simp [upd_lit], by simp [upd_lit], rfl⟩
    rintro k τ m3 ⟨hk, hE, tI, tJ, t0, t1, t4, rfl⟩
    by_cases hkj : k ≤ j0
    rotate_left
    · rw [scanUp, if_neg (by simp; omega)] at hE
      subst hE
      repeat (first | refine AW.seq ?_ | refine AW.block ?_ | refine AW.skip ?_ | refine AExit.norT ?_ | refine AExit.norB ?_ | refine AList.nil ?_)
      refine AW.draw [.S, .S, .S, .S, .S, .S, .S, .S, .R, .S, .S, .S, .R, .R, .S, .S] (by decide +kernel) ?_; have F := (aand @tI (aand @tJ @hkj)); refine dS 0 ?_; refine dS 1 ?_; refine dS 2 ?_; refine dS 3 ?_; refine dXx 4 ?_; refine dXx 5 ?_; refine dXx 6 ?_; refine dXx 7 ?_; refine dXX 8 ?_; refine dXx 9 ?_; refine dXx 10 ?_; refine dXx 11 ?_; refine dXX 12 ?_; refine dXX 13 ?_; refine dXx 14 ?_; refine dS 15 ?_; (try clear F); first | refine dN ?_ | refine dB ?_ | refine DA.done (by decide +kernel) ?_
      refine tSa ?_
      exact ⟨rfl, by simp [upd_lit, tI], by simp [upd_lit, tJ], by simp [upd_lit, t0], by simp [upd_lit, t1], by simp [upd_lit, t4], rfl⟩
    rw [scanUp] at hE
    have k1 : k < d0.size := by omega
    have k2 : (k : Int) < L := by omega
    have a1 : a < d0.size := by omega
    have hcmp := cmpG (gt d0 k) (gt d0 a)
    repeat (first | refine AW.seq ?_ | refine AW.block ?_ | refine AW.skip ?_ | refine AExit.norT ?_ | refine AExit.norB ?_ | refine AList.nil ?_)
    refine AW.draw [.S, .S, .S, .S, .S, .S, .S, .S, .R, .S, .S, .S, .R, .R, .S, .S] (by decide +kernel) ?_; have F := (aand @tI (aand @tJ (aand @t0 (aand @t1 (aand @t4 (aand @hkj (aand @k1 (aand @k2 (aand @a1 (aand @a2 (aand @hn (aand @ar_get @ar_fit)))))))))))); refine dS 0 ?_; refine dS 1 ?_; refine dS 2 ?_; refine dS 3 ?_; refine dSG 4 ?_; refine dSG 5 ?_; refine dSG 6 ?_; refine dSG 7 ?_; refine dRG 8 ?_; refine dSG 9 ?_; refine dSG 10 ?_; refine dSG 11 ?_; refine dRG 12 ?_; refine dCG ((hcmp)) 13 ?_; refine dSG 14 ?_; refine dS 15 ?_; (try clear F); first | refine dN ?_ | refine dB ?_ | refine DA.done (by decide +kernel) ?_
    by_cases hl : cmpV (gt d0 k).1 (gt d0 a).1 < 0
    · rw [if_pos (by simp only [gt_eq]; simp only [ltG, hl, decide_true, decide_false, Bool.not_true, Bool.not_false, Bool.and_true, decide_eq_true_eq]; omega)] at hE
      have F := (aand @hl @tI); refine tFa ?_; (try clear F)
      exact ⟨k + 1, ⟨by omega, hE, by simp [upd_lit], by simp [upd_lit, tJ], by simp [upd_lit, t0], by simp [upd_lit, t1], by simp [upd_lit, t4], rfl⟩, by omega⟩
    · rw [if_neg (by simp only [gt_eq]; simp [ltG, hl])] at hE
      subst hE
      have F := @hl; refine tFa ?_; (try clear F)
      exact ⟨rfl, by simp [upd_lit, tI], by simp [upd_lit, tJ], by simp [upd_lit, t0], by simp [upd_lit, t1], by simp [upd_lit, t4], rfl⟩
  rintro τ m3 ⟨tI, tJ, t0, t1, t4, rfl⟩
  have hu1 : a + 1 ≤ u ∧ u ≤ b := by
    have h1 := scanUp_spec (fun x => ltG x d0[a]!) d0 j0 _ (a + 1) rfl
    rw [← hu] at h1
    have := h1.2.1 (by omega); omega
  rw [← hu] at hpt
  refine AExit.exiB ?_
  repeat (first | refine AW.seq ?_ | refine AW.block ?_ | refine AW.skip ?_ | refine AExit.norT ?_ | refine AExit.norB ?_ | refine AList.nil ?_)
  obtain ⟨v, hv⟩ : ∃ z, z = scanDown (fun x => !ltG x d0[a]!) d0 u j0 := ⟨_, rfl⟩
  refine AW.stepX 2 (fun τ m3 => τ 12 = vI u ∧ τ 13 = vI v ∧ τ 0 = mar n L cap ∧ τ 1 = vI a ∧ τ 4 = cloC ∧ m3 = m.setLoc n (ar d0 r)) ?_ ?_
  · refine AW.loop (ι := Nat) (fun k τ m3 => k ≤ j0 ∧ scanDown (fun x => !ltG x d0[a]!) d0 u k = v ∧ τ 12 = vI u ∧ τ 13 = vI k ∧ τ 0 = mar n L cap ∧ τ 1 = vI a ∧ τ 4 = cloC ∧ m3 = m.setLoc n (ar d0 r)) (fun k => k) j0 ?_ ?_
    · exact ⟨Nat.le_refl _, hv.symm, by simp [upd_lit, tI], by simp [upd_lit, tJ], by simp [upd_lit, t0], by simp [upd_lit, t1], by simp [upd_lit, t4], rfl⟩
    rintro k τ m3 ⟨hk, hE, tI, tJ, t0, t1, t4, rfl⟩
    by_cases hkj : u ≤ k
    rotate_left
    · have hE2 : scanDown (fun x => !ltG x d0[a]!) d0 u k = k := by
        cases k with
        | zero => rfl
        | succ w => rw [scanDown, if_neg (by simp; omega)]
      rw [hE2] at hE
      subst hE
      repeat (first | refine AW.seq ?_ | refine AW.block ?_ | refine AW.skip ?_ | refine AExit.norT ?_ | refine AExit.norB ?_ | refine AList.nil ?_)
      refine AW.draw [.S, .S, .S, .S, .S, .S, .S, .S, .R, .S, .S, .S, .R, .R, .S, .S, .S] (by decide +kernel) ?_; have F := (aand @tI (aand @tJ @hkj)); refine dS 0 ?_; refine dS 1 ?_; refine dS 2 ?_; refine dS 3 ?_; refine dXx 4 ?_; refine dXx 5 ?_; refine dXx 6 ?_; refine dXx 7 ?_; refine dXX 8 ?_; refine dXx 9 ?_; refine dXx 10 ?_; refine dXx 11 ?_; refine dXX 12 ?_; refine dXX 13 ?_; refine dXx 14 ?_; refine dXx 15 ?_; refine dS 16 ?_; (try clear F); first | refine dN ?_ | refine dB ?_ | refine DA.done (by decide +kernel) ?_
      refine tSa ?_
      exact ⟨rfl, by simp [upd_lit, tI], by simp [upd_lit, tJ], by simp [upd_lit, t0], by simp [upd_lit, t1], by simp [upd_lit, t4], rfl⟩
    obtain ⟨w, rfl⟩ : ∃ w, k = w + 1 := ⟨k - 1, by omega⟩
    have e4 : ((w + 1 : Nat) : Int) - 1 = (w : Int) := by omega
    rw [scanDown] at hE
    generalize hkk : w + 1 = k at *
    have k1 : k < d0.size := by omega
    have k2 : (k : Int) < L := by omega
    have a1 : a < d0.size := by omega
    have hcmp := cmpG (gt d0 k) (gt d0 a)
    repeat (first | refine AW.seq ?_ | refine AW.block ?_ | refine AW.skip ?_ | refine AExit.norT ?_ | refine AExit.norB ?_ | refine AList.nil ?_)
    refine AW.draw [.S, .S, .S, .S, .S, .S, .S, .S, .R, .S, .S, .S, .R, .R, .S, .S, .S] (by decide +kernel) ?_; have F := (aand @tI (aand @tJ (aand @t0 (aand @t1 (aand @t4 (aand @hkj (aand @k1 (aand @k2 (aand @a1 (aand @a2 (aand @hn (aand @ar_get @ar_fit)))))))))))); refine dS 0 ?_; refine dS 1 ?_; refine dS 2 ?_; refine dS 3 ?_; refine dSG 4 ?_; refine dSG 5 ?_; refine dSG 6 ?_; refine dSG 7 ?_; refine dRG 8 ?_; refine dSG 9 ?_; refine dSG 10 ?_; refine dSG 11 ?_; refine dRG 12 ?_; refine dCG ((hcmp)) 13 ?_; refine dSG 14 ?_; refine dSG 15 ?_; refine dS 16 ?_; (try clear F); first | refine dN ?_ | refine dB ?_ | refine DA.done (by decide +kernel) ?_
    by_cases hl : cmpV (gt d0 k).1 (gt d0 a).1 < 0
    · rw [if_neg (by simp only [gt_eq]; simp [ltG, hl])] at hE
      subst hE
      have F := @hl; refine tFa ?_; (try clear F)
      exact ⟨rfl, by simp [upd_lit, tI], by simp [upd_lit, tJ], by simp [upd_lit, t0], by simp [upd_lit, t1], by simp [upd_lit, t4], rfl⟩
    · rw [if_pos (by simp only [gt_eq]; simp only [ltG, hl, decide_true, decide_false, Bool.not_true, Bool.not_false, Bool.and_true, decide_eq_true_eq]; omega)] at hE
      have F := (aand @hl (aand @tJ @e4)); refine tFa ?_; (try clear F)
      exact ⟨w, ⟨by omega, hE, by simp [upd_lit, tI], by simp [upd_lit], by simp [upd_lit, t0], by simp [upd_lit, t1], by simp [upd_lit, t4], rfl⟩, by omega⟩
  rintro τ m3 ⟨tI, tJ, t0, t1, t4, rfl⟩
  have hv1 : v ≤ j0 := by rw [hv]; exact scanDown_le _ _ _ _
  rw [← hv] at hpt
  refine AExit.exiB ?_
  have v1 : v < d0.size := by omega
  have v2 : (v : Int) < L := by omega
  have a1 : a < d0.size := by omega
  by_cases hvu : v < u
  · rw [if_pos hvu] at hpt
    have F := (aand @tI (aand @tJ @hvu)); refine tFa ?_; (try clear F)
    repeat (first | refine AW.seq ?_ | refine AW.block ?_ | refine AW.skip ?_ | refine AExit.norT ?_ | refine AExit.norB ?_ | refine AList.nil ?_)
    refine AW.draw [.S, .S, .S, .S, .S, .S, .S, .R, .S, .S, .S, .R, .S, .W, .S, .W] (by decide +kernel) ?_; have F := (aand @tJ (aand @t0 (aand @t1 (aand @v1 (aand @v2 (aand @a1 (aand @a2 (aand @hn (aand @ar_get (aand @ar_fit (aand @ar_set @setLoc_setLoc))))))))))); refine dST 0 ?_; refine dST 1 ?_; refine dST 2 ?_; refine dST 3 ?_; refine dST 4 ?_; refine dST 5 ?_; refine dST 6 ?_; refine dRT 7 ?_; refine dST 8 ?_; refine dST 9 ?_; refine dST 10 ?_; refine dRT 11 ?_; refine dST 12 ?_; refine dW 13 ?_; refine dST 14 ?_; refine dW 15 ?_; (try clear F); first | refine dN ?_ | refine dB ?_ | refine DA.done (by decide +kernel) ?_
    simp only [put]
    rw [swp_gt]
    have F := @tJ; refine tF ?_; (try clear F)
    rw [hpt]
    exact Fin.here (r := .tup [vI v, vB true]) (by simp [ResP, ResL, resV, upd_lit, show Tryz.f182.results.toList = [.tmp 10, .tmp 11] from rfl]) (.inr rfl) ⟨rfl, rfl⟩
  rw [if_neg (by omega)] at hpt
  have u1 : u < d0.size := by omega
  have u2 : (u : Int) < L := by omega
  obtain ⟨w, hw⟩ : ∃ w, w + 1 = v := ⟨v - 1, by omega⟩
  have ew : (v : Int) - 1 = (w : Int) := by omega
  rw [show v - 1 = w from by omega] at hpt
  have F := (aand @tI (aand @tJ @hvu)); refine tFa ?_; (try clear F)
  repeat (first | refine AW.seq ?_ | refine AW.block ?_ | refine AW.skip ?_ | refine AExit.norT ?_ | refine AExit.norB ?_ | refine AList.nil ?_)
  refine AW.draw [.S, .S, .S, .S, .S, .S, .S, .R, .S, .S, .S, .R, .S, .W, .S, .W] (by decide +kernel) ?_; have F := (aand @tI (aand @tJ (aand @t0 (aand @u1 (aand @u2 (aand @v1 (aand @v2 (aand @hn (aand @ar_get (aand @ar_fit (aand @ar_set @setLoc_setLoc))))))))))); refine dST 0 ?_; refine dST 1 ?_; refine dST 2 ?_; refine dST 3 ?_; refine dST 4 ?_; refine dST 5 ?_; refine dST 6 ?_; refine dRT 7 ?_; refine dST 8 ?_; refine dST 9 ?_; refine dST 10 ?_; refine dRT 11 ?_; refine dST 12 ?_; refine dW 13 ?_; refine dST 14 ?_; refine dW 15 ?_; (try clear F); first | refine dN ?_ | refine dB ?_ | refine DA.done (by decide +kernel) ?_
  simp only [put]
  rw [swp_gt]
  have F := (aand @tI (aand @tJ @ew)); refine tF ?_; (try clear F)
  have hsS : (swp d0 u v).size = L := by rw [swp_size]; exact hs0
  generalize swp d0 u v = ds0 at *
  clear hu hv hs0 u1 v1 a1 v2 u2
  refine AW.loop (ι := Nat × Nat) (fun q σ m' => a + 1 ≤ q.1 ∧ q.1 ≤ b + 1 ∧ q.2 < b ∧ a ≤ q.2 ∧ σ 12 = vI q.1 ∧ σ 13 = vI q.2 ∧ σ 0 = mar n L cap ∧ σ 1 = vI a ∧ σ 4 = cloC ∧ ∃ d', d'.size = L ∧ partLoop ltG a q.1 q.2 d' = partLoop ltG a (u + 1) w ds0 ∧ m' = m.setLoc n (ar d' r)) (fun q => q.2 + 1 - q.1) (u + 1, w) ?_ ?_
  · exact ⟨by show a + 1 ≤ u + 1; omega, by show u + 1 ≤ b + 1; omega, by show w < b; omega, by show a ≤ w; omega, by simp [upd_lit], by simp [upd_lit], by simp [upd_lit, t0], by simp [upd_lit, t1], by simp [upd_lit, t4], ds0, hsS, rfl, rfl⟩
  clear tI tJ t0 t1 t4
  rintro ⟨i, j⟩ σ m' ⟨hi, hib, hj, haj, tI, tJ, t0, t1, t4, d1, hs, hD, rfl⟩
  simp only at hi hib hj haj tI tJ hD
  rw [← hD, partLoop_eq] at hpt
  rw [partLoop_eq] at hD
  repeat (first | refine AW.seq ?_ | refine AW.block ?_ | refine AW.skip ?_ | refine AExit.norT ?_ | refine AExit.norB ?_ | refine AList.nil ?_)
  obtain ⟨x, hx⟩ : ∃ z, z = scanUp (fun x => ltG x d1[a]!) d1 j i := ⟨_, rfl⟩
  refine AW.stepX 6 (fun τ m3 => τ 12 = vI x ∧ τ 13 = vI j ∧ τ 0 = mar n L cap ∧ τ 1 = vI a ∧ τ 4 = cloC ∧ m3 = m.setLoc n (ar d1 r)) ?_ ?_
  · refine AW.loop (ι := Nat) (fun k τ m3 => i ≤ k ∧ scanUp (fun x => ltG x d1[a]!) d1 j k = x ∧ τ 12 = vI k ∧ τ 13 = vI j ∧ τ 0 = mar n L cap ∧ τ 1 = vI a ∧ τ 4 = cloC ∧ m3 = m.setLoc n (ar d1 r)) (fun k => j + 1 - k) i ?_ ?_
    · exact ⟨Nat.le_refl _, hx.symm, by simp [upd_lit, tI], by simp [upd_lit, tJ], by simp [upd_lit, t0], by simp [upd_lit, t1], by simp [upd_lit, t4], rfl⟩
    rintro k τ m3 ⟨hk, hE, tI, tJ, t0, t1, t4, rfl⟩
    by_cases hkj : k ≤ j
    rotate_left
    · rw [scanUp, if_neg (by simp; omega)] at hE
      subst hE
      repeat (first | refine AW.seq ?_ | refine AW.block ?_ | refine AW.skip ?_ | refine AExit.norT ?_ | refine AExit.norB ?_ | refine AList.nil ?_)
      refine AW.draw [.S, .S, .S, .S, .S, .S, .S, .S, .R, .S, .S, .S, .R, .R, .S, .S] (by decide +kernel) ?_; have F := (aand @tI (aand @tJ @hkj)); refine dS 0 ?_; refine dS 1 ?_; refine dS 2 ?_; refine dS 3 ?_; refine dXx 4 ?_; refine dXx 5 ?_; refine dXx 6 ?_; refine dXx 7 ?_; refine dXX 8 ?_; refine dXx 9 ?_; refine dXx 10 ?_; refine dXx 11 ?_; refine dXX 12 ?_; refine dXX 13 ?_; refine dXx 14 ?_; refine dS 15 ?_; (try clear F); first | refine dN ?_ | refine dB ?_ | refine DA.done (by decide +kernel) ?_
      refine tSa ?_
      exact ⟨rfl, by simp [upd_lit, tI], by simp [upd_lit, tJ], by simp [upd_lit, t0], by simp [upd_lit, t1], by simp [upd_lit, t4], rfl⟩
    rw [scanUp] at hE
    have k1 : k < d1.size := by omega
    have k2 : (k : Int) < L := by omega
    have a1 : a < d1.size := by omega
    have hcmp := cmpG (gt d1 k) (gt d1 a)
    repeat (first | refine AW.seq ?_ | refine AW.block ?_ | refine AW.skip ?_ | refine AExit.norT ?_ | refine AExit.norB ?_ | refine AList.nil ?_)
    refine AW.draw [.S, .S, .S, .S, .S, .S, .S, .S, .R, .S, .S, .S, .R, .R, .S, .S] (by decide +kernel) ?_; have F := (aand @tI (aand @tJ (aand @t0 (aand @t1 (aand @t4 (aand @hkj (aand @k1 (aand @k2 (aand @a1 (aand @a2 (aand @hn (aand @ar_get @ar_fit)))))))))))); refine dS 0 ?_; refine dS 1 ?_; refine dS 2 ?_; refine dS 3 ?_; refine dSG 4 ?_; refine dSG 5 ?_; refine dSG 6 ?_; refine dSG 7 ?_; refine dRG 8 ?_; refine dSG 9 ?_; refine dSG 10 ?_; refine dSG 11 ?_; refine dRG 12 ?_; refine dCG ((hcmp)) 13 ?_; refine dSG 14 ?_; refine dS 15 ?_; (try clear F); first | refine dN ?_ | refine dB ?_ | refine DA.done (by decide +kernel) ?_
    by_cases hl : cmpV (gt d1 k).1 (gt d1 a).1 < 0
    · rw [if_pos (by simp only [gt_eq]; simp only [ltG, hl, decide_true, decide_false, Bool.not_true, Bool.not_false, Bool.and_true, decide_eq_true_eq]; omega)] at hE
      have F := (aand @hl @tI); refine tFa ?_; (try clear F)
      exact ⟨k + 1, ⟨by omega, hE, by simp [upd_lit], by simp [upd_lit, tJ], by simp [upd_lit, t0], by simp [upd_lit, t1], by simp [upd_lit, t4], rfl⟩, by omega⟩
    · rw [if_neg (by simp only [gt_eq]; simp [ltG, hl])] at hE
      subst hE
      have F := @hl; refine tFa ?_; (try clear F)
      exact ⟨rfl, by simp [upd_lit, tI], by simp [upd_lit, tJ], by simp [upd_lit, t0], by simp [upd_lit, t1], by simp [upd_lit, t4], rfl⟩
  rintro τ m3 ⟨tI, tJ, t0, t1, t4, rfl⟩
  have hu1 : i ≤ x ∧ x ≤ b + 1 := by
    have h1 := scanUp_spec (fun x => ltG x d1[a]!) d1 j _ i rfl
    rw [← hx] at h1
    by_cases hij : i ≤ j + 1
    · have := h1.2.1 hij; omega
    · have hx : scanUp (fun x => ltG x d1[a]!) d1 j i = i := by rw [scanUp, if_neg (by simp; omega)]
      omega
  rw [← hx] at hD hpt
  refine AExit.exiB ?_
  repeat (first | refine AW.seq ?_ | refine AW.block ?_ | refine AW.skip ?_ | refine AExit.norT ?_ | refine AExit.norB ?_ | refine AList.nil ?_)
  obtain ⟨y, hy⟩ : ∃ z, z = scanDown (fun x => !ltG x d1[a]!) d1 x j := ⟨_, rfl⟩
  refine AW.stepX 8 (fun τ m3 => τ 12 = vI x ∧ τ 13 = vI y ∧ τ 0 = mar n L cap ∧ τ 1 = vI a ∧ τ 4 = cloC ∧ m3 = m.setLoc n (ar d1 r)) ?_ ?_
  · refine AW.loop (ι := Nat) (fun k τ m3 => k ≤ j ∧ scanDown (fun x => !ltG x d1[a]!) d1 x k = y ∧ τ 12 = vI x ∧ τ 13 = vI k ∧ τ 0 = mar n L cap ∧ τ 1 = vI a ∧ τ 4 = cloC ∧ m3 = m.setLoc n (ar d1 r)) (fun k => k) j ?_ ?_
    · exact ⟨Nat.le_refl _, hy.symm, by simp [upd_lit, tI], by simp [upd_lit, tJ], by simp [upd_lit, t0], by simp [upd_lit, t1], by simp [upd_lit, t4], rfl⟩
    rintro k τ m3 ⟨hk, hE, tI, tJ, t0, t1, t4, rfl⟩
    by_cases hkj : x ≤ k
    rotate_left
    · have hE2 : scanDown (fun x => !ltG x d1[a]!) d1 x k = k := by
        cases k with
        | zero => rfl
        | succ w => rw [scanDown, if_neg (by simp; omega)]
      rw [hE2] at hE
      subst hE
      repeat (first | refine AW.seq ?_ | refine AW.block ?_ | refine AW.skip ?_ | refine AExit.norT ?_ | refine AExit.norB ?_ | refine AList.nil ?_)
      refine AW.draw [.S, .S, .S, .S, .S, .S, .S, .S, .R, .S, .S, .S, .R, .R, .S, .S, .S] (by decide +kernel) ?_; have F := (aand @tI (aand @tJ @hkj)); refine dS 0 ?_; refine dS 1 ?_; refine dS 2 ?_; refine dS 3 ?_; refine dXx 4 ?_; refine dXx 5 ?_; refine dXx 6 ?_; refine dXx 7 ?_; refine dXX 8 ?_; refine dXx 9 ?_; refine dXx 10 ?_; refine dXx 11 ?_; refine dXX 12 ?_; refine dXX 13 ?_; refine dXx 14 ?_; refine dXx 15 ?_; refine dS 16 ?_; (try clear F); first | refine dN ?_ | refine dB ?_ | refine DA.done (by decide +kernel) ?_
      refine tSa ?_
      exact ⟨rfl, by simp [upd_lit, tI], by simp [upd_lit, tJ], by simp [upd_lit, t0], by simp [upd_lit, t1], by simp [upd_lit, t4], rfl⟩
    obtain ⟨w, rfl⟩ : ∃ w, k = w + 1 := ⟨k - 1, by omega⟩
    have e4 : ((w + 1 : Nat) : Int) - 1 = (w : Int) := by omega
    rw [scanDown] at hE
    generalize hkk : w + 1 = k at *
    have k1 : k < d1.size := by omega
    have k2 : (k : Int) < L := by omega
    have a1 : a < d1.size := by omega
    have hcmp := cmpG (gt d1 k) (gt d1 a)
    repeat (first | refine AW.seq ?_ | refine AW.block ?_ | refine AW.skip ?_ | refine AExit.norT ?_ | refine AExit.norB ?_ | refine AList.nil ?_)
    refine AW.draw [.S, .S, .S, .S, .S, .S, .S, .S, .R, .S, .S, .S, .R, .R, .S, .S, .S] (by decide +kernel) ?_; have F := (aand @tI (aand @tJ (aand @t0 (aand @t1 (aand @t4 (aand @hkj (aand @k1 (aand @k2 (aand @a1 (aand @a2 (aand @hn (aand @ar_get @ar_fit)))))))))))); refine dS 0 ?_; refine dS 1 ?_; refine dS 2 ?_; refine dS 3 ?_; refine dSG 4 ?_; refine dSG 5 ?_; refine dSG 6 ?_; refine dSG 7 ?_; refine dRG 8 ?_; refine dSG 9 ?_; refine dSG 10 ?_; refine dSG 11 ?_; refine dRG 12 ?_; refine dCG ((hcmp)) 13 ?_; refine dSG 14 ?_; refine dSG 15 ?_; refine dS 16 ?_; (try clear F); first | refine dN ?_ | refine dB ?_ | refine DA.done (by decide +kernel) ?_
    by_cases hl : cmpV (gt d1 k).1 (gt d1 a).1 < 0
    · rw [if_neg (by simp only [gt_eq]; simp [ltG, hl])] at hE
      subst hE
      have F := @hl; refine tFa ?_; (try clear F)
      exact ⟨rfl, by simp [upd_lit, tI], by simp [upd_lit, tJ], by simp [upd_lit, t0], by simp [upd_lit, t1], by simp [upd_lit, t4], rfl⟩
    · rw [if_pos (by simp only [gt_eq]; simp only [ltG, hl, decide_true, decide_false, Bool.not_true, Bool.not_false, Bool.and_true, decide_eq_true_eq]; omega)] at hE
      have F := (aand @hl (aand @tJ @e4)); refine tFa ?_; (try clear F)
      exact ⟨w, ⟨by omega, hE, by simp [upd_lit, tI], by simp [upd_lit], by simp [upd_lit, t0], by simp [upd_lit, t1], by simp [upd_lit, t4], rfl⟩, by omega⟩
  rintro τ m3 ⟨tI, tJ, t0, t1, t4, rfl⟩
  have hy1 : y ≤ j := by rw [hy]; exact scanDown_le _ _ _ _
  have hy2 : a ≤ y := by
    have h1 := (scanDown_spec (fun x => !ltG x d1[a]!) d1 x j).2.1
    rw [← hy] at h1
    by_cases hxj : x ≤ j + 1
    · have := h1 hxj; omega
    · have : scanDown (fun x => !ltG x d1[a]!) d1 x j = j := by
        cases j with
        | zero => rfl
        | succ w => rw [scanDown, if_neg (by simp; omega)]
      omega
  rw [← hy] at hD hpt
  refine AExit.exiB ?_
  have y1 : y < d1.size := by omega
  have y2 : (y : Int) < L := by omega
  have a1 : a < d1.size := by omega
  by_cases hyx : y < x
  · rw [if_pos hyx] at hpt
    have F := (aand @tI (aand @tJ @hyx)); refine tFa ?_; (try clear F)
    repeat (first | refine AW.seq ?_ | refine AW.block ?_ | refine AW.skip ?_ | refine AExit.norT ?_ | refine AExit.norB ?_ | refine AList.nil ?_)
    refine AW.draw [.S, .S, .S, .S, .S, .S, .S, .R, .S, .S, .S, .R, .S, .W, .S, .W] (by decide +kernel) ?_; have F := (aand @tJ (aand @t0 (aand @t1 (aand @y1 (aand @y2 (aand @a1 (aand @a2 (aand @hn (aand @ar_get (aand @ar_fit (aand @ar_set @setLoc_setLoc))))))))))); refine dST 0 ?_; refine dST 1 ?_; refine dST 2 ?_; refine dST 3 ?_; refine dST 4 ?_; refine dST 5 ?_; refine dST 6 ?_; refine dRT 7 ?_; refine dST 8 ?_; refine dST 9 ?_; refine dST 10 ?_; refine dRT 11 ?_; refine dST 12 ?_; refine dW 13 ?_; refine dST 14 ?_; refine dW 15 ?_; (try clear F); first | refine dN ?_ | refine dB ?_ | refine DA.done (by decide +kernel) ?_
    simp only [put]
    rw [swp_gt]
    have F := @tJ; refine tF ?_; (try clear F)
    rw [hpt]
    exact Fin.here (r := .tup [vI y, vB false]) (by simp [ResP, ResL, resV, upd_lit, show Tryz.f182.results.toList = [.tmp 10, .tmp 11] from rfl]) (.inr rfl) ⟨rfl, rfl⟩
  rw [if_neg (by omega)] at hD
  have x1 : x < d1.size := by omega
  have x2 : (x : Int) < L := by omega
  obtain ⟨z, hz⟩ : ∃ z, z + 1 = y := ⟨y - 1, by omega⟩
  have ez : (y : Int) - 1 = (z : Int) := by omega
  rw [show y - 1 = z from by omega] at hD
  have F := (aand @tI (aand @tJ @hyx)); refine tFa ?_; (try clear F)
  repeat (first | refine AW.seq ?_ | refine AW.block ?_ | refine AW.skip ?_ | refine AExit.norT ?_ | refine AExit.norB ?_ | refine AList.nil ?_)
  refine AW.draw [.S, .S, .S, .S, .S, .S, .S, .R, .S, .S, .S, .R, .S, .W, .S, .W] (by decide +kernel) ?_; have F := (aand @tI (aand @tJ (aand @t0 (aand @x1 (aand @x2 (aand @y1 (aand @y2 (aand @hn (aand @ar_get (aand @ar_fit (aand @ar_set @setLoc_setLoc))))))))))); refine dST 0 ?_; refine dST 1 ?_; refine dST 2 ?_; refine dST 3 ?_; refine dST 4 ?_; refine dST 5 ?_; refine dST 6 ?_; refine dRT 7 ?_; refine dST 8 ?_; refine dST 9 ?_; refine dST 10 ?_; refine dRT 11 ?_; refine dST 12 ?_; refine dW 13 ?_; refine dST 14 ?_; refine dW 15 ?_; (try clear F); first | refine dN ?_ | refine dB ?_ | refine DA.done (by decide +kernel) ?_
  simp only [put]
  rw [swp_gt]
  have F := (aand @tI (aand @tJ @ez)); refine tF ?_; (try clear F)
  exact ⟨(x + 1, z), ⟨by show a + 1 ≤ x + 1; omega, by show x + 1 ≤ b + 1; omega, by show z < b; omega, by show a ≤ z; omega, by simp [upd_lit], by simp [upd_lit], by simp [upd_lit, t0], by simp [upd_lit, t1], by simp [upd_lit, t4], _, by rw [swp_size]; exact hs, hD, rfl⟩, by show z + 1 - (x + 1) < j + 1 - i; omega⟩
end Go.Proofs.YtgfadepkiejncaaGreat
namespace Go.Ab
theorem AW.stepR {P : Program} {N : Nat} {Q : APost} {σ : Nat → PV} {m : St} {c : Code} (I J : (Nat → PV) → St → Prop) (h : AW P N c (fun y σ m => (y = .normal ∧ I σ m) ∨ (y = .ret ∧ J σ m)) σ m) (k : ∀ σ m, I σ m → Q .normal σ m) (kr : ∀ σ m, J σ m → Q .ret σ m) : AW P N c Q σ m :=
  AW.mono h fun _ _ _ hx => by
    rcases hx with ⟨e, hi⟩ | ⟨e, hi⟩
    · exact e ▸ k _ _ hi
    · exact e ▸ kr _ _ hi
end Go.Ab
namespace Go.Proofs.YtgfadepkiejncaaGreat
open Go.Ab Go.Sort
set_option maxHeartbeats 0
set_option maxRecDepth 100000
attribute [local irreducible] AW AList ACall DA AExit.then AExit.inBlock YCall DCall
def PdqOK (k : Nat) : Prop := ∀ {m : St} {n L cap : Nat} {d : Array GG} {r : List PV}, Arr m n L d r → (∀ k t, PV.scL k t r) → ∀ a b limit : Nat, b - a = k → a ≤ b → b ≤ L → limit ≤ 1099511627776 → Below ltG a b d →
  ACall Tryz.prog 165 [mar n L cap, vI a, vI b, vI limit, cloC] m (fun r' m' => ∃ R, PermIn a b d R ∧ SortedIn ltG a b R ∧ r' = .ret (.tup []) ∧ m' = m.setLoc n (ar R r))
theorem pdqG (k : Nat) : PdqOK k := by
  induction k using Nat.strongRecOn with
  | ind k ih =>
  intro m n L cap d r H hr a b limit hk hab hb hlim hBe
  have hn := H.lt
  have hm := H.loc
  have hL := H.size
  have hS := H.small
  refine ACall.of_aw Tryz.func165 Tryz.ntmps165 rfl rfl (by simp) ?_
  refine tS ?_
  refine AW.loop (ι := Nat) (fun l σ m' => ∃ (a1 b1 lim : Nat) (wb wp : Bool) (d1 : Array GG), b1 - a1 = l ∧ l ≤ k ∧ a1 ≤ b1 ∧ b1 ≤ L ∧ lim ≤ 1099511627776 ∧ PermIn 0 L d d1 ∧ Below ltG a1 b1 d1 ∧ (∀ R, PermIn a1 b1 d1 R → SortedIn ltG a1 b1 R → PermIn a b d R ∧ SortedIn ltG a b R) ∧
    σ 10 = vB wb ∧ σ 11 = vB wp ∧ σ 0 = mar n L cap ∧ σ 1 = vI a1 ∧ σ 2 = vI b1 ∧ σ 3 = vI lim ∧ σ 4 = cloC ∧ m' = m.setLoc n (ar d1 r)) (fun l => l) k ?_ ?_
  · exact ⟨a, b, limit, true, true, d, hk, Nat.le_refl _, hab, hb, hlim, permIn_refl _ _ _, hBe, fun R h1 h2 => ⟨h1, h2⟩, by simp [upd_lit], by simp [upd_lit], by simp [upd_lit], by simp [upd_lit], by simp [upd_lit], by simp [upd_lit], by simp [upd_lit], (setLoc_self hm).symm⟩
  rintro l σ m' ⟨a1, b1, lim, wb, wp, d1, hl, hlk, hab1, hb1, hlim1, hP1, hB1, hfin, t10, t11, t0, t1, t2, t3, t4, rfl⟩
  have hs1 : d1.size = L := by rw [hP1.1]; exact hL
  have H1 := H.set d1 hs1
  have el : (b1 : Int) - a1 = (l : Int) := by omega
  have F := (aand @t1 (aand @t2 @el)); refine tF ?_; (try clear F)
  by_cases h12 : (l : Int) ≤ 12
  · have F := @h12; refine tFa ?_; (try clear F)
    have F := (aand @t0 (aand @t1 (aand @t2 @t4))); refine tF1 fun K Kp hK hKp => ?_; (try clear F); refine GivesTo.at (insertion H1 a1 b1 (by omega) (by omega)) ?_; apply hK; clear hK hKp K Kp
    refine tSa ?_
    have hI := insertionSort_holds ltG_swo d1 a1 b1 hab1 (by omega)
    exact Fin.here (r := .tup []) (by exact ⟨[], rfl, rfl⟩) (.inr rfl) ⟨_, (hfin _ hI.1 hI.2).1, (hfin _ hI.1 hI.2).2, rfl, by rw [setLoc_setLoc]⟩
  by_cases hlz : lim = 0
  · have hlz2 : (lim : Int) = 0 := by omega
    have F := (aand @h12 (aand @t3 (aand @hlz @hlz2))); refine tFa ?_; (try clear F)
    have F := (aand @t0 (aand @t1 (aand @t2 @t4))); refine tF1 fun K Kp hK hKp => ?_; (try clear F); refine GivesTo.at (heap H1 a1 b1 (by omega) (by omega)) ?_; apply hK; clear hK hKp K Kp
    refine tSa ?_
    have hI := heapSort_holds ltG_swo d1 a1 b1 hab1 (by omega)
    exact Fin.here (r := .tup []) (by exact ⟨[], rfl, rfl⟩) (.inr rfl) ⟨_, (hfin _ hI.1 hI.2).1, (hfin _ hI.1 hI.2).2, rfl, by rw [setLoc_setLoc]⟩
  have hlz2 : ¬ (lim : Int) = 0 := by omega
  have F := (aand @h12 (aand @t3 (aand @hlz @hlz2))); refine tFa ?_; (try clear F)
  have hlt : a1 < b1 := by omega
  have F := @t10; refine tF ?_; (try clear F)
  refine AW.step (fun τ m' => ∃ (d2 : Array GG) (lim2 : Nat), lim2 ≤ 1099511627776 ∧ PermIn a1 b1 d1 d2 ∧ τ 13 = σ 13 ∧ τ 10 = vB wb ∧ τ 11 = vB wp ∧ τ 0 = mar n L cap ∧ τ 1 = vI a1 ∧ τ 2 = vI b1 ∧ τ 3 = vI lim2 ∧ τ 4 = cloC ∧ τ 12 = vI l ∧ m' = m.setLoc n (ar d2 r)) ?_ ?_
  · cases wb with
    | true =>
      have F := @t10; refine tFa ?_; (try clear F)
      exact ⟨rfl, d1, lim, hlim1, permIn_refl _ _ _, by simp [upd_lit], by simp [upd_lit, t10], by simp [upd_lit, t11], by simp [upd_lit, t0], by simp [upd_lit, t1], by simp [upd_lit, t2], by simp [upd_lit, t3], by simp [upd_lit, t4], by simp [upd_lit], rfl⟩
    | false =>
      obtain ⟨lim2, hl2⟩ : ∃ x, x + 1 = lim := ⟨lim - 1, by omega⟩
      have e2 : (lim : Int) - 1 = (lim2 : Int) := by omega
      have F := @t10; refine tFa ?_; (try clear F)
      have F := (aand @t0 (aand @t1 (aand @t2 @t4))); refine tF1 fun K Kp hK hKp => ?_; (try clear F); refine ACall.mono (breakG H1 hr a1 b1 (by omega) (by omega)) ?_
      rintro _ _ ⟨d2, hp2, rfl, rfl⟩
      refine hK _ _ ?_; clear hK hKp K Kp
      have F := (aand @t3 @e2); refine tF ?_; (try clear F)
      exact ⟨rfl, d2, lim2, by omega, hp2, by simp [upd_lit], by simp [upd_lit, t10], by simp [upd_lit, t11], by simp [upd_lit, t0], by simp [upd_lit, t1], by simp [upd_lit, t2], by simp [upd_lit, t3], by simp [upd_lit, t4], by simp [upd_lit], by rw [setLoc_setLoc]⟩
  clear t10 t11 t0 t1 t2 t3 t4
  rintro τ m' ⟨d2, lim2, hlim2, hp12, -, t10, t11, t0, t1, t2, t3, t4, t12, rfl⟩
  have hs2 : d2.size = L := by rw [hp12.1]; exact hs1
  have H2 := H.set d2 hs2
  have F := (aand @t0 (aand @t1 (aand @t2 @t4))); refine tF ?_; (try clear F)
  refine tS1 fun K Kp hK hKp => ?_; refine ACall.mono (choosePivotG H2 a1 b1 hlt (by omega)) ?_
  rintro _ _ ⟨x, h, hx1, hx2, hh, rfl, rfl⟩
  refine hK _ _ ?_; clear hK hKp K Kp
  refine tS ?_
  refine AW.step (fun τ m' => ∃ (d3 : Array GG) (piv h2 : Nat), PermIn a1 b1 d1 d3 ∧ a1 ≤ piv ∧ piv < b1 ∧ τ 13 = vI piv ∧ τ 14 = vI h2 ∧ τ 10 = vB wb ∧ τ 11 = vB wp ∧ τ 0 = mar n L cap ∧ τ 1 = vI a1 ∧ τ 2 = vI b1 ∧ τ 3 = vI lim2 ∧ τ 4 = cloC ∧ τ 12 = vI l ∧ m' = m.setLoc n (ar d3 r)) ?_ ?_
  · by_cases hh2 : (h : Int) = 2
    · have F := @hh2; refine tFa ?_; (try clear F)
      have F := (aand @t0 (aand @t1 (aand @t2 @t4))); refine tF1 fun K Kp hK hKp => ?_; (try clear F); refine GivesTo.at (reverseG H2 a1 b1 hlt (by omega)) ?_; apply hK; clear hK hKp K Kp
      obtain ⟨q1, hq1⟩ : ∃ q, q + 1 = b1 := ⟨b1 - 1, by omega⟩
      have eq1 : (b1 : Int) - 1 = (q1 : Int) := by omega
      obtain ⟨q2, hq2⟩ : ∃ q, q = x - a1 := ⟨_, rfl⟩
      have eq2 : (x : Int) - a1 = (q2 : Int) := by omega
      obtain ⟨q3, hq3⟩ : ∃ q, q = q1 - q2 := ⟨_, rfl⟩
      have eq3 : (q1 : Int) - q2 = (q3 : Int) := by omega
      have F := (aand @t2 (aand @t1 (aand @eq1 (aand @eq2 @eq3)))); refine tF ?_; (try clear F)
      exact ⟨rfl, _, q3, 1, permIn_trans _ _ _ _ _ hp12 (reverseRange_holds d2 a1 b1 hab1 (by omega)), by omega, by omega, by simp [upd_lit], by simp [upd_lit], by simp [upd_lit, t10], by simp [upd_lit, t11], by simp [upd_lit, t0], by simp [upd_lit, t1], by simp [upd_lit, t2], by simp [upd_lit, t3], by simp [upd_lit, t4], by simp [upd_lit, t12], by rw [setLoc_setLoc]⟩
    · have F := @hh2; refine tFa ?_; (try clear F)
      exact ⟨rfl, d2, x, h, hp12, hx1, hx2, by simp [upd_lit], by simp [upd_lit], by simp [upd_lit, t10], by simp [upd_lit, t11], by simp [upd_lit, t0], by simp [upd_lit, t1], by simp [upd_lit, t2], by simp [upd_lit, t3], by simp [upd_lit, t4], by simp [upd_lit, t12], rfl⟩
  clear t10 t11 t0 t1 t2 t3 t4 t12 hs2 H2 hp12 hh hx1 hx2 d2
  rintro τ m' ⟨d3, piv, h2, hp13, hv1, hv2, t13, t14, t10, t11, t0, t1, t2, t3, t4, t12, rfl⟩
  have hs3 : d3.size = L := by rw [hp13.1]; exact hs1
  have H3 := H.set d3 hs3
  have hB3 := hB1.perm (by omega) hp13
  refine AExit.norT ?_
  refine AW.seq ?_
  refine AW.stepR (fun τ m' => ∃ (d4 : Array GG), PermIn a1 b1 d1 d4 ∧ τ 13 = vI piv ∧ τ 10 = vB wb ∧ τ 11 = vB wp ∧ τ 0 = mar n L cap ∧ τ 1 = vI a1 ∧ τ 2 = vI b1 ∧ τ 3 = vI lim2 ∧ τ 4 = cloC ∧ τ 12 = vI l ∧ m' = m.setLoc n (ar d4 r)) (fun τ m' => ∃ R, PermIn a1 b1 d1 R ∧ SortedIn ltG a1 b1 R ∧ m' = m.setLoc n (ar R r)) ?_ ?_ ?_
  · have skip : ∀ ρ : Nat → PV, ρ 13 = vI piv → (ρ 10 = vB wb ∧ ρ 11 = vB wp ∧ ρ 0 = mar n L cap ∧ ρ 1 = vI a1 ∧ ρ 2 = vI b1 ∧ ρ 3 = vI lim2 ∧ ρ 4 = cloC ∧ ρ 12 = vI l) → ∃ (d4 : Array GG), PermIn a1 b1 d1 d4 ∧ ρ 13 = vI piv ∧ ρ 10 = vB wb ∧ ρ 11 = vB wp ∧ ρ 0 = mar n L cap ∧ ρ 1 = vI a1 ∧ ρ 2 = vI b1 ∧ ρ 3 = vI lim2 ∧ ρ 4 = cloC ∧ ρ 12 = vI l ∧ m.setLoc n (ar d3 r) = m.setLoc n (ar d4 r) :=
      fun ρ h13 ⟨h10, h11, h0, h1, h2, h3, h4, h12⟩ => ⟨d3, hp13, h13, h10, h11, h0, h1, h2, h3, h4, h12, rfl⟩
    cases wb with
    | false =>
      have F := @t10; refine tFa ?_; (try clear F)
      exact .inl ⟨rfl, skip _ (by simp [upd_lit, t13]) ⟨by simp [upd_lit, t10], by simp [upd_lit, t11], by simp [upd_lit, t0], by simp [upd_lit, t1], by simp [upd_lit, t2], by simp [upd_lit, t3], by simp [upd_lit, t4], by simp [upd_lit, t12]⟩⟩
    | true =>
    cases wp with
    | false =>
      have F := (aand @t10 @t11); refine tFa ?_; (try clear F)
      exact .inl ⟨rfl, skip _ (by simp [upd_lit, t13]) ⟨by simp [upd_lit, t10], by simp [upd_lit, t11], by simp [upd_lit, t0], by simp [upd_lit, t1], by simp [upd_lit, t2], by simp [upd_lit, t3], by simp [upd_lit, t4], by simp [upd_lit, t12]⟩⟩
    | true =>
    by_cases hh1 : h2 = 1
    rotate_left
    · have hh1' : ¬ (h2 : Int) = 1 := by omega
      have F := (aand @t10 (aand @t11 (aand @t14 (aand @hh1 @hh1')))); refine tFa ?_; (try clear F)
      exact .inl ⟨rfl, skip _ (by simp [upd_lit, t13]) ⟨by simp [upd_lit, t10], by simp [upd_lit, t11], by simp [upd_lit, t0], by simp [upd_lit, t1], by simp [upd_lit, t2], by simp [upd_lit, t3], by simp [upd_lit, t4], by simp [upd_lit, t12]⟩⟩
    have hh1' : (h2 : Int) = 1 := by omega
    have F := (aand @t10 (aand @t11 (aand @t14 @hh1'))); refine tFa ?_; (try clear F)
    have F := (aand @t0 (aand @t1 (aand @t2 @t4))); refine tF1 fun K Kp hK hKp => ?_; (try clear F); refine GivesTo.at (partialG H3 a1 b1 hlt (by omega)) ?_; apply hK; clear hK hKp K Kp
    have hpi := partialInsertionSort_holds ltG_swo d3 a1 b1 hlt (by omega) hB3
    cases hres : (partialInsertionSort ltG d3 a1 b1).2 with
    | true =>
      refine tSa ?_
      exact .inr ⟨rfl, _, permIn_trans _ _ _ _ _ hp13 hpi.1, hpi.2 hres, by rw [setLoc_setLoc]⟩
    | false =>
      refine tSa ?_
      exact .inl ⟨rfl, _, permIn_trans _ _ _ _ _ hp13 hpi.1, by simp [upd_lit, t13], by simp [upd_lit, t10], by simp [upd_lit, t11], by simp [upd_lit, t0], by simp [upd_lit, t1], by simp [upd_lit, t2], by simp [upd_lit, t3], by simp [upd_lit, t4], by simp [upd_lit, t12], by rw [setLoc_setLoc]⟩
  rotate_left
  · rintro τ m' ⟨R, hR1, hR2, rfl⟩
    have hF := hfin R hR1 hR2
    refine tSa ?_
    exact Fin.here (r := .tup []) (by exact ⟨[], rfl, rfl⟩) (.inr rfl) ⟨R, hF.1, hF.2, rfl, rfl⟩
  clear t10 t11 t0 t1 t2 t3 t4 t12 t13 t14 hs3 H3 hp13 hB3 d3
  rintro τ m' ⟨d4, hp14, t13, t10, t11, t0, t1, t2, t3, t4, t12, rfl⟩
  have hs4 : d4.size = L := by rw [hp14.1]; exact hs1
  have H4 := H.set d4 hs4
  have hB4 := hB1.perm (by omega) hp14
  have hP4 : PermIn 0 L d d4 := permIn_trans _ _ _ _ _ hP1 (permIn_mono _ _ a1 b1 0 L (by omega) hb1 (by omega) hp14)
  refine AExit.norT ?_
  refine AW.seq ?_
  refine AW.seq ?_
  have v1 : piv < d4.size := by omega
  have v2 : (piv : Int) < L := by omega
  refine AW.step (fun τ m' => τ 97 = vB (decide (0 < a1) && !ltG (gt d4 (a1 - 1)) (gt d4 piv)) ∧ τ 13 = vI piv ∧ τ 10 = vB wb ∧ τ 11 = vB wp ∧ τ 0 = mar n L cap ∧ τ 1 = vI a1 ∧ τ 2 = vI b1 ∧ τ 3 = vI lim2 ∧ τ 4 = cloC ∧ τ 12 = vI l ∧ m' = m.setLoc n (ar d4 r)) ?_ ?_
  · by_cases ha0 : 0 < a1
    · have ha0' : (0 : Int) < a1 := by omega
      obtain ⟨w, hw⟩ : ∃ w, w + 1 = a1 := ⟨a1 - 1, by omega⟩
      have ew : (a1 : Int) - 1 = (w : Int) := by omega
      have w1 : w < d4.size := by omega
      have w2 : (w : Int) < L := by omega
      have hcmp := cmpG (gt d4 w) (gt d4 piv)
      rw [show a1 - 1 = w from by omega]
      refine AW.draw [.S, .S, .S, .S, .S, .S, .S, .S, .R, .S, .S, .S, .R, .R, .S, .S, .S] (by decide +kernel) ?_; have F := (aand @t0 (aand @t1 (aand @t4 (aand @t13 (aand @ha0 (aand @ha0' (aand @ew (aand @w1 (aand @w2 (aand @v1 (aand @v2 (aand @hn (aand @ar_get @ar_fit))))))))))))); refine dS 0 ?_; refine dS 1 ?_; refine dS 2 ?_; refine dSG 3 ?_; refine dSG 4 ?_; refine dSG 5 ?_; refine dSG 6 ?_; refine dSG 7 ?_; refine dRG 8 ?_; refine dSG 9 ?_; refine dSG 10 ?_; refine dSG 11 ?_; refine dRG 12 ?_; refine dCG ((hcmp)) 13 ?_; refine dSG 14 ?_; refine dSG 15 ?_; refine dS 16 ?_; (try clear F); first | refine dN ?_ | refine dB ?_ | refine DA.done (by decide +kernel) ?_
      exact ⟨rfl, by simp [upd_lit, ha0, ltG], by simp [upd_lit, t13], by simp [upd_lit, t10], by simp [upd_lit, t11], by simp [upd_lit, t0], by simp [upd_lit, t1], by simp [upd_lit, t2], by simp [upd_lit, t3], by simp [upd_lit, t4], by simp [upd_lit, t12], rfl⟩
    · have ha0' : ¬ (0 : Int) < a1 := by omega
      refine AW.draw [.S, .S, .S, .S, .S, .S, .S, .S, .R, .S, .S, .S, .R, .R, .S, .S, .S] (by decide +kernel) ?_; have F := (aand @t1 (aand @ha0 @ha0')); refine dS 0 ?_; refine dS 1 ?_; refine dS 2 ?_; refine dXx 3 ?_; refine dXx 4 ?_; refine dXx 5 ?_; refine dXx 6 ?_; refine dXx 7 ?_; refine dXX 8 ?_; refine dXx 9 ?_; refine dXx 10 ?_; refine dXx 11 ?_; refine dXX 12 ?_; refine dXX 13 ?_; refine dXx 14 ?_; refine dXx 15 ?_; refine dS 16 ?_; (try clear F); first | refine dN ?_ | refine dB ?_ | refine DA.done (by decide +kernel) ?_
      exact ⟨rfl, by simp [upd_lit, ha0], by simp [upd_lit, t13], by simp [upd_lit, t10], by simp [upd_lit, t11], by simp [upd_lit, t0], by simp [upd_lit, t1], by simp [upd_lit, t2], by simp [upd_lit, t3], by simp [upd_lit, t4], by simp [upd_lit, t12], rfl⟩
  clear t10 t11 t0 t1 t2 t3 t4 t12 t13
  rintro τ m' ⟨t97, t13, t10, t11, t0, t1, t2, t3, t4, t12, rfl⟩
  cases hc : (decide (0 < a1) && !ltG (gt d4 (a1 - 1)) (gt d4 piv)) with
  | true =>
    rw [hc] at t97
    simp only [Bool.and_eq_true, decide_eq_true_eq, Bool.not_eq_true'] at hc
    have F := @t97; refine tFa ?_; (try clear F)
    have F := (aand @t0 (aand @t1 (aand @t2 (aand @t4 @t13)))); refine tF1 fun K Kp hK hKp => ?_; (try clear F); refine GivesTo.at (partitionEqualG H4 a1 b1 piv hv1 hv2 (by omega)) ?_; apply hK; clear hK hKp K Kp
    obtain ⟨mid, d5, hpe⟩ : ∃ mid d5, partitionEqual ltG d4 a1 b1 piv = (mid, d5) := ⟨_, _, rfl⟩
    obtain ⟨g1, g2, g3, g4, g5⟩ := round_eq ltG_swo (partitionEqual_holds ltG) hc.1 hv1 hv2 (by omega) hB4 hc.2 hpe
    rw [hpe]
    dsimp only
    have hPm : PermIn 0 L d d5 := by
      have := partitionEqual_holds ltG ltG_swo d4 a1 b1 piv hv1 hv2 (by omega) (fun i h1 h2 => by
        rcases hB4 with h0 | hB4
        · omega
        · exact ltG_swo.ntrans _ _ _ (hB4 i h1 h2) hc.2)
      rw [hpe] at this
      exact permIn_trans _ _ _ _ _ hP4 (permIn_mono _ _ a1 b1 0 L (by omega) hb1 (by omega) this.2.2.1)
    refine tS ?_
    exact ⟨b1 - mid, ⟨mid, b1, lim2, wb, wp, d5, rfl, by omega, g2, hb1, hlim2, hPm, g4, fun R h1 h2 => by
      have := g5 R h1 h2
      exact hfin R (permIn_trans _ _ _ _ _ hp14 this.1) this.2, by simp [upd_lit, t10], by simp [upd_lit, t11], by simp [upd_lit, t0], by simp [upd_lit], by simp [upd_lit, t2], by simp [upd_lit, t3], by simp [upd_lit, t4], by rw [setLoc_setLoc]⟩, by omega⟩
  | false =>
    rw [hc] at t97
    have F := @t97; refine tFa ?_; (try clear F)
    have F := (aand @t0 (aand @t1 (aand @t2 (aand @t4 @t13)))); refine tF1 fun K Kp hK hKp => ?_; (try clear F); refine GivesTo.at (partitionG H4 a1 b1 piv hv1 hv2 (by omega)) ?_; apply hK; clear hK hKp K Kp
    obtain ⟨mid, ap, d5, hpe⟩ : ∃ mid ap d5, partition ltG d4 a1 b1 piv = (mid, ap, d5) := ⟨_, _, _, rfl⟩
    obtain ⟨g1, g2, g3, g4, g5, g6, g7⟩ := round_part ltG_swo (partition_holds ltG) hv1 hv2 (by omega) hB4 hpe
    have hPm : PermIn 0 L d d5 := by
      have := partition_holds ltG ltG_swo d4 a1 b1 piv hv1 hv2 (by omega)
      rw [hpe] at this
      exact permIn_trans _ _ _ _ _ hP4 (permIn_mono _ _ a1 b1 0 L (by omega) hb1 (by omega) this.2.2.1)
    rw [hpe]
    dsimp only
    have hs5 : d5.size = L := by rw [g3]; exact hs4
    have H5 := H.set d5 hs5
    obtain ⟨x1, hx1⟩ : ∃ x, x = mid - a1 := ⟨_, rfl⟩
    have ex1 : (mid : Int) - a1 = (x1 : Int) := by omega
    obtain ⟨y1, hy1⟩ : ∃ x, x = b1 - mid := ⟨_, rfl⟩
    have ey1 : (b1 : Int) - mid = (y1 : Int) := by omega
    obtain ⟨z1, hz1⟩ : ∃ x, x = l / 8 := ⟨_, rfl⟩
    have ez1 : (l : Int).tdiv 8 = (z1 : Int) := by rw [hz1]; rfl
    obtain ⟨m1, hm1⟩ : ∃ x, x = mid + 1 := ⟨_, rfl⟩
    have em1 : (mid : Int) + 1 = (m1 : Int) := by omega
    rw [setLoc_setLoc]
    have F := (aand @t1 (aand @t2 (aand @t12 (aand @ex1 (aand @ey1 @ez1))))); refine tF ?_; (try clear F)
    by_cases hxy : x1 < y1
    · have F := (aand @hxy (aand @t0 (aand @t1 (aand @t3 @t4)))); refine tFa ?_; (try clear F)
      refine tS1 fun K Kp hK hKp => ?_; refine ACall.mono (ih (mid - a1) (by omega) H5 hr a1 mid lim2 rfl g1 (by omega) hlim2 g4) ?_
      rintro _ _ ⟨d6, hd6, hd6s, rfl, rfl⟩
      refine hK _ _ ?_; clear hK hKp K Kp
      have F := @em1; refine tF ?_; (try clear F)
      have g8 := g6 d6 hd6 hd6s
      exact ⟨b1 - m1, ⟨m1, b1, lim2, decide (z1 ≤ x1), ap, d6, rfl, by omega, by omega, hb1, hlim2, permIn_trans _ _ _ _ _ hPm (permIn_mono _ _ a1 mid 0 L (by omega) (by omega) (by omega) hd6), by rw [hm1]; exact g8.1, fun R h1 h2 => by
        rw [hm1] at h1 h2
        have := g8.2 R h1 h2
        exact hfin R (permIn_trans _ _ _ _ _ hp14 this.1) this.2, by simp [upd_lit], by simp [upd_lit], by simp [upd_lit, t0], by simp [upd_lit], by simp [upd_lit, t2], by simp [upd_lit, t3], by simp [upd_lit, t4], by rw [setLoc_setLoc]⟩, by omega⟩
    · have F := (aand @hxy (aand @t0 (aand @t2 (aand @t3 (aand @t4 @em1))))); refine tFa ?_; (try clear F)
      refine tS1 fun K Kp hK hKp => ?_; refine ACall.mono (ih (b1 - m1) (by omega) H5 hr m1 b1 lim2 rfl (by omega) (by omega) hlim2 (by rw [hm1]; exact g5)) ?_
      rintro _ _ ⟨d6, hd6, hd6s, rfl, rfl⟩
      refine hK _ _ ?_; clear hK hKp K Kp
      refine tS ?_
      rw [hm1] at hd6 hd6s
      have g8 := g7 d6 hd6 hd6s
      exact ⟨mid - a1, ⟨a1, mid, lim2, decide (z1 ≤ y1), ap, d6, rfl, by omega, by omega, by omega, hlim2, permIn_trans _ _ _ _ _ hPm (permIn_mono _ _ (mid + 1) b1 0 L (by omega) (by omega) (by omega) hd6), g8.1, fun R h1 h2 => by
        have := g8.2 R h1 h2
        exact hfin R (permIn_trans _ _ _ _ _ hp14 this.1) this.2, by simp [upd_lit], by simp [upd_lit], by simp [upd_lit, t0], by simp [upd_lit, t1], by simp [upd_lit], by simp [upd_lit, t3], by simp [upd_lit, t4], by rw [setLoc_setLoc]⟩, by omega⟩
end Go.Proofs.YtgfadepkiejncaaGreat
namespace Go.Proofs.YtgfadepkiejncaaGreat
open Go.Ab Go.Sort
set_option maxHeartbeats 0
set_option maxRecDepth 100000
attribute [local irreducible] AW AList ACall DA AExit.then AExit.inBlock YCall DCall
theorem sortG {m : St} {n L cap : Nat} {d : Array GG} {r : List PV} (H : Arr m n L d r) (hr : ∀ k t, PV.scL k t r) :
    ACall Tryz.prog 143 [mar n L cap, cloC] m (fun r' m' => ∃ R, PermIn 0 L d R ∧ SortedIn ltG 0 L R ∧ r' = .ret (.tup []) ∧ m' = m.setLoc n (ar R r)) := by
  refine ACall.of_aw Tryz.func143 Tryz.ntmps143 rfl rfl (by simp) ?_
  have hn := H.lt
  have hS := H.small
  have hL := H.size
  have w64 : IntKind.u64.wrap (L : Int) = L := wrap_u64 _ (by omega) (by omega)
  have hb : bitsLen L ≤ 41 := by rw [bitsLen_le_iff]; omega
  have F := @w64; refine tF ?_; (try clear F)
  refine tS1 fun K Kp hK hKp => ?_; refine Gives.at (bitsLenG L (by omega)) ?_; apply hK; clear hK hKp K Kp
  refine tS ?_
  refine tS1 fun K Kp hK hKp => ?_; refine ACall.mono (pdqG L H hr 0 L (bitsLen L) (by omega) (by omega) (by omega) (by omega) (.inl rfl)) ?_
  rintro _ _ ⟨R, h1, h2, rfl, rfl⟩
  refine hK _ _ ?_; clear hK hKp K Kp
  refine tS ?_
  exact Fin.here (r := .tup []) (by exact ⟨[], rfl, rfl⟩) (.inl rfl) ⟨R, h1, h2, rfl, rfl⟩
end Go.Proofs.YtgfadepkiejncaaGreat
namespace Go.Proofs.YtgfadepkiejncaaGreat
open Go.Ab Go.Sort
set_option maxHeartbeats 0
set_option maxRecDepth 100000
attribute [local irreducible] AW AList ACall DA AExit.then AExit.inBlock YCall DCall
theorem isOm (v : GV) : Gives Tryz.prog 142 [v.pv] (vB (decide (v.kind = 0))) := by
  intro m
  refine ACall.of_aw Tryz.func142 Tryz.ntmps142 rfl rfl (by simp) ?_
  refine tS ?_
  have e0 : (v.cells)[0]? = some (vI v.kind) := by rw [cells_eq]; rfl
  by_cases h : v.kind = 0
  · have h' : (v.kind : Int) = 0 := by omega
    have F := (aand @e0 (aand @h @h')); refine tF ?_; (try clear F)
    exact Fin.gives Same.auto (hq := by simp [upd_lit, h])
  · have h' : ¬ (v.kind : Int) = 0 := by omega
    have F := (aand @e0 (aand @h @h')); refine tF ?_; (try clear F)
    exact Fin.gives Same.auto (hq := by simp [upd_lit, h])
theorem eqG (x y : GV) (hx : good x) (hy : good y) : Gives Tryz.prog 145 [x.pv, y.pv] (vB (decide (cmpV x y = 0))) := by
  intro m
  refine ACall.of_aw Tryz.func145 Tryz.ntmps145 rfl rfl (by simp) ?_
  refine tS ?_
  refine tS1 fun K Kp hK hKp => ?_; refine Gives.at (val_compare x y hx hy) ?_; apply hK; clear hK hKp K Kp
  refine tS ?_
  exact Fin.gives Same.auto
def firstOm (d : Array GG) (i : Nat) : Nat := if h : i < d.size then (if (gt d i).1.kind = 0 then i else firstOm d (i + 1)) else d.size
termination_by d.size - i
theorem firstOm_le (d : Array GG) (i : Nat) (h : i ≤ d.size) : i ≤ firstOm d i ∧ firstOm d i ≤ d.size := by
  fun_induction firstOm d i with
  | case1 i hi hk => omega
  | case2 i hi hk ih => have := ih (by omega); omega
  | case3 i hi => omega
abbrev cloO : PV := .clo 142 [] []
theorem indexG {m : St} {n L cap : Nat} {d : Array GG} {r : List PV} (H : Arr m n L d r) :
    GivesTo Tryz.prog 148 [mar n L cap, cloO] m (vI (if firstOm d 0 < L then (firstOm d 0 : Int) else -1)) m := by
  have hn := H.lt
  have hm := H.loc
  have hS := H.small
  have hL := H.size
  refine ACall.of_aw Tryz.func148 Tryz.ntmps148 rfl rfl (by simp) ?_
  refine tS ?_
  refine AW.loop (ι := Nat) (fun i σ m' => i ≤ L ∧ σ 8 = vI i ∧ σ 7 = vI L ∧ σ 0 = mar n L cap ∧ σ 1 = cloO ∧ firstOm d i = firstOm d 0 ∧ m' = m) (fun i => L - i) 0 ?_ ?_
  · exact ⟨by omega, by simp [upd_lit], by simp [upd_lit], by simp [upd_lit], by simp [upd_lit], rfl, rfl⟩
  rintro i σ m' ⟨hi, t8, t7, t0, t1, hE, rfl⟩
  rw [firstOm] at hE
  by_cases hlt : i < L
  rotate_left
  · rw [dif_neg (by omega)] at hE
    rw [if_neg (by omega)]
    have F := (aand @t8 (aand @t7 @hlt)); refine tFa ?_; (try clear F)
    exact Fin.gives Same.auto
  rw [dif_pos (by omega)] at hE
  have i1 : i < d.size := by omega
  have i2 : (i : Int) < L := by omega
  have F := (aand @t8 (aand @t7 (aand @hlt (aand @t1 (aand @t0 (aand @i1 (aand @i2 (aand @hn (aand @hm (aand @ar_get @ar_fit)))))))))); refine tFa ?_; (try clear F)
  refine tS1 fun K Kp hK hKp => ?_; refine Gives.at (isOm (gt d i).1) ?_; apply hK; clear hK hKp K Kp
  by_cases hk : (gt d i).1.kind = 0
  · rw [if_pos hk] at hE
    rw [← hE, if_pos hlt]
    have F := @hk; refine tFa ?_; (try clear F)
    exact Fin.gives Same.auto
  · rw [if_neg hk] at hE
    have F := (aand @hk @t8); refine tFa ?_; (try clear F)
    exact ⟨i + 1, ⟨by omega, by simp [upd_lit], by simp [upd_lit, t7], by simp [upd_lit, t0], by simp [upd_lit, t1], hE, rfl⟩, by omega⟩
end Go.Proofs.YtgfadepkiejncaaGreat
namespace Go.Proofs.YtgfadepkiejncaaGreat
open Go.Ab Go.Sort
set_option maxHeartbeats 0
set_option maxRecDepth 100000
attribute [local irreducible] AW AList ACall DA AExit.then AExit.inBlock YCall DCall
theorem rows_stripL : ∀ l : List GV, PV.stripL (GV.rows l).flatten = (GV.rows l).flatten
  | [] => rfl
  | v :: l => by
    have h : ∀ xs ys : List PV, PV.stripL (xs ++ ys) = PV.stripL xs ++ PV.stripL ys := by
      intro xs ys
      induction xs with
      | nil => rfl
      | cons x xs ih => simp [PV.stripL, ih]
    simp only [GV.rows, List.flatten_cons]
    rw [h, cells_strip, rows_stripL l]
theorem cloneG (l : List GV) (h0 : l ≠ []) (hl : l.length ≤ 1000000) (m : St) :
    ACall Tryz.prog 141 [GV.pvs l] m (fun r' m' => r' = .ret (.marr m.nloc 0 l.length l.length) ∧ m' = m.newLoc (GV.rows l).flatten) := by
  refine ACall.of_aw Tryz.func141 Tryz.ntmps141 rfl rfl (by simp) ?_
  refine tS ?_
  refine AList.op (by decide) ?_; intro K Kp hK hKp; simp [upd_lit]
  refine ⟨?_, fun h => absurd (List.length_eq_zero_iff.1 (by simpa [GV.rows_eq] using congrArg List.length h)) h0⟩
  apply hK; clear hK hKp K Kp
  refine tSa ?_
  refine AList.opK (by decide) ?_; intro K Kp hK hKp
  have hpos : 0 < l.length := List.length_pos_iff.2 h0
  refine op_appendL (e := 27) (o2 := .no) (rows := []) (news := GV.rows l) rfl rfl rfl rfl (by kernel_rfl) (by kernel_rfl) (by kernel_rfl) (fun r hr => by cases hr) (rows_w l) ?_ ?_ ?_ (by simp [opv, upd_lit]) (by simp [opv, upd_lit]) (hK _ _ ?_)
  · have e : tbytes Tryz.prog 27 ≤ 1000 := by decide +kernel
    have : (GV.rows l).length = l.length := by rw [GV.rows_eq, List.length_map]
    simp only [List.length_nil, Nat.zero_add, this]
    exact Nat.le_trans (Nat.mul_le_mul hl e) (by omega)
  · simp [GV.rows_eq] <;> omega
  · simp [GV.rows_eq] <;> omega
  clear hK hKp K Kp
  refine tS ?_
  refine Fin.here (r := .marr m.nloc 0 l.length l.length) (by simp [ResP, ResL, resV, upd_lit, show Tryz.f141.results.toList = [.tmp 2] from rfl, GV.rows_eq]) (.inr rfl) ⟨rfl, ?_⟩
  rw [rows_stripL]
end Go.Proofs.YtgfadepkiejncaaGreat
namespace Go.Ab
theorem Same.setBoth {m m' : St} (h : Same m m') (n : Nat) (cs : List PV) : Same (m.setLoc n cs) (m'.setLoc n cs) :=
  Same.mk h.lloc h.ltok (fun i hi => by rw [setLoc_loc, setLoc_loc]; by_cases e : i = n; rw [if_pos e, if_pos e]; rw [if_neg e, if_neg e]; exact h.get hi) (fun k hk => ⟨(h.top k hk).1.symm, (h.top k hk).2.symm⟩) (fun n hn => h.getL hn) (fun n hn => h.getI hn) (fun k cs hk hd hc => h.getA hk hd hc)
end Go.Ab
namespace Go.Proofs.YtgfadepkiejncaaGreat
open Go.Ab Go.Sort
set_option maxHeartbeats 0
set_option maxRecDepth 100000
attribute [local irreducible] AW AList ACall DA AExit.then AExit.inBlock YCall DCall
def nzG (x : GG) : Bool := decide (x.1.kind ≠ 0)
theorem firstOm_none (d : Array GG) : ∀ i, i ≤ d.size → firstOm d i = d.size → ∀ k, i ≤ k → k < d.size → nzG (gt d k) = true := by
  intro i hi h k hk hk2
  fun_induction firstOm d i with
  | case1 i hi2 hk0 => omega
  | case2 i hi2 hk0 ih =>
    by_cases e : i = k
    · subst e; simp [nzG, hk0]
    · exact ih (by omega) h (by omega)
  | case3 i hi2 => omega
theorem firstOm_pre (d : Array GG) : ∀ i, ∀ k, i ≤ k → k < firstOm d i → nzG (gt d k) = true := by
  intro i k hk hk2
  fun_induction firstOm d i with
  | case1 i hi2 hk0 => omega
  | case2 i hi2 hk0 ih =>
    by_cases e : i = k
    · subst e; simp [nzG, hk0]
    · exact ih (by omega) hk2
  | case3 i hi2 =>
    omega
theorem firstOm_at (d : Array GG) : ∀ i, firstOm d i < d.size → nzG (gt d (firstOm d i)) = false := by
  intro i h
  fun_induction firstOm d i with
  | case1 i hi2 hk0 => simp [nzG, hk0]
  | case2 i hi2 hk0 ih => exact ih h
  | case3 i hi2 => omega
theorem gt_toList (d : Array GG) (i : Nat) (h : i < d.size) : d.toList[i]'(by simpa using h) = gt d i := by simp [gt, h]
theorem take_succ_filter (d : Array GG) (i : Nat) (h : i < d.size) : (d.toList.take (i + 1)).filter nzG = (d.toList.take i).filter nzG ++ (if nzG (gt d i) then [gt d i] else []) := by
  rw [List.take_add_one, List.filter_append]
  congr 1
  rw [List.getElem?_eq_getElem (by simpa using h), gt_toList d i h]
  simp [List.filter_cons]
theorem gt_set_ne (d : Array GG) (i k : Nat) (x : GG) (h : k ≠ i) : gt (d.setIfInBounds i x) k = gt d k := by
  simp [gt, getElem!_def, Array.getElem?_setIfInBounds, Ne.symm h]
theorem take_set (d : Array GG) (i : Nat) (x : GG) (h : i < d.size) : (d.setIfInBounds i x).toList.take (i + 1) = d.toList.take i ++ [x] := by
  rw [Array.toList_setIfInBounds, List.take_add_one, List.take_set_of_le (Nat.le_refl _)]
  simp [h]
theorem sliceLo (n L i cap : Nat) (hi : i ≤ L) (hc : L ≤ cap) (hlt : i < cap) (m : St) (K : PV → St → Prop) : aslice Tryz.prog 25 (mar n L cap) (some (vI i)) none none m K ↔ K (.marr n (i * 6) (L - i) (cap - i)) m := by
  have h1 : ((L : Int) - i).toNat = L - i := by omega
  simp [aslice, abnd, h1]
  constructor
  · intro h; exact h.2.2.2
  · intro h; exact ⟨by omega, by omega, by omega, h⟩
theorem sliceHi (n L i cap : Nat) (hi : i ≤ L) (hc : L ≤ cap) (h0 : 0 < cap) (m : St) (K : PV → St → Prop) : aslice Tryz.prog 25 (mar n L cap) none (some (vI i)) none m K ↔ K (.marr n 0 i cap) m := by
  simp [aslice, abnd]
  constructor
  · intro h; exact h.2.2.2
  · intro h; exact ⟨by omega, by omega, by omega, h⟩
theorem flat_take : ∀ (l : List GV) (i : Nat) (r : List PV), i ≤ l.length → ((GV.rows l).flatten ++ r).take (i * 6) = (GV.rows (l.take i)).flatten
  | l, 0, r, _ => by simp [GV.rows]
  | v :: l, i + 1, r, h => by
    have := flat_take l i r (by simpa using h)
    simp only [GV.rows, List.flatten_cons, List.append_assoc, List.take_succ_cons]
    rw [show (i + 1) * 6 = v.cells.length + i * 6 from by rw [cells_len]; omega, List.take_length_add_append, this]
theorem clear_ar (d : Array GG) (r zs : List PV) (i : Nat) (hi : i ≤ d.size) (hz : zs.length = (d.size - i) * 6) : setL (ar d r) (i * 6) zs = ar (d.toList.take i).toArray (zs ++ r) := by
  rw [setL_eq _ _ _ (by rw [ar_len, hz]; omega), hz, show i * 6 + (d.size - i) * 6 = d.size * 6 from by omega]
  have h1 : (ar d r).take (i * 6) = (GV.rows ((d.toList.take i).map (·.1))).flatten := by
    rw [ar, flat_take _ _ _ (by simpa using hi), List.map_take]
  have h2 : (ar d r).drop (d.size * 6) = r := by
    rw [ar, List.drop_left' (by rw [rows_flat_len]; simp)]
  rw [h1, h2, ar]
  simp
theorem zrow_scL (zc : List PV) (n : Nat) (h : ∀ x ∈ zc, ∀ k t, x.sc k t) (k t : Nat) : PV.scL k t (zrow zc n) := by
  have key : ∀ l : List PV, (∀ x ∈ l, x.sc k t) → PV.scL k t l := by
    intro l
    induction l with
    | nil => intro _; trivial
    | cons x l ih => intro h; exact ⟨h x (by simp), ih fun y hy => h y (by simp [hy])⟩
  refine key _ fun x hx => ?_
  obtain ⟨i, _, rfl⟩ := List.mem_map.1 hx
  rw [List.getD_eq_getElem?_getD]
  cases e : zc[i % zc.length]? with
  | none => trivial
  | some y => exact h y (List.mem_of_getElem? e) k t
theorem deleteG {m : St} {n L cap : Nat} {d : Array GG} {r : List PV} (H : Arr m n L d r) (hr : ∀ k t, PV.scL k t r) (hLc : L ≤ cap) :
    ACall Tryz.prog 140 [mar n L cap, cloO] m (fun r' m' => ∃ (D : Array GG) (r2 : List PV), D.toList = d.toList.filter nzG ∧ (∀ k t, PV.scL k t r2) ∧ r' = .ret (mar n D.size cap) ∧ m' = m.setLoc n (ar D r2)) := by
  have hn := H.lt
  have hm := H.loc
  have hS := H.small
  have hL := H.size
  refine ACall.of_aw Tryz.func140 Tryz.ntmps140 rfl rfl (by simp) ?_
  have hf := firstOm_le d 0 (by omega)
  refine tS ?_
  refine tS1 fun K Kp hK hKp => ?_; refine GivesTo.at (indexG H) ?_; apply hK; clear hK hKp K Kp
  by_cases hf0 : firstOm d 0 < L
  rotate_left
  · rw [if_neg hf0]
    refine tSa ?_
    refine Fin.here (r := mar n L cap) (by rfl) (.inr rfl) ⟨d, r, ?_, hr, by rw [hL], (setLoc_self hm).symm⟩
    rw [List.filter_eq_self.2]
    intro x hx
    obtain ⟨k, hk, rfl⟩ := List.getElem_of_mem hx
    rw [gt_toList d k (by simpa using hk)]
    exact firstOm_none d 0 (by omega) (by omega) k (by omega) (by simpa using hk)
  rw [if_pos hf0]
  obtain ⟨f, hfe⟩ : ∃ f, f = firstOm d 0 := ⟨_, rfl⟩
  rw [← hfe]
  rw [← hfe] at hf0 hf
  have hne : ¬ (f : Int) = -1 := by omega
  have F := @hne; refine tFa ?_; (try clear F)
  have hz := firstOm_at d 0 (by omega)
  rw [← hfe] at hz
  refine AW.loop (ι := Nat) (fun j σ m' => f + 1 ≤ j ∧ j ≤ L ∧ ∃ (i : Nat) (d1 : Array GG), i < j ∧ σ 5 = vI i ∧ σ 6 = vI j ∧ σ 0 = mar n L cap ∧ σ 1 = cloO ∧ d1.size = L ∧ d1.toList.take i = (d.toList.take j).filter nzG ∧ (∀ k, j ≤ k → gt d1 k = gt d k) ∧ Same (m.setLoc n (ar d1 r)) m' ∧ m'.loc n = some (ar d1 r)) (fun j => L - j) (f + 1) ?_ ?_
  · refine ⟨Nat.le_refl _, by omega, f, d, by omega, by simp [upd_lit], by simp [upd_lit], by simp [upd_lit], by simp [upd_lit], hL, ?_, fun _ _ => rfl, by rw [setLoc_self hm]; exact Same.refl m, hm⟩
    rw [take_succ_filter d f (by omega), hz]
    simp only [Bool.false_eq_true, if_false, List.append_nil]
    symm
    rw [List.filter_eq_self]
    intro x hx
    obtain ⟨k, hk, rfl⟩ := List.getElem_of_mem hx
    rw [List.getElem_take, gt_toList d k (by simp at hk; omega)]
    exact firstOm_pre d 0 k (by omega) (by simp at hk; omega)
  rintro j σ m' ⟨hj1, hj2, i, d1, hij, t5, t6, t0, t1, hs, hpre, hrest, hsame, hloc⟩
  have hn2 : n < m'.nloc := Nat.lt_of_lt_of_le hn hsame.lloc
  by_cases hjl : j < L
  rotate_left
  · have hjL : j = L := by omega
    subst hjL
    have F := (aand @t6 (aand @t0 @hjl)); refine tFa ?_; (try clear F)
    have sl := sliceLo n j i cap (by omega) hLc (by omega)
    have sh := sliceHi n j i cap (by omega) hLc (by omega)
    have F := (aand @t5 @sl); refine tF ?_; (try clear F)
    refine AList.step rfl rfl ?_
    obtain ⟨z, hz1⟩ : ∃ z, tzero Tryz.prog 27 = some z := ⟨_, rfl⟩
    have hzl : (zcells z).length = 6 := by
      have : (tzero Tryz.prog 27).map (fun z => (zcells z).length) = some 6 := by kernel_rfl
      rw [hz1] at this; simpa using this
    have hzo : zOK z = true := by
      have : (tzero Tryz.prog 27).map zOK = some true := by kernel_rfl
      rw [hz1] at this; simpa using this
    refine op_clear (e := 27) (z := z) (n := n) (off := i * 6) (len := j - i) (cap := cap - i) (cs := ar d1 r) rfl rfl rfl rfl rfl hz1 hzo (by omega) (by simp [opv, upd_lit]) hn2 hloc (by rw [ar_len, hzl]; omega) ?_
    have hzs : ∀ x ∈ zcells z, ∀ k t, PV.sc k t x := by
      have : (tzero Tryz.prog 27).map zcells = some [vI 0, vI 0, vB false, .list .full [], .v (.string ⟨#[]⟩), .list .full []] := by kernel_rfl
      rw [hz1] at this
      simp only [Option.map_some, Option.some.injEq] at this
      rw [this]
      intro x hx k t
      simp at hx
      rcases hx with rfl | rfl | rfl | rfl | rfl <;> trivial
    simp only [put]
    rw [hzl, clear_ar d1 r _ i (by omega) (by rw [zrow_len, hs])]
    have hr2 : ∀ k t, PV.scL k t (zrow (zcells z) ((j - i) * 6) ++ r) := fun k t => scL_app _ _ _ _ (zrow_scL _ _ hzs k t) (hr k t)
    generalize zrow (zcells z) ((j - i) * 6) ++ r = r2 at *
    have hDs : (d1.toList.take i).toArray.size = i := by simp; omega
    have hDl : (d1.toList.take i).toArray.toList = d.toList.filter nzG := by
      rw [List.toList_toArray, hpre, List.take_of_length_le (by simp; omega)]
    generalize (d1.toList.take i).toArray = D at *
    have hsame3 := hsame.setBoth n (ar D r2)
    rw [setLoc_setLoc] at hsame3
    have F := (aand @t0 (aand @t5 @sh)); refine tF ?_; (try clear F)
    exact Fin.leaves (r := mar n i cap) (m2 := m.setLoc n (ar D r2)) (by rfl) (.inr rfl) (Leaves.ofSet hsame3 (ar_scL _ _ _ _ (hr2 _ _))) ⟨D, r2, hDl, hr2, by rw [hDs], rfl⟩ (hs := by show n < m.nloc; exact hn)
  have j1 : j < d1.size := by omega
  have j2 : (j : Int) < L := by omega
  have i1 : i < d1.size := by omega
  have i2 : (i : Int) < L := by omega
  have hnn : n ≠ m'.nloc := by omega
  have hn3 : n < m'.nloc + 1 := by omega
  have F := (aand @t6 (aand @t0 (aand @t1 (aand @hjl (aand @j1 (aand @j2 (aand @hn2 (aand @hloc (aand @ar_get @ar_fit))))))))); refine tFa ?_; (try clear F)
  have F := @t1; refine tF1 fun K Kp hK hKp => ?_; (try clear F); refine Gives.at (isOm (gt d1 j).1) ?_; apply hK; clear hK hKp K Kp
  have hsame2 : Same (m.setLoc n (ar d1 r)) ((m'.newLoc [vI 0, vI 0, vB false, .list .full [], .v (.string ⟨#[]⟩), .list .full []]).setLoc m'.nloc (gt d1 j).1.cells) := (hsame.newLoc _).setLoc hsame.lloc _
  have hgj := hrest j (Nat.le_refl _)
  by_cases hk : (gt d1 j).1.kind = 0
  · have F := (aand @hk @t6); refine tFa ?_; (try clear F)
    refine ⟨j + 1, ⟨by omega, by omega, i, d1, by omega, by simp [upd_lit, t5], by simp [upd_lit], by simp [upd_lit, t0], by simp [upd_lit, t1], hs, ?_, fun k hk => hrest k (by omega), hsame2, by simp [hnn, hloc]⟩, by omega⟩
    rw [take_succ_filter d j (by omega), hpre, if_neg (by rw [← hgj]; simp [nzG, hk])]; simp
  · have F := (aand @hk (aand @t6 (aand @t5 (aand @t0 (aand @i1 (aand @i2 (aand @hn3 (aand @hnn (aand @hloc (aand @ar_fit @ar_set)))))))))); refine tFa ?_; (try clear F)
    refine ⟨j + 1, ⟨by omega, by omega, i + 1, d1.setIfInBounds i (gt d1 j), by omega, by simp [upd_lit], by simp [upd_lit], by simp [upd_lit, t0], by simp [upd_lit, t1], by simp [hs], ?_, fun k hk => by rw [gt_set_ne _ _ _ _ (by omega)]; exact hrest k (by omega), ?_, by simp⟩, by omega⟩
    · rw [take_set d1 i _ i1, take_succ_filter d j (by omega), hpre, if_pos (by rw [← hgj]; simp [nzG, hk]), hgj]
    · have := hsame2.setBoth n (ar (d1.setIfInBounds i (gt d1 j)) r)
      rw [setLoc_setLoc] at this
      exact this
end Go.Proofs.YtgfadepkiejncaaGreat
namespace Go.Proofs.YtgfadepkiejncaaGreat
open Go.Ab Go.Sort
set_option maxHeartbeats 0
set_option maxRecDepth 100000
attribute [local irreducible] AW AList ACall DA AExit.then AExit.inBlock YCall DCall
def keepTo (d : Array GG) : Nat → List GG
  | 0 => []
  | a + 1 => keepTo d a ++ (if a = 0 ∨ cmpV (gt d a).1 (gt d (a - 1)).1 ≠ 0 then [gt d a] else [])
abbrev cloE : PV := .clo 145 [] []
theorem take_succ_gt (d : Array GG) (i : Nat) (h : i < d.size) : d.toList.take (i + 1) = d.toList.take i ++ [gt d i] := by
  rw [List.take_add_one, List.getElem?_eq_getElem (by simpa using h), gt_toList d i h]; rfl
theorem compactG {m : St} {n L cap : Nat} {d : Array GG} {r : List PV} (H : Arr m n L d r) (hr : ∀ k t, PV.scL k t r) (hLc : L ≤ cap) :
    ACall Tryz.prog 144 [mar n L cap, cloE] m (fun r' m' => ∃ (D : Array GG) (r2 : List PV), D.toList = keepTo d L ∧ (∀ k t, PV.scL k t r2) ∧ r' = .ret (mar n D.size cap) ∧ m' = m.setLoc n (ar D r2)) := by
  have hn := H.lt
  have hm := H.loc
  have hS := H.small
  have hL := H.size
  refine ACall.of_aw Tryz.func144 Tryz.ntmps144 rfl rfl (by simp) ?_
  have hend : d.toList = keepTo d L → d.toList = keepTo d L := id
  refine tS ?_
  by_cases h2 : (L : Int) < 2
  · have F := @h2; refine tFa ?_; (try clear F)
    refine Fin.here (r := mar n L cap) (by rfl) (.inr rfl) ⟨d, r, ?_, hr, by rw [hL], (setLoc_self hm).symm⟩
    rw [← List.take_of_length_le (l := d.toList) (i := L) (by simp; omega)]
    rcases (by omega : L = 0 ∨ L = 1) with rfl | rfl
    · rfl
    · rw [take_succ_gt d 0 (by omega)]; rfl
  have F := @h2; refine tFa ?_; (try clear F)
  refine AW.loop (ι := Nat) (fun k σ m' => 1 ≤ k ∧ k ≤ L ∧ σ 5 = vI k ∧ σ 0 = mar n L cap ∧ σ 1 = cloE ∧ keepTo d k = d.toList.take k ∧ m = m') (fun k => L - k) 1 ?_ ?_
  · refine ⟨Nat.le_refl _, by omega, by simp [upd_lit], by simp [upd_lit], by simp [upd_lit], ?_, rfl⟩
    rw [take_succ_gt d 0 (by omega)]; rfl
  rintro k σ m' ⟨hk1, hk2, t5, t0, t1, hkeep, rfl⟩
  by_cases hkl : k < L
  rotate_left
  · have hkL : k = L := by omega
    subst hkL
    have F := (aand @t5 (aand @t0 @hkl)); refine tFa ?_; (try clear F)
    refine Fin.here (r := mar n k cap) (by simp [ResP, ResL, resV, upd_lit, t0, show Tryz.f144.results.toList = [.tmp 4] from rfl]) (.inr rfl) ⟨d, r, ?_, hr, by rw [hL], (setLoc_self hm).symm⟩
    rw [hkeep, List.take_of_length_le (by simp; omega)]
  obtain ⟨p, hp⟩ : ∃ p, p + 1 = k := ⟨k - 1, by omega⟩
  have ep : (k : Int) - 1 = (p : Int) := by omega
  have k1 : k < d.size := by omega
  have k2 : (k : Int) < L := by omega
  have p1 : p < d.size := by omega
  have p2 : (p : Int) < L := by omega
  have heq := eqG (gt d k).1 (gt d p).1 (gt d k).2 (gt d p).2
  have F := (aand @t5 (aand @t0 @hkl)); refine tFa ?_; (try clear F)
  repeat (first | refine AW.seq ?_ | refine AW.block ?_ | refine AW.skip ?_ | refine AExit.norT ?_ | refine AExit.norB ?_ | refine AList.nil ?_)
  refine AW.draw [.S, .S, .S, .S, .R, .S, .S, .S, .S, .R, .R] (by decide +kernel) ?_; have F := (aand @t5 (aand @t0 (aand @t1 (aand @ep (aand @k1 (aand @k2 (aand @p1 (aand @p2 (aand @hn (aand @hm (aand @ar_get @ar_fit))))))))))); refine dS 0 ?_; refine dS 1 ?_; refine dS 2 ?_; refine dS 3 ?_; refine dR 4 ?_; refine dS 5 ?_; refine dS 6 ?_; refine dS 7 ?_; refine dS 8 ?_; refine dR 9 ?_; refine dC ((heq)) 10 ?_; (try clear F); first | refine dN ?_ | refine dB ?_ | refine DA.done (by decide +kernel) ?_
  have hks : keepTo d (k + 1) = keepTo d k ++ (if cmpV (gt d k).1 (gt d p).1 ≠ 0 then [gt d k] else []) := by
    rw [keepTo, show k - 1 = p from by omega]; simp [show k ≠ 0 from by omega]
  by_cases hc : cmpV (gt d k).1 (gt d p).1 = 0
  rotate_left
  · have F := (aand @hc @t5); refine tFa ?_; (try clear F)
    refine ⟨k + 1, ⟨by omega, by omega, by simp [upd_lit], by simp [upd_lit, t0], by simp [upd_lit, t1], ?_, rfl⟩, by omega⟩
    rw [hks, if_pos hc, take_succ_gt d k k1, hkeep]
  rw [if_neg (by simp [hc]), List.append_nil, hkeep] at hks
  have sl := sliceLo n L k cap (by omega) hLc (by omega)
  have F := (aand @hc (aand @t5 (aand @t0 @sl))); refine tFa ?_; (try clear F)
  obtain ⟨l2, hl2⟩ : ∃ l2, l2 = L - k := ⟨_, rfl⟩
  rw [← hl2]
  refine AW.loop (ι := Nat) (fun q σ m' => 1 ≤ q ∧ q ≤ l2 ∧ ∃ (i : Nat) (d1 : Array GG), i < k + q ∧ σ 7 = vI q ∧ σ 5 = vI i ∧ σ 6 = .marr n (k * 6) l2 (cap - k) ∧ σ 0 = mar n L cap ∧ σ 1 = cloE ∧ d1.size = L ∧ d1.toList.take i = keepTo d (k + q) ∧ (∀ x, k + q - 1 ≤ x → gt d1 x = gt d x) ∧ m' = m.setLoc n (ar d1 r)) (fun q => l2 - q) 1 ?_ ?_
  · exact ⟨Nat.le_refl _, by omega, k, d, by omega, by simp [upd_lit], by simp [upd_lit, t5], by simp [upd_lit, hl2], by simp [upd_lit, t0], by simp [upd_lit, t1], hL, hks.symm, fun _ _ => rfl, (setLoc_self hm).symm⟩
  clear t5 t0 t1 sl
  rintro q τ m2 ⟨hq1, hq2, i, d1, hi, t7, t5, t6, t0, t1, hs, hpre, hrest, rfl⟩
  by_cases hql : q < l2
  rotate_left
  · have hql2 : k + q = L := by omega
    rw [hql2] at hpre
    have F := (aand @t7 (aand @t6 @hql)); refine tFa ?_; (try clear F)
    have sl := sliceLo n L i cap (by omega) hLc (by omega)
    have sh := sliceHi n L i cap (by omega) hLc (by omega)
    have F := (aand @t5 (aand @t0 @sl)); refine tF ?_; (try clear F)
    refine AList.step rfl rfl ?_
    obtain ⟨z, hz1⟩ : ∃ z, tzero Tryz.prog 27 = some z := ⟨_, rfl⟩
    have hz6 : zcells z = [vI 0, vI 0, vB false, .list .full [], .v (.string ⟨#[]⟩), .list .full []] := by
      have : (tzero Tryz.prog 27).map zcells = some [vI 0, vI 0, vB false, .list .full [], .v (.string ⟨#[]⟩), .list .full []] := by kernel_rfl
      rw [hz1] at this
      simpa using this
    have hzl : (zcells z).length = 6 := by rw [hz6]; rfl
    have hzo : zOK z = true := by
      have : (tzero Tryz.prog 27).map zOK = some true := by kernel_rfl
      rw [hz1] at this; simpa using this
    refine op_clear (e := 27) (z := z) (n := n) (off := i * 6) (len := L - i) (cap := cap - i) (cs := ar d1 r) rfl rfl rfl rfl rfl hz1 hzo (by omega) (by simp [opv, upd_lit]) (by exact hn) (by simp) (by rw [ar_len, hzl]; omega) ?_
    have hzs : ∀ x ∈ zcells z, ∀ k t, PV.sc k t x := by
      rw [hz6]
      intro x hx k t
      simp at hx
      rcases hx with rfl | rfl | rfl | rfl | rfl <;> trivial
    simp only [put]
    rw [hzl, clear_ar d1 r _ i (by omega) (by rw [zrow_len, hs]), setLoc_setLoc]
    have hr2 : ∀ k t, PV.scL k t (zrow (zcells z) ((L - i) * 6) ++ r) := fun k t => scL_app _ _ _ _ (zrow_scL _ _ hzs k t) (hr k t)
    generalize zrow (zcells z) ((L - i) * 6) ++ r = r2 at *
    have hDs : (d1.toList.take i).toArray.size = i := by simp; omega
    have hDl : (d1.toList.take i).toArray.toList = keepTo d L := by rw [List.toList_toArray, hpre]
    generalize (d1.toList.take i).toArray = D at *
    have F := (aand @t0 (aand @t5 @sh)); refine tF ?_; (try clear F)
    exact Fin.here (r := mar n i cap) (by simp [ResP, ResL, resV, upd_lit, show Tryz.f144.results.toList = [.tmp 4] from rfl]) (.inr rfl) ⟨D, r2, hDl, hr2, by rw [hDs], rfl⟩
  obtain ⟨a, ha⟩ : ∃ a, a = k + q := ⟨_, rfl⟩
  obtain ⟨q0, hq0⟩ : ∃ q0, q0 + 1 = q := ⟨q - 1, by omega⟩
  obtain ⟨b, hb⟩ : ∃ b, b = k + q0 := ⟨_, rfl⟩
  have eq0 : (q : Int) - 1 = (q0 : Int) := by omega
  have a1 : a < d1.size := by omega
  have b1 : b < d1.size := by omega
  have i1 : i < d1.size := by omega
  have i2 : (i : Int) < L := by omega
  have q2 : (q : Int) < l2 := by omega
  have q3 : (q0 : Int) < l2 := by omega
  have oa : k * 6 + q * 6 = a * 6 := by omega
  have ob : k * 6 + q0 * 6 = b * 6 := by omega
  have heq := eqG (gt d1 a).1 (gt d1 b).1 (gt d1 a).2 (gt d1 b).2
  have F := (aand @t7 (aand @t6 @hql)); refine tFa ?_; (try clear F)
  repeat (first | refine AW.seq ?_ | refine AW.block ?_ | refine AW.skip ?_ | refine AExit.norT ?_ | refine AExit.norB ?_ | refine AList.nil ?_)
  refine AW.draw [.S, .S, .S, .S, .R, .S, .S, .S, .S, .R, .R, .S] (by decide +kernel) ?_; have F := (aand @t7 (aand @t6 (aand @t1 (aand @eq0 (aand @q2 (aand @q3 (aand @oa (aand @ob (aand @a1 (aand @b1 (aand @hn (aand @ar_get @ar_fit)))))))))))); refine dS 0 ?_; refine dS 1 ?_; refine dS 2 ?_; refine dS 3 ?_; refine dR 4 ?_; refine dS 5 ?_; refine dS 6 ?_; refine dS 7 ?_; refine dS 8 ?_; refine dR 9 ?_; refine dC ((heq)) 10 ?_; refine dS 11 ?_; (try clear F); first | refine dN ?_ | refine dB ?_ | refine DA.done (by decide +kernel) ?_
  have hga := hrest a (by omega)
  have hgb := hrest b (by omega)
  have hka : keepTo d (a + 1) = keepTo d a ++ (if cmpV (gt d a).1 (gt d b).1 ≠ 0 then [gt d a] else []) := by
    rw [keepTo, show a - 1 = b from by omega]; simp [show a ≠ 0 from by omega]
  rw [← ha] at hpre
  by_cases hc2 : cmpV (gt d1 a).1 (gt d1 b).1 = 0
  · have F := (aand @hc2 @t7); refine tFa ?_; (try clear F)
    refine ⟨q + 1, ⟨by omega, by omega, i, d1, by omega, by simp [upd_lit], by simp [upd_lit, t5], by simp [upd_lit, t6], by simp [upd_lit, t0], by simp [upd_lit, t1], hs, ?_, fun x hx => hrest x (by omega), rfl⟩, by omega⟩
    rw [show k + (q + 1) = a + 1 from by omega, hka, if_neg (by rw [← hga, ← hgb]; simp [hc2]), List.append_nil]; exact hpre
  · have F := (aand @hc2 (aand @t7 (aand @t5 (aand @t6 (aand @t0 (aand @q2 (aand @oa (aand @a1 (aand @i1 (aand @i2 (aand @hn (aand @ar_get (aand @ar_fit (aand @ar_set @setLoc_setLoc)))))))))))))); refine tFa ?_; (try clear F)
    refine ⟨q + 1, ⟨by omega, by omega, i + 1, d1.setIfInBounds i (gt d1 a), by omega, by simp [upd_lit], by simp [upd_lit], by simp [upd_lit, t6], by simp [upd_lit, t0], by simp [upd_lit, t1], by simp [hs], ?_, fun x hx => by rw [gt_set_ne _ _ _ _ (by omega)]; exact hrest x (by omega), rfl⟩, by omega⟩
    rw [show k + (q + 1) = a + 1 from by omega, hka, if_pos (by rw [← hga, ← hgb]; exact hc2), take_set d1 i _ i1, hpre, hga]
end Go.Proofs.YtgfadepkiejncaaGreat
namespace Go.Proofs.YtgfadepkiejncaaGreat
open Go.Ab Go.Sort
set_option maxHeartbeats 0
set_option maxRecDepth 100000
theorem keepTo_spec (R : Array GG) (L : Nat) (hL : R.size = L) (hs : SortedIn ltG 0 L R) : ∀ a, a ≤ L →
    Inc ((keepTo R a).map (·.1)) ∧ (∀ z : GG, z ∈ keepTo R a ↔ ∃ k, k < a ∧ gt R k = z)
  | 0, _ => ⟨List.Pairwise.nil, fun z => by simp [keepTo]⟩
  | a + 1, h => by
    obtain ⟨h1, h2⟩ := keepTo_spec R L hL hs a (by omega)
    have mono : ∀ i j, i ≤ j → j < L → cmpV (gt R i).1 (gt R j).1 ≤ 0 := by
      intro i j hij hj
      by_cases e : i = j
      · subst e; rw [cmp_self]; omega
      · have := hs i j (by omega) (by omega) hj
        have h3 : ¬ cmpV (gt R j).1 (gt R i).1 < 0 := by
          intro q; have : ltG R[j]! R[i]! = true := by simp [gt_eq, ltG, q]
          simp_all
        have := cmp_neg (gt R i).1 (gt R j).1
        omega
    rw [keepTo]
    by_cases hc : a = 0 ∨ cmpV (gt R a).1 (gt R (a - 1)).1 ≠ 0
    · rw [if_pos hc]
      refine ⟨?_, fun z => ?_⟩
      · rw [List.map_append]
        refine List.pairwise_append.2 ⟨h1, List.pairwise_singleton _ _, ?_⟩
        intro x hx y hy
        simp at hy
        subst hy
        obtain ⟨w, hw, rfl⟩ := List.mem_map.1 hx
        obtain ⟨k, hk, rfl⟩ := (h2 w).1 hw
        have ha : a ≠ 0 := by omega
        have hc2 : cmpV (gt R a).1 (gt R (a - 1)).1 ≠ 0 := hc.resolve_left ha
        have m1 := mono k (a - 1) (by omega) (by omega)
        have m2 := mono (a - 1) a (by omega) (by omega)
        have m3 := cmp_neg (gt R (a - 1)).1 (gt R a).1
        have m4 : cmpV (gt R (a - 1)).1 (gt R a).1 < 0 := by omega
        by_cases e : cmpV (gt R k).1 (gt R (a - 1)).1 = 0
        · rw [cmp_zero _ _ (gt R k).2 (gt R (a - 1)).2 e]; exact m4
        · exact cmp_trans _ _ _ (gt R k).2 (gt R (a - 1)).2 (gt R a).2 (by omega) m4
      · rw [List.mem_append, h2]
        constructor
        · rintro (⟨k, hk, e⟩ | e)
          · exact ⟨k, by omega, e⟩
          · simp at e; exact ⟨a, by omega, e.symm⟩
        · rintro ⟨k, hk, e⟩
          by_cases hka : k = a
          · subst hka; exact .inr (by simp [e])
          · exact .inl ⟨k, by omega, e⟩
    · rw [if_neg hc, List.append_nil]
      refine ⟨h1, fun z => ?_⟩
      rw [h2]
      have ha : a ≠ 0 := fun e => hc (.inl e)
      have hc2 : cmpV (gt R a).1 (gt R (a - 1)).1 = 0 := by
        by_cases e : cmpV (gt R a).1 (gt R (a - 1)).1 = 0
        · exact e
        · exact absurd (.inr e) hc
      have he : gt R a = gt R (a - 1) := Subtype.ext (cmp_zero _ _ (gt R a).2 (gt R (a - 1)).2 hc2)
      constructor
      · rintro ⟨k, hk, e⟩; exact ⟨k, by omega, e⟩
      · rintro ⟨k, hk, e⟩
        by_cases hka : k = a
        · subst hka; exact ⟨k - 1, by omega, by rw [← he]; exact e⟩
        · exact ⟨k, by omega, e⟩
theorem perm_mem {d R : Array GG} (h : PermIn 0 d.size d R) (z : GG) : z ∈ R.toList ↔ z ∈ d.toList := by
  have h3 := h.2.2
  have e1 : (d.extract 0 d.size).toList = d.toList := by simp
  have e2 : (R.extract 0 d.size).toList = R.toList := by rw [← h.1]; simp
  rw [e1, e2] at h3
  exact h3.mem_iff
theorem mem_gt (R : Array GG) (z : GG) : z ∈ R.toList ↔ ∃ k, k < R.size ∧ gt R k = z := by
  rw [List.mem_iff_getElem]
  constructor
  · rintro ⟨k, hk, e⟩; exact ⟨k, by simpa using hk, by rw [← gt_toList R k (by simpa using hk)]; exact e⟩
  · rintro ⟨k, hk, e⟩; exact ⟨k, by simpa using hk, by rw [gt_toList R k hk]; exact e⟩
theorem sorted_setF (l : List GV) (g : goods l) (d D R : Array GG) (hd : d.toList.map (·.1) = l) (hD : D.toList = d.toList.filter nzG) (hR : PermIn 0 D.size D R) (hs : SortedIn ltG 0 D.size R) :
    (keepTo R D.size).map (·.1) = setF l := by
  obtain ⟨h1, h2⟩ := keepTo_spec R D.size hR.1 hs D.size (Nat.le_refl _)
  refine setF_eq g h1 fun z => ?_
  subst hd
  constructor
  · intro hz
    obtain ⟨w, hw, rfl⟩ := List.mem_map.1 hz
    have : w ∈ R.toList := (mem_gt R w).2 (by rw [hR.1]; exact (h2 w).1 hw)
    rw [perm_mem hR, hD, List.mem_filter] at this
    exact ⟨List.mem_map.2 ⟨w, this.1, rfl⟩, by simpa [nzG] using this.2⟩
  · rintro ⟨hz, hk⟩
    obtain ⟨w, hw, rfl⟩ := List.mem_map.1 hz
    have : w ∈ R.toList := by rw [perm_mem hR, hD, List.mem_filter]; exact ⟨hw, by simpa [nzG] using hk⟩
    exact List.mem_map.2 ⟨w, (h2 w).2 (by rw [← hR.1]; exact (mem_gt R w).1 this), rfl⟩
end Go.Proofs.YtgfadepkiejncaaGreat
namespace Go.Proofs.YtgfadepkiejncaaGreat
open Go.Ab Go.Sort
set_option maxHeartbeats 0
set_option maxRecDepth 100000
attribute [local irreducible] AW AList ACall DA AExit.then AExit.inBlock YCall DCall
def mkL : (l : List GV) → goods l → List GG
  | [], _ => []
  | v :: l, g => ⟨v, g v (by simp)⟩ :: mkL l (fun x hx => g x (by simp [hx]))
theorem mkL_map : ∀ (l : List GV) (g : goods l), (mkL l g).map (·.1) = l
  | [], _ => rfl
  | v :: l, g => congrArg (v :: ·) (mkL_map l fun x hx => g x (by simp [hx]))
def mkG (l : List GV) (g : goods l) : Array GG := (mkL l g).toArray
theorem mkG_list (l : List GV) (g : goods l) : (mkG l g).toList.map (·.1) = l := by rw [mkG, List.toList_toArray, mkL_map]
theorem mkG_size (l : List GV) (g : goods l) : (mkG l g).size = l.length := by
  have := congrArg List.length (mkG_list l g)
  simpa using this
theorem chunk_rows : ∀ (l : List GV) (r : List PV), chunk 6 l.length ((GV.rows l).flatten ++ r) = GV.rows l
  | [], _ => rfl
  | v :: l, r => by
    simp only [List.length_cons, chunk, GV.rows, List.flatten_cons, List.append_assoc]
    rw [List.take_left' (cells_len v), List.drop_left' (cells_len v), chunk_rows l r]
theorem sortedG (l : List GV) (g : goods l) (h0 : l ≠ []) (hl : l.length ≤ 1000000) : Gives Tryz.prog 96 [GV.pvs l] (.agg (GV.mk 8 0 false [] ⟨#[]⟩ (setF l)).cells) := by
  intro m
  refine ACall.of_aw Tryz.func96 Tryz.ntmps96 rfl rfl (by simp) ?_
  refine tS ?_
  refine tS1 fun K Kp hK hKp => ?_; refine ACall.mono (cloneG l h0 hl _) ?_
  rintro _ _ ⟨rfl, rfl⟩
  refine hK _ _ ?_; clear hK hKp K Kp
  have hlen : (mkG l g).size = l.length := mkG_size l g
  obtain ⟨m1, hm1⟩ : ∃ m1, m1 = m.newLoc [vI 0, vI 0, vB false, .list .full [], .v (.string ⟨#[]⟩), .list .full []] := ⟨_, rfl⟩
  have H : Arr (m1.newLoc (GV.rows l).flatten) m1.nloc l.length (mkG l g) [] :=
    ⟨by simp, by rw [ar, mkG_list, List.append_nil]; simp, hlen, by omega⟩
  rw [← hm1]
  refine tS1 fun K Kp hK hKp => ?_; refine ACall.mono (deleteG H (fun _ _ => trivial) (Nat.le_refl _)) ?_
  rintro _ _ ⟨D, r2, hD, hr2, rfl, rfl⟩
  refine hK _ _ ?_; clear hK hKp K Kp
  have hDl : D.size ≤ l.length := by
    have := congrArg List.length hD
    have h2 := List.length_filter_le nzG (mkG l g).toList
    simp only [Array.length_toList] at this h2
    omega
  have H2 : Arr ((m1.newLoc (GV.rows l).flatten).setLoc m1.nloc (ar D r2)) m1.nloc D.size D r2 := ⟨by simp, by simp, rfl, by omega⟩
  refine tS ?_
  refine tS1 fun K Kp hK hKp => ?_; refine ACall.mono (sortG H2 hr2) ?_
  rintro _ _ ⟨R, hR1, hR2, rfl, rfl⟩
  refine hK _ _ ?_; clear hK hKp K Kp
  rw [setLoc_setLoc]
  have H3 : Arr ((m1.newLoc (GV.rows l).flatten).setLoc m1.nloc (ar R r2)) m1.nloc D.size R r2 := ⟨by simp, by simp, hR1.1, by omega⟩
  refine tS ?_
  refine tS1 fun K Kp hK hKp => ?_; refine ACall.mono (compactG H3 hr2 hDl) ?_
  rintro _ _ ⟨E, r3, hE, hr3, rfl, rfl⟩
  refine hK _ _ ?_; clear hK hKp K Kp
  rw [setLoc_setLoc]
  have hset := sorted_setF l g (mkG l g) D R (mkG_list l g) hD hR1 hR2
  rw [← hE] at hset
  refine tS1 fun K Kp hK hKp => ?_
  refine hK _ _ ?_; clear hK hKp K Kp
  refine AList.nil ?_
  refine AExit.norT ?_
  have hEl : E.size = (setF l).length := by
    have := congrArg List.length hset
    simpa using this
  have hEs : E.size ≤ l.length := by rw [hEl]; exact setF_len l
  have hsee := Sees.fz (m := (m1.newLoc (GV.rows l).flatten).setLoc m1.nloc (ar E r3)) (p := mar m1.nloc E.size l.length) (n := m1.nloc) (s := 6) (cs := ar E r3) (by simp) (by simp)
  have hch : PV.fz m1.nloc 6 (ar E r3) (mar m1.nloc E.size l.length) = GV.pvs (setF l) := by
    rw [PV.fz, if_pos ⟨rfl, hEs, by rw [ar_len]; omega⟩]
    have e1 : ((ar E r3).drop 0).take (E.size * 6) = (GV.rows (setF l)).flatten := by
      rw [List.drop_zero, ar, hset, hEl]
      exact List.take_left' (by rw [rows_flat_len])
    have e2 := chunk_rows (setF l) []
    rw [List.append_nil] at e2
    rw [e1, hEl, e2]
  rw [hch] at hsee
  refine AW.sees (d := 0) (p' := GV.pvs (setF l)) (m' := ((m1.newLoc (GV.rows l).flatten).setLoc m1.nloc (ar E r3)).dropLoc m1.nloc) (by simp only [upd_lit]; exact hsee) ?_
  subst hm1
  refine tS ?_
  refine Fin.givesC (p := .agg [vI 8, vI 0, vB false, .list .full [], vS ⟨#[]⟩, GV.pvs (setF l)]) rfl ?_ ?_ (by simp [GV.cells, limbs])
  · simp [upd_lit]; omega
  · refine Same.dropLoc ?_ (by simp) |>.setLoc (by simp) _
    refine Same.setLoc ?_ (by simp) _
    exact Same.auto
end Go.Proofs.YtgfadepkiejncaaGreat
namespace Go.Proofs.YtgfadepkiejncaaGreat
open Go.Ab Go.Sort
set_option maxHeartbeats 0
set_option maxRecDepth 100000
attribute [local irreducible] AW AList ACall DA AExit.then AExit.inBlock YCall DCall
theorem index0 : Gives Tryz.prog 148 [.list .no [], cloO] (vI (-1)) := by
  intro m
  refine ACall.of_aw Tryz.func148 Tryz.ntmps148 rfl rfl (by simp) ?_
  refine tS ?_
  refine AW.loop (ι := Nat) (fun _ σ m' => σ 8 = vI 0 ∧ σ 7 = vI 0 ∧ m' = m) (fun i => i) 0 ?_ ?_
  · exact ⟨by simp [upd_lit], by simp [upd_lit], rfl⟩
  rintro i σ m' ⟨t8, t7, rfl⟩
  have F := (aand @t8 @t7); refine tFa ?_; (try clear F)
  exact Fin.gives Same.auto
theorem delete0 : Gives Tryz.prog 140 [.list .no [], cloO] (.list .no []) := by
  intro m
  refine ACall.of_aw Tryz.func140 Tryz.ntmps140 rfl rfl (by simp) ?_
  refine tS ?_
  refine tS1 fun K Kp hK hKp => ?_; refine Gives.at (index0) ?_; apply hK; clear hK hKp K Kp
  refine tSa ?_
  exact Fin.gives Same.auto
theorem compact0 : Gives Tryz.prog 144 [.list .no [], cloE] (.list .no []) := by
  intro m
  refine ACall.of_aw Tryz.func144 Tryz.ntmps144 rfl rfl (by simp) ?_
  refine tSa ?_
  exact Fin.gives Same.auto
theorem insertion0 : Gives Tryz.prog 175 [.list .no [], vI 0, vI 0, cloC] (.tup []) := by
  intro m
  refine ACall.of_aw Tryz.func175 Tryz.ntmps175 rfl rfl (by simp) ?_
  refine tS ?_
  refine AW.loop (ι := Nat) (fun _ σ m' => σ 8 = vI 1 ∧ σ 2 = vI 0 ∧ m' = m) (fun i => i) 0 ?_ ?_
  · exact ⟨by simp [upd_lit], by simp [upd_lit], rfl⟩
  rintro i σ m' ⟨t8, t2, rfl⟩
  have F := (aand @t8 @t2); refine tFa ?_; (try clear F)
  exact Fin.here (r := .tup []) (by exact ⟨[], rfl, rfl⟩) (.inl rfl) ⟨rfl, rfl⟩
theorem pdq0 : Gives Tryz.prog 165 [.list .no [], vI 0, vI 0, vI 0, cloC] (.tup []) := by
  intro m
  refine ACall.of_aw Tryz.func165 Tryz.ntmps165 rfl rfl (by simp) ?_
  refine tS ?_
  refine AW.loop (ι := Nat) (fun _ σ m' => σ 0 = .list .no [] ∧ σ 1 = vI 0 ∧ σ 2 = vI 0 ∧ σ 4 = cloC ∧ m' = m) (fun i => i) 0 ?_ ?_
  · exact ⟨by simp [upd_lit], by simp [upd_lit], by simp [upd_lit], by simp [upd_lit], rfl⟩
  rintro i σ m' ⟨t0, t1, t2, t4, rfl⟩
  have F := (aand @t0 (aand @t1 (aand @t2 @t4))); refine tFa ?_; (try clear F)
  refine tS1 fun K Kp hK hKp => ?_; refine Gives.at (insertion0) ?_; apply hK; clear hK hKp K Kp
  refine tSa ?_
  exact Fin.here (r := .tup []) (by exact ⟨[], rfl, rfl⟩) (.inr rfl) ⟨rfl, rfl⟩
theorem sort0 : Gives Tryz.prog 143 [.list .no [], cloC] (.tup []) := by
  intro m
  refine ACall.of_aw Tryz.func143 Tryz.ntmps143 rfl rfl (by simp) ?_
  have hb : ((bitsLen 0 : Nat) : Int) = 0 := rfl
  refine tS ?_
  refine tS1 fun K Kp hK hKp => ?_; refine Gives.at (bitsLenG 0 (by omega)) ?_; apply hK; clear hK hKp K Kp
  have F := @hb; refine tF ?_; (try clear F)
  refine tS1 fun K Kp hK hKp => ?_; refine Gives.at (pdq0) ?_; apply hK; clear hK hKp K Kp
  refine tS ?_
  exact Fin.here (r := .tup []) (by exact ⟨[], rfl, rfl⟩) (.inl rfl) ⟨rfl, rfl⟩
theorem clone0 : Gives Tryz.prog 141 [.list .no []] (.list .no []) := by
  intro m
  refine ACall.of_aw Tryz.func141 Tryz.ntmps141 rfl rfl (by simp) ?_
  refine tS ?_
  refine AList.op (by decide) ?_; intro K Kp hK hKp; simp [upd_lit]
  refine ⟨?_, ?_⟩
  · apply hK; clear hK hKp K Kp
    refine tSa ?_
    refine AList.op (by decide) ?_; intro K Kp hK hKp; simp [upd_lit]
    refine app25 (l := []) (l' := []) (m0 := m) (.full (Same.refl m)) rfl (by simp) fun o' m'' ho' _ => hK _ _ ?_; clear hK hKp K Kp
    refine tS ?_
    exact Fin.ret rfl ho'.1 (by simp [upd_lit]; rfl) (by simp) ⟨rfl, rfl⟩
  · apply hK; clear hK hKp K Kp
    refine tS ?_
    refine AW.cond (t := true) (by simp [upd_lit]) (fun _ => ?_) (fun h => by cases h)
    refine tSn ?_
    refine AW.nilS (d := 2) (by simp [upd_lit]) ?_
    refine tS ?_
    exact Fin.ret rfl (Same.refl m) (by simp [upd_lit]) (by simp) ⟨rfl, rfl⟩
theorem sorted0 : Gives Tryz.prog 96 [GV.pvs []] (.agg (GV.mk 8 0 false [] ⟨#[]⟩ (setF [])).cells) := by
  intro m
  have e : setF [] = [] := List.length_eq_zero_iff.1 (Nat.le_zero.1 (setF_len []))
  rw [e]
  refine ACall.of_aw Tryz.func96 Tryz.ntmps96 rfl rfl (by simp) ?_
  refine tS ?_
  refine tS1 fun K Kp hK hKp => ?_; refine Gives.at (clone0) ?_; apply hK; clear hK hKp K Kp
  refine tS ?_
  refine tS1 fun K Kp hK hKp => ?_; refine Gives.at (delete0) ?_; apply hK; clear hK hKp K Kp
  refine tS ?_
  refine tS1 fun K Kp hK hKp => ?_; refine Gives.at (sort0) ?_; apply hK; clear hK hKp K Kp
  refine tS ?_
  refine tS1 fun K Kp hK hKp => ?_; refine Gives.at (compact0) ?_; apply hK; clear hK hKp K Kp
  refine tS ?_
  refine Fin.givesC (p := .agg [vI 8, vI 0, vB false, .list .full [], vS ⟨#[]⟩, .list .no []]) rfl (by simp [upd_lit]) Same.auto (by rfl)
end Go.Proofs.YtgfadepkiejncaaGreat
namespace Go.Proofs.YtgfadepkiejncaaGreat
open Go.Ab Go.Sort
set_option maxHeartbeats 0
set_option maxRecDepth 100000
attribute [local irreducible] AW AList ACall DA AExit.then AExit.inBlock YCall DCall
theorem val_sorted (l : List GV) (g : goods l) (hl : l.length ≤ 1000000) : Gives Tryz.prog 96 [GV.pvs l] (setV (setF l)).pv := by
  by_cases h0 : l = []
  · subst h0; exact sorted0
  · exact sortedG l g h0 hl
theorem setF_nodes (l : List GV) (g : goods l) : nodesL (setF l) ≤ nodesL l := by
  obtain ⟨s1, s2, s3⟩ := setF_spec _ g
  exact nodesL_sub (Inc_nodup s1) fun x hx => ((s3 x).1 hx).1
theorem val_set (l : List GV) (g : goods l) (hl : l.length ≤ 1000000) (hn : nodesL l < 1000000000) : Gives Tryz.prog 41 [GV.pvs l] (outP (fitV (setV (setF l))) (fitE (setV (setF l)))) := by
  have h1 := setF_nodes l g
  obtain ⟨s1, s2, s3⟩ := setF_spec _ g
  have en : nodes (setV (setF l)) = 1 + nodesL (setF l) := nodes_eq _
  intro m
  refine ACall.of_aw Tryz.func41 Tryz.ntmps41 rfl rfl (by simp) ?_
  refine tS ?_
  refine tS1 fun K Kp hK hKp => ?_; refine Gives.at (val_sorted l g hl) ?_; apply hK; clear hK hKp K Kp
  refine tS ?_
  refine tS1 fun K Kp hK hKp => ?_; refine Gives.at (val_sized (setV (setF l)) (by omega) (small_list s2)) ?_; apply hK; clear hK hKp K Kp
  refine tS ?_
  refine Fin.ret (p := outP (fitV (setV (setF l))) (fitE (setV (setF l)))) ?_ Same.auto (by simp) (by simp) ⟨rfl, rfl⟩
  simp [ResP, ResL, resV, upd_lit, show Tryz.f41.results.toList = [.cell 2 27, .tmp 3] from rfl]
def tmN (l : List GV) : Nat → Nat
  | 0 => 0
  | n + 1 => if (l[n]?.getD default).kind = 0 then tmN l n else n + 1
theorem tmN_le (l : List GV) : ∀ n, tmN l n ≤ n
  | 0 => Nat.le_refl _
  | n + 1 => by
    rw [tmN]; split
    · have := tmN_le l n; omega
    · omega
def tmF (l : List GV) : List GV := l.take (tmN l l.length)
abbrev tupV (l : List GV) : GV := .mk 7 0 false [] ⟨#[]⟩ l
theorem tmF_len (l : List GV) : (tmF l).length = tmN l l.length := by
  have := tmN_le l l.length
  rw [tmF, List.length_take]; omega
theorem tm_goods {l : List GV} (g : goods l) : goods (tmF l) := fun x hx => g x (List.mem_of_mem_take hx)
theorem slice3 (l : List GV) (n : Nat) (hn : n ≤ l.length) (m : St) (K : PV → St → Prop) (h : K (.list .full (GV.rows (l.take n))) m) : aslice Tryz.prog 25 (GV.pvs l) none (some (vI n)) (some (vI n)) m K := by
  simp [aslice, abnd, rows_take]; exact ⟨hn, h⟩
theorem val_tuple (l : List GV) (g : goods l) (hl : l.length ≤ 1000000) (hn : nodesL l < 1000000000) : Gives Tryz.prog 40 [GV.pvs l] (outP (fitV (tupV (tmF l))) (fitE (tupV (tmF l)))) := by
  have h1 := nodesL_take_le l (tmN l l.length)
  have en : nodes (tupV (tmF l)) = 1 + nodesL (l.take (tmN l l.length)) := nodes_eq _
  intro m
  refine ACall.of_aw Tryz.func40 Tryz.ntmps40 rfl rfl (by simp) ?_
  refine tS ?_
  generalize hmm : m.newLoc _ = mm
  have sm : Same m mm := by rw [← hmm]; exact Same.auto
  have g0 : mm.loc m.nloc = some [vI 0, vI 0, vB false, .list .full [], vS ⟨#[]⟩, .list .full []] := by rw [← hmm]; simp
  have n0 : m.nloc < mm.nloc := by rw [← hmm]; simp
  clear hmm
  refine AW.loop (ι := Nat) (fun n σ m' => n ≤ l.length ∧ tmN l n = tmN l l.length ∧ σ 0 = GV.pvs l ∧ σ 2 = .loc m.nloc 0 ∧ σ 4 = vI n ∧ m' = mm) (fun n => n) l.length ?_ ?_
  · exact ⟨by simp, rfl, by simp [upd_lit], by simp [upd_lit], by simp [upd_lit], rfl⟩
  rintro n σ m' ⟨hn', ht, t0, t2, t4, rfl⟩
  have tk : ∀ (h : tmN l n = n), tmF l = l.take n := fun h => by rw [tmF, ← ht, h]
  have en' : ∀ k : Nat, nodes (tupV (l.take k)) = 1 + nodesL (l.take k) := fun k => nodes_eq _
  have gt : ∀ k : Nat, goods (l.take k) := fun k x hx => g x (List.mem_of_mem_take hx)
  have fin : ∀ (q : Nat), nodesL (l.take q) ≤ nodesL l := fun q => nodesL_take_le l q
  cases n with
  | zero =>
    have e := tk rfl
    rw [e]
    have := fin 0
    have := en' 0
    have F := (aand @t0 @t4); refine tFa ?_; (try clear F)
    have F := (aand @t0 @t4); refine tF1 fun K Kp hK hKp => ?_; (try clear F)
    refine slice3 l 0 (by omega) _ _ ?_
    apply hK; clear hK hKp K Kp
    refine tS ?_
    refine tS1 fun K Kp hK hKp => ?_; refine Gives.at (val_sized (tupV (l.take 0)) (by omega) (small_list (gt _))) ?_; apply hK; clear hK hKp K Kp
    have F := (aand @t2 (aand @g0 @n0)); refine tF ?_; (try clear F)
    refine Fin.ret (p := outP (fitV (tupV (l.take 0))) (fitE (tupV (l.take 0)))) ?_ (sm.setLoc (by omega) _) (by simp) (by simp) ⟨rfl, rfl⟩
    simp [ResP, ResL, resV, upd_lit, t2, n0, show Tryz.f40.results.toList = [.cell 2 27, .tmp 3] from rfl]
  | succ n =>
    have hlt : n < l.length := by omega
    have e1 : (l[n]?.getD default) = l[n] := by rw [List.getElem?_eq_getElem hlt, Option.getD_some]
    obtain ⟨q, hq⟩ : ∃ q : Int, q = ((n + 1 : Nat) : Int) := ⟨_, rfl⟩
    have e8 : q - 1 = (n : Int) := by omega
    have e9 : 0 < q := by omega
    rw [← hq] at t4
    by_cases hk : l[n].kind = 0
    · rw [tmN, e1, if_pos hk] at ht
      have F := (aand @t0 (aand @t4 (aand @e8 (aand @e9 (aand @hlt (aand @rows_getD @hk)))))); refine tFg ?_; (try clear F)
      refine tSa ?_
      have F := (aand @t4 @e8); refine tF ?_; (try clear F)
      exact ⟨n, ⟨by omega, ht, by simp [upd_lit, t0], by simp [upd_lit, t2], by simp [upd_lit], rfl⟩, by omega⟩
    · have e := tk (by rw [tmN, e1, if_neg hk])
      rw [e]
      have := fin (n + 1)
      have := en' (n + 1)
      have F := (aand @t0 (aand @t4 (aand @e8 (aand @e9 (aand @hlt (aand @rows_getD @hk)))))); refine tFg ?_; (try clear F)
      refine tSa ?_
      have F := (aand @t0 @t4); refine tF1 fun K Kp hK hKp => ?_; (try clear F)
      rw [hq]
      refine slice3 l (n + 1) hn' _ _ ?_
      apply hK; clear hK hKp K Kp
      refine tS ?_
      refine tS1 fun K Kp hK hKp => ?_; refine Gives.at (val_sized (tupV (l.take (n + 1))) (by omega) (small_list (gt _))) ?_; apply hK; clear hK hKp K Kp
      have F := (aand @t2 (aand @g0 @n0)); refine tF ?_; (try clear F)
      refine Fin.ret (p := outP (fitV (tupV (l.take (n + 1)))) (fitE (tupV (l.take (n + 1))))) ?_ (sm.setLoc (by omega) _) (by simp) (by simp) ⟨rfl, rfl⟩
      simp [ResP, ResL, resV, upd_lit, t2, n0, show Tryz.f40.results.toList = [.cell 2 27, .tmp 3] from rfl]
end Go.Proofs.YtgfadepkiejncaaGreat
namespace Go.Proofs.YtgfadepkiejncaaGreat
open Go.Ab Go.Sort
set_option maxHeartbeats 0
set_option maxRecDepth 100000
attribute [local irreducible] AW AList ACall DA AExit.then AExit.inBlock YCall DCall
theorem fieldsF_set (l : List GV) : fieldsF (setV l) = true := by simp [fieldsF, GV.kind, GV.neg, GV.abs, GV.str, GV.els, GV.num]
theorem set_goodI {l : List GV} (g : goods l) (hi : Inc l) (h0 : ∀ x ∈ l, x.kind ≠ 0) (hlen : l.length < 1000000) : good (setV l) := by
  refine ⟨?_, setV_ok g hlen⟩
  rw [fmd_eq]
  exact ⟨⟨fieldsF_set l, by rfl, by simp [GV.abs], by show (0 : Nat) ≤ 1000; omega⟩, fun _ => ⟨h0, (incr_none g).2 hi⟩, (fmdL_iff _).2 fun x hx => (g x hx).1⟩
theorem setF_goodI {l : List GV} (g : goods l) (hlen : l.length < 1000000) : good (setV (setF l)) := by
  obtain ⟨s1, s2, s3⟩ := setF_spec _ g
  exact set_goodI s2 s1 (fun x hx => ((s3 x).1 hx).2) (Nat.lt_of_le_of_lt (setF_len l) hlen)
end Go.Proofs.YtgfadepkiejncaaGreat
namespace Go.Proofs.YtgfadepkiejncaaGreat
open Go.Ab Go.Sort
set_option maxHeartbeats 0
set_option maxRecDepth 100000
attribute [local irreducible] AW AList ACall DA AExit.then AExit.inBlock YCall DCall
def allF (l : List GV) : Bool := decide (l.length ≤ 60) && l.all formedF
theorem all_false' {f : GV → Bool} {l : List GV} (i : Nat) (h : i < l.length) (hf : f l[i] = false) : l.all f = false := by
  rw [List.all_eq_false]; exact ⟨l[i], List.getElem_mem h, by simp [hf]⟩
theorem law_all (l : List GV) (hl : GV.okL l) : Gives Tryz.prog 39 [GV.pvs l] (vB (allF l)) := by
  intro m
  refine ACall.of_aw Tryz.func39 Tryz.ntmps39 rfl rfl (by simp) ?_
  by_cases h60 : 60 < (l.length : Int)
  · have e : allF l = false := by simp [allF]; omega
    have F := @h60; refine tFa ?_; (try clear F)
    exact Fin.ret rfl Same.auto (by simp [upd_lit]; rfl) (by simp) ⟨by rw [e], rfl⟩
  have h60' : l.length ≤ 60 := by omega
  have F := @h60; refine tFa ?_; (try clear F)
  refine AW.loop (ι := Nat) (fun i σ m' => i ≤ l.length ∧ (∀ j (h : j < l.length), j < i → formedF l[j] = true) ∧ σ 3 = vI i ∧ σ 0 = GV.pvs l ∧ m' = m) (fun i => l.length - i) 0 ?_ ?_
  · exact ⟨by simp, fun j _ h => by omega, by simp [upd_lit], by simp [upd_lit], rfl⟩
  rintro i σ m' ⟨hi, hj, t3, t0, rfl⟩
  by_cases hlt : i < l.length
  · have hoi := okL_get _ i hlt hl
    have F := (aand @t3 (aand @t0 @hlt)); refine tFa ?_; (try clear F)
    have F := (aand @t3 (aand @t0 (aand @hlt @rows_getD))); refine tF ?_; (try clear F)
    have F := (aand @hlt @rows_getD); refine tF1 fun K Kp hK hKp => ?_; (try clear F); refine Gives.at (law_formed l[i] hoi) ?_; apply hK; clear hK hKp K Kp
    cases hc : formedF l[i] with
    | false =>
      have e : allF l = false := by rw [allF, all_false' i hlt hc, Bool.and_false]
      refine tSa ?_
      exact Fin.ret rfl Same.auto (by simp [upd_lit]; rfl) (by simp) ⟨by rw [e], rfl⟩
    | true =>
      refine tSa ?_
      have F := @t3; refine tF ?_; (try clear F)
      refine ⟨i + 1, ⟨by omega, ?_, by simp [upd_lit], by simp [upd_lit, t0], rfl⟩, by omega⟩
      intro j h hj'
      by_cases e : j = i
      · subst e; exact hc
      · exact hj j h (by omega)
  · have F := (aand @t3 (aand @t0 @hlt)); refine tFa ?_; (try clear F)
    have e : allF l = true := by
      rw [allF, decide_eq_true h60', Bool.true_and, List.all_eq_true]
      intro x hx
      obtain ⟨j, hj1, rfl⟩ := List.getElem_of_mem hx
      exact hj j hj1 (by omega)
    exact Fin.ret rfl Same.auto (by simp [upd_lit]; rfl) (by simp) ⟨by rw [e], rfl⟩
theorem okL_all {l : List GV} (h : GV.okL l) (hf : allF l = true) : l.length ≤ 60 ∧ (∀ x ∈ l, Fm x) := by
  simp only [allF, Bool.and_eq_true, decide_eq_true_eq, List.all_eq_true] at hf
  exact ⟨hf.1, fun x hx => formed_Fm ((okL_iff l).1 h x hx) (hf.2 x hx)⟩
theorem nodesL_le {n : Nat} : ∀ (l : List GV), (∀ x ∈ l, nodes x ≤ n) → nodesL l ≤ l.length * n
  | [], _ => by simp [nodesL]
  | v :: l, h => by
    have h1 := h v (by simp)
    have h2 := nodesL_le l fun x hx => h x (by simp [hx])
    simp only [nodesL, List.length_cons, Nat.add_mul]
    omega
end Go.Proofs.YtgfadepkiejncaaGreat
namespace Go.Proofs.YtgfadepkiejncaaGreat
open Go.Ab Go.Sort
set_option maxHeartbeats 0
set_option maxRecDepth 100000
attribute [local irreducible] AW AList ACall DA AExit.then AExit.inBlock YCall DCall
def pairB (v : GV) : Bool := decide (v.kind = 7) && decide ((v.els.length : Int) = 2) && !decide ((v.els[0]?.getD default).kind = 0) && !decide ((v.els[1]?.getD default).kind = 0)
theorem val_isPair (v : GV) : Gives Tryz.prog 50 [v.pv] (vB (pairB v)) := by
  intro m
  refine ACall.of_aw Tryz.func50 Tryz.ntmps50 rfl rfl (by simp) ?_
  by_cases h1 : v.kind = 7
  rotate_left
  · have F := @h1; refine tFg ?_; (try clear F)
    exact Fin.gives Same.auto rfl (by simp [upd_lit, pairB, h1])
  by_cases h2 : (v.els.length : Int) = 2
  rotate_left
  · have F := (aand @h1 @h2); refine tFg ?_; (try clear F)
    exact Fin.gives Same.auto rfl (by simp [upd_lit, pairB, h1, h2])
  obtain ⟨a, b, e⟩ : ∃ a b, v.els = [a, b] := by
    match h : v.els, h2 with
    | [a, b], _ => exact ⟨a, b, rfl⟩
    | [], h2 => simp at h2
    | [a], h2 => simp at h2
    | a :: b :: c :: l, h2 => simp at h2; omega
  have r0 : rowI (GV.rows [a, b]) 0 = a.cells := rows_getD [a, b] 0 (by simp)
  have r1 : rowI (GV.rows [a, b]) 1 = b.cells := rows_getD [a, b] 1 (by simp)
  have hp : pairB v = (!decide (a.kind = 0) && !decide (b.kind = 0)) := by simp [pairB, h1, e]
  rw [hp]
  clear h2 hp
  by_cases h3 : a.kind = 0
  · have F := (aand @h1 (aand @e (aand @r0 (aand @r1 @h3)))); refine tFg ?_; (try clear F)
    exact Fin.gives Same.auto rfl (by simp [upd_lit, h3])
  · have F := (aand @h1 (aand @e (aand @r0 (aand @r1 @h3)))); refine tFg ?_; (try clear F)
    exact Fin.gives Same.auto rfl (by simp [upd_lit, h3])
def fxF (p : GV → Bool) : List GV → Int → Int
  | [], _ => -1
  | x :: l, i => if p x then i else fxF p l (i + 1)
theorem fxF_nn (p : GV → Bool) : ∀ (l : List GV) (i : Int), 0 ≤ i → (0 ≤ fxF p l i ↔ l.any p = true)
  | [], i, _ => by simp [fxF]
  | x :: l, i, h => by
    have := fxF_nn p l (i + 1) (by omega)
    cases hx : p x <;> simp [fxF, hx, h] <;> simpa using this
theorem index_val (l : List GV) (p : GV → Bool) (f : FuncId) (hl : l.length < 1152921504606846976) (hf : ∀ x ∈ l, Gives Tryz.prog f [x.pv] (vB (p x))) : Gives Tryz.prog 148 [GV.pvs l, .clo f [] []] (vI (fxF p l 0)) := by
  intro m
  refine ACall.of_aw Tryz.func148 Tryz.ntmps148 rfl rfl (by simp) ?_
  refine tS ?_
  refine AW.loop (ι := Nat) (fun i σ m' => i ≤ l.length ∧ fxF p (l.drop i) i = fxF p l 0 ∧ σ 8 = vI i ∧ σ 7 = vI l.length ∧ σ 0 = GV.pvs l ∧ σ 1 = .clo f [] [] ∧ m' = m) (fun i => l.length - i) 0 ?_ ?_
  · exact ⟨by simp, rfl, by simp [upd_lit], by simp [upd_lit], by simp [upd_lit], by simp [upd_lit], rfl⟩
  rintro i σ m' ⟨hi, hF, t8, t7, t0, t1, rfl⟩
  by_cases hlt : i < l.length
  · rw [List.drop_eq_getElem_cons hlt, fxF] at hF
    have F := (aand @t8 (aand @t7 @hlt)); refine tFa ?_; (try clear F)
    have F := (aand @t0 (aand @t1 (aand @t8 (aand @hlt @rows_getD)))); refine tF ?_; (try clear F)
    have F := (aand @t0 (aand @t1 (aand @hlt @rows_getD))); refine tF1 fun K Kp hK hKp => ?_; (try clear F); refine Gives.at (hf l[i] (List.getElem_mem hlt)) ?_; apply hK; clear hK hKp K Kp
    cases hp : p l[i] with
    | true =>
      rw [hp, if_pos rfl] at hF
      refine tSa ?_
      exact Fin.gives Same.auto rfl (by simp [upd_lit, ← hF])
    | false =>
      rw [hp, if_neg (by simp)] at hF
      refine tSa ?_
      have F := @t8; refine tF ?_; (try clear F)
      exact ⟨i + 1, ⟨by omega, hF, by simp [upd_lit], by simp [upd_lit, t7], by simp [upd_lit, t0], by simp [upd_lit, t1], rfl⟩, by omega⟩
  · have e : i = l.length := by omega
    rw [e, List.drop_length, fxF] at hF
    have F := (aand @t8 (aand @t7 @hlt)); refine tFa ?_; (try clear F)
    exact Fin.gives Same.auto rfl (by simp [upd_lit, ← hF])
theorem contains_val (l : List GV) (p : GV → Bool) (f : FuncId) (hl : l.length < 1152921504606846976) (hf : ∀ x ∈ l, Gives Tryz.prog f [x.pv] (vB (p x))) : Gives Tryz.prog 100 [GV.pvs l, .clo f [] []] (vB (l.any p)) := by
  have e : decide (0 ≤ fxF p l 0) = l.any p := by rw [Bool.eq_iff_iff, decide_eq_true_eq]; exact fxF_nn p l 0 (by omega)
  intro m
  refine ACall.of_aw Tryz.func100 Tryz.ntmps100 rfl rfl (by simp) ?_
  refine tS ?_
  refine tS1 fun K Kp hK hKp => ?_; refine Gives.at (index_val l p f hl hf) ?_; apply hK; clear hK hKp K Kp
  refine tS ?_
  exact Fin.gives Same.auto rfl (by simp [upd_lit, ← e])
theorem clo101 (v : GV) : Gives Tryz.prog 101 [v.pv] (vB (!pairB v)) := by
  intro m
  refine ACall.of_aw Tryz.func101 Tryz.ntmps101 rfl rfl (by simp) ?_
  refine tS ?_
  refine tS1 fun K Kp hK hKp => ?_; refine Gives.at (val_isPair v) ?_; apply hK; clear hK hKp K Kp
  refine tS ?_
  exact Fin.gives Same.auto
def mapB (v : GV) : Bool := decide (v.kind = 8) && v.els.all pairB
theorem val_isMap (v : GV) (hl : v.els.length < 1152921504606846976) : Gives Tryz.prog 52 [v.pv] (vB (mapB v)) := by
  have hc := contains_val v.els (fun x => !pairB x) 101 hl fun x _ => clo101 x
  have e : (v.els.any fun x => !pairB x) = !v.els.all pairB := by rw [List.not_all_eq_any_not]
  rw [e] at hc
  intro m
  refine ACall.of_aw Tryz.func52 Tryz.ntmps52 rfl rfl (by simp) ?_
  by_cases h : v.kind = 8
  · have F := @h; refine tFg ?_; (try clear F)
    have F := @h; refine tFc (hc) ?_; (try clear F)
    have F := @h; refine tFg ?_; (try clear F)
    exact Fin.gives Same.auto rfl (by simp [upd_lit, mapB, h])
  · have F := @h; refine tFg ?_; (try clear F)
    exact Fin.gives Same.auto rfl (by simp [upd_lit, mapB, h])
end Go.Proofs.YtgfadepkiejncaaGreat
namespace Go.Proofs.YtgfadepkiejncaaGreat
open Go.Ab Go.Sort
set_option maxHeartbeats 0
set_option maxRecDepth 100000
attribute [local irreducible] AW AList ACall DA AExit.then AExit.inBlock YCall DCall
theorem pairB_iff {v : GV} : pairB v = true ↔ v.kind = 7 ∧ ∃ a b, v.els = [a, b] ∧ a.kind ≠ 0 ∧ b.kind ≠ 0 := by
  constructor
  · intro h
    simp only [pairB, Bool.and_eq_true, decide_eq_true_eq, Bool.not_eq_true', decide_eq_false_iff_not] at h
    obtain ⟨⟨⟨h1, h2⟩, h3⟩, h4⟩ := h
    refine ⟨h1, ?_⟩
    match hv : v.els, h2 with
    | [a, b], _ => rw [hv] at h3 h4; exact ⟨a, b, rfl, by simpa using h3, by simpa using h4⟩
    | [], h2 => simp at h2
    | [a], h2 => simp at h2
    | a :: b :: c :: l, h2 => simp at h2; omega
  · rintro ⟨h1, a, b, e, h3, h4⟩
    simp [pairB, h1, e, h3, h4]
def p1 (v : GV) : GV := v.els[0]?.getD default
def p2 (v : GV) : GV := v.els[1]?.getD default
theorem pair_good {l : List GV} (g : goods l) {p a b : GV} (hp : p ∈ l) (e : p.els = [a, b]) : good a ∧ good b := by
  have := (g p hp).els
  rw [e] at this
  exact ⟨this a (by simp), this b (by simp)⟩
theorem pair_nodes {v a b : GV} (e : v.els = [a, b]) : nodes v = 1 + nodes a + nodes b := by
  have := nodes_eq v
  rw [e] at this
  simp [nodesL] at this
  omega
abbrev zcV : List PV := [vI 0, vI 0, vB false, .list .full [], vS ⟨#[]⟩, .list .full []]
end Go.Proofs.YtgfadepkiejncaaGreat
namespace Go.Proofs.YtgfadepkiejncaaGreat
open Go.Ab Go.Sort
set_option maxHeartbeats 0
set_option maxRecDepth 100000
attribute [local irreducible] AW AList ACall DA AExit.then AExit.inBlock YCall DCall
theorem fit_of {f : GV} (hf : Fm f) {s : List GV} (h1 : nodesL s ≤ nodesL f.els) (h2 : deepL s ≤ deepL f.els) : fitB (setV s) = true := by
  have h3 := hf.nodes
  have h4 := hf.deep
  rw [nodes_eq] at h3
  rw [deep_eq] at h4
  have e1 : nodes (setV s) = 1 + nodesL s := nodes_eq _
  have e2 : deep (setV s) = 1 + deepL s := deep_eq _
  simp [fitB, e1, e2]; omega
theorem setF_deep (l : List GV) (g : goods l) : deepL (setF l) ≤ deepL l := by
  obtain ⟨_, _, s3⟩ := setF_spec _ g
  exact deepL_sub fun x hx => ((s3 x).1 hx).1
theorem deepL_mem : ∀ (l : List GV) (x : GV), x ∈ l → deep x ≤ deepL l
  | [], x, h => by simp at h
  | v :: l, x, h => by
    rcases List.mem_cons.1 h with rfl | h
    · simp [deepL]; omega
    · have := deepL_mem l x h; simp [deepL]; omega
theorem pair_deep {v a b : GV} (e : v.els = [a, b]) : deep a < deep v ∧ deep b < deep v := by
  have := deep_eq v
  rw [e] at this
  simp [deepL] at this
  omega
theorem part_of {l : List GV} (g : goods l) (hp : l.all pairB = true) {y p : GV} (hm : p ∈ l) (h : y = p1 p ∨ y = p2 p) : good y ∧ y.kind ≠ 0 ∧ deep y ≤ deepL l := by
  obtain ⟨_, a, b, e, ha, hb⟩ := pairB_iff.1 (List.all_eq_true.1 hp p hm)
  obtain ⟨ga, gb⟩ := pair_good g hm e
  have h1 := pair_deep e
  have h2 := deepL_mem l p hm
  have ea : p1 p = a := by simp [p1, e]
  have eb : p2 p = b := by simp [p2, e]
  rw [ea, eb] at h
  rcases h with rfl | rfl
  · exact ⟨ga, ha, by omega⟩
  · exact ⟨gb, hb, by omega⟩
theorem tup_good {l : List GV} (g : goods l) (hl : l = [] ∨ (l[l.length - 1]?.getD default).kind ≠ 0) (hlen : l.length < 1000000) : good (tupV l) := by
  refine ⟨?_, ⟨by omega, by omega, by decide, by show (0 : Nat) < _; omega, by omega, fun x hx => (by cases hx), (okL_iff l).2 fun x hx => (g x hx).2⟩⟩
  rw [fmd_eq]
  refine ⟨⟨?_, ?_, by simp [GV.abs], by show (0 : Nat) ≤ 1000; omega⟩, fun h => by simp [GV.kind] at h, (fmdL_iff _).2 fun x hx => (g x hx).1⟩
  · simp [fieldsF, GV.kind, GV.neg, GV.abs, GV.str, GV.els, GV.num]
  · rcases hl with rfl | hl
    · rfl
    · have : decide ((l[l.length - 1]?.getD default).kind = 0) = false := decide_eq_false hl
      show (decide (l = []) || !decide ((l[l.length - 1]?.getD default).kind = 0)) = true
      rw [this]; simp
def turnP (p : GV) : GV := tupV [p2 p, p1 p]
def invL (l : List GV) : List GV := l.map turnP
theorem inv_all {f : GV} (hf : Fm f) (hm : mapB f = true) : goods (invL f.els) ∧ nodesL (invL f.els) ≤ nodesL f.els ∧ fitB (setV (setF (invL f.els))) = true := by
  have hp : f.els.all pairB = true := by rw [mapB, Bool.and_eq_true] at hm; exact hm.2
  have gg : goods (invL f.els) := fun y hy => by
    obtain ⟨p, h1, rfl⟩ := List.mem_map.1 hy
    have h2 := part_of hf.good.els hp h1 (.inl rfl)
    have h3 := part_of hf.good.els hp h1 (.inr rfl)
    refine tup_good (fun z hz => ?_) (.inr (by simpa using h2.2.1)) (by simp)
    simp at hz
    rcases hz with rfl | rfl
    · exact h3.1
    · exact h2.1
  have hn : ∀ l : List GV, l.all pairB = true → nodesL (invL l) ≤ nodesL l ∧ deepL (invL l) ≤ deepL l := by
    intro l
    induction l with
    | nil => intro _; simp [invL, nodesL, deepL]
    | cons v l ih =>
      intro hp
      simp only [List.all_cons, Bool.and_eq_true] at hp
      have h1 := ih hp.2
      obtain ⟨_, a, b, e, _, _⟩ := pairB_iff.1 hp.1
      have h2 := pair_nodes e
      have h4 := deep_eq v
      rw [e] at h4
      have ea : p1 v = a := by simp [p1, e]
      have eb : p2 v = b := by simp [p2, e]
      have h5 : nodes (turnP v) = 1 + nodesL [b, a] := by rw [turnP, ea, eb]; exact nodes_eq _
      have h6 : deep (turnP v) = 1 + deepL [b, a] := by rw [turnP, ea, eb]; exact deep_eq _
      simp only [nodesL, deepL] at h4 h5 h6
      simp only [invL, List.map_cons, nodesL, deepL] at h1 ⊢
      omega
  have h := hn _ hp
  exact ⟨gg, h.1, fit_of hf (Nat.le_trans (setF_nodes _ gg) h.1) (Nat.le_trans (setF_deep _ gg) h.2)⟩
end Go.Proofs.YtgfadepkiejncaaGreat
namespace Go.Proofs.YtgfadepkiejncaaGreat
open Go.Ab Go.Sort
set_option maxHeartbeats 0
set_option maxRecDepth 100000
attribute [local irreducible] AW AList ACall DA AExit.then AExit.inBlock YCall DCall
theorem invL_take (l : List GV) (i : Nat) (h : i < l.length) : invL (l.take (i + 1)) = invL (l.take i) ++ [turnP l[i]] := by
  rw [List.take_succ_eq_append_getElem h, invL, List.map_append]; rfl
theorem bs25_p (a b : GV) (m : St) (K : PV → St → Prop) : abuildSlice Tryz.prog 25 1 [(0, .agg [.v (.int .i64 7), .v (.int .i64 0), .v (.bool false), .list .full [], .v (.string ⟨#[]⟩), .list .no [b.cells, a.cells]])] m K ↔ K (.list .full [(tupV [b, a]).cells]) m := by
  rw [show [(0, PV.agg [.v (.int .i64 7), .v (.int .i64 0), .v (.bool false), .list .full [], .v (.string ⟨#[]⟩), .list .no [b.cells, a.cells]])] = partsFrom 0 [PV.agg [.v (.int .i64 7), .v (.int .i64 0), .v (.bool false), .list .full [], .v (.string ⟨#[]⟩), .list .no [b.cells, a.cells]]] from rfl]
  rw [show (1 : Nat) = [PV.agg [.v (.int .i64 7), .v (.int .i64 0), .v (.bool false), .list .full [], .v (.string ⟨#[]⟩), .list .no [b.cells, a.cells]]].length from rfl]
  rw [abuildSlice_all (s := 6) (e := 27) (z := .agg #[.int .i64 0, .int .i64 0, .bool false, .slice none 0 0, .string ⟨#[]⟩, .slice none 0 0]) (rs := [[.v (.int .i64 7), .v (.int .i64 0), .v (.bool false), .list .full [], .v (.string ⟨#[]⟩), .list .no [b.cells, a.cells]]]) (by simp) (by simp) (by simp) (by decide) (by decide) (by simp) (by simp) (.cons rfl rfl .nil)]
  have : [[PV.v (.int .i64 7), .v (.int .i64 0), .v (.bool false), .list .full [], .v (.string ⟨#[]⟩), .list .no [b.cells, a.cells]]].map PV.stripL = [(tupV [b, a]).cells] := by simp [GV.cells, GV.rows, limbs]
  rw [this]
theorem val_inverse {f : GV} (hf : Fm f) : Gives Tryz.prog 49 [f.pv] (if mapB f then outP (setV (setF (invL f.els))) 0 else outP omV 7) := by
  have lf := hf.len
  intro m
  refine ACall.of_aw Tryz.func49 Tryz.ntmps49 rfl rfl (by simp) ?_
  refine tS ?_
  refine tS1 fun K Kp hK hKp => ?_; refine Gives.at (val_isMap f (by omega)) ?_; apply hK; clear hK hKp K Kp
  cases hm : mapB f with
  | false =>
    rw [if_neg (by simp)]
    refine tSa ?_
    refine Fin.ret (p := .tup [.agg [vI 0, vI 0, vB false, .list .full [], vS ⟨#[]⟩, .list .full []], vE 7]) ?_ Same.auto (by rfl) (by simp) ⟨rfl, rfl⟩
    simp [ResP, ResL, resV, upd_lit, show Tryz.f49.results.toList = [.cell 2 27, .tmp 3] from rfl]
  | true =>
  rw [if_pos rfl]
  have hp : f.els.all pairB = true := by rw [mapB, Bool.and_eq_true] at hm; exact hm.2
  obtain ⟨g1, g2, g3⟩ := inv_all hf hm
  have hn := hf.nodes
  rw [nodes_eq] at hn
  have hset := val_set (invL f.els) g1 (by simp [invL]; omega) (by omega)
  rw [show fitV (setV (setF (invL f.els))) = setV (setF (invL f.els)) from by simp [fitV, g3], show fitE (setV (setF (invL f.els))) = 0 from by simp [fitE, g3]] at hset
  refine tSa ?_
  refine tSn ?_
  refine AW.nilS (d := 4) (by simp [upd_lit]) ?_
  refine tS ?_
  generalize hmm : (m.newLoc f.cells).newLoc _ = mm
  have sm : Same m mm := by rw [← hmm]; exact Same.auto
  have g1 : mm.loc (m.nloc + 1) = some zcV := by rw [← hmm]; simp
  have n1 : mm.nloc = m.nloc + 2 := by rw [← hmm]; simp
  clear hmm
  refine AW.loop (ι := Nat) (fun i σ m' => i ≤ f.els.length ∧ σ 14 = vI i ∧ σ 13 = vI f.els.length ∧ σ 12 = GV.pvs f.els ∧ σ 2 = .loc (m.nloc + 1) 0 ∧ (∃ o, σ 4 = .list o (GV.rows (invL (f.els.take i))) ∧ Ow mm m' o 6 (invL (f.els.take i)).length)) (fun i => f.els.length - i) 0 ?_ ?_
  · exact ⟨by simp, by simp [upd_lit], by simp [upd_lit], by simp [upd_lit], by simp [upd_lit], .full, by simp [upd_lit, invL, GV.rows], .full (Same.refl _)⟩
  rintro i σ m' ⟨hi, t14, t13, t12, t2, o, t4, ho⟩
  have q1 : m.nloc + 1 < m'.nloc := Nat.lt_of_lt_of_le (by omega) ho.same.lloc
  have k1 : m'.loc (m.nloc + 1) = some zcV := (ho.same.get (by omega)).trans g1
  by_cases hlt : i < f.els.length
  · have ht := invL_take f.els i hlt
    have hmem := List.getElem_mem hlt
    obtain ⟨p, ep⟩ : ∃ p, p = f.els[i] := ⟨_, rfl⟩
    have ep' := ep.symm
    rw [ep'] at hmem ht
    obtain ⟨_, a, b, e, _, _⟩ := pairB_iff.1 (List.all_eq_true.1 hp p hmem)
    have et : turnP p = tupV [b, a] := by simp [turnP, p1, p2, e]
    rw [et] at ht
    have r0 : rowI (GV.rows [a, b]) 0 = a.cells := rows_getD [a, b] 0 (by simp)
    have r1 : rowI (GV.rows [a, b]) 1 = b.cells := rows_getD [a, b] 1 (by simp)
    have ow2 : Ow mm ((m'.newLoc zcV).setLoc m'.nloc p.cells) o 6 (invL (f.els.take i)).length := ⟨(ho.1.newLoc _).setLoc (by omega) _, ho.2⟩
    have hl2 : (invL (f.els.take i)).length ≤ 400 := by simp [invL]; omega
    have F := (aand @t14 (aand @t13 @hlt)); refine tFa ?_; (try clear F)
    have F := (aand @t12 (aand @t14 (aand @hlt (aand @rows_getD @ep')))); refine tF ?_; (try clear F)
    repeat (first | refine AW.seq ?_ | refine AW.block ?_ | refine AW.skip ?_ | refine AExit.norT ?_ | refine AExit.norB ?_ | refine AList.nil ?_)
    have hne : m.nloc + 1 ≠ m'.nloc := by omega
    refine AW.draw [.S, .S, .R, .S, .R, .S, .R, .S, .R, .S, .S, .S, .W, .S] (by decide +kernel) ?_; have F := (aand @t4 (aand @e (aand @r0 (aand @r1 @bs25_p)))); refine dST 0 ?_; refine dST 1 ?_; refine dRT 2 ?_; refine dST 3 ?_; refine dRT 4 ?_; refine dST 5 ?_; refine dRT 6 ?_; refine dST 7 ?_; refine dRT 8 ?_; refine dST 9 ?_; refine dST 10 ?_; refine dST 11 ?_; (try clear F); refine DA.W (oi := ?oiw1) 12 ?aw1 ?bw1 ?cw1 ?dw1 ?ew1 ?fw1; (case aw1 => rfl); (case bw1 => decide +kernel); (case cw1 => rfl); (case dw1 => rfl); (case ew1 => decide); intro K Kp hK hKp; (simp [t4, upd_lit]; refine app25 (l' := [tupV [b, a]]) ow2 rfl (by simp; omega) fun o' m'' ho' hs => hK _ _ ?_; clear hK hKp K Kp); have F := (aand @t4 (aand @e (aand @r0 (aand @r1 @bs25_p)))); refine dST 13 ?_; (try clear F); first | refine dN ?_ | refine dB ?_ | refine DA.done (by decide +kernel) ?_
    have F := @t14; refine tF ?_; (try clear F)
    exact ⟨i + 1, ⟨by omega, by simp [upd_lit], by simp [upd_lit, t13], by simp [upd_lit, t12], by simp [upd_lit, t2], o', by simp [upd_lit, ht], by rw [ht]; simpa using ho'⟩, by omega⟩
  · have e : i = f.els.length := by omega
    rw [e, List.take_length] at t4
    have F := (aand @t14 (aand @t13 @hlt)); refine tFa ?_; (try clear F)
    have F := @t4; refine tF ?_; (try clear F)
    have F := @t4; refine tF1 fun K Kp hK hKp => ?_; (try clear F); refine Gives.at (hset) ?_; apply hK; clear hK hKp K Kp
    have F := (aand @t2 (aand @k1 @q1)); refine tF ?_; (try clear F)
    refine Fin.ret (p := outP (setV (setF (invL f.els))) 0) ?_ ((sm.trans ho.same).setLoc (by omega) _) (by simp) (by simp) ⟨rfl, rfl⟩
    simp [ResP, ResL, resV, upd_lit, t2, q1, show Tryz.f49.results.toList = [.cell 2 27, .tmp 3] from rfl]
end Go.Proofs.YtgfadepkiejncaaGreat
namespace Go.Ab
theorem Ow.other {m0 m m' : St} {o o' oB : Own} {s n q sB nB : Nat} (h : Ow m0 m o s n) (hB : Ow m0 m oB sB nB) (hd : ∀ k, o = .tok k → oB ≠ .tok k) (a : AppRes s m o n q o' m') :
    Ow m0 m' oB sB nB ∧ ∀ k, o' = .tok k → oB ≠ .tok k := by
  obtain ⟨h1, h2, h3⟩ := h
  obtain ⟨b1, b2, b3⟩ := hB
  rcases a with ⟨rfl, rfl, rfl⟩ | ⟨_, rfl, rfl⟩ | ⟨_, k, rfl, rfl, rfl⟩
  · exact ⟨⟨b1, b2, b3⟩, hd⟩
  · refine ⟨⟨b1.newTok _ _, ?_, b3⟩, ?_⟩
    · cases oB with
      | no => exact b2
      | full => trivial
      | tok k =>
        obtain ⟨c1, c2, c3, c4⟩ := b2
        have : k ≠ m.ntok := by omega
        exact ⟨Nat.lt_succ_of_lt c1, by simp [St.newTok, upd, this, c2], by simp [St.newTok, upd, this, c3], by simp [St.newTok, upd, this, c4]⟩
    · intro k e e2
      cases e
      subst e2
      exact absurd b2.1 (Nat.lt_irrefl _)
  · refine ⟨⟨b1.growTok (h3 k rfl) _, ?_, b3⟩, hd⟩
    cases oB with
    | no => exact b2
    | full => trivial
    | tok j =>
      obtain ⟨c1, c2, c3, c4⟩ := b2
      have : j ≠ k := fun e => hd k rfl (by rw [e])
      exact ⟨c1, by simp [St.growTok, upd, this, c2], c3, c4⟩
section
variable {P : Program} {N : Nat} {l : List Oper} {cls : List Cls} {Q : APost} {σ : Nat → PV} {m : St} {listed : Array Bool} {fuel : Nat}
end
end Go.Ab
namespace Go.Proofs.YtgfadepkiejncaaGreat
open Go.Ab Go.Sort
set_option maxHeartbeats 0
set_option maxRecDepth 100000
attribute [local irreducible] AW AList ACall DA AExit.then AExit.inBlock YCall DCall
end Go.Proofs.YtgfadepkiejncaaGreat
namespace Go.Ab
theorem AW.gen {P : Program} {N : Nat} {c : Code} {Q : APost} {σ : Nat → PV} {m : St} (h : ∀ mm, mm = m → AW P N c Q σ mm) : AW P N c Q σ m := h m rfl
end Go.Ab
namespace Go.Proofs.YtgfadepkiejncaaGreat
open Go.Ab Go.Sort
set_option maxHeartbeats 0
set_option maxRecDepth 100000
attribute [local irreducible] AW AList ACall DA AExit.then AExit.inBlock YCall DCall
end Go.Proofs.YtgfadepkiejncaaGreat
namespace Go.Proofs.YtgfadepkiejncaaGreat
open Go.Ab
set_option maxHeartbeats 0
set_option maxRecDepth 100000
attribute [local irreducible] AW AList ACall DA AExit.then AExit.inBlock YCall DCall
end Go.Proofs.YtgfadepkiejncaaGreat
namespace Go.Ab
theorem Post.imp {Γ : Ctx} {w : World} {N : Nat} {Q Q' : APost} (h : ∀ x σ m, Q x σ m → Q' x σ m) {e : Exit} {a : Act} {w' : World} (hp : Post Γ w N Q e a w') : Post Γ w N Q' e a w' := by
  obtain ⟨x, σ, m, Γ', h1, h2⟩ := hp
  exact ⟨x, σ, m, Γ', h x σ m h1, h2⟩
theorem AList.cut {P : Program} {N : Nat} {Q : APost} {ops : Array Oper} {l : List Oper} {σ : Nat → PV} {m : St} {I nx : (Nat → PV) → St → Prop} (h : AList P N ops (AExit.then I Q) l σ m) (h2 : ∀ σ m, I σ m → nx σ m) : AList P N ops (AExit.then nx Q) l σ m :=
  fun Γ a w hs => wpList_mono (fun _ _ _ => Post.imp fun x σ m h => by cases x <;> first | exact h2 σ m h | exact h) _ _ _ (h Γ a w hs)
end Go.Ab
namespace Go.Proofs.YtgfadepkiejncaaGreat
open Go.Ab
set_option maxHeartbeats 0
set_option maxRecDepth 100000
attribute [local irreducible] AW AList ACall DA AExit.then AExit.inBlock YCall DCall
end Go.Proofs.YtgfadepkiejncaaGreat
namespace Go.Ab
def Dies (P : Program) (f : FuncId) (args : List PV) (r : PV) : Prop := ∀ m, ACall P f args m (fun r' m' => r' = .pan r ∧ m' = m)
theorem Dies.at {P : Program} {f : FuncId} {args : List PV} {r : PV} {m : St} {K Kp : PV → St → Prop} (h : Dies P f args r) (k : Kp r m) :
    ACall P f args m (fun r' m' => match r' with | .ret p => K p m' | .pan p => Kp p m') := (h m).mono (by rintro _ _ ⟨rfl, rfl⟩; exact k)
def GivesAt (P : Program) (f : FuncId) (args : List PV) (m : St) (r : PV) : Prop := ACall P f args m (fun r' m' => r' = .ret r ∧ m' = m)
theorem GivesAt.at {P : Program} {f : FuncId} {args : List PV} {r : PV} {m : St} {K Kp : PV → St → Prop} (h : GivesAt P f args m r) (k : K r m) :
    ACall P f args m (fun r' m' => match r' with | .ret p => K p m' | .pan p => Kp p m') := ACall.mono h (by rintro _ _ ⟨rfl, rfl⟩; exact k)
theorem Fin.dies {P : Program} {fn : Func} {m m' : St} {σ : Nat → PV} {p r : PV} (hm : Same m m') (hq : p.strip = r := by simp [upd_lit]) (hs : r.sc m.nloc m.ntok := by simp) : Fin P fn m (fun r' m' => r' = .pan r ∧ m' = m) (.pan p) σ m' :=
  Fin.pan hm hq hs ⟨rfl, rfl⟩
theorem Fin.done {P : Program} {fn : Func} {m m' : St} {σ : Nat → PV} (hm : Same m m') (hp : ResP P fn.results.toList σ m' (.tup []) := by exact ⟨[], rfl, rfl⟩) : Fin P fn m (fun r' m' => r' = .ret (.tup []) ∧ m' = m) .normal σ m' :=
  Fin.normal hp hm rfl trivial ⟨rfl, rfl⟩
end Go.Ab
namespace Go.Proofs.YtgfadepkiejncaaGreat
open Go.Ab
set_option maxHeartbeats 0
set_option maxRecDepth 100000
attribute [local irreducible] AW AList ACall DA AExit.then AExit.inBlock YCall DCall
abbrev badE (e : Int) : PV := .iface 117 (.agg [vE e])
theorem need_ok (e : Int) : Gives Tryz.prog 125 [vB true, vE e] (.tup []) := by
  intro m
  refine ACall.of_aw Tryz.func125 Tryz.ntmps125 rfl rfl (by simp) ?_
  refine tSa ?_
  exact Fin.done Same.auto
theorem need_bad (e : Int) : Dies Tryz.prog 125 [vB false, vE e] (badE e) := by
  intro m
  refine ACall.of_aw Tryz.func125 Tryz.ntmps125 rfl rfl (by simp) ?_
  refine tSa ?_
  refine AList.op0 ?_; intro K Kp hK hKp; simp [↓aop, ↓Ab.opv, ↓upd_lit, ↓map_ta, ↓List.map_cons, ↓List.map_nil, Nat.add_assoc]; (try (simp (disch := omega) only [wrap_i64]; try simp [↓aop, ↓Ab.opv, ↓upd_lit, ↓map_ta, ↓List.map_cons, ↓List.map_nil, Nat.add_assoc])); apply hKp; clear hK hKp K Kp; repeat (first | refine AExit.panT ?_ | refine AExit.panB ?_)
  exact Fin.dies Same.auto
def idxF (x : Int) : List Int → Int → Int
  | [], _ => -1
  | y :: l, i => if x = y then i else idxF x l (i + 1)
theorem idxF_nn (x : Int) : ∀ (l : List Int) (i : Int), 0 ≤ i → (0 ≤ idxF x l i ↔ x ∈ l)
  | [], i, h => by simp [idxF]
  | y :: l, i, h => by
    simp only [idxF]
    by_cases e : x = y
    · rw [if_pos e]; simp [e, h]
    · rw [if_neg e, idxF_nn x l (i + 1) (by omega)]; simp [e]
theorem index_ints (l : List Int) (x : Int) (hl : l.length < 1152921504606846976) : Gives Tryz.prog 167 [.list .no (ints l), vI x] (vI (idxF x l 0)) := by
  intro m
  refine ACall.of_aw Tryz.func167 Tryz.ntmps167 rfl rfl (by simp) ?_
  refine tS ?_
  refine AW.loop (ι := Nat) (fun i σ m' => i ≤ l.length ∧ idxF x l 0 = idxF x (l.drop i) i ∧ σ 8 = vI i ∧ σ 7 = vI l.length ∧ σ 0 = .list .no (ints l) ∧ σ 1 = vI x ∧ m' = m) (fun i => l.length - i) 0 ?_ ?_
  · exact ⟨by simp, rfl, by simp [upd_lit], by simp [upd_lit], by simp [upd_lit], by simp [upd_lit], rfl⟩
  rintro i σ m' ⟨hi, hc, h8, h7, h0, h1, rfl⟩
  have F := (aand @h8 @h7); refine tF ?_; (try clear F)
  refine AW.condD (p := i < l.length) (by simp [upd_lit]) (fun hlt => ?_) (fun hge => ?_)
  · rw [List.drop_eq_getElem_cons hlt, idxF] at hc
    have F := (aand @h8 (aand @h0 (aand @h1 (aand @hlt @ints_getD)))); refine tF ?_; (try clear F)
    refine AW.condD (p := x = l[i]) (by simp [upd_lit]) (fun e => ?_) (fun e => ?_)
    · refine tS ?_
      rw [hc, if_pos e]
      exact Fin.gives Same.auto
    · have F := @h8; refine tF ?_; (try clear F)
      exact ⟨i + 1, ⟨by omega, by rw [hc, if_neg e]; rfl, by simp [upd_lit], by simp [upd_lit, h7], by simp [upd_lit, h0], by simp [upd_lit, h1], rfl⟩, by omega⟩
  · refine tS ?_
    rw [List.drop_eq_nil_of_le (by omega)] at hc
    rw [hc]
    exact Fin.gives Same.auto rfl (by simp [upd_lit, idxF])
theorem contains_ints (l : List Int) (x : Int) (hl : l.length < 1152921504606846976) : Gives Tryz.prog 154 [.list .no (ints l), vI x] (vB (decide (x ∈ l))) := by
  have e : decide (0 ≤ idxF x l 0) = decide (x ∈ l) := by rw [decide_eq_decide]; exact idxF_nn x l 0 (by omega)
  intro m
  refine ACall.of_aw Tryz.func154 Tryz.ntmps154 rfl rfl (by simp) ?_
  refine tS ?_
  refine tS1 fun K Kp hK hKp => ?_; refine Gives.at (index_ints l x hl) ?_; apply hK; clear hK hKp K Kp
  refine tS ?_
  exact Fin.gives Same.auto rfl (by simp [upd_lit, e])
theorem in_kinds (l : List Int) (v : GV) (hl : l.length < 1152921504606846976) (m : St) (n : Nat) (hn : n < m.nloc) (hm : m.loc n = some v.cells) : GivesAt Tryz.prog 153 [.list .no (ints l), .loc n 0] m (vB (decide (v.kind ∈ l))) := by
  refine ACall.of_aw Tryz.func153 Tryz.ntmps153 rfl rfl (by simp) ?_
  have F := (aand @hn @hm); refine tF ?_; (try clear F)
  refine tS1 fun K Kp hK hKp => ?_; refine Gives.at (contains_ints l v.kind hl) ?_; apply hK; clear hK hKp K Kp
  refine tS ?_
  exact Fin.gives Same.auto
@[simp] theorem bs57_1 (x : Int) (m : St) (K : PV → St → Prop) : abuildSlice Tryz.prog 57 1 [(0, vI x)] m K ↔ K (.list .full (ints [x])) m := by
  have h := abuildSlice_all (P := Tryz.prog) (t := 57) (s := 1) (e := 3) (z := .int .i64 0) (xs := [vI x]) (rs := ints [x]) (m := m) (K := K) (by simp) (by simp) (by simp) (by decide) (by decide) (by simp) (by simp) (cells1_ints [x])
  have e : (ints [x]).map PV.stripL = ints [x] := by simp [ints, PV.stripL, PV.strip]
  rw [e] at h
  exact h
@[simp] theorem bs57_4 (x y z w : Int) (m : St) (K : PV → St → Prop) : abuildSlice Tryz.prog 57 4 [(0, vI x), (1, vI y), (2, vI z), (3, vI w)] m K ↔ K (.list .full (ints [x, y, z, w])) m := by
  have h := abuildSlice_all (P := Tryz.prog) (t := 57) (s := 1) (e := 3) (z := .int .i64 0) (xs := [vI x, vI y, vI z, vI w]) (rs := ints [x, y, z, w]) (m := m) (K := K) (by simp) (by simp) (by simp) (by decide) (by decide) (by simp) (by simp) (cells1_ints [x, y, z, w])
  have e : (ints [x, y, z, w]).map PV.stripL = ints [x, y, z, w] := by simp [ints, PV.stripL, PV.strip]
  rw [e] at h
  exact h
def resE (e : Int) : ARes := if e = 0 then .ret (.tup []) else .pan (badE e)
def GivesR (P : Program) (f : FuncId) (args : List PV) (e : Int) : Prop := ∀ m, ACall P f args m (fun r' m' => r' = resE e ∧ m' = m)
theorem GivesR.ok {P : Program} {f : FuncId} {args : List PV} {e : Int} (h : GivesR P f args e) (h0 : e = 0) : Gives P f args (.tup []) := fun m => (h m).mono (by rintro _ _ ⟨rfl, rfl⟩; subst h0; exact ⟨rfl, rfl⟩)
theorem GivesR.bad {P : Program} {f : FuncId} {args : List PV} {e : Int} (h : GivesR P f args e) (h0 : e ≠ 0) : Dies P f args (badE e) := fun m => (h m).mono (by rintro _ _ ⟨rfl, rfl⟩; exact ⟨by rw [resE, if_neg h0], rfl⟩)
theorem fieldsF_iff (v : GV) : fieldsF v = true ↔ (0 ≤ v.kind ∧ v.kind ≤ 8) ∧ (v.num = 0 ∨ v.kind ∈ ([1, 3, 5, 6] : List Int)) ∧ ((v.neg = false ∧ v.abs = []) ∨ v.kind ∈ ([2, 3] : List Int)) ∧ (v.str.toList = [] ∨ v.kind ∈ ([4] : List Int)) ∧ (v.els = [] ∨ v.kind ∈ ([7, 8] : List Int)) := by
  unfold fieldsF
  simp only [Bool.or_eq_true, decide_eq_true_eq, Bool.and_eq_true, Bool.not_eq_true', decide_eq_false_iff_not, List.isEmpty_iff, List.mem_cons, List.not_mem_nil, or_false, List.length_pos_iff, Int.natCast_pos]
  by_cases h0 : v.kind < 0 ∨ 8 < v.kind
  · rw [if_pos h0]
    simp only [Bool.false_eq_true, false_iff]
    rintro ⟨h, _⟩; omega
  rw [if_neg h0]
  have hk : 0 ≤ v.kind ∧ v.kind ≤ 8 := by omega
  by_cases h1 : (decide (v.kind = 2) || decide (v.kind = 3)) = false ∧ (v.neg = true ∨ v.abs ≠ [])
  · rw [if_pos h1]
    simp only [Bool.false_eq_true, false_iff]
    rintro ⟨_, _, h, _⟩
    obtain ⟨q1, q2⟩ := h1
    simp at q1
    rcases h with ⟨h, h'⟩ | h | h
    · rcases q2 with q2 | q2
      · rw [h] at q2; cases q2
      · exact q2 h'
    · exact q1.1 h
    · exact q1.2 h
  rw [if_neg h1]
  have c2 : (v.neg = false ∧ v.abs = []) ∨ v.kind = 2 ∨ v.kind = 3 := by
    by_cases e : v.kind = 2 ∨ v.kind = 3
    · exact .inr e
    · refine .inl ?_
      have : ¬ (v.neg = true ∨ v.abs ≠ []) := fun q => h1 ⟨by simp; omega, q⟩
      simp at this; exact this
  by_cases h2 : (¬v.kind = 4 ∧ (!v.str.toList.isEmpty) = true) ∨ (¬v.kind = 7 ∧ ¬v.kind = 8) ∧ v.els ≠ []
  · rw [if_pos (by simpa using h2)]
    simp only [Bool.false_eq_true, false_iff]
    rintro ⟨_, _, _, h3, h4⟩
    simp at h2
    rcases h2 with ⟨q1, q2⟩ | ⟨q1, q2⟩
    · rcases h3 with h3 | h3
      · exact q2 h3
      · exact q1 h3
    · rcases h4 with h4 | h4
      · exact q2 h4
      · omega
  rw [if_neg (by simpa using h2)]
  simp at h2
  constructor
  · intro h
    refine ⟨hk, by simpa [or_assoc] using h, c2, ?_, ?_⟩
    · by_cases e : v.kind = 4
      · exact .inr e
      · exact .inl (h2.1 e)
    · by_cases e : v.kind = 7 ∨ v.kind = 8
      · exact .inr e
      · exact .inl (h2.2 (by omega) (by omega))
  · rintro ⟨_, h, _⟩
    rcases h with h | h | h | h | h <;> simp [h]
theorem val_fields (v : GV) (hv : v.ok) : GivesR Tryz.prog 126 [v.pv] (if fieldsF v then 0 else 2) := by
  have la := hv.abs
  have ll := hv.len
  have hi := fieldsF_iff v
  intro m
  have hbad : fieldsF v = false → resE (if fieldsF v then 0 else 2) = .pan (badE 2) := fun h => by rw [h]; rfl
  have hF : ∀ {p : Prop}, ¬ p → (fieldsF v = true → p) → fieldsF v = false := fun hp h => Bool.eq_false_iff.2 fun q => hp (h q)
  refine ACall.of_aw Tryz.func126 Tryz.ntmps126 rfl rfl (by simp) ?_
  by_cases hk : 0 ≤ v.kind ∧ v.kind ≤ 8
  rotate_left
  · rw [hbad (hF hk fun q => (hi.1 q).1)]
    by_cases hk0 : 0 ≤ v.kind
    · have hk8 : ¬ v.kind ≤ 8 := fun q => hk ⟨hk0, q⟩
      have F := (aand @hk0 @hk8); refine tFg ?_; (try clear F)
      refine tS1 fun K Kp hK hKp => ?_; refine Dies.at (need_bad 2) ?_; apply hKp; clear hK hKp K Kp; repeat (first | refine AExit.panT ?_ | refine AExit.panB ?_)
      exact Fin.dies Same.auto
    · have F := @hk0; refine tFg ?_; (try clear F)
      refine tS1 fun K Kp hK hKp => ?_; refine Dies.at (need_bad 2) ?_; apply hKp; clear hK hKp K Kp; repeat (first | refine AExit.panT ?_ | refine AExit.panB ?_)
      exact Fin.dies Same.auto
  have F := @hk; refine tFg ?_; (try clear F)
  refine tS1 fun K Kp hK hKp => ?_; refine Gives.at (need_ok 2) ?_; apply hK; clear hK hKp K Kp
  refine AList.nil ?_
  refine AExit.norT ?_
  refine AW.seq ?_
  refine AW.regionL ?_
  refine AList.cut (I := fun σ' m' => σ' 1 = .loc m.nloc 0 ∧ σ' 2 = .clo 153 [] [.loc m.nloc 0] ∧ m' = m.newLoc v.cells) ?_ ?_
  · refine tS ?_
    exact ⟨by simp [upd_lit], by simp [upd_lit], rfl⟩
  have hin := fun l hl => in_kinds l v hl (m.newLoc v.cells) m.nloc (by simp) (by simp)
  rintro σ _ ⟨h1, h2, rfl⟩
  refine AW.seq ?_
  refine AW.regionL ?_
  refine AList.cut (I := fun σ' m' => (v.num = 0 ∨ v.kind ∈ ([1, 3, 5, 6] : List Int)) ∧ σ' 1 = .loc m.nloc 0 ∧ σ' 2 = .clo 153 [] [.loc m.nloc 0] ∧ m' = m.newLoc v.cells) ?_ ?_
  · by_cases c : v.num = 0
    · have F := (aand @h1 @c); refine tFg ?_; (try clear F)
      refine tS1 fun K Kp hK hKp => ?_; refine Gives.at (need_ok 2) ?_; apply hK; clear hK hKp K Kp
      refine tS ?_
      exact ⟨.inl c, by simp [upd_lit, h1], by simp [upd_lit, h2], rfl⟩
    · have F := (aand @h1 (aand @h2 @c)); refine tFg ?_; (try clear F)
      refine AList.opT rfl (by decide) (by decide) ?_ ?_; (focus (first | rfl | (simp [↓upd_lit, Nat.add_assoc, h1, h2, c]; done))); intro K Kp hK hKp; simp [↓aop, ↓Ab.opv, ↓upd_lit, ↓map_ta, ↓List.map_cons, ↓List.map_nil, Nat.add_assoc, h1, h2, c]; (try (simp (disch := omega) only [wrap_i64]; try simp [↓aop, ↓Ab.opv, ↓upd_lit, ↓map_ta, ↓List.map_cons, ↓List.map_nil, Nat.add_assoc, h1, h2, c])); refine GivesAt.at (hin [1, 3, 5, 6] (by simp)) ?_; apply hK; clear hK hKp K Kp
      by_cases d : v.kind ∈ ([1, 3, 5, 6] : List Int)
      · rw [decide_eq_true d]
        refine tSg ?_
        refine tS1 fun K Kp hK hKp => ?_; refine Gives.at (need_ok 2) ?_; apply hK; clear hK hKp K Kp
        refine tS ?_
        exact ⟨.inr d, by simp [upd_lit, h1], by simp [upd_lit, h2], rfl⟩
      · rw [hbad (hF (p := v.num = 0 ∨ v.kind ∈ ([1, 3, 5, 6] : List Int)) (by simp only [not_or]; exact ⟨c, d⟩) fun q => (hi.1 q).2.1), decide_eq_false d]
        refine tSg ?_
        refine tS1 fun K Kp hK hKp => ?_; refine Dies.at (need_bad 2) ?_; apply hKp; clear hK hKp K Kp; repeat (first | refine AExit.panT ?_ | refine AExit.panB ?_)
        exact Fin.dies Same.auto
  clear h1 h2 σ
  rintro σ _ ⟨q1, h1, h2, rfl⟩
  refine AW.seq ?_
  refine AW.regionL ?_
  refine AList.cut (I := fun σ' m' => ((v.neg = false ∧ v.abs = []) ∨ v.kind ∈ ([2, 3] : List Int)) ∧ σ' 1 = .loc m.nloc 0 ∧ σ' 2 = .clo 153 [] [.loc m.nloc 0] ∧ m' = m.newLoc v.cells) ?_ ?_
  · have key : (v.neg = false ∧ v.abs = []) ∨ (v.neg = true ∧ True) ∨ (v.neg = false ∧ v.abs ≠ []) := by cases v.neg <;> simp [Classical.em]
    have key2 : ¬ (v.neg = false ∧ v.abs = []) → ¬ v.kind ∈ ([2, 3] : List Int) → fieldsF v = false := fun c d => hF (p := (v.neg = false ∧ v.abs = []) ∨ v.kind ∈ ([2, 3] : List Int)) (by rw [not_or]; exact ⟨c, d⟩) fun q => (hi.1 q).2.2.1
    rcases key with ⟨c, c'⟩ | ⟨c, c'⟩ | ⟨c, c'⟩
    · have F := (aand @h1 (aand @c @c')); refine tFg ?_; (try clear F)
      refine tS1 fun K Kp hK hKp => ?_; refine Gives.at (need_ok 2) ?_; apply hK; clear hK hKp K Kp
      refine tS ?_
      exact ⟨.inl ⟨c, c'⟩, by simp [upd_lit, h1], by simp [upd_lit, h2], rfl⟩
    all_goals (
      have F := (aand @h1 (aand @h2 (aand @c @c'))); refine tFg ?_; (try clear F)
      refine AList.opT rfl (by decide) (by decide) ?_ ?_; (focus (first | rfl | (simp [↓upd_lit, Nat.add_assoc, h1, h2, c, c']; done))); intro K Kp hK hKp; simp [↓aop, ↓Ab.opv, ↓upd_lit, ↓map_ta, ↓List.map_cons, ↓List.map_nil, Nat.add_assoc, h1, h2, c, c']; (try (simp (disch := omega) only [wrap_i64]; try simp [↓aop, ↓Ab.opv, ↓upd_lit, ↓map_ta, ↓List.map_cons, ↓List.map_nil, Nat.add_assoc, h1, h2, c, c'])); refine GivesAt.at (hin [2, 3] (by simp)) ?_; apply hK; clear hK hKp K Kp
      by_cases d : v.kind ∈ ([2, 3] : List Int)
      · rw [decide_eq_true d]
        refine tSg ?_
        refine tS1 fun K Kp hK hKp => ?_; refine Gives.at (need_ok 2) ?_; apply hK; clear hK hKp K Kp
        refine tS ?_
        exact ⟨.inr d, by simp [upd_lit, h1], by simp [upd_lit, h2], rfl⟩
      · rw [hbad (key2 (by rintro ⟨q1, q2⟩; first | (rw [q1] at c; cases c; done) | exact c' q2) d), decide_eq_false d]
        refine tSg ?_
        refine tS1 fun K Kp hK hKp => ?_; refine Dies.at (need_bad 2) ?_; apply hKp; clear hK hKp K Kp; repeat (first | refine AExit.panT ?_ | refine AExit.panB ?_)
        exact Fin.dies Same.auto)
  clear h1 h2 σ
  rintro σ _ ⟨q2, h1, h2, rfl⟩
  refine AW.seq ?_
  refine AW.regionL ?_
  refine AList.cut (I := fun σ' m' => (v.str.toList = [] ∨ v.kind ∈ ([4] : List Int)) ∧ σ' 1 = .loc m.nloc 0 ∧ σ' 2 = .clo 153 [] [.loc m.nloc 0] ∧ m' = m.newLoc v.cells) ?_ ?_
  · by_cases c : v.str.toList = []
    · have F := (aand @h1 @c); refine tFg ?_; (try clear F)
      refine tS1 fun K Kp hK hKp => ?_; refine Gives.at (need_ok 2) ?_; apply hK; clear hK hKp K Kp
      refine tS ?_
      exact ⟨.inl c, by simp [upd_lit, h1], by simp [upd_lit, h2], rfl⟩
    · have F := (aand @h1 (aand @h2 @c)); refine tFg ?_; (try clear F)
      refine AList.opT rfl (by decide) (by decide) ?_ ?_; (focus (first | rfl | (simp [↓upd_lit, Nat.add_assoc, h1, h2, c]; done))); intro K Kp hK hKp; simp [↓aop, ↓Ab.opv, ↓upd_lit, ↓map_ta, ↓List.map_cons, ↓List.map_nil, Nat.add_assoc, h1, h2, c]; (try (simp (disch := omega) only [wrap_i64]; try simp [↓aop, ↓Ab.opv, ↓upd_lit, ↓map_ta, ↓List.map_cons, ↓List.map_nil, Nat.add_assoc, h1, h2, c])); refine GivesAt.at (hin [4] (by simp)) ?_; apply hK; clear hK hKp K Kp
      by_cases d : v.kind ∈ ([4] : List Int)
      · rw [decide_eq_true d]
        refine tSg ?_
        refine tS1 fun K Kp hK hKp => ?_; refine Gives.at (need_ok 2) ?_; apply hK; clear hK hKp K Kp
        refine tS ?_
        exact ⟨.inr d, by simp [upd_lit, h1], by simp [upd_lit, h2], rfl⟩
      · rw [hbad (hF (p := v.str.toList = [] ∨ v.kind ∈ ([4] : List Int)) (by rw [not_or]; exact ⟨c, d⟩) fun q => (hi.1 q).2.2.2.1), decide_eq_false d]
        have F := @c; refine tFg ?_; (try clear F)
        have F := @c; refine tF1 fun K Kp hK hKp => ?_; (try clear F); refine Dies.at (need_bad 2) ?_; apply hKp; clear hK hKp K Kp; repeat (first | refine AExit.panT ?_ | refine AExit.panB ?_)
        exact Fin.dies Same.auto
  clear h1 h2 σ
  rintro σ _ ⟨q3, h1, h2, rfl⟩
  refine AW.regionL ?_
  have hgood : (v.els = [] ∨ v.kind ∈ ([7, 8] : List Int)) → resE (if fieldsF v then 0 else 2) = .ret (.tup []) := fun q4 => by rw [hi.2 ⟨hk, q1, q2, q3, q4⟩]; rfl
  by_cases c : v.els = []
  · have F := (aand @h1 @c); refine tFg ?_; (try clear F)
    refine tS1 fun K Kp hK hKp => ?_; refine Gives.at (need_ok 2) ?_; apply hK; clear hK hKp K Kp
    refine tS ?_
    rw [hgood (.inl c)]
    exact Fin.done Same.auto
  · have F := (aand @h1 (aand @h2 @c)); refine tFg ?_; (try clear F)
    refine AList.opT rfl (by decide) (by decide) ?_ ?_; (focus (first | rfl | (simp [↓upd_lit, Nat.add_assoc, h1, h2, c]; done))); intro K Kp hK hKp; simp [↓aop, ↓Ab.opv, ↓upd_lit, ↓map_ta, ↓List.map_cons, ↓List.map_nil, Nat.add_assoc, h1, h2, c]; (try (simp (disch := omega) only [wrap_i64]; try simp [↓aop, ↓Ab.opv, ↓upd_lit, ↓map_ta, ↓List.map_cons, ↓List.map_nil, Nat.add_assoc, h1, h2, c])); refine GivesAt.at (hin [7, 8] (by simp)) ?_; apply hK; clear hK hKp K Kp
    by_cases d : v.kind ∈ ([7, 8] : List Int)
    · rw [decide_eq_true d]
      refine tSg ?_
      refine tS1 fun K Kp hK hKp => ?_; refine Gives.at (need_ok 2) ?_; apply hK; clear hK hKp K Kp
      refine tS ?_
      rw [hgood (.inr d)]
      exact Fin.done Same.auto
    · rw [hbad (hF (p := v.els = [] ∨ v.kind ∈ ([7, 8] : List Int)) (by rw [not_or]; exact ⟨c, d⟩) fun q => (hi.1 q).2.2.2.2), decide_eq_false d]
      refine tSg ?_
      refine tS1 fun K Kp hK hKp => ?_; refine Dies.at (need_bad 2) ?_; apply hKp; clear hK hKp K Kp; repeat (first | refine AExit.panT ?_ | refine AExit.panB ?_)
      exact Fin.dies Same.auto
end Go.Proofs.YtgfadepkiejncaaGreat
namespace Go.Proofs.YtgfadepkiejncaaGreat
open Go.Ab Go.Sort
set_option maxHeartbeats 0
set_option maxRecDepth 100000
attribute [local irreducible] AW AList ACall DA AExit.then AExit.inBlock YCall DCall
def renN (xs ys : List Int) (k n : Int) : Int := if k = 5 ∧ n ≤ xs.length then xs[(n - 1).toNat]?.getD 0 else if k = 6 ∧ n < ys.length then ys[n.toNat]?.getD 0 else n
mutual
def ren (xs ys : List Int) : GV → GV
  | .mk k n ng a s l => if k = 8 then setV (setF (renL xs ys l)) else .mk k (renN xs ys k n) ng a s (renL xs ys l)
def renL (xs ys : List Int) : List GV → List GV
  | [] => []
  | v :: l => ren xs ys v :: renL xs ys l
end
theorem renL_map (xs ys : List Int) : ∀ l, renL xs ys l = l.map (ren xs ys)
  | [] => rfl
  | v :: l => congrArg (ren xs ys v :: ·) (renL_map xs ys l)
def numsOK (l : List Int) (n : Int) : Prop := ∀ x ∈ l, n ≤ x ∧ x < 9223372036854775808
theorem ren_node {k n n' : Int} {ng : Bool} {a : List Int} {s : ByteArray} {l l' : List GV} (h : nodeOK (.mk k n ng a s l)) (hl : l'.map GV.kind = l.map GV.kind) (hn : n' = n ∨ (k = 5 ∧ 1 ≤ n') ∨ (k = 6 ∧ 0 ≤ n')) :
    nodeOK (.mk k n' ng a s l') := by
  obtain ⟨h1, h2, h3, h4⟩ := h
  have hlen : l'.length = l.length := by simpa using congrArg List.length hl
  refine ⟨?_, ?_, h3, h4⟩
  · rw [fieldsF_iff] at h1 ⊢
    simp only [GV.kind, GV.num, GV.neg, GV.abs, GV.str, GV.els] at h1 ⊢
    obtain ⟨f1, f2, f3, f4, f5⟩ := h1
    refine ⟨f1, ?_, f3, f4, ?_⟩
    · rcases hn with rfl | ⟨rfl, _⟩ | ⟨rfl, _⟩
      · exact f2
      · exact .inr (by simp)
      · exact .inr (by simp)
    · rcases f5 with rfl | f5
      · exact .inl (List.length_eq_zero_iff.1 (by simpa using hlen))
      · exact .inr f5
  · rcases hn with rfl | ⟨rfl, h5⟩ | ⟨rfl, h5⟩
    · by_cases h7 : k = 7
      · subst h7
        have e1 : formF (.mk 7 n' ng a s l) = (decide (l = []) || !decide ((l[l.length - 1]?.getD default).kind = 0)) := rfl
        have e2 : formF (.mk 7 n' ng a s l') = (decide (l' = []) || !decide ((l'[l'.length - 1]?.getD default).kind = 0)) := rfl
        rw [e1] at h2
        rw [e2]
        have hk : ∀ i : Nat, i < l.length → (l'[i]?.getD default).kind = (l[i]?.getD default).kind := fun i hi => by
          have hi' : i < l'.length := by omega
          have := congrArg (fun z => z[i]?) hl
          simp only [List.getElem?_map, List.getElem?_eq_getElem hi, List.getElem?_eq_getElem hi', Option.map_some, Option.some.injEq] at this
          rw [List.getElem?_eq_getElem hi, List.getElem?_eq_getElem hi']
          exact this
        by_cases h0 : l = []
        · have : l' = [] := List.length_eq_zero_iff.1 (by rw [hlen, h0]; rfl)
          simp [this]
        · have hp : 0 < l.length := List.length_pos_iff.2 h0
          rw [hlen, hk _ (by omega)]
          simp only [Bool.or_eq_true, decide_eq_true_eq] at h2 ⊢
          rcases h2 with h2 | h2
          · exact absurd h2 h0
          · exact .inr h2
      · have e : formF (.mk k n' ng a s l') = formF (.mk k n' ng a s l) := by
          unfold formF
          simp only [show (GV.mk k n' ng a s l').kind = k from rfl, show (GV.mk k n' ng a s l).kind = k from rfl, if_neg h7]
          rfl
        rw [e]; exact h2
    · simp [formF, GV.kind, GV.num, h5]
    · simp [formF, GV.kind, GV.num, h5]
theorem set_good {l : List GV} (g : goods l) (hi : Inc l) (h0 : ∀ x ∈ l, x.kind ≠ 0) (hlen : l.length < 1000000) : good (setV l) := by
  refine ⟨?_, setV_ok g hlen⟩
  rw [fmd_eq]
  refine ⟨⟨?_, by rfl, by simp [GV.abs], by show (0 : Nat) ≤ 1000; omega⟩, fun _ => ⟨h0, (incr_none g).2 hi⟩, (fmdL_iff _).2 fun x hx => (g x hx).1⟩
  simp [fieldsF, GV.kind, GV.neg, GV.abs, GV.str, GV.els, GV.num]
theorem setF_good {l : List GV} (g : goods l) (hlen : l.length < 1000000) : good (setV (setF l)) := by
  obtain ⟨s1, s2, s3⟩ := setF_spec _ g
  exact set_good s2 s1 (fun x hx => ((s3 x).1 hx).2) (Nat.lt_of_le_of_lt (setF_len l) hlen)
theorem renN_ok {xs ys : List Int} (hx : numsOK xs 1) (hy : numsOK ys 0) {k n : Int} (h5 : k = 5 → 1 ≤ n) (h6 : k = 6 → 0 ≤ n) (hn : -9223372036854775808 ≤ n ∧ n < 9223372036854775808) :
    (renN xs ys k n = n ∨ (k = 5 ∧ 1 ≤ renN xs ys k n) ∨ (k = 6 ∧ 0 ≤ renN xs ys k n)) ∧ (-9223372036854775808 ≤ renN xs ys k n ∧ renN xs ys k n < 9223372036854775808) := by
  unfold renN
  split
  · rename_i h
    have hlt : (n - 1).toNat < xs.length := by have := h5 h.1; omega
    have := hx _ (List.getElem_mem hlt)
    rw [List.getElem?_eq_getElem hlt, Option.getD_some]
    exact ⟨.inr (.inl ⟨h.1, this.1⟩), by omega⟩
  · split
    · rename_i h
      have hlt : n.toNat < ys.length := by have := h6 h.1; omega
      have := hy _ (List.getElem_mem hlt)
      rw [List.getElem?_eq_getElem hlt, Option.getD_some]
      exact ⟨.inr (.inr ⟨h.1, this.1⟩), by omega⟩
    · exact ⟨.inl rfl, hn⟩
theorem node_num {v : GV} (h : nodeOK v) : (v.kind = 5 → 1 ≤ v.num) ∧ (v.kind = 6 → 0 ≤ v.num) := by
  have h2 := h.2.1
  constructor
  · intro hk
    simpa [formF, hk] using h2
  · intro hk
    simpa [formF, hk] using h2
mutual
theorem ren_ok {xs ys : List Int} (hx : numsOK xs 1) (hy : numsOK ys 0) : ∀ v : GV, good v → nodes v < 1000000 → good (ren xs ys v) ∧ nodes (ren xs ys v) ≤ nodes v ∧ deep (ren xs ys v) ≤ deep v ∧ (ren xs ys v).kind = v.kind
  | .mk k n ng a s l, g, hn => by
    have gl : goods l := g.els
    have hnl : nodesL l < 1000000 := by simp only [nodes] at hn; omega
    have hll := nodesL_len l
    obtain ⟨i1, i2, i3, i4⟩ := renL_ok hx hy l gl hnl
    have il : (renL xs ys l).length = l.length := by simpa using congrArg List.length i4
    rw [ren]
    by_cases h8 : k = 8
    · rw [if_pos h8]
      refine ⟨setF_good i1 (by omega), ?_, ?_, by rw [h8]; rfl⟩
      · have := setF_nodes _ i1
        simp only [nodes]; omega
      · have := setF_deep _ i1
        simp only [deep]; omega
    · rw [if_neg h8]
      have hf := g.1
      rw [fmd_eq] at hf
      have hnum := node_num hf.1
      have hok := g.2
      obtain ⟨r1, r2⟩ := renN_ok hx hy (k := k) (n := n) hnum.1 hnum.2 hok.num
      refine ⟨⟨?_, ?_⟩, ?_, ?_, rfl⟩
      · rw [fmd_eq]
        exact ⟨ren_node hf.1 i4 r1, fun h => absurd h h8, (fmdL_iff _).2 fun x hx' => (i1 x hx').1⟩
      · obtain ⟨o1, o2, o3, o4, o5, o6, o7⟩ := hok
        exact ⟨o1, r2, o3, o4, by rw [il]; exact o5, o6, (okL_iff _).2 fun x hx' => (i1 x hx').2⟩
      · simp only [nodes]; omega
      · simp only [deep]; omega
theorem renL_ok {xs ys : List Int} (hx : numsOK xs 1) (hy : numsOK ys 0) : ∀ l : List GV, goods l → nodesL l < 1000000 → goods (renL xs ys l) ∧ nodesL (renL xs ys l) ≤ nodesL l ∧ deepL (renL xs ys l) ≤ deepL l ∧ (renL xs ys l).map GV.kind = l.map GV.kind
  | [], _, _ => ⟨fun x hx => by simp [renL] at hx, Nat.le_refl _, Nat.le_refl _, rfl⟩
  | v :: l, g, hn => by
    simp only [nodesL] at hn
    obtain ⟨a1, a2, a3, a4⟩ := ren_ok hx hy v (g v (by simp)) (by omega)
    obtain ⟨b1, b2, b3, b4⟩ := renL_ok hx hy l (fun x hx => g x (by simp [hx])) (by omega)
    refine ⟨fun x hx => ?_, ?_, ?_, ?_⟩
    · rw [renL, List.mem_cons] at hx
      rcases hx with rfl | hx
      · exact a1
      · exact b1 x hx
    · simp only [renL, nodesL]; omega
    · simp only [renL, deepL]; omega
    · simp only [renL, List.map_cons, a4, b4]
end
end Go.Proofs.YtgfadepkiejncaaGreat
namespace Go.Ab
theorem AW.cuts4 {P : Program} {N : Nat} {I : (Nat → PV) → St → Prop} {Q : APost} {σ : Nat → PV} {m : St} {c1 c2 c3 c4 R : Code} (h2 : ∀ σ m, I σ m → AW P N R Q σ m) (h : AWs P N I Q [c1, c2, c3, c4] σ m) :
    AW P N (.seq c1 (.seq c2 (.seq c3 (.seq c4 R)))) Q σ m := AW.cuts R h2 [c1, c2, c3, c4] σ m h
end Go.Ab
namespace Go.Proofs.YtgfadepkiejncaaGreat
open Go.Ab Go.Sort
set_option maxHeartbeats 0
set_option maxRecDepth 100000
attribute [local irreducible] AW AList ACall DA AExit.then AExit.inBlock YCall DCall
abbrev intsP (l : List Int) : PV := .list .no (ints l)
theorem node_small {v : GV} (h : good v) : v.abs.length ≤ 1099511627776 := by have := h.1.node.2.2.1; omega
theorem ren_eq (xs ys : List Int) (v : GV) : ren xs ys v = if v.kind = 8 then setV (setF (renL xs ys v.els)) else .mk v.kind (renN xs ys v.kind v.num) v.neg v.abs v.str (renL xs ys v.els) := by cases v; rfl
theorem renL_take (xs ys : List Int) (l : List GV) (i : Nat) (h : i < l.length) : renL xs ys (l.take (i + 1)) = renL xs ys (l.take i) ++ [ren xs ys l[i]] := by
  rw [List.take_succ_eq_append_getElem h, renL_map, renL_map, List.map_append]; rfl
theorem renL_len (xs ys : List Int) (l : List GV) : (renL xs ys l).length = l.length := by rw [renL_map, List.length_map]
theorem node_set {v : GV} (h : good v) (h8 : v.kind = 8) : v.num = 0 ∧ v.neg = false ∧ v.abs = [] ∧ v.str = ⟨#[]⟩ := by
  have hf := node_fields h.1.node
  obtain ⟨f1, f2, f3, f4⟩ := hf
  refine ⟨f4 (by omega) (by omega) (by omega) (by omega), (f1 (by omega) (by omega)).1, (f1 (by omega) (by omega)).2, ?_⟩
  have h2 := f2 (by omega)
  have h3 : v.str.size = 0 := by
    rw [Lib.toList_data] at h2
    have := congrArg List.length h2
    simpa using this
  exact ByteArray.ext (Array.eq_empty_of_size_eq_zero h3)
theorem val_renamed1 (xs ys : List Int) (hx : numsOK xs 1) (hy : numsOK ys 0) (lx : xs.length < 1152921504606846976) (ly : ys.length < 1152921504606846976) (v : GV) (gv : good v) (hv : nodes v < 1000000) : Gives Tryz.prog 111 [v.pv, intsP xs, intsP ys] (ren xs ys v).pv := by
  induction hk : nodes v using Nat.strongRecOn generalizing v with
  | _ k ih =>
  subst hk
  have hn := nodes_eq v
  have hl := nodesL_len v.els
  obtain ⟨i1, i2, i3, i4⟩ := renL_ok hx hy v.els gv.els (by omega)
  have il := renL_len xs ys v.els
  have hnum := node_num gv.1.node
  intro m
  refine ACall.of_aw Tryz.func111 Tryz.ntmps111 rfl rfl (by simp) ?_
  refine AW.cuts4 (I := fun σ m' => σ 1 = intsP xs ∧ σ 2 = intsP ys ∧ σ 3 = .loc m.nloc 0 ∧ σ 6 = .loc (m.nloc + 1) 0 ∧ σ 7 = .loc (m.nloc + 2) 0 ∧ m'.loc m.nloc = some v.cells ∧ m'.loc (m.nloc + 1) = some zcV ∧
    m'.loc (m.nloc + 2) = some [vI v.kind, vI (renN xs ys v.kind v.num), vB v.neg, .list .no (limbs v.abs), vS v.str, .list .no (GV.rows v.els)] ∧ m'.nloc = m.nloc + 3 ∧ Same m m') ?_ ?_
  rotate_left
  · simp only [AWs]
    refine tS ?_
    refine tS1 fun K Kp hK hKp => ?_; refine Gives.at (clone22 v.abs (node_small gv)) ?_; apply hK; clear hK hKp K Kp
    have hc : ∀ n : Int, v.cells.set 1 (vI n) = [vI v.kind, vI n, vB v.neg, .list .no (limbs v.abs), vS v.str, .list .no (GV.rows v.els)] := fun n => by cases v; rfl
    have hc0 : v.cells.set 3 (.list .no (limbs v.abs)) = v.cells := by cases v; rfl
    have hcn : v.cells = [vI v.kind, vI v.num, vB v.neg, .list .no (limbs v.abs), vS v.str, .list .no (GV.rows v.els)] := cells_eq v
    by_cases h5 : v.kind = 5
    · have h1 := hnum.1 h5
      by_cases hle : v.num ≤ xs.length
      · obtain ⟨q, hq⟩ : ∃ q : Nat, v.num - 1 = q := ⟨(v.num - 1).toNat, by omega⟩
        have hlt : q < xs.length := by omega
        have hr : renN xs ys v.kind v.num = xs[q] := by
          rw [renN, if_pos ⟨h5, hle⟩, hq]; simp [hlt]
        have F := (aand @h5 @hc0); refine tFg ?_; (try clear F)
        have F := (aand @h5 (aand @hc0 @hle)); refine tFa ?_; (try clear F)
        have F := (aand @h5 (aand @hc0 (aand @hq (aand @hlt @ints_getD)))); refine tF ?_; (try clear F)
        exact ⟨by simp [upd_lit], by simp [upd_lit], by simp [upd_lit], by simp [upd_lit], by simp [upd_lit], by simp [Nat.add_assoc], by simp, by rw [hr]; simp [hc, h5], by simp, Same.auto⟩
      · have hr : renN xs ys v.kind v.num = v.num := by
          rw [renN, if_neg (fun h => hle h.2), if_neg (fun h => by omega)]
        have F := (aand @h5 @hc0); refine tFg ?_; (try clear F)
        have F := (aand @h5 (aand @hc0 @hle)); refine tFa ?_; (try clear F)
        have F := (aand @h5 @hc0); refine tFa ?_; (try clear F)
        exact ⟨by simp [upd_lit], by simp [upd_lit], by simp [upd_lit], by simp [upd_lit], by simp [upd_lit], by simp [Nat.add_assoc], by simp, by rw [hr]; simp [← hcn], by simp, Same.auto⟩
    by_cases h6 : v.kind = 6
    · have h1 := hnum.2 h6
      by_cases hle : v.num < ys.length
      · obtain ⟨q, hq⟩ : ∃ q : Nat, v.num = q := ⟨v.num.toNat, by omega⟩
        have hlt : q < ys.length := by omega
        have hr : renN xs ys v.kind v.num = ys[q] := by
          rw [renN, if_neg (fun h => h5 h.1), if_pos ⟨h6, hle⟩, hq]; simp [hlt]
        have F := (aand @h5 @hc0); refine tFg ?_; (try clear F)
        have F := (aand @h5 @hc0); refine tFa ?_; (try clear F)
        have F := (aand @h6 @hc0); refine tFg ?_; (try clear F)
        have F := (aand @h6 (aand @hc0 @hle)); refine tFa ?_; (try clear F)
        have F := (aand @h6 (aand @hc0 (aand @hq (aand @hlt @ints_getD)))); refine tF ?_; (try clear F)
        exact ⟨by simp [upd_lit], by simp [upd_lit], by simp [upd_lit], by simp [upd_lit], by simp [upd_lit], by simp [Nat.add_assoc], by simp, by rw [hr]; simp [hc, h6], by simp, Same.auto⟩
      · have hr : renN xs ys v.kind v.num = v.num := by
          rw [renN, if_neg (fun h => h5 h.1), if_neg (fun h => hle h.2)]
        have F := (aand @h5 @hc0); refine tFg ?_; (try clear F)
        have F := (aand @h5 @hc0); refine tFa ?_; (try clear F)
        have F := (aand @h6 @hc0); refine tFg ?_; (try clear F)
        have F := (aand @h6 (aand @hc0 @hle)); refine tFa ?_; (try clear F)
        exact ⟨by simp [upd_lit], by simp [upd_lit], by simp [upd_lit], by simp [upd_lit], by simp [upd_lit], by simp [Nat.add_assoc], by simp, by rw [hr]; simp [← hcn], by simp, Same.auto⟩
    · have hr : renN xs ys v.kind v.num = v.num := by
        rw [renN, if_neg (fun h => h5 h.1), if_neg (fun h => h6 h.1)]
      have F := (aand @h5 @hc0); refine tFg ?_; (try clear F)
      have F := (aand @h5 @hc0); refine tFa ?_; (try clear F)
      have F := (aand @h6 @hc0); refine tFg ?_; (try clear F)
      have F := (aand @h6 @hc0); refine tFa ?_; (try clear F)
      exact ⟨by simp [upd_lit], by simp [upd_lit], by simp [upd_lit], by simp [upd_lit], by simp [upd_lit], by simp [Nat.add_assoc], by simp, by rw [hr]; simp [← hcn], by simp, Same.auto⟩
  · rintro σ m' ⟨t1, t2, t3, t6, t7, g0, g1, g2, n1, sm⟩
    have q0 : m.nloc < m'.nloc := by omega
    have q1 : m.nloc + 1 < m'.nloc := by omega
    have q2 : m.nloc + 2 < m'.nloc := by omega
    obtain ⟨N, hN⟩ : ∃ N, N = renN xs ys v.kind v.num := ⟨_, rfl⟩
    rw [← hN] at g2
    have F := (aand @t7 (aand @g2 (aand @q2 (aand @t3 (aand @g0 @q0))))); refine tF ?_; (try clear F)
    refine AW.nilC (m := m'.setLoc (m.nloc + 2) ([vI v.kind, vI N, vB v.neg, .list .no (limbs v.abs), vS v.str, .v (.slice none 0 0)])) (n := m.nloc + 2) (i := 5) (cs := [vI v.kind, vI N, vB v.neg, .list .no (limbs v.abs), vS v.str, .v (.slice none 0 0)]) q2 (by rw [setLoc_loc, if_pos rfl]) (by rfl) ?_
    rw [setLoc_setLoc]
    simp only [List.set]
    refine AW.loop (ι := Nat) (fun i σ m'' => i ≤ v.els.length ∧ (∃ o, m''.loc (m.nloc + 2) = some ([vI v.kind, vI N, vB v.neg, .list .no (limbs v.abs), vS v.str, .list o (GV.rows (renL xs ys (v.els.take i)))]) ∧ Ow m m'' o 6 i) ∧ m''.loc m.nloc = some v.cells ∧ m''.loc (m.nloc + 1) = some zcV ∧ m.nloc + 3 ≤ m''.nloc ∧ σ 56 = vI i ∧ σ 55 = vI v.els.length ∧ σ 54 = GV.pvs v.els ∧ σ 1 = intsP xs ∧ σ 2 = intsP ys ∧ σ 3 = .loc m.nloc 0 ∧ σ 6 = .loc (m.nloc + 1) 0 ∧ σ 7 = .loc (m.nloc + 2) 0) (fun i => v.els.length - i) 0 ?_ ?_
    · exact ⟨by simp, ⟨.full, by simp [GV.rows, renL], .full (sm.setLoc (by omega) _)⟩, by simp [g0], by simp [g1], by simp; omega, by simp [upd_lit], by simp [upd_lit], by simp [upd_lit], by simp [upd_lit, t1], by simp [upd_lit, t2], by simp [upd_lit, t3], by simp [upd_lit, t6], by simp [upd_lit, t7]⟩
    clear t1 t2 t3 t6 t7 g0 g1 g2 q0 q1 q2 n1 sm
    rintro i σ m' ⟨hi, ⟨o, g2, ow⟩, g0, g1, hnl, t56, t55, t54, t1, t2, t3, t6, t7⟩
    have q0 : m.nloc < m'.nloc := by omega
    have q1 : m.nloc + 1 < m'.nloc := by omega
    have q2 : m.nloc + 2 < m'.nloc := by omega
    by_cases hlt : i < v.els.length
    · have ht := renL_take xs ys v.els i hlt
      have hlr := renL_len xs ys (v.els.take i)
      have hlt' : (v.els.take i).length = i := by simp; omega
      have hg := nodes_get v.els i hlt
      have gx := gv.els _ (List.getElem_mem hlt)
      have hne : m.nloc + 2 ≠ m'.nloc := by omega
      have hn0' : m.nloc + 2 < m'.nloc + 1 := by omega
      have ow2 : Ow m ((m'.newLoc zcV).setLoc m'.nloc v.els[i].cells) o 6 i := ⟨(ow.1.newLoc _).setLoc (by have := ow.1.lloc; omega) _, ow.2⟩
      have F := (aand @t56 (aand @t55 @hlt)); refine tFa ?_; (try clear F)
      have F := (aand @t54 (aand @t56 (aand @hlt @rows_getD))); refine tF ?_; (try clear F)
      repeat (first | refine AW.seq ?_ | refine AW.block ?_ | refine AW.skip ?_ | refine AExit.norT ?_ | refine AExit.norB ?_ | refine AList.nil ?_)
      refine AW.draw [.S, .R, .R, .S, .S, .R, .S, .W, .S, .W] (by decide +kernel) ?_; have F := (aand @t1 (aand @t2 (aand @t7 (aand @g2 (aand @hne (aand @hn0' @hlt)))))); refine dST 0 ?_; refine dRT 1 ?_; refine dRT 2 ?_; refine dST 3 ?_; refine dST 4 ?_; refine dCT ((ih _ (by omega) v.els[i] gx (by omega) rfl)) 5 ?_; refine dST 6 ?_; (try clear F); refine DA.W (oi := ?oiw1) 7 ?aw1 ?bw1 ?cw1 ?dw1 ?ew1 ?fw1; (case aw1 => rfl); (case bw1 => decide +kernel); (case cw1 => rfl); (case dw1 => rfl); (case ew1 => decide); intro K Kp hK hKp; (simp [t7, upd_lit]; refine app25 (l' := [ren xs ys v.els[i]]) ow2 (by rw [renL_len]; simp; omega) (by rw [renL_len]; simp; omega) fun o' m'' ho' hs => hK _ _ ?_; clear hK hKp K Kp); have F := (aand @t1 (aand @t2 (aand @t7 (aand @g2 (aand @hne (aand @hn0' @hlt)))))); (try clear F)
      have q2'' : m.nloc + 2 < m''.nloc := by rw [hs.nloc]; simp; omega
      have g2'' : m''.loc (m.nloc + 2) = some ([vI v.kind, vI N, vB v.neg, .list .no (limbs v.abs), vS v.str, .list o (GV.rows (renL xs ys (v.els.take i)))]) := by rw [hs.loc]; simp [hne, g2]
      skip; have F := (aand @t7 (aand @g2'' @q2'')); refine dST 8 ?_; refine dW 9 ?_; (try clear F); first | refine dN ?_ | refine dB ?_ | refine DA.done (by decide +kernel) ?_
      have F := @t56; refine tF ?_; (try clear F)
      refine ⟨i + 1, ⟨by omega, ⟨o', by simp [ht], ⟨ho'.1.setLoc (by omega) _, ho'.2⟩⟩, ?_, ?_, by simp [hs.nloc]; omega, by simp [upd_lit], by simp [upd_lit, t55], by simp [upd_lit, t54], by simp [upd_lit, t1], by simp [upd_lit, t2], by simp [upd_lit, t3], by simp [upd_lit, t6], by simp [upd_lit, t7]⟩, by omega⟩
      · simp [hs.loc, g0, show m.nloc ≠ m'.nloc from by omega]
      · simp [hs.loc, g1, show m.nloc + 1 ≠ m'.nloc from by omega]
    · have e : i = v.els.length := by omega
      rw [e, List.take_length] at g2
      have F := (aand @t56 (aand @t55 @hlt)); refine tFa ?_; (try clear F)
      by_cases h8 : v.kind = 8
      · rw [ren_eq, if_pos h8]
        obtain ⟨z1, z2, z3, z4⟩ := node_set gv h8
        have hz : N = 0 := by rw [hN, renN, if_neg (fun h => by omega), if_neg (fun h => by omega), z1]
        have he : (setV (setF (renL xs ys v.els))).els = setF (renL xs ys v.els) := rfl
        have F := (aand @t3 (aand @g0 @q0)); refine tF ?_; (try clear F)
        have F := @h8; refine tFa ?_; (try clear F)
        have F := (aand @t7 (aand @g2 @q2)); refine tF ?_; (try clear F)
        refine tS1 fun K Kp hK hKp => ?_; refine Gives.at (val_sorted (renL xs ys v.els) i1 (by omega)) ?_; apply hK; clear hK hKp K Kp
        have F := (aand @t7 (aand @g2 (aand @q2 (aand @t6 (aand @g1 (aand @q1 @he)))))); refine tF ?_; (try clear F)
        exact Fin.givesC (p := .agg [vI v.kind, vI N, vB v.neg, .list .no (limbs v.abs), vS v.str, GV.pvs (setF (renL xs ys v.els))]) rfl (by simp [upd_lit, t6, q1]) ((ow.1.setLoc (by omega) _).setLoc (by omega) _) (by simp [hz, h8, z2, z3, z4, GV.cells, limbs])
      · rw [ren_eq, if_neg h8]
        have F := (aand @t3 (aand @g0 @q0)); refine tF ?_; (try clear F)
        have F := @h8; refine tFa ?_; (try clear F)
        have F := (aand @t7 (aand @g2 (aand @q2 (aand @t6 (aand @g1 @q1))))); refine tF ?_; (try clear F)
        exact Fin.givesC (p := .agg [vI v.kind, vI N, vB v.neg, .list .no (limbs v.abs), vS v.str, .list o (GV.rows (renL xs ys v.els))]) rfl (by simp [upd_lit, t6, q1]) (ow.1.setLoc (by omega) _) (by simp [hN, GV.cells])
end Go.Proofs.YtgfadepkiejncaaGreat
namespace Go.Proofs.YtgfadepkiejncaaGreat
open Go.Ab Go.Sort
set_option maxHeartbeats 0
set_option maxRecDepth 100000
end Go.Proofs.YtgfadepkiejncaaGreat
namespace Go.Proofs.YtgfadepkiejncaaGreat
open Go.Ab Go.Sort
set_option maxHeartbeats 0
set_option maxRecDepth 100000
attribute [local irreducible] AW AList ACall DA AExit.then AExit.inBlock YCall DCall
end Go.Proofs.YtgfadepkiejncaaGreat
namespace Go.Proofs.YtgfadepkiejncaaGreat
open Go.Ab Go.Sort
set_option maxHeartbeats 0
set_option maxRecDepth 100000
attribute [local irreducible] AW AList ACall DA AExit.then AExit.inBlock YCall DCall
def fiF (p : Int → Bool) : List Int → Int → Int
  | [], _ => -1
  | x :: l, i => if p x then i else fiF p l (i + 1)
theorem fiF_nn (p : Int → Bool) : ∀ (l : List Int) (i : Int), 0 ≤ i → (0 ≤ fiF p l i ↔ l.any p = true)
  | [], i, _ => by simp [fiF]
  | x :: l, i, h => by
    have := fiF_nn p l (i + 1) (by omega)
    cases hx : p x <;> simp [fiF, hx, h] <;> simpa using this
theorem index_int (l : List Int) (p : Int → Bool) (f : FuncId) (hl : l.length < 1152921504606846976) (hf : ∀ x, Gives Tryz.prog f [vI x] (vB (p x))) : Gives Tryz.prog 150 [intsP l, .clo f [] []] (vI (fiF p l 0)) := by
  intro m
  refine ACall.of_aw Tryz.func150 Tryz.ntmps150 rfl rfl (by simp) ?_
  refine tS ?_
  refine AW.loop (ι := Nat) (fun i σ m' => i ≤ l.length ∧ fiF p (l.drop i) i = fiF p l 0 ∧ σ 8 = vI i ∧ σ 7 = vI l.length ∧ σ 0 = intsP l ∧ σ 1 = .clo f [] [] ∧ m' = m) (fun i => l.length - i) 0 ?_ ?_
  · exact ⟨by simp, rfl, by simp [upd_lit], by simp [upd_lit], by simp [upd_lit], by simp [upd_lit], rfl⟩
  rintro i σ m' ⟨hi, hF, t8, t7, t0, t1, rfl⟩
  by_cases hlt : i < l.length
  · rw [List.drop_eq_getElem_cons hlt, fiF] at hF
    have F := (aand @t8 (aand @t7 @hlt)); refine tFa ?_; (try clear F)
    have F := (aand @t0 (aand @t1 (aand @t8 (aand @hlt @ints_getD)))); refine tF ?_; (try clear F)
    have F := (aand @t0 (aand @t1 (aand @hlt @ints_getD))); refine tF1 fun K Kp hK hKp => ?_; (try clear F); refine Gives.at (hf l[i]) ?_; apply hK; clear hK hKp K Kp
    cases hp : p l[i] with
    | true =>
      rw [hp, if_pos rfl] at hF
      refine tSa ?_
      exact Fin.gives Same.auto rfl (by simp [upd_lit, ← hF])
    | false =>
      rw [hp, if_neg (by simp)] at hF
      refine tSa ?_
      have F := @t8; refine tF ?_; (try clear F)
      exact ⟨i + 1, ⟨by omega, hF, by simp [upd_lit], by simp [upd_lit, t7], by simp [upd_lit, t0], by simp [upd_lit, t1], rfl⟩, by omega⟩
  · have e : i = l.length := by omega
    rw [e, List.drop_length, fiF] at hF
    have F := (aand @t8 (aand @t7 @hlt)); refine tFa ?_; (try clear F)
    exact Fin.gives Same.auto rfl (by simp [upd_lit, ← hF])
theorem contains_int (l : List Int) (p : Int → Bool) (f : FuncId) (hl : l.length < 1152921504606846976) (hf : ∀ x, Gives Tryz.prog f [vI x] (vB (p x))) : Gives Tryz.prog 108 [intsP l, .clo f [] []] (vB (l.any p)) := by
  have e : decide (0 ≤ fiF p l 0) = l.any p := by rw [Bool.eq_iff_iff, decide_eq_true_eq]; exact fiF_nn p l 0 (by omega)
  intro m
  refine ACall.of_aw Tryz.func108 Tryz.ntmps108 rfl rfl (by simp) ?_
  refine tS ?_
  refine tS1 fun K Kp hK hKp => ?_; refine Gives.at (index_int l p f hl hf) ?_; apply hK; clear hK hKp K Kp
  refine tS ?_
  exact Fin.gives Same.auto rfl (by simp [upd_lit, ← e])
theorem clo109 (x : Int) : Gives Tryz.prog 109 [vI x] (vB (decide (x < 1))) := by
  intro m
  refine ACall.of_aw Tryz.func109 Tryz.ntmps109 rfl rfl (by simp) ?_
  refine tS ?_
  exact Fin.gives Same.auto
theorem clo110 (x : Int) : Gives Tryz.prog 110 [vI x] (vB (decide (x < 0))) := by
  intro m
  refine ACall.of_aw Tryz.func110 Tryz.ntmps110 rfl rfl (by simp) ?_
  refine tS ?_
  exact Fin.gives Same.auto
def argB (xs ys : List Int) : Bool := (xs.any fun x => decide (x < 1)) || (ys.any fun x => decide (x < 0))
theorem val_renamed (xs ys : List Int) (hx : numsOK xs 1) (hy : numsOK ys 0) (hb : argB xs ys = false) (lx : xs.length < 1152921504606846976) (ly : ys.length < 1152921504606846976) (v : GV) (gv : good v) (hv : nodes v < 1000000) : Gives Tryz.prog 59 [v.pv, intsP xs, intsP ys] (outP (ren xs ys v) 0) := by
  have h1 := contains_int xs _ 109 lx clo109
  have h2 := contains_int ys _ 110 ly clo110
  rw [argB, Bool.or_eq_false_iff] at hb
  rw [hb.1] at h1
  rw [hb.2] at h2
  intro m
  refine ACall.of_aw Tryz.func59 Tryz.ntmps59 rfl rfl (by simp) ?_
  refine tS ?_
  refine tS1 fun K Kp hK hKp => ?_; refine Gives.at (h1) ?_; apply hK; clear hK hKp K Kp
  refine tSg ?_
  refine tSc (h2) ?_
  refine tSa ?_
  refine tS1 fun K Kp hK hKp => ?_; refine Gives.at (val_renamed1 xs ys hx hy lx ly v gv hv) ?_; apply hK; clear hK hKp K Kp
  refine tS ?_
  exact Fin.gives2 Same.auto (by simp [ResP, ResL, resV, upd_lit, show Tryz.f59.results.toList = [.cell 6 27, .tmp 7] from rfl])
end Go.Proofs.YtgfadepkiejncaaGreat
namespace Go.Proofs.YtgfadepkiejncaaGreat
open Go.Ab
set_option maxHeartbeats 0
set_option maxRecDepth 100000
attribute [local irreducible] AW AList ACall DA AExit.then AExit.inBlock YCall DCall
theorem backward (a : List Int) : Gives Tryz.prog 168 [.list .no (limbs a)] (.clo 185 [] [.ro [.list .no (limbs a)]]) := by
  intro m
  refine ACall.of_aw Tryz.func168 Tryz.ntmps168 rfl rfl (by simp) ?_
  refine tSn ?_
  refine AW.frz (n := m.nloc) (d := 2) (cs := [.list .no (limbs a)]) (by simp) (by simp) ?_
  refine tS ?_
  exact Fin.gives ((Same.newLoc (Same.refl m) _).dropLoc (Nat.le_refl _))
def backYs (a : List Int) : List (List PV) := (List.range a.length).map fun (i : Nat) => [vI ((a.length : Int) - 1 - i), vW (a[a.length - 1 - i]?.getD 0)]
theorem back_iter {n b : Nat} {m0 : St} (a : List Int) (la : a.length < 1152921504606846976) {I : Nat → St → Prop} (y : Yields Tryz.prog n b m0 (backYs a) I) (m : St) (hI : I 0 m) (hb : b ≤ m.nloc) :
    ACall Tryz.prog 185 [.yld n, .ro [.list .no (limbs a)]] m (fun r m' => r = .ret (.tup []) ∧ I a.length m' ∧ Only b m m' ∧ m'.nloc = m.nloc) := by
  refine ACall.of_aw Tryz.func185 Tryz.ntmps185 rfl rfl (by simp) ?_
  refine tS ?_
  refine AW.loop (ι := Nat) (fun i σ m' => i ≤ a.length ∧ I i m' ∧ Only b m m' ∧ m'.nloc = m.nloc ∧ σ 3 = vI ((a.length : Int) - 1 - i) ∧ σ 1 = .ro [.list .no (limbs a)] ∧ σ 0 = .yld n) (fun i => a.length - i) 0 ?_ ?_
  · exact ⟨by simp, hI, Only.refl b m, rfl, by simp [upd_lit], by simp [upd_lit], by simp [upd_lit]⟩
  rintro i σ m' ⟨hi, hIi, oi, ni, h3, h1, h0⟩
  have F := (aand @h3 (aand @h1 @h0)); refine tF ?_; (try clear F)
  refine AW.condD (p := i < a.length) (by simp [upd_lit]; omega) (fun hlt => ?_) (fun hge => ?_)
  · obtain ⟨j, hj⟩ : ∃ j : Nat, a.length = i + 1 + j := ⟨a.length - (i + 1), by omega⟩
    have e1 : (a.length : Int) - 1 - i = (j : Int) := by omega
    have ej : j < a.length := by omega
    have e2 : a.length - 1 - i = j := by omega
    have e3 : (j : Int) < a.length := by omega
    rw [e1] at h3
    have F := (aand @h3 (aand @h1 (aand @h0 (aand @ej (aand @limbs_getD @e3))))); refine tF ?_; (try clear F)
    refine AList.op (by decide) ?_; intro K Kp hK hKp; simp [upd_lit, h0]
    have hc := y.call i (by simpa [backYs] using hlt) m' (by omega) hIi
    simp only [backYs, List.getElem_map, List.getElem_range, e1, e2, List.getElem?_eq_getElem ej, Option.getD_some] at hc
    refine hc.mono ?_
    rintro _ m1 ⟨rfl, hI2, o2, n2⟩
    apply hK; clear hK hKp K Kp
    refine tS ?_
    refine AW.cond (t := false) (by simp [upd_lit]) (fun h => by cases h) (fun _ => ?_)
    have F := @h3; refine tF ?_; (try clear F)
    exact ⟨i + 1, ⟨by omega, hI2, oi.trans o2, by omega, by simp [upd_lit]; omega, by simp [upd_lit, h1], by simp [upd_lit, h0]⟩, by omega⟩
  · refine tS ?_
    have e : i = a.length := by omega
    subst e
    obtain ⟨m'', l1, l2, l3, l4⟩ := y.leaves hb hI hIi oi
    exact ⟨.tup [], m'', ⟨[], rfl, rfl⟩, .inr ⟨l1.lv, by simp⟩, by simp, l2, l3, l4⟩
def restJ (a : List Int) : Nat → Int
  | 0 => 0
  | j + 1 => (restJ a j * 4294967296 + a[a.length - 1 - j]?.getD 0) % 10
theorem restJ_range (a : List Int) : ∀ j, 0 ≤ restJ a j ∧ restJ a j < 10
  | 0 => by simp [restJ]
  | j + 1 => by simp only [restJ]; omega
theorem restJ_at (a : List Int) : ∀ j, j ≤ a.length → restAt a (a.length - j) (restJ a j) = restAt a a.length 0
  | 0, _ => rfl
  | j + 1, h => by
    have ih := restJ_at a j (by omega)
    rw [show a.length - j = (a.length - (j + 1)) + 1 from by omega, restAt] at ih
    rw [← ih, restJ, List.getD_eq_getElem?_getD, show a.length - 1 - j = a.length - (j + 1) from by omega]
theorem val_tens (n : Bool) (a : List Int) (la : a.length < 1152921504606846976) (ha : limbOK a) : Gives Tryz.prog 155 [intv n a] (vB (tensF a)) := by
  have hF : tensF a = decide (restJ a a.length = 0) := by
    have := restJ_at a a.length (Nat.le_refl _)
    rw [Nat.sub_self, restAt] at this
    unfold tensF
    rw [← this]; simp
  intro m
  refine ACall.of_aw Tryz.func155 Tryz.ntmps155 rfl rfl (by simp) ?_
  refine tS ?_
  refine tS1 fun K Kp hK hKp => ?_; refine Gives.at (backward a) ?_; apply hK; clear hK hKp K Kp
  refine tS ?_
  refine AW.rangeFunc (f := 185) (first := []) (caps := [.ro [.list .no (limbs a)]]) (by simp [upd_lit]) (fun fn => ?_)
  generalize hmm : ((m.newLoc [vB n, .list .no (limbs a)]).newLoc [PV.v (Value.int .u64 0)]).setLoc (m.nloc + 1) [PV.v (Value.int .u64 0)] = mm
  have n1 : mm.nloc = m.nloc + 2 := by rw [← hmm]; rfl
  have sm : Same m mm := by rw [← hmm]; exact Same.auto
  have g1 : mm.loc (m.nloc + 1) = some [PV.v (Value.int .u64 0)] := by rw [← hmm]; simp
  clear hmm
  generalize hL : LoopA.mk _ _ _ _ _ _ _ _ = L
  refine ACall.mono (back_iter a la (Yields.ofVar (L := L) (P := Tryz.prog) (c := m.nloc + 1) (mm := mm) (f := fun j => [PV.v (Value.int .u64 (restJ a j))]) (by rw [n1]; omega) rfl (by rw [← hL]) (by rw [← hL]) ?_ ?_ ?_ ?_) _ ?_ (by simp)) ?_
  · intro x hx
    obtain ⟨y, _, rfl⟩ := List.mem_map.1 hx
    rw [← hL]; rfl
  · rw [← hL]; intro t ht; simp at ht; rcases ht with rfl | rfl
    · exact (by decide : (9 : Nat) < 19)
    · exact (by decide : (10 : Nat) < 19)
  · intro j a t; exact ⟨trivial, trivial⟩
  · intro j hj m' hI
    have hj' : j < a.length := by simpa [backYs] using hj
    have e1 : m'.loc (m.nloc + 1) = some [PV.v (Value.int .u64 (restJ a j))] := by rw [hI.loc _ (by rw [n1]; omega)]; simp
    have e2 : m.nloc + 1 < m'.nloc := by have := hI.lo'; rw [n1] at this; omega
    have hr := restJ_range a j
    have hx := getD_ok ha (a.length - 1 - j)
    have u1 : IntKind.u64.wrap (restJ a j * 4294967296) = restJ a j * 4294967296 := wrap_u64 _ (by omega) (by omega)
    have u2 : IntKind.u64.wrap (a[a.length - 1 - j]?.getD 0) = a[a.length - 1 - j]?.getD 0 := wrap_u64 _ (by omega) (by omega)
    have u3 : IntKind.u64.wrap (restJ a j * 4294967296 + a[a.length - 1 - j]?.getD 0) = restJ a j * 4294967296 + a[a.length - 1 - j]?.getD 0 := wrap_u64 _ (by omega) (by omega)
    have u4 : (restJ a j * 4294967296 + a[a.length - 1 - j]?.getD 0).tmod 10 = restJ a (j + 1) := by rw [restJ, Int.tmod_eq_emod_of_nonneg (by omega)]
    subst hL
    simp only [backYs, List.getElem_map, List.getElem_range, parm]
    refine tS ?_
    refine ⟨rfl, ?_⟩
    have F := (aand @e1 (aand @e2 (aand @u1 (aand @u2 (aand @u3 @u4))))); refine tF ?_; (try clear F)
    exact ⟨rfl, _, rfl, by simp [setL]⟩
  · refine ⟨by simp, by simp, fun i hi => ?_, fun i hi => rfl, fun i hi => rfl, rfl, rfl, rfl, rfl⟩
    by_cases e : i = m.nloc + 1
    · subst e; simp [g1, n1, restJ]
    · simp [e]
  · rintro _ m' ⟨rfl, hI, ho, hn'⟩
    refine ⟨_, _, rfl, by rw [hn']; simp, by rw [hI.lp _ (by simp)]; simp; rfl, by rw [← hL]; simp, by rw [← hL], ?_⟩
    have e1 : m'.loc (m.nloc + 1) = some [PV.v (Value.int .u64 (restJ a a.length))] := by rw [hI.loc _ (by rw [n1]; omega)]; simp
    have e2 : m.nloc + 1 < m'.nloc := by have := hI.lo'; rw [n1] at this; omega
    have F := (aand @e1 @e2); refine tF ?_; (try clear F)
    rw [hF]
    refine Fin.gives ?_
    have hs := hI.lo'
    rw [n1] at hs
    refine Same.mk (by have := sm.lloc; simp; omega) (by simp [hI.ntok]; exact sm.ltok) (fun i hi => ?_) (fun k hk => ?_) (fun i hi => ?_) (fun i hi => ?_) (fun k cs h1 h2 hc => (congrFun hI.arr k).trans (sm.getA h1 h2 hc))
    · simp; rw [hI.loc i (by rw [n1]; omega)]; simp [show i ≠ m.nloc + 1 from by omega, n1, show i ≠ m.nloc + 2 from by omega]; exact sm.get hi
    · simp [hI.top, hI.wd]; exact ⟨(sm.top k hk).1.symm, (sm.top k hk).2.symm⟩
    · simp; rw [if_neg (by omega), hI.lp i (by rw [n1]; omega)]; simp [n1, show i ≠ m.nloc + 2 from by omega]; exact sm.getL hi
    · rw [show (m'.dropLp mm.nloc).it = m'.it from rfl, hI.it i (by rw [n1]; omega)]; simp [upd_lit, St.newLp, n1, show i ≠ m.nloc + 2 from by omega]; exact sm.getI hi
end Go.Proofs.YtgfadepkiejncaaGreat
namespace Go.Ab
@[simp] theorem setIt_nloc (m : St) (n : Nat) (s : ByteArray) (i : Nat) : (m.setIt n s i).nloc = m.nloc := rfl
theorem Same.newIt {m m' : St} (h : Same m m') (s : ByteArray) (i : Nat) : Same m (m'.newIt s i) :=
  Same.trans h (Same.mk (Nat.le_succ _) (Nat.le_refl _) (fun n hn => upd_ne _ _ _ _ (by omega)) (fun _ _ => ⟨rfl, rfl⟩) (fun n hn => upd_ne _ _ _ _ (by omega)) (fun n hn => upd_ne _ _ _ _ (by omega)) (fun _ _ _ _ h => h))
theorem Same.setIt {m m' : St} (h : Same m m') {n : Nat} (hn : m.nloc ≤ n) (s : ByteArray) (i : Nat) : Same m (m'.setIt n s i) :=
  Same.mk h.lloc h.ltok (fun i hi => h.get hi) (fun k hk => ⟨(h.top k hk).1.symm, (h.top k hk).2.symm⟩) (fun n hn => h.getL hn) (fun j hj => by show upd m'.it n _ j = _; rw [upd_ne _ _ _ _ (by omega)]; exact h.getI hj) (fun k cs hk hd hc => h.getA hk hd hc)
end Go.Ab
namespace Go.Proofs.YtgfadepkiejncaaGreat
open Go.Ab
set_option maxHeartbeats 0
set_option maxRecDepth 100000
attribute [local irreducible] AW AList ACall DA AExit.then AExit.inBlock YCall DCall
def badR (r : Int) : Bool := !decide (r = 10) && (decide (r < 32) || decide (126 < r))
theorem val_rune (r : Int) : Gives Tryz.prog 157 [.v (.int .i32 r)] (vB (badR r)) := by
  intro m
  refine ACall.of_aw Tryz.func157 Tryz.ntmps157 rfl rfl (by simp) ?_
  by_cases h1 : r = 10
  · have F := @h1; refine tFg ?_; (try clear F)
    exact Fin.gives Same.auto rfl (by simp [upd_lit, badR, h1])
  by_cases h2 : r < 32
  · have F := (aand @h1 @h2); refine tFg ?_; (try clear F)
    exact Fin.gives Same.auto rfl (by simp [upd_lit, badR, h1, h2])
  · have F := (aand @h1 @h2); refine tFg ?_; (try clear F)
    exact Fin.gives Same.auto rfl (by simp [upd_lit, badR, h1, h2])
theorem decodeN_big (n b0 b1 b2 b3 : Nat) (h : 128 ≤ b0) : 128 ≤ (Lib.decodeN n b0 b1 b2 b3).1 := by
  unfold Lib.decodeN
  repeat' split
  all_goals first | omega | (simp; done) | (simp; omega)
theorem byteAt_get (s : ByteArray) (i : Nat) : byteAt s i = ((s.get! i).toNat : Int) := by
  unfold byteAt
  congr 2
  simp [ByteArray.get!, List.getD, Array.getElem!_eq_getD]; rfl
theorem dec_bad (s : ByteArray) (i : Nat) : badR ((Utf8.decode s i).1 : Int) = !textB (byteAt s i) ∧ (textB (byteAt s i) = true → (Utf8.decode s i).2 = 1) := by
  rw [Lib.decode_at, byteAt_get]
  generalize (s.get! i).toNat = b0
  by_cases h : b0 < 128
  · have e : Lib.decodeN (s.size - i) b0 (s.get! (i + 1)).toNat (s.get! (i + 2)).toNat (s.get! (i + 3)).toNat = (b0, 1) := by unfold Lib.decodeN; rw [if_pos h]
    rw [e]
    refine ⟨?_, fun _ => rfl⟩
    simp only [badR, textB, Bool.not_not]
    rw [Bool.and_comm]
  · have := decodeN_big (s.size - i) b0 (s.get! (i + 1)).toNat (s.get! (i + 2)).toNat (s.get! (i + 3)).toNat (by omega)
    have e1 : textB (b0 : Int) = false := by
      simp [textB]; omega
    rw [e1]
    refine ⟨?_, fun q => by cases q⟩
    simp [badR]; omega
def fb (s : ByteArray) : Nat → Nat → Int
  | 0, _ => -1
  | k + 1, i => if textB (byteAt s i) = true then fb s k (i + 1) else i
theorem fb_nn (s : ByteArray) : ∀ k i, 0 ≤ fb s k i ↔ ∃ j, i ≤ j ∧ j < i + k ∧ textB (byteAt s j) = false
  | 0, i => by simp [fb]; intro x h1 h2; omega
  | k + 1, i => by
    simp only [fb]
    by_cases h : textB (byteAt s i) = true
    · rw [if_pos h, fb_nn s k (i + 1)]
      constructor
      · rintro ⟨j, h1, h2, h3⟩; exact ⟨j, by omega, by omega, h3⟩
      · rintro ⟨j, h1, h2, h3⟩
        refine ⟨j, ?_, by omega, h3⟩
        rcases Nat.lt_or_eq_of_le h1 with h1 | h1
        · exact h1
        · subst h1; rw [h] at h3; cases h3
    · rw [if_neg h]
      exact ⟨fun _ => ⟨i, by omega, by omega, Bool.eq_false_iff.2 h⟩, fun _ => by omega⟩
theorem index_func (s : ByteArray) (ls : s.size < 1152921504606846976) : Gives Tryz.prog 186 [vS s, .clo 157 [] [], vB true] (vI (fb s s.size 0)) := by
  intro m
  refine ACall.of_aw Tryz.func186 Tryz.ntmps186 rfl rfl (by simp) ?_
  refine tS ?_
  refine AList.opK (by decide) ?_; intro K Kp hK hKp
  refine op_range (s := s) rfl (by simp) (by simp [opv, upd_lit]) ?_
  apply hK; clear hK hKp K Kp
  refine tS ?_
  refine AW.loop (ι := Nat) (fun i σ m' => i ≤ s.size ∧ fb s s.size 0 = fb s (s.size - i) i ∧ σ 10 = .loc m.nloc 0 ∧ σ 1 = .clo 157 [] [] ∧ σ 2 = vB true ∧ m'.it m.nloc = some (s, i) ∧ m.nloc < m'.nloc ∧ Same m m') (fun i => s.size - i) 0 ?_ ?_
  · exact ⟨by simp, rfl, by simp [upd_lit], by simp [upd_lit], by simp [upd_lit], upd_same _ _ _, Nat.lt_succ_self _, (Same.refl m).newIt _ _⟩
  rintro i σ m' ⟨hi, hc, h10, h1, h2, hit, hn, sm⟩
  refine AW.seq ?_
  refine AW.regionL ?_
  refine AList.opK (by decide) ?_; intro K Kp hK hKp
  refine op_next (n := m.nloc) (s := s) (i := i) rfl (by simp [opv, h10]) hn hit (fun hlt => ?_) (fun hge => ?_)
  · apply hK; clear hK hKp K Kp
    obtain ⟨hb, hw⟩ := dec_bad s i
    obtain ⟨k, hk⟩ : ∃ k, s.size - i = k + 1 := ⟨s.size - i - 1, by omega⟩
    rw [hk, fb] at hc
    have F := (aand @h1 @h2); refine tFa ?_; (try clear F)
    refine tS1 fun K Kp hK hKp => ?_; refine Gives.at (val_rune ((Utf8.decode s i).1 : Int)) ?_; apply hK; clear hK hKp K Kp
    refine tS ?_
    rw [hb]
    by_cases ht : textB (byteAt s i) = true
    · have F := (aand @ht @h2); refine tFa ?_; (try clear F)
      rw [if_pos ht] at hc
      rw [hw ht]
      exact ⟨i + 1, ⟨by omega, by rw [hc]; congr 1; omega, by simp [upd_lit, h10], by simp [upd_lit, h1], by simp [upd_lit, h2], upd_same _ _ _, hn, sm.setIt (Nat.le_refl _) _ _⟩, by omega⟩
    · have ht' := Bool.eq_false_iff.2 ht
      have F := (aand @ht' @h2); refine tFa ?_; (try clear F)
      rw [if_neg ht] at hc
      rw [hc]
      exact Fin.gives (sm.setIt (Nat.le_refl _) _ _)
  · apply hK; clear hK hKp K Kp
    refine tSa ?_
    rw [hc, show s.size - i = 0 from by omega]
    exact Fin.gives sm rfl (by simp [upd_lit, fb])
theorem contains_func (s : ByteArray) (ls : s.size < 1152921504606846976) : Gives Tryz.prog 156 [vS s, .clo 157 [] []] (vB (!textF s)) := by
  have e : decide (0 ≤ fb s s.size 0) = !textF s := by
    cases h : textF s with
    | true =>
      rw [textF, List.all_eq_true] at h
      rw [Bool.not_true, decide_eq_false_iff_not, fb_nn]
      rintro ⟨j, _, h2, h3⟩
      have := h j (by simp; omega)
      rw [this] at h3; cases h3
    | false =>
      rw [Bool.not_false, decide_eq_true_eq, fb_nn]
      rw [textF] at h
      rw [List.all_eq_false] at h
      obtain ⟨j, hj, h⟩ := h
      exact ⟨j, by omega, by simpa using hj, Bool.eq_false_iff.2 h⟩
  have hf : Gives Tryz.prog 169 [vS s, .clo 157 [] []] (vI (fb s s.size 0)) := by
    intro m
    refine ACall.of_aw Tryz.func169 Tryz.ntmps169 rfl rfl (by simp) ?_
    refine tS ?_
    refine tS1 fun K Kp hK hKp => ?_; refine Gives.at (index_func s ls) ?_; apply hK; clear hK hKp K Kp
    refine tS ?_
    exact Fin.gives Same.auto
  intro m
  refine ACall.of_aw Tryz.func156 Tryz.ntmps156 rfl rfl (by simp) ?_
  refine tS ?_
  refine tS1 fun K Kp hK hKp => ?_; refine Gives.at (hf) ?_; apply hK; clear hK hKp K Kp
  refine tS ?_
  exact Fin.gives Same.auto rfl (by simp [upd_lit, e])
end Go.Proofs.YtgfadepkiejncaaGreat
namespace Go.Proofs.YtgfadepkiejncaaGreat
open Go.Ab
set_option maxHeartbeats 0
set_option maxRecDepth 100000
attribute [local irreducible] AW AList ACall DA AExit.then AExit.inBlock YCall DCall
def contE (v : GV) : Int := if formF v = false then 2 else if ((v.kind = 2 ∨ v.kind = 3) ∧ 40 < v.abs.length) ∨ (v.kind = 4 ∧ 1000 < v.str.size) then 3 else 0
theorem contE_2 {v : GV} (h : formF v = false) : resE (contE v) = .pan (badE 2) := by rw [contE, if_pos h]; rfl
theorem contE_3 {v : GV} (h : formF v = true) (h2 : ((v.kind = 2 ∨ v.kind = 3) ∧ 40 < v.abs.length) ∨ (v.kind = 4 ∧ 1000 < v.str.size)) : resE (contE v) = .pan (badE 3) := by rw [contE, if_neg (by rw [h]; simp), if_pos h2]; rfl
theorem contE_0 {v : GV} (h : formF v = true) (h2 : ¬ (((v.kind = 2 ∨ v.kind = 3) ∧ 40 < v.abs.length) ∨ (v.kind = 4 ∧ 1000 < v.str.size))) : resE (contE v) = .ret (.tup []) := by rw [contE, if_neg (by rw [h]; simp), if_neg h2]; rfl
def numA (v : GV) : Bool := !((decide (0 < v.abs.length) && lastZ v.abs) || (decide (v.abs = []) && v.neg))
def numB (v : GV) : Bool := decide (v.kind = 2) || ((decide (1 ≤ v.num) && decide (v.num ≤ 20)) && (decide (v.num = 1) || !tensF v.abs))
theorem formF_num {v : GV} (h : v.kind = 2 ∨ v.kind = 3) : formF v = (numA v && numB v) := by
  unfold formF numA numB
  simp only
  rw [if_neg (by omega), if_neg (by omega), if_neg (by omega), if_pos h]
  generalize ((decide (0 < v.abs.length) && lastZ v.abs) || (decide (v.abs = []) && v.neg)) = q
  cases q with
  | true => simp
  | false =>
    rw [if_neg (by simp)]
    rcases h with h | h
    · simp [h]
    · simp [h]
theorem contents_num (v : GV) (hv : v.ok) (h : v.kind = 2 ∨ v.kind = 3) : GivesR Tryz.prog 127 [v.pv] (contE v) := by
  have la := hv.abs
  intro m
  refine ACall.of_aw Tryz.func127 Tryz.ntmps127 rfl rfl (by simp) ?_
  have hf := formF_num h
  have key : ∃ k : Int, v.kind = k ∧ (k = 2 ∨ k = 3) := ⟨v.kind, rfl, h⟩
  obtain ⟨k, hk, hk23⟩ := key
  have ek1 : ¬ k = 1 := by omega
  have ek5 : ¬ k = 5 := by omega
  have ek6 : ¬ k = 6 := by omega
  have hd2 : numA v = false ∨ numB v = false → resE (contE v) = .pan (badE 2) := fun q => contE_2 (by rw [hf]; rcases q with q | q <;> rw [q] <;> simp)
  rcases hk23 with rfl | rfl
  all_goals (
    have F := @hk; refine tFa ?_; (try clear F)
    refine AList.cut (I := fun σ' m' => numA v = true ∧ σ' 1 = .loc m.nloc 0 ∧ σ' 2 = vI v.abs.length ∧ m' = m.newLoc v.cells) ?_ ?_
    · by_cases ha : v.abs = []
      · have hl0 : v.abs.length = 0 := by rw [ha]; rfl
        cases hg : v.neg with
        | true =>
          rw [hd2 (.inl (by simp [numA, ha, hg]))]
          have F := (aand @ha (aand @hg @hl0)); refine tFg ?_; (try clear F)
          refine tS1 fun K Kp hK hKp => ?_; refine Dies.at (need_bad 2) ?_; apply hKp; clear hK hKp K Kp; repeat (first | refine AExit.panT ?_ | refine AExit.panB ?_)
          exact Fin.dies Same.auto
        | false =>
          have F := (aand @ha (aand @hg @hl0)); refine tFg ?_; (try clear F)
          refine tS1 fun K Kp hK hKp => ?_; refine Gives.at (need_ok 2) ?_; apply hK; clear hK hKp K Kp
          refine tS ?_
          exact ⟨by simp [numA, ha, hg], by simp [upd_lit], by simp [upd_lit, ha], rfl⟩
      · have hl : 0 < v.abs.length := List.length_pos_iff.2 ha
        obtain ⟨j, hj⟩ : ∃ j, v.abs.length = j + 1 := ⟨v.abs.length - 1, by omega⟩
        have ej : j < v.abs.length := by omega
        have e8 : (v.abs.length : Int) - 1 = (j : Int) := by omega
        have e9 : (0 : Int) < v.abs.length := by omega
        have hz : lastZ v.abs = decide (v.abs[j] = 0) := by simp [lastZ, hj, List.getElem?_eq_getElem ej]
        by_cases hz0 : v.abs[j] = 0
        · rw [hd2 (.inl (by simp [numA, hl, hz, hz0]))]
          have F := (aand @ha (aand @hl (aand @ej (aand @e8 (aand @e9 (aand @limbs_getD @hz0)))))); refine tFg ?_; (try clear F)
          refine tS1 fun K Kp hK hKp => ?_; refine Dies.at (need_bad 2) ?_; apply hKp; clear hK hKp K Kp; repeat (first | refine AExit.panT ?_ | refine AExit.panB ?_)
          exact Fin.dies Same.auto
        · have F := (aand @ha (aand @hl (aand @ej (aand @e8 (aand @e9 (aand @limbs_getD @hz0)))))); refine tFg ?_; (try clear F)
          refine tS1 fun K Kp hK hKp => ?_; refine Gives.at (need_ok 2) ?_; apply hK; clear hK hKp K Kp
          refine tS ?_
          exact ⟨by simp [numA, ha, hz, hz0], by simp [upd_lit], by simp [upd_lit], rfl⟩
    rintro σ _ ⟨hA, s1, s2, rfl⟩
    refine AW.seq ?_
    refine AW.regionL ?_
    refine AList.cut (I := fun σ' m' => numB v = true ∧ σ' 2 = vI v.abs.length ∧ m' = m.newLoc v.cells) ?_ ?_
    · first
        | (have hB : numB v = true := by simp [numB, hk]
           have F := (aand @s1 @hk); refine tFg ?_; (try clear F)
           refine tS1 fun K Kp hK hKp => ?_; refine Gives.at (need_ok 2) ?_; apply hK; clear hK hKp K Kp
           refine tS ?_
           exact ⟨hB, by simp [upd_lit, s2], rfl⟩)
        | (by_cases n1 : 1 ≤ v.num
           · by_cases n20 : v.num ≤ 20
             · by_cases ne : v.num = 1
               · have F := (aand @s1 (aand @hk (aand @n1 (aand @n20 @ne)))); refine tFg ?_; (try clear F)
                 refine tS1 fun K Kp hK hKp => ?_; refine Gives.at (need_ok 2) ?_; apply hK; clear hK hKp K Kp
                 refine tS ?_
                 exact ⟨by simp [numB, ne], by simp [upd_lit, s2], rfl⟩
               · have F := (aand @s1 (aand @hk (aand @n1 (aand @n20 @ne)))); refine tFg ?_; (try clear F)
                 have F := (aand @s1 (aand @hk (aand @n1 (aand @n20 @ne)))); refine tFc (val_tens v.neg v.abs hv.abs hv.limb) ?_; (try clear F)
                 cases ht : tensF v.abs with
                 | true =>
                   rw [hd2 (.inr (by simp [numB, hk, ne, ht]))]
                   have F := @ht; refine tFg ?_; (try clear F)
                   refine tS1 fun K Kp hK hKp => ?_; refine Dies.at (need_bad 2) ?_; apply hKp; clear hK hKp K Kp; repeat (first | refine AExit.panT ?_ | refine AExit.panB ?_)
                   exact Fin.dies Same.auto
                 | false =>
                   have F := @ht; refine tFg ?_; (try clear F)
                   refine tS1 fun K Kp hK hKp => ?_; refine Gives.at (need_ok 2) ?_; apply hK; clear hK hKp K Kp
                   refine tS ?_
                   exact ⟨by simp [numB, n1, n20, ht], by simp [upd_lit, s2], rfl⟩
             · rw [hd2 (.inr (by simp [numB, hk, n20]))]
               have F := (aand @s1 (aand @hk (aand @n1 @n20))); refine tFg ?_; (try clear F)
               refine tS1 fun K Kp hK hKp => ?_; refine Dies.at (need_bad 2) ?_; apply hKp; clear hK hKp K Kp; repeat (first | refine AExit.panT ?_ | refine AExit.panB ?_)
               exact Fin.dies Same.auto
           · rw [hd2 (.inr (by simp [numB, hk, n1]))]
             have F := (aand @s1 (aand @hk @n1)); refine tFg ?_; (try clear F)
             refine tS1 fun K Kp hK hKp => ?_; refine Dies.at (need_bad 2) ?_; apply hKp; clear hK hKp K Kp; repeat (first | refine AExit.panT ?_ | refine AExit.panB ?_)
             exact Fin.dies Same.auto)
    clear s1 s2 σ
    rintro σ _ ⟨hB, s2, rfl⟩
    have hform : formF v = true := by rw [hf, hA, hB]; rfl
    by_cases h40 : v.abs.length ≤ 40
    · have h40' : (v.abs.length : Int) ≤ 40 := by omega
      rw [contE_0 hform (by omega)]
      have F := (aand @s2 @h40'); refine tFa ?_; (try clear F)
      refine tS1 fun K Kp hK hKp => ?_; refine Gives.at (need_ok 3) ?_; apply hK; clear hK hKp K Kp
      refine tS ?_
      exact Fin.done Same.auto
    · have h40' : ¬ (v.abs.length : Int) ≤ 40 := by omega
      rw [contE_3 hform (.inl ⟨h, by omega⟩)]
      have F := (aand @s2 @h40'); refine tFa ?_; (try clear F)
      refine tS1 fun K Kp hK hKp => ?_; refine Dies.at (need_bad 3) ?_; apply hKp; clear hK hKp K Kp; repeat (first | refine AExit.panT ?_ | refine AExit.panB ?_)
      exact Fin.dies Same.auto)
theorem val_contents (v : GV) (hv : v.ok) : GivesR Tryz.prog 127 [v.pv] (contE v) := by
  have ll := hv.len
  have ls := hv.str
  by_cases h23 : v.kind = 2 ∨ v.kind = 3
  · exact contents_num v hv h23
  obtain ⟨k2, k3⟩ := not_or.1 h23
  intro m
  refine ACall.of_aw Tryz.func127 Tryz.ntmps127 rfl rfl (by simp) ?_
  by_cases k1 : v.kind = 1
  · have hf : formF v = (decide (v.num = 0) || decide (v.num = 1)) := by unfold formF; simp only; rw [if_pos k1]
    by_cases n0 : v.num = 0
    · rw [contE_0 (by rw [hf]; simp [n0]) (by omega)]
      have F := (aand @k1 @n0); refine tFa ?_; (try clear F)
      refine tS1 fun K Kp hK hKp => ?_; refine Gives.at (need_ok 2) ?_; apply hK; clear hK hKp K Kp
      refine tS ?_
      exact Fin.done Same.auto
    by_cases n1 : v.num = 1
    · rw [contE_0 (by rw [hf]; simp [n1]) (by omega)]
      have F := (aand @k1 @n1); refine tFa ?_; (try clear F)
      refine tS1 fun K Kp hK hKp => ?_; refine Gives.at (need_ok 2) ?_; apply hK; clear hK hKp K Kp
      refine tS ?_
      exact Fin.done Same.auto
    · rw [contE_2 (by rw [hf]; simp [n0, n1])]
      have F := (aand @k1 (aand @n0 @n1)); refine tFa ?_; (try clear F)
      refine tS1 fun K Kp hK hKp => ?_; refine Dies.at (need_bad 2) ?_; apply hKp; clear hK hKp K Kp; repeat (first | refine AExit.panT ?_ | refine AExit.panB ?_)
      exact Fin.dies Same.auto
  by_cases k5 : v.kind = 5
  · have hf : formF v = decide (1 ≤ v.num) := by unfold formF; simp only; rw [if_neg k1, if_pos k5]
    by_cases n0 : 1 ≤ v.num
    · rw [contE_0 (by rw [hf]; simp [n0]) (by omega)]
      have F := (aand @k5 @n0); refine tFa ?_; (try clear F)
      refine tS1 fun K Kp hK hKp => ?_; refine Gives.at (need_ok 2) ?_; apply hK; clear hK hKp K Kp
      refine tS ?_
      exact Fin.done Same.auto
    · rw [contE_2 (by rw [hf]; simp [n0])]
      have F := (aand @k5 @n0); refine tFa ?_; (try clear F)
      refine tS1 fun K Kp hK hKp => ?_; refine Dies.at (need_bad 2) ?_; apply hKp; clear hK hKp K Kp; repeat (first | refine AExit.panT ?_ | refine AExit.panB ?_)
      exact Fin.dies Same.auto
  by_cases k6 : v.kind = 6
  · have hf : formF v = decide (0 ≤ v.num) := by unfold formF; simp only; rw [if_neg k1, if_neg k5, if_pos k6]
    by_cases n0 : 0 ≤ v.num
    · rw [contE_0 (by rw [hf]; simp [n0]) (by omega)]
      have F := (aand @k6 @n0); refine tFa ?_; (try clear F)
      refine tS1 fun K Kp hK hKp => ?_; refine Gives.at (need_ok 2) ?_; apply hK; clear hK hKp K Kp
      refine tS ?_
      exact Fin.done Same.auto
    · rw [contE_2 (by rw [hf]; simp [n0])]
      have F := (aand @k6 @n0); refine tFa ?_; (try clear F)
      refine tS1 fun K Kp hK hKp => ?_; refine Dies.at (need_bad 2) ?_; apply hKp; clear hK hKp K Kp; repeat (first | refine AExit.panT ?_ | refine AExit.panB ?_)
      exact Fin.dies Same.auto
  by_cases k4 : v.kind = 4
  · have hf : formF v = textF v.str := by unfold formF; simp only; rw [if_neg k1, if_neg k5, if_neg k6, if_neg h23, if_pos k4]
    have F := @k4; refine tFa ?_; (try clear F)
    refine tS1 fun K Kp hK hKp => ?_; refine Gives.at (contains_func v.str ls) ?_; apply hK; clear hK hKp K Kp
    cases ht : textF v.str with
    | false =>
      rw [contE_2 (by rw [hf, ht])]
      have F := @ht; refine tF ?_; (try clear F)
      refine tS1 fun K Kp hK hKp => ?_; refine Dies.at (need_bad 2) ?_; apply hKp; clear hK hKp K Kp; repeat (first | refine AExit.panT ?_ | refine AExit.panB ?_)
      exact Fin.dies Same.auto
    | true =>
      have F := @ht; refine tF ?_; (try clear F)
      refine tS1 fun K Kp hK hKp => ?_; refine Gives.at (need_ok 2) ?_; apply hK; clear hK hKp K Kp
      by_cases hs : v.str.size ≤ 1000
      · have hs' : (v.str.size : Int) ≤ 1000 := by omega
        rw [contE_0 (by rw [hf, ht]) (by omega)]
        have F := @hs'; refine tFa ?_; (try clear F)
        refine tS1 fun K Kp hK hKp => ?_; refine Gives.at (need_ok 3) ?_; apply hK; clear hK hKp K Kp
        refine tS ?_
        exact Fin.done Same.auto
      · have hs' : ¬ (v.str.size : Int) ≤ 1000 := by omega
        rw [contE_3 (by rw [hf, ht]) (.inr ⟨k4, by omega⟩)]
        have F := @hs'; refine tFa ?_; (try clear F)
        refine tS1 fun K Kp hK hKp => ?_; refine Dies.at (need_bad 3) ?_; apply hKp; clear hK hKp K Kp; repeat (first | refine AExit.panT ?_ | refine AExit.panB ?_)
        exact Fin.dies Same.auto
  by_cases k7 : v.kind = 7
  · have hf : formF v = (decide (v.els = []) || !decide ((v.els[v.els.length - 1]?.getD default).kind = 0)) := by unfold formF; simp only; rw [if_neg k1, if_neg k5, if_neg k6, if_neg h23, if_neg k4, if_pos k7]
    by_cases he : v.els = []
    · have hl0 : v.els.length = 0 := by rw [he]; rfl
      rw [contE_0 (by rw [hf]; simp [he]) (by omega)]
      have F := (aand @k7 (aand @he @hl0)); refine tFa ?_; (try clear F)
      refine tS1 fun K Kp hK hKp => ?_; refine Gives.at (need_ok 2) ?_; apply hK; clear hK hKp K Kp
      refine tS ?_
      exact Fin.done Same.auto
    · have hl : 0 < v.els.length := List.length_pos_iff.2 he
      obtain ⟨j, hj⟩ : ∃ j, v.els.length = j + 1 := ⟨v.els.length - 1, by omega⟩
      have ej : j < v.els.length := by omega
      have e8 : (v.els.length : Int) - 1 = (j : Int) := by omega
      have e0 : (v.els[v.els.length - 1]?.getD default) = v.els[j] := by simp [hj, List.getElem?_eq_getElem ej]
      rw [e0] at hf
      by_cases hz : (v.els[j]).kind = 0
      · rw [contE_2 (by rw [hf]; simp [he, hz])]
        have F := (aand @k7 (aand @he (aand @ej (aand @e8 (aand @rows_getD @hz))))); refine tFa ?_; (try clear F)
        refine tS1 fun K Kp hK hKp => ?_; refine Dies.at (need_bad 2) ?_; apply hKp; clear hK hKp K Kp; repeat (first | refine AExit.panT ?_ | refine AExit.panB ?_)
        exact Fin.dies Same.auto
      · rw [contE_0 (by rw [hf]; simp [hz]) (by omega)]
        have F := (aand @k7 (aand @he (aand @ej (aand @e8 (aand @rows_getD @hz))))); refine tFa ?_; (try clear F)
        refine tS1 fun K Kp hK hKp => ?_; refine Gives.at (need_ok 2) ?_; apply hK; clear hK hKp K Kp
        refine tS ?_
        exact Fin.done Same.auto
  · rw [contE_0 (by unfold formF; simp only; rw [if_neg k1, if_neg k5, if_neg k6, if_neg h23, if_neg k4, if_neg k7]) (by omega)]
    have F := (aand @k1 (aand @k2 (aand @k3 (aand @k4 (aand @k5 (aand @k6 @k7)))))); refine tFa ?_; (try clear F)
    exact Fin.done Same.auto
end Go.Proofs.YtgfadepkiejncaaGreat
namespace Go.Ab
theorem Same.setBothK {m m' : St} {n : Nat} {a : List PV} (h : Same (m.setLoc n a) m') (b : List PV) : Same (m.setLoc n b) (m'.setLoc n b) :=
  Same.mk h.lloc h.ltok (fun i hi => by
    simp only [setLoc_loc]
    by_cases e : i = n
    · rw [if_pos e, if_pos e]
    · rw [if_neg e, if_neg e]; have := h.get (n := i) hi; rwa [setLoc_loc, if_neg e] at this) (fun k hk => ⟨(h.top k hk).1.symm, (h.top k hk).2.symm⟩) (fun i hi => h.getL hi) (fun i hi => h.getI hi) (fun k cs hk hd hc => h.getA hk hd hc)
theorem Same.unset {m : St} {n : Nat} {cs : List PV} (h : m.loc n = some cs) : Same (m.setLoc n cs) m :=
  Same.mk (Nat.le_refl _) (Nat.le_refl _) (fun i _ => by rw [setLoc_loc]; split; (rename_i e; rw [e, h]); rfl) (fun _ _ => ⟨rfl, rfl⟩) (fun _ _ => rfl) (fun _ _ => rfl) (fun _ _ _ _ h => h)
end Go.Ab
namespace Go.Proofs.YtgfadepkiejncaaGreat
open Go.Ab
set_option maxHeartbeats 0
set_option maxRecDepth 100000
attribute [local irreducible] AW AList ACall DA AExit.then AExit.inBlock YCall DCall
abbrev cnt (N : Int) : List PV := [vI 3000, vI 20, vI N]
def FolOK (v : GV) : Prop := ∀ (m : St) (n : Nat) (N d : Int), n < m.nloc → m.loc n = some (cnt N) → 0 ≤ N → (-4611686018427387904 ≤ d ∧ d < 4611686018427387904) →
  ACall Tryz.prog 83 [.loc n 0, v.pv, vI d] m (fun r m' => r = resE (folV v N 0 d).2 ∧ ∃ M : Int, m' = m.setLoc n (cnt M) ∧ ((folV v N 0 d).2 = 0 → M = (folV v N 0 d).1))
theorem fol_fin {m m' : St} {n : Nat} {e : Int} {M N' : Int} {σ : Nat → PV} {x : AExit} (hx : (x = .normal ∧ e = 0 ∧ M = N') ∨ (x = .pan (badE e) ∧ e ≠ 0)) (h : Same (m.setLoc n (cnt M)) m') :
    Fin Tryz.prog Tryz.f83 m (fun r m' => r = resE e ∧ ∃ M : Int, m' = m.setLoc n (cnt M) ∧ (e = 0 → M = N')) x σ m' := by
  have hl := (Leaves.ofSet h (by simp [PV.scL, PV.sc])).lv
  rcases hx with ⟨rfl, rfl, rfl⟩ | ⟨rfl, he⟩
  · exact ⟨.tup [], _, ⟨[], rfl, rfl⟩, .inr ⟨hl, by simp⟩, by simp [resE], M, rfl, fun _ => rfl⟩
  · exact ⟨_, .inr ⟨hl, by simp⟩, by simp [resE, he, PV.strip, PV.stripL], M, rfl, fun q => absurd q he⟩
theorem str_nil {s : ByteArray} (h : s.toList = []) : s.size = 0 := by
  rw [Lib.toList_data] at h
  have := congrArg List.length h
  simpa using this
theorem fields_lim {v : GV} (h : fieldsF v = true) : (((v.kind = 2 ∨ v.kind = 3) ∧ 40 < v.abs.length) ∨ (v.kind = 4 ∧ 1000 < v.str.size)) ↔ (40 < v.abs.length ∨ 1000 < v.str.size) := by
  obtain ⟨_, _, h2, h3, _⟩ := (fieldsF_iff v).1 h
  simp at h2 h3
  constructor
  · rintro (⟨_, q⟩ | ⟨_, q⟩)
    · exact .inl q
    · exact .inr q
  · rintro (q | q)
    · refine .inl ⟨?_, q⟩
      rcases h2 with h2 | h2
      · rw [h2.2] at q; simp at q
      · exact h2
    · refine .inr ⟨?_, q⟩
      rcases h3 with h3 | h3
      · rw [str_nil h3] at q; omega
      · exact h3
theorem fol_step (v : GV) (hv : v.ok) (ih : ∀ x ∈ v.els, FolOK x) : FolOK v := by
  intro m n N d hn hm hN hd
  have ll := hv.len
  rw [folV_eq, if_neg (by simp)]
  refine ACall.of_aw Tryz.func83 Tryz.ntmps83 rfl rfl (by simp) ?_
  have n1 : n ≠ m.nloc := by omega
  have n2 : n < m.nloc + 1 := by omega
  have n1' : m.nloc ≠ n := by omega
  have sm0 : Same (m.setLoc n (cnt N)) (m.newLoc v.cells) := (Same.unset hm).newLoc _
  refine tS ?_
  by_cases h1 : N < 3000
  rotate_left
  · rw [if_pos (by simp; omega)]
    refine AW.draw [.S, .S, .S, .R, .S, .S, .S, .S, .R, .S, .S, .S, .S, .S, .S, .S, .R, .S, .S, .W] (by decide +kernel) ?_; have F := (aand @n1 (aand @n2 (aand @hm @h1))); refine dST 0 ?_; refine dST 1 ?_; refine dST 2 ?_; refine dRT 3 ?_; refine dST 4 ?_; refine dST 5 ?_; refine dST 6 ?_; refine dST 7 ?_; refine dRT 8 ?_; refine dST 9 ?_; refine dST 10 ?_; refine dXxT 11 ?_; refine dXxT 12 ?_; refine dXxT 13 ?_; refine dXxT 14 ?_; refine dXxT 15 ?_; refine dXXT 16 ?_; refine dXxT 17 ?_; refine dST 18 ?_; (try clear F)
    refine DA.W 19 rfl (by decide +kernel) rfl rfl (by decide) ?_
    intro K Kp hK hKp
    simp [↓aop, ↓Ab.opv, ↓upd_lit]
    refine Dies.at (need_bad 3) (hKp _ _ fun σ => ?_)
    refine AExit.panT ?_
    exact fol_fin (.inr ⟨rfl, by decide⟩) sm0
  by_cases h2 : d ≤ 20
  rotate_left
  · rw [if_pos (by simp; omega)]
    refine AW.draw [.S, .S, .S, .R, .S, .S, .S, .S, .R, .S, .S, .S, .S, .S, .S, .S, .R, .S, .S, .W] (by decide +kernel) ?_; have F := (aand @n1 (aand @n2 (aand @hm (aand @h1 @h2)))); refine dST 0 ?_; refine dST 1 ?_; refine dST 2 ?_; refine dRT 3 ?_; refine dST 4 ?_; refine dST 5 ?_; refine dST 6 ?_; refine dST 7 ?_; refine dRT 8 ?_; refine dST 9 ?_; refine dST 10 ?_; refine dSGT 11 ?_; refine dSGT 12 ?_; refine dSGT 13 ?_; refine dSGT 14 ?_; refine dSGT 15 ?_; refine dRGT 16 ?_; refine dSGT 17 ?_; refine dST 18 ?_; (try clear F)
    refine DA.W 19 rfl (by decide +kernel) rfl rfl (by decide) ?_
    intro K Kp hK hKp
    simp [↓aop, ↓Ab.opv, ↓upd_lit]
    refine Dies.at (need_bad 3) (hKp _ _ fun σ => ?_)
    refine AExit.panT ?_
    exact fol_fin (.inr ⟨rfl, by decide⟩) sm0
  rw [if_neg (by simp; omega)]
  refine AW.draw [.S, .S, .S, .R, .S, .S, .S, .S, .R, .S, .S, .S, .S, .S, .S, .S, .R, .S, .S, .R] (by decide +kernel) ?_; have F := (aand @n1 (aand @n2 (aand @hm (aand @h1 @h2)))); refine dS 0 ?_; refine dS 1 ?_; refine dS 2 ?_; refine dR 3 ?_; refine dS 4 ?_; refine dS 5 ?_; refine dS 6 ?_; refine dS 7 ?_; refine dR 8 ?_; refine dS 9 ?_; refine dS 10 ?_; refine dSG 11 ?_; refine dSG 12 ?_; refine dSG 13 ?_; refine dSG 14 ?_; refine dSG 15 ?_; refine dRG 16 ?_; refine dSG 17 ?_; refine dS 18 ?_; refine dC ((need_ok 3)) 19 ?_; (try clear F); first | refine dN ?_ | refine dB ?_ | refine DA.done (by decide +kernel) ?_
  have F := (aand @n1 (aand @n2 @hm)); refine tF ?_; (try clear F)
  have sm1 : Same (m.setLoc n (cnt (N + 1))) ((m.newLoc v.cells).setLoc n (cnt (N + 1))) := sm0.setBothK _
  have hfields := val_fields v hv
  cases hf : fieldsF v with
  | false =>
    rw [if_pos (by simp)]
    rw [hf] at hfields
    have F := (aand @n1 (aand @n1' @n2)); refine tFn ?_; (try clear F)
    refine tS1 fun K Kp hK hKp => ?_; refine Dies.at (hfields.bad (by decide)) ?_; apply hKp; clear hK hKp K Kp; repeat (first | refine AExit.panT ?_ | refine AExit.panB ?_)
    exact fol_fin (.inr ⟨rfl, by decide⟩) sm1
  | true =>
  rw [hf] at hfields
  have F := (aand @n1 (aand @n1' @n2)); refine tFn ?_; (try clear F)
  refine tS1 fun K Kp hK hKp => ?_; refine Gives.at (hfields.ok rfl) ?_; apply hK; clear hK hKp K Kp
  have F := (aand @n1 (aand @n1' @n2)); refine tFn ?_; (try clear F)
  have hcont := val_contents v hv
  have hlim := fields_lim hf
  cases hfo : formF v with
  | false =>
    have e2 : contE v = 2 := by rw [contE, if_pos hfo]
    rw [e2] at hcont
    rw [if_pos (by simp)]
    refine tS1 fun K Kp hK hKp => ?_; refine Dies.at (hcont.bad (by decide)) ?_; apply hKp; clear hK hKp K Kp; repeat (first | refine AExit.panT ?_ | refine AExit.panB ?_)
    exact fol_fin (.inr ⟨rfl, by decide⟩) sm1
  | true =>
  rw [if_neg (by simp)]
  by_cases hli : 40 < v.abs.length ∨ 1000 < v.str.size
  · have e3 : contE v = 3 := by rw [contE, if_neg (by rw [hfo]; simp), if_pos (hlim.2 hli)]
    rw [e3] at hcont
    rw [if_pos (by simp; omega)]
    refine tS1 fun K Kp hK hKp => ?_; refine Dies.at (hcont.bad (by decide)) ?_; apply hKp; clear hK hKp K Kp; repeat (first | refine AExit.panT ?_ | refine AExit.panB ?_)
    exact fol_fin (.inr ⟨rfl, by decide⟩) sm1
  have e0 : contE v = 0 := by rw [contE, if_neg (by rw [hfo]; simp), if_neg (fun q => hli (hlim.1 q))]
  rw [e0] at hcont
  rw [if_neg (by simp; omega)]
  refine tS1 fun K Kp hK hKp => ?_; refine Gives.at (hcont.ok rfl) ?_; apply hK; clear hK hKp K Kp
  clear hfields hcont hlim hli e0
  have F := (aand @n1 (aand @n1' @n2)); refine tFn ?_; (try clear F)
  generalize hG : folL v.kind none v.els (N + 1) d = G
  refine AW.loop (ι := Nat) (fun i σ m' => i ≤ v.els.length ∧ σ 42 = vI i ∧ σ 41 = vI v.els.length ∧ σ 40 = GV.pvs v.els ∧ σ 4 = .loc m.nloc 0 ∧ σ 0 = .loc n 0 ∧ σ 2 = vI d ∧ m'.loc m.nloc = some v.cells ∧ m.nloc < m'.nloc ∧
    (∃ M, Same (m.setLoc n (cnt M)) m' ∧ 0 ≤ M ∧ G = folL v.kind (prevOf v.els i) (v.els.drop i) M d) ∧ (∀ j (h : j < v.els.length), j < i → fmd v.els[j])) (fun i => v.els.length - i) 0 ?_ ?_
  · exact ⟨by simp, by simp [upd_lit], by simp [upd_lit], by simp [upd_lit], by simp [upd_lit], by simp [upd_lit], by simp [upd_lit], by simp [n1.symm], by simp, ⟨N + 1, sm1, by omega, by simp [prevOf, hG]⟩, fun j _ h => by omega⟩
  clear hG sm0 sm1 hf hfo
  rintro i σ m' ⟨hi, h42, h41, h40, h4, h0, h2', hl, hnl, ⟨M, sm, hM, hF⟩, hfm⟩
  have n3 : n ≠ m'.nloc := by omega
  have n4 : n < m'.nloc + 1 := by omega
  have n5 : m.nloc ≠ m'.nloc := by omega
  have n6 : m.nloc < m'.nloc + 1 := by omega
  have hc : m'.loc n = some (cnt M) := by rw [sm.get (by simpa using hn)]; simp
  have F := (aand @h42 @h41); refine tF ?_; (try clear F)
  refine AW.condD (p := i < v.els.length) (by simp [upd_lit]) (fun hlt => ?_) (fun hge => ?_)
  rotate_left
  · refine tS ?_
    have e : i = v.els.length := by omega
    subst e
    rw [List.drop_length, folL] at hF
    subst hF
    exact fol_fin (.inl ⟨rfl, rfl, rfl⟩) sm
  obtain ⟨x, ex⟩ : ∃ x, x = v.els[i] := ⟨_, rfl⟩
  have ex' := ex.symm
  have hxe : x ∈ v.els := by rw [ex]; exact List.getElem_mem hlt
  have hx : x.ok := ok_els hv x hxe
  rw [List.drop_eq_getElem_cons hlt, folL, ← ex] at hF
  have F := (aand @h42 (aand @h40 (aand @h0 (aand @h2' (aand @hlt (aand @rows_getD @ex')))))); refine tF ?_; (try clear F)
  refine tS1 fun K Kp hK hKp => ?_
  refine ACall.mono (ih x hxe ((m'.newLoc _).setLoc m'.nloc x.cells) n M (d + 1) (by simp; omega) (by simp [n3, hc]) hM (by omega)) ?_
  rintro r m3 ⟨rfl, M1, rfl, hM1⟩
  have sm3 : Same (m.setLoc n (cnt M1)) (((m'.newLoc [PV.v (Value.int IntKind.i64 0), PV.v (Value.int IntKind.i64 0), PV.v (Value.bool false), PV.list Own.full [], PV.v (Value.string { data := #[] }), PV.list Own.full []]).setLoc m'.nloc x.cells).setLoc n (cnt M1)) := ((sm.newLoc _).setLoc sm.lloc _).setBothK _
  by_cases he : (folV x M 0 (d + 1)).2 = 0
  rotate_left
  · rw [if_pos he] at hF
    subst hF
    rw [resE, if_neg he]
    apply hKp; clear hK hKp K Kp
    repeat (first | refine AExit.panT ?_ | refine AExit.panB ?_)
    exact fol_fin (.inr ⟨rfl, he⟩) sm3
  rw [if_neg (by simp [he])] at hF
  rw [he, resE, if_pos rfl]
  apply hK; clear hK hKp K Kp
  have hM1 := hM1 he
  obtain ⟨fx, _, _, e4⟩ := fol_ok x M (d + 1) hM he
  have hM0 : 0 ≤ M1 := by rw [hM1, e4]; omega
  rw [← hM1] at hF
  have l3 : ((((m'.newLoc [PV.v (Value.int IntKind.i64 0), PV.v (Value.int IntKind.i64 0), PV.v (Value.bool false), PV.list Own.full [], PV.v (Value.string { data := #[] }), PV.list Own.full []]).setLoc m'.nloc x.cells).setLoc n (cnt M1)).loc m.nloc) = some v.cells := by simp [n1.symm, n5, hl]
  have nx : ∀ τ : Nat → PV, τ 42 = vI (i + 1) → τ 41 = vI v.els.length → τ 40 = GV.pvs v.els → τ 4 = .loc m.nloc 0 → τ 0 = .loc n 0 → τ 2 = vI d → badSet v.kind (prevOf v.els i) x = false →
      ∃ j, (j ≤ v.els.length ∧ τ 42 = vI j ∧ τ 41 = vI v.els.length ∧ τ 40 = GV.pvs v.els ∧ τ 4 = .loc m.nloc 0 ∧ τ 0 = .loc n 0 ∧ τ 2 = vI d ∧ (((m'.newLoc [PV.v (Value.int IntKind.i64 0), PV.v (Value.int IntKind.i64 0), PV.v (Value.bool false), PV.list Own.full [], PV.v (Value.string { data := #[] }), PV.list Own.full []]).setLoc m'.nloc x.cells).setLoc n (cnt M1)).loc m.nloc = some v.cells ∧ m.nloc < (((m'.newLoc [PV.v (Value.int IntKind.i64 0), PV.v (Value.int IntKind.i64 0), PV.v (Value.bool false), PV.list Own.full [], PV.v (Value.string { data := #[] }), PV.list Own.full []]).setLoc m'.nloc x.cells).setLoc n (cnt M1)).nloc ∧
    (∃ M, Same (m.setLoc n (cnt M)) (((m'.newLoc [PV.v (Value.int IntKind.i64 0), PV.v (Value.int IntKind.i64 0), PV.v (Value.bool false), PV.list Own.full [], PV.v (Value.string { data := #[] }), PV.list Own.full []]).setLoc m'.nloc x.cells).setLoc n (cnt M1)) ∧ 0 ≤ M ∧ G = folL v.kind (prevOf v.els j) (v.els.drop j) M d) ∧ (∀ k (h : k < v.els.length), k < j → fmd v.els[k])) ∧ v.els.length - j < v.els.length - i := by
    intro τ a1 a2 a3 a4 a5 a6 hb
    rw [if_neg (by rw [hb]; simp)] at hF
    refine ⟨i + 1, ⟨by omega, by simpa using a1, a2, a3, a4, a5, a6, l3, by simp; omega, ⟨M1, sm3, hM0, by rw [hF]; simp [prevOf, hlt, ex]⟩, fun k h hk => ?_⟩, by omega⟩
    by_cases e : k = i
    · subst e; rw [← ex]; exact fx
    · exact hfm k h (by omega)
  generalize hmm : ((m'.newLoc [PV.v (Value.int IntKind.i64 0), PV.v (Value.int IntKind.i64 0), PV.v (Value.bool false), PV.list Own.full [], PV.v (Value.string { data := #[] }), PV.list Own.full []]).setLoc m'.nloc x.cells).setLoc n (cnt M1) = mm at *
  have k1 : mm.loc m'.nloc = some x.cells := by rw [← hmm]; simp [n3.symm]
  have k2 : m'.nloc < mm.nloc := by rw [← hmm]; simp
  have k3 : m.nloc < mm.nloc := by omega
  clear hmm
  by_cases h8 : v.kind = 8
  rotate_left
  · have hb : badSet v.kind (prevOf v.els i) x = false := by simp [badSet, h8]
    have F := (aand @h4 (aand @l3 (aand @k3 @h8))); refine tFa ?_; (try clear F)
    have F := @h42; refine tF ?_; (try clear F)
    exact nx _ (by simp [upd_lit]) (by simp [upd_lit, h41]) (by simp [upd_lit, h40]) (by simp [upd_lit, h4]) (by simp [upd_lit, h0]) (by simp [upd_lit, h2']) hb
  by_cases hx0 : x.kind = 0
  · have hb : badSet v.kind (prevOf v.els i) x = true := by simp [badSet, h8, hx0]
    rw [if_pos hb] at hF
    subst hF
    have F := (aand @h4 (aand @l3 (aand @k3 @h8))); refine tFa ?_; (try clear F)
    refine AW.draw [.S, .R, .S, .S, .S, .S, .S, .S, .R, .S, .S, .S, .R, .R, .R, .S, .S, .S, .W] (by decide +kernel) ?_; have F := (aand @k1 (aand @k2 @hx0)); refine dST 0 ?_; refine dRT 1 ?_; refine dST 2 ?_; refine dST 3 ?_; refine dXxT 4 ?_; refine dXxT 5 ?_; refine dXxT 6 ?_; refine dXxT 7 ?_; refine dXXT 8 ?_; refine dXxT 9 ?_; refine dXxT 10 ?_; refine dXxT 11 ?_; refine dXXT 12 ?_; refine dXXT 13 ?_; refine dXXT 14 ?_; refine dXxT 15 ?_; refine dXxT 16 ?_; refine dST 17 ?_; (try clear F)
    refine DA.W 18 rfl (by decide +kernel) rfl rfl (by decide) ?_
    intro K Kp hK hKp
    simp [↓aop, ↓Ab.opv, ↓upd_lit]
    refine Dies.at (need_bad 2) (hKp _ _ fun σ => ?_)
    repeat (first | refine AExit.panT ?_ | refine AExit.panB ?_)
    exact fol_fin (.inr ⟨rfl, by decide⟩) sm3
  cases i with
  | zero =>
    have hb : badSet v.kind (prevOf v.els 0) x = false := by simp [badSet, hx0, prevOf]
    have F := (aand @h4 (aand @l3 (aand @k3 @h8))); refine tFa ?_; (try clear F)
    refine AW.draw [.S, .R, .S, .S, .S, .S, .S, .S, .R, .S, .S, .S, .R, .R, .R, .S, .S, .S, .R] (by decide +kernel) ?_; have F := (aand @k1 (aand @k2 @hx0)); refine dS 0 ?_; refine dR 1 ?_; refine dS 2 ?_; refine dS 3 ?_; refine dSG 4 ?_; refine dSG 5 ?_; refine dSG 6 ?_; refine dXx 7 ?_; refine dXX 8 ?_; refine dXx 9 ?_; refine dXx 10 ?_; refine dXx 11 ?_; refine dXX 12 ?_; refine dXX 13 ?_; refine dXX 14 ?_; refine dXx 15 ?_; refine dSG 16 ?_; refine dS 17 ?_; refine dC ((need_ok 2)) 18 ?_; (try clear F); first | refine dN ?_ | refine dB ?_ | refine DA.done (by decide +kernel) ?_
    have F := @h42; refine tF ?_; (try clear F)
    exact nx _ (by simp [upd_lit]) (by simp [upd_lit, h41]) (by simp [upd_lit, h40]) (by simp [upd_lit, h4]) (by simp [upd_lit, h0]) (by simp [upd_lit, h2']) hb
  | succ i =>
    have hi' : i < v.els.length := by omega
    obtain ⟨y, ey⟩ : ∃ y, y = v.els[i] := ⟨_, rfl⟩
    have ey' := ey.symm
    have hye : y ∈ v.els := by rw [ey]; exact List.getElem_mem hi'
    have gy : good y := ⟨by rw [ey]; exact hfm i hi' (by omega), ok_els hv y hye⟩
    have hcmp := val_compare y x gy ⟨fx, hx⟩
    have hp : prevOf v.els (i + 1) = some y := by simp [prevOf, List.getElem?_eq_getElem hi', ey]
    have e5 : ((i + 1 : Nat) : Int) - 1 = (i : Int) := by omega
    have e6 : ¬ ((i : Int) + 1 = 0) := by omega
    have e7 : (i : Int) < v.els.length := by omega
    by_cases hlt0 : cmpV y x < 0
    · have hb : badSet v.kind (prevOf v.els (i + 1)) x = false := by rw [hp]; simp [badSet, hx0]; omega
      have F := (aand @h4 (aand @l3 (aand @k3 @h8))); refine tFa ?_; (try clear F)
      refine AW.draw [.S, .R, .S, .S, .S, .S, .S, .S, .R, .S, .S, .S, .R, .R, .R, .S, .S, .S, .R] (by decide +kernel) ?_; have F := (aand @k1 (aand @k2 (aand @k3 (aand @l3 (aand @h4 (aand @h40 (aand @hx0 (aand @e5 (aand @e6 (aand @e7 (aand @hi' (aand @rows_getD (aand @ey' @hlt0))))))))))))); refine dS 0 ?_; refine dR 1 ?_; refine dS 2 ?_; refine dS 3 ?_; refine dSG 4 ?_; refine dSG 5 ?_; refine dSG 6 ?_; refine dSG 7 ?_; refine dRG 8 ?_; refine dSG 9 ?_; refine dSG 10 ?_; refine dSG 11 ?_; refine dRG 12 ?_; refine dRG 13 ?_; refine dCG ((hcmp)) 14 ?_; refine dSG 15 ?_; refine dSG 16 ?_; refine dS 17 ?_; refine dC ((need_ok 2)) 18 ?_; (try clear F); first | refine dN ?_ | refine dB ?_ | refine DA.done (by decide +kernel) ?_
      have F := @h42; refine tF ?_; (try clear F)
      exact nx _ (by simp [upd_lit]) (by simp [upd_lit, h41]) (by simp [upd_lit, h40]) (by simp [upd_lit, h4]) (by simp [upd_lit, h0]) (by simp [upd_lit, h2']) hb
    · have hb : badSet v.kind (prevOf v.els (i + 1)) x = true := by rw [hp]; simp [badSet, h8]; omega
      rw [if_pos hb] at hF
      subst hF
      have F := (aand @h4 (aand @l3 (aand @k3 @h8))); refine tFa ?_; (try clear F)
      refine AW.draw [.S, .R, .S, .S, .S, .S, .S, .S, .R, .S, .S, .S, .R, .R, .R, .S, .S, .S, .W] (by decide +kernel) ?_; have F := (aand @k1 (aand @k2 (aand @k3 (aand @l3 (aand @h4 (aand @h40 (aand @hx0 (aand @e5 (aand @e6 (aand @e7 (aand @hi' (aand @rows_getD (aand @ey' @hlt0))))))))))))); refine dST 0 ?_; refine dRT 1 ?_; refine dST 2 ?_; refine dST 3 ?_; refine dSGT 4 ?_; refine dSGT 5 ?_; refine dSGT 6 ?_; refine dSGT 7 ?_; refine dRGT 8 ?_; refine dSGT 9 ?_; refine dSGT 10 ?_; refine dSGT 11 ?_; refine dRGT 12 ?_; refine dRGT 13 ?_; refine dCGT ((hcmp)) 14 ?_; refine dSGT 15 ?_; refine dSGT 16 ?_; refine dST 17 ?_; (try clear F)
      refine DA.W 18 rfl (by decide +kernel) rfl rfl (by decide) ?_
      intro K Kp hK hKp
      simp [↓aop, ↓Ab.opv, ↓upd_lit]
      refine Dies.at (need_bad 2) (hKp _ _ fun σ => ?_)
      repeat (first | refine AExit.panT ?_ | refine AExit.panB ?_)
      exact fol_fin (.inr ⟨rfl, by decide⟩) sm3
end Go.Proofs.YtgfadepkiejncaaGreat
namespace Go.Proofs.YtgfadepkiejncaaGreat
open Go.Ab
set_option maxHeartbeats 0
set_option maxRecDepth 100000
attribute [local irreducible] AW AList ACall DA AExit.then AExit.inBlock YCall DCall
theorem val_follow (v : GV) (hv : v.ok) : FolOK v := by
  generalize hN : nodes v = N
  induction N using Nat.strongRecOn generalizing v with
  | _ N ih =>
  subst hN
  refine fol_step v hv fun x hx => ih (nodes x) ?_ x (ok_els hv x hx) rfl
  obtain ⟨i, hi, rfl⟩ := List.getElem_of_mem hx
  have := nodes_get v.els i hi
  have := nodes_eq v
  omega
theorem val_check (v : GV) (hv : v.ok) : Gives Tryz.prog 19 [v.pv] (vE (checkF v)) := by
  generalize he : checkF v = e
  intro m
  refine ACall.of_defer Tryz.func19 Tryz.ntmps19 (pre := []) rfl rfl rfl (by simp) ?_
  refine tS ?_
  refine ⟨82, [], [], rfl, ?_⟩
  refine tS ?_
  refine tS1 fun K Kp hK hKp => ?_
  refine ACall.mono (val_follow v hv _ (m.nloc + 1 + 1) 0 1 (by simp) (by simp) (by omega) (by omega)) ?_
  rintro r' s' ⟨rfl, M, rfl, hM⟩
  rw [show (folV v 0 0 1).2 = e from he]
  have sm : Same m ((((m.newLoc v.cells).newLoc [vE 0]).newLoc (cnt 0)).setLoc (m.nloc + 1 + 1) (cnt M)) := Same.auto
  generalize hmm : (((m.newLoc v.cells).newLoc [vE 0]).newLoc (cnt 0)).setLoc (m.nloc + 1 + 1) (cnt M) = mm at *
  have g1 : mm.loc (m.nloc + 1) = some [vE 0] := by rw [← hmm]; simp
  have g2 : m.nloc + 1 < mm.nloc := by rw [← hmm]; simp
  by_cases h0 : e = 0
  · rw [resE, if_pos h0]
    apply hK; clear hK hKp K Kp
    have F := (aand @g1 @g2); refine tF ?_; (try clear F)
    refine (caught_none _ _).mono ?_
    rintro s' rfl
    refine ⟨vE e, m, ?_, .inr ⟨(sm.setLoc (by omega) _).lv, by simp⟩, by simp, rfl⟩
    subst h0
    simp [ResP, resV, upd_lit, g2, show Tryz.f19.results.toList = [.cell 2 30] from rfl]
  · rw [resE, if_neg h0]
    apply hKp; clear hK hKp K Kp
    refine AExit.panT ?_
    refine (caught_pan _ (m.nloc + 1) e g2 g1).mono ?_
    rintro s' rfl
    refine ⟨vE e, m, ?_, .inr ⟨(sm.setLoc (by omega) _).lv, by simp⟩, by simp, rfl⟩
    simp [ResP, resV, upd_lit, g2, show Tryz.f19.results.toList = [.cell 2 30] from rfl]
end Go.Proofs.YtgfadepkiejncaaGreat
namespace Go.Ab
theorem AList.gen {P : Program} {N : Nat} {Q : APost} {ops : Array Oper} {l : List Oper} {σ : Nat → PV} {m : St} (h : ∀ mm, mm = m → AList P N ops Q l σ mm) : AList P N ops Q l σ m := h m rfl
end Go.Ab
namespace Go.Proofs.YtgfadepkiejncaaGreat
open Go.Ab Go.Sort
set_option maxHeartbeats 0
set_option maxRecDepth 100000
attribute [local irreducible] AW AList ACall DA AExit.then AExit.inBlock YCall DCall
end Go.Proofs.YtgfadepkiejncaaGreat
namespace Go.Proofs.YtgfadepkiejncaaGreat
open Go.Ab Go.Sort
set_option maxHeartbeats 0
set_option maxRecDepth 100000
attribute [local irreducible] AW AList ACall DA AExit.then AExit.inBlock YCall DCall
structure Fine (v : GV) (e : Int) : Prop where
  ok : v.ok
  or : (e = 0 ∧ v.kind ≠ 0 ∧ checkF v = 0) ∨ (e ≠ 0 ∧ v = omV)
theorem fine_om {e : Int} (h : e ≠ 0) : Fine omV e := ⟨omV_ok, .inr ⟨h, rfl⟩⟩
theorem fine_fit {v : GV} (g : good v) (h0 : v.kind ≠ 0) : Fine (fitV v) (fitE v) := by
  cases h : fitB v with
  | false =>
    rw [show fitV v = omV from by simp [fitV, h], show fitE v = 3 from by simp [fitE, h]]
    exact fine_om (by omega)
  | true =>
    rw [show fitV v = v from by simp [fitV, h], show fitE v = 0 from by simp [fitE, h]]
    simp only [fitB, Bool.and_eq_true, decide_eq_true_eq] at h
    exact ⟨g.2, .inl ⟨rfl, h0, checkF_ok.2 ⟨g.1, by omega, by omega⟩⟩⟩
theorem tm_last (l : List GV) : ∀ n, n ≤ l.length → tmN l n = 0 ∨ (l[tmN l n - 1]?.getD default).kind ≠ 0
  | 0, _ => .inl rfl
  | n + 1, h => by
    rw [tmN]
    split
    · exact tm_last l n (by omega)
    · rename_i h0; exact .inr (by simpa using h0)
theorem tm_good {l : List GV} (g : goods l) (hl : l.length < 1000000) : good (tupV (tmF l)) := by
  have hlen := tmF_len l
  have hle := tmN_le l l.length
  refine tup_good (tm_goods g) ?_ (by omega)
  rcases tm_last l l.length (Nat.le_refl _) with h | h
  · exact .inl (List.length_eq_zero_iff.1 (by omega))
  · by_cases h0 : tmN l l.length = 0
    · exact .inl (List.length_eq_zero_iff.1 (by omega))
    · refine .inr ?_
      rw [hlen, tmF, List.getElem?_take, if_pos (by omega)]
      exact h
theorem walk_deep : ∀ v x : GV, x ∈ walkV v → deep x ≤ deep v := by
  intro v
  refine @GV.rec (fun v => ∀ x, x ∈ walkV v → deep x ≤ deep v) (fun l => ∀ x, x ∈ walkL l → deep x ≤ deepL l) ?_ ?_ ?_ v
  · intro k n ng a s l ih x hx
    rw [walkV, List.mem_cons] at hx
    rcases hx with rfl | hx
    · exact Nat.le_refl _
    · have := ih x hx; simp only [deep]; omega
  · intro x hx; simp [walkL] at hx
  · intro v l h1 h2 x hx
    rw [walkL, List.mem_append] at hx
    simp only [deepL]
    rcases hx with hx | hx
    · have := h1 x hx; omega
    · have := h2 x hx; omega
theorem set_fine {l : List GV} (g : goods l) (hl : l.length ≤ 1000) (hn : nodesL l < 1000000) : ∃ v e, Fine v e ∧ Gives Tryz.prog 41 [GV.pvs l] (outP v e) :=
  ⟨_, _, fine_fit (setF_goodI g (by omega)) (by show (8 : Int) ≠ 0; omega), val_set l g (by omega) (by omega)⟩
theorem tuple_fine {l : List GV} (g : goods l) (hl : l.length ≤ 1000) (hn : nodesL l < 1000000) : ∃ v e, Fine v e ∧ Gives Tryz.prog 40 [GV.pvs l] (outP v e) :=
  ⟨_, _, fine_fit (tm_good g (by omega)) (by show (7 : Int) ≠ 0; omega), val_tuple l g (by omega) (by omega)⟩
theorem union_fine {a b : GV} (fa : Fm a) (fb : Fm b) : ∃ v e, Fine v e ∧ Gives Tryz.prog 65 [a.pv, b.pv] (outP v e) := by
  have na := fa.nodes
  have nb := fb.nodes
  have la := fa.len
  have lb := fb.len
  have cu := val_union a b fa.good fb.good (by omega) (by omega)
  by_cases h : a.kind = 8 ∧ b.kind = 8
  · rw [if_pos h, union_eq (set_Inc fa.good h.1) (set_Inc fb.good h.2) fa.good.els fb.good.els (set_nonom fa.good h.1) (set_nonom fb.good h.2)] at cu
    have gab : goods (a.els ++ b.els) := fun y hy => (List.mem_append.1 hy).elim (fa.good.els y) (fb.good.els y)
    exact ⟨_, _, fine_fit (setF_goodI gab (by simp; omega)) (by show (8 : Int) ≠ 0; omega), cu⟩
  · rw [if_neg h] at cu
    exact ⟨_, _, fine_om (by omega), cu⟩
theorem with_fine {a x : GV} (fa : Fm a) (fx : Fm x) (h0 : x.kind ≠ 0) : ∃ v e, Fine v e ∧ Gives Tryz.prog 63 [a.pv, x.pv] (outP v e) := by
  have na := fa.nodes
  have nx := fx.nodes
  have la := fa.len
  have cw := val_with a x fa.good fx.good h0 (by omega) (by omega)
  by_cases h : a.kind = 8
  · rw [if_pos h, with_eq fa.good fx.good h0 h] at cw
    have gax : goods (a.els ++ [x]) := fun y hy => (List.mem_append.1 hy).elim (fa.good.els y) (fun h => by simp at h; rw [h]; exact fx.good)
    exact ⟨_, _, fine_fit (setF_goodI gax (by simp; omega)) (by show (8 : Int) ≠ 0; omega), cw⟩
  · rw [if_neg h] at cw
    exact ⟨_, _, fine_om (by omega), cw⟩
theorem inverse_fine {f : GV} (hf : Fm f) : ∃ v e, Fine v e ∧ Gives Tryz.prog 49 [f.pv] (outP v e) := by
  have h1 := val_inverse hf
  have lf := hf.len
  cases hm : mapB f with
  | false =>
    rw [if_neg (by simp [hm])] at h1
    exact ⟨_, _, fine_om (by omega), h1⟩
  | true =>
    rw [if_pos hm] at h1
    obtain ⟨g1, g2, g3⟩ := inv_all hf hm
    have := fine_fit (setF_goodI g1 (by simp [invL]; omega)) (by show (8 : Int) ≠ 0; omega)
    rw [show fitV (setV (setF (invL f.els))) = setV (setF (invL f.els)) from by simp [fitV, g3], show fitE (setV (setF (invL f.els))) = 0 from by simp [fitE, g3]] at this
    exact ⟨_, _, this, h1⟩
theorem renamed_fine {a : GV} (fa : Fm a) (h0 : a.kind ≠ 0) : ∃ v e, Fine v e ∧ Gives Tryz.prog 59 [a.pv, intsP [2, 2], intsP [1, 0]] (outP v e) := by
  have n1 : numsOK [2, 2] 1 := fun x hx => by simp at hx; omega
  have n2 : numsOK [1, 0] 0 := fun x hx => by simp at hx; omega
  have na := fa.nodes
  have da := fa.deep
  obtain ⟨r1, r2, r3, r4⟩ := ren_ok n1 n2 a fa.good (by omega)
  exact ⟨_, _, ⟨r1.2, .inl ⟨rfl, by rw [r4]; exact h0, checkF_ok.2 ⟨r1.1, by omega, by omega⟩⟩⟩, val_renamed [2, 2] [1, 0] n1 n2 (by decide) (by decide) (by decide) a fa.good (by omega)⟩
@[simp] theorem bs74 (a b c d e f : Int) (m : St) (K : PV → St → Prop) : abuildSlice Tryz.prog 74 6 [(0, vI a), (1, vI b), (2, vI c), (3, vI d), (4, vI e), (5, vI f)] m K ↔ K (.list .full (ints [a, b, c, d, e, f])) m := by
  have h := abuildSlice_all (P := Tryz.prog) (t := 74) (s := 1) (e := 30) (z := .int .i64 0) (xs := [vI a, vI b, vI c, vI d, vI e, vI f]) (rs := ints [a, b, c, d, e, f]) (m := m) (K := K) (by simp) (by simp) (by simp) (by decide) (by decide) (by simp) (by simp) (cells1_ints [a, b, c, d, e, f])
  have e : (ints [a, b, c, d, e, f]).map PV.stripL = ints [a, b, c, d, e, f] := by simp [ints, PV.stripL, PV.strip]
  rw [e] at h
  exact h
@[simp] theorem bs25_6 (a b c d e f : GV) (m : St) (K : PV → St → Prop) : abuildSlice Tryz.prog 25 6 [(0, .agg a.cells), (1, .agg b.cells), (2, .agg c.cells), (3, .agg d.cells), (4, .agg e.cells), (5, .agg f.cells)] m K ↔ K (.list .full (GV.rows [a, b, c, d, e, f])) m := bs25 [a, b, c, d, e, f] m K (by simp)
end Go.Proofs.YtgfadepkiejncaaGreat
namespace Go.Proofs.YtgfadepkiejncaaGreat
open Go.Ab Go.Sort
set_option maxHeartbeats 0
set_option maxRecDepth 100000
attribute [local irreducible] AW AList ACall DA AExit.then AExit.inBlock YCall DCall
theorem law16 (l : List GV) (a b : GV) (hl : GV.okL l) (ha : a.ok) (hb : b.ok) : Gives Tryz.prog 16 [GV.pvs l, a.pv, b.pv] (vB true) := by
  intro m
  refine ACall.of_aw Tryz.func16 Tryz.ntmps16 rfl rfl (by simp) ?_
  refine tS ?_
  refine tS1 fun K Kp hK hKp => ?_; refine Gives.at (law_all l hl) ?_; apply hK; clear hK hKp K Kp
  cases h0 : allF l with
  | false =>
    refine tSg ?_
    refine tSa ?_
    refine tS1 fun K Kp hK hKp => ?_; refine Gives.at (sanity) ?_; apply hK; clear hK hKp K Kp
    refine tS ?_
    exact Fin.gives Same.auto
  | true =>
  refine tSg ?_
  refine tSc (law_some a ha) ?_
  cases h1 : someF a with
  | false =>
    refine tSg ?_
    refine tSa ?_
    refine tS1 fun K Kp hK hKp => ?_; refine Gives.at (sanity) ?_; apply hK; clear hK hKp K Kp
    refine tS ?_
    exact Fin.gives Same.auto
  | true =>
  refine tSg ?_
  refine tSc (law_some b hb) ?_
  cases h2 : someF b with
  | false =>
    refine tSg ?_
    refine tSa ?_
    refine tS1 fun K Kp hK hKp => ?_; refine Gives.at (sanity) ?_; apply hK; clear hK hKp K Kp
    refine tS ?_
    exact Fin.gives Same.auto
  | true =>
  simp only [someF, Bool.and_eq_true, Bool.not_eq_true', decide_eq_false_iff_not] at h1 h2
  have fa := formed_Fm ha h1.2
  have fb := formed_Fm hb h2.2
  have ga := fa.good
  have na := fa.nodes
  obtain ⟨h60, hf⟩ := okL_all hl h0
  have gl : goods l := fun x hx => (hf x hx).good
  have hn2 : nodesL l ≤ 60 * 400 := Nat.le_trans (nodesL_le l fun x hx => (hf x hx).nodes) (Nat.mul_le_mul_right _ h60)
  obtain ⟨v1, e1, f1, c1⟩ := set_fine gl (by omega) (by omega)
  obtain ⟨v2, e2, f2, c2⟩ := tuple_fine gl (by omega) (by omega)
  obtain ⟨v3, e3, f3, c3⟩ := union_fine fa fb
  obtain ⟨v4, e4, f4, c4⟩ := with_fine fa fb h2.1
  obtain ⟨v5, e5, f5, c5⟩ := inverse_fine fa
  obtain ⟨v6, e6, f6, c6⟩ := renamed_fine fa h1.1
  refine tSg ?_
  refine tSa ?_
  refine tS1 fun K Kp hK hKp => ?_; refine Gives.at (c1) ?_; apply hK; clear hK hKp K Kp
  refine tS ?_
  refine tS1 fun K Kp hK hKp => ?_; refine Gives.at (c2) ?_; apply hK; clear hK hKp K Kp
  refine tS ?_
  refine tS1 fun K Kp hK hKp => ?_; refine Gives.at (c3) ?_; apply hK; clear hK hKp K Kp
  refine tS ?_
  refine tS1 fun K Kp hK hKp => ?_; refine Gives.at (c4) ?_; apply hK; clear hK hKp K Kp
  refine tS ?_
  refine tS1 fun K Kp hK hKp => ?_; refine Gives.at (c5) ?_; apply hK; clear hK hKp K Kp
  refine tS ?_
  refine tS1 fun K Kp hK hKp => ?_; refine Gives.at (c6) ?_; apply hK; clear hK hKp K Kp
  refine tS ?_
  refine AW.gen fun mm hmm => ?_
  have g0 : mm.loc m.nloc = some a.cells := by rw [hmm]; simp [Nat.add_assoc]
  have n0 : m.nloc < mm.nloc := by rw [hmm]; simp; omega
  have sm : Same m mm := by rw [hmm]; exact Same.auto
  clear hmm
  obtain ⟨vs, hvs⟩ : ∃ vs, vs = [v1, v2, v3, v4, v5, v6] := ⟨_, rfl⟩
  obtain ⟨es, hes⟩ : ∃ es, es = [e1, e2, e3, e4, e5, e6] := ⟨_, rfl⟩
  have lvs : vs.length = 6 := by rw [hvs]; rfl
  have les : es.length = 6 := by rw [hes]; rfl
  have hfine : ∀ (j : Nat) (h1 : j < vs.length) (h2 : j < es.length), Fine vs[j] es[j] := by
    subst hvs hes
    intro j h1 h2
    match j, h1, h2 with
    | 0, _, _ => exact f1
    | 1, _, _ => exact f2
    | 2, _, _ => exact f3
    | 3, _, _ => exact f4
    | 4, _, _ => exact f5
    | 5, _, _ => exact f6
  rw [← hvs, ← hes]
  have w1 := val_walk a (by omega) (good_small ga)
  have nl := walk_len a
  have hw := walk_eq a
  have hchk : ∀ x ∈ walkV a, Gives Tryz.prog 19 [x.pv] (vE 0) ∧ Gives Tryz.prog 32 [x.pv] (vI (deep x)) ∧ (deep x : Int) ≤ deep a := fun x hx => by
    have gx := walk_good ga x hx
    have h1 := (walk_sub a x hx).1
    have h2 := walk_deep a x hx
    have h3 := fa.deep
    have h4 := val_check x gx.2
    rw [checkF_ok.2 ⟨gx.1, by omega, by omega⟩] at h4
    exact ⟨h4, val_deep x (by omega), by omega⟩
  have hda := val_deep a (by omega)
  have hna := val_nodes a (by omega)
  have hsa := ref_same a a ha ha
  rw [sameV_refl] at hsa
  have hz : (walkV a)[0]? = some a := by rw [hw]; rfl
  have hpos : 0 < (walkV a).length := by rw [hw]; simp
  clear hw hvs hes f1 f2 f3 f4 f5 f6 c1 c2 c3 c4 c5 c6
  generalize walkV a = ws at *
  refine AW.loop (ι := Nat) (fun j σ m' => j ≤ 6 ∧ σ 21 = vI j ∧ σ 19 = .list .full (GV.rows vs) ∧ σ 20 = .list .full (ints es) ∧ σ 4 = .loc m.nloc 0 ∧ m' = mm) (fun j => 6 - j) 0 ?_ ?_
  · exact ⟨by omega, by simp [upd_lit], by simp [upd_lit], by simp [upd_lit], by simp [upd_lit], rfl⟩
  rintro j σ m' ⟨hj, t21, t19, t20, t4, rfl⟩
  by_cases hlt : (j : Int) < 6
  · have h6 : j < vs.length := by omega
    have h6e : j < es.length := by omega
    have hF := hfine j h6 h6e
    obtain ⟨v, ev⟩ : ∃ v, v = vs[j] := ⟨_, rfl⟩
    obtain ⟨e, ee⟩ : ∃ e, e = es[j] := ⟨_, rfl⟩
    rw [← ev, ← ee] at hF
    have rv : rowI (GV.rows vs) j = v.cells := by rw [rows_getD vs j h6, ← ev]
    have re : rowI (ints es) j = [vI e] := by rw [ints_getD es j h6e, ← ee]
    clear hfine ev ee
    have F := (aand @t21 (aand @t19 (aand @lvs @hlt))); refine tFa ?_; (try clear F)
    rcases hF.or with ⟨rfl, hk, hc⟩ | ⟨he, rfl⟩
    · have F := (aand @t20 (aand @t21 (aand @les (aand @hlt @re)))); refine tF ?_; (try clear F)
      refine tSa ?_
      have hcv := val_check v hF.ok
      rw [hc] at hcv
      have F := (aand @t19 (aand @t21 (aand @lvs (aand @hlt (aand @rv @hk))))); refine tFg ?_; (try clear F)
      refine tSc (hcv) ?_
      refine tSg ?_
      refine tSa ?_
      have F := @t21; refine tF ?_; (try clear F)
      exact ⟨j + 1, ⟨by omega, by simp [upd_lit], by simp [upd_lit, t19], by simp [upd_lit, t20], by simp [upd_lit, t4], rfl⟩, by omega⟩
    · have F := (aand @t20 (aand @t21 (aand @les (aand @hlt @re)))); refine tF ?_; (try clear F)
      have F := @he; refine tFa ?_; (try clear F)
      have F := (aand @t19 (aand @t21 (aand @lvs (aand @hlt @rv)))); refine tFg ?_; (try clear F)
      refine tSg ?_
      refine tSa ?_
      have F := @t21; refine tF ?_; (try clear F)
      exact ⟨j + 1, ⟨by omega, by simp [upd_lit], by simp [upd_lit, t19], by simp [upd_lit, t20], by simp [upd_lit, t4], rfl⟩, by omega⟩
  · have F := (aand @t21 (aand @t19 (aand @lvs @hlt))); refine tFa ?_; (try clear F)
    have F := (aand @t4 (aand @g0 @n0)); refine tF ?_; (try clear F)
    refine tS1 fun K Kp hK hKp => ?_; refine Gives.at (w1) ?_; apply hK; clear hK hKp K Kp
    refine tS ?_
    have hp : 0 < nodes a := by omega
    have hne : ¬ nodes a = 0 := by omega
    have rw0 : rowI (GV.rows ws) 0 = a.cells := by
      rw [rows_getD ws 0 hpos]
      rw [List.getElem?_eq_getElem hpos] at hz
      rw [Option.some.inj hz]
    refine AW.draw [.S, .S, .S, .S, .S, .S, .R, .R, .S, .S, .S, .S, .S, .R, .R, .R, .S, .S] (by decide +kernel) ?_; have F := (aand @t4 (aand @g0 (aand @n0 (aand @nl (aand @hp (aand @hne @rw0)))))); refine dS 0 ?_; refine dS 1 ?_; refine dS 2 ?_; refine dS 3 ?_; refine dSG 4 ?_; refine dSG 5 ?_; refine dRG 6 ?_; refine dCG ((hna)) 7 ?_; refine dSG 8 ?_; refine dS 9 ?_; refine dS 10 ?_; refine dSG 11 ?_; refine dSG 12 ?_; refine dRG 13 ?_; refine dRG 14 ?_; refine dCG ((hsa)) 15 ?_; refine dSG 16 ?_; refine dS 17 ?_; (try clear F); first | refine dN ?_ | refine dB ?_ | refine DA.done (by decide +kernel) ?_
    refine tSa ?_
    refine tS ?_
    refine AW.loop (ι := Nat) (fun j σ m'' => j ≤ nodes a ∧ σ 23 = vI j ∧ σ 22 = GV.pvs ws ∧ σ 4 = .loc m.nloc 0 ∧ m'' = m') (fun j => nodes a - j) 0 ?_ ?_
    · exact ⟨by omega, by simp [upd_lit], by simp [upd_lit], by simp [upd_lit, t4], rfl⟩
    clear t4 t19 t20 t21 hlt
    rintro j σ m'' ⟨hj, t23, t22, t4, rfl⟩
    by_cases hlt : j < nodes a
    · have hx : j < ws.length := by omega
      obtain ⟨x, ex⟩ : ∃ x, x = ws[j] := ⟨_, rfl⟩
      have rv : rowI (GV.rows ws) j = x.cells := by rw [rows_getD ws j hx, ← ex]
      obtain ⟨k1, k2, k3⟩ := hchk x (by rw [ex]; exact List.getElem_mem hx)
      have k4 : ¬ deep a < deep x := by omega
      have F := (aand @t23 (aand @t22 (aand @nl @hlt))); refine tFa ?_; (try clear F)
      repeat (first | refine AW.seq ?_ | refine AW.block ?_ | refine AW.skip ?_ | refine AExit.norT ?_ | refine AExit.norB ?_ | refine AList.nil ?_)
      refine AW.draw [.S, .S, .S, .R, .R, .S, .S, .S, .S, .S, .R, .R, .R, .R, .S, .S] (by decide +kernel) ?_; have F := (aand @t23 (aand @t22 (aand @t4 (aand @g0 (aand @n0 (aand @nl (aand @hlt @rv))))))); refine dS 0 ?_; refine dS 1 ?_; refine dS 2 ?_; refine dR 3 ?_; refine dC ((k1)) 4 ?_; refine dS 5 ?_; refine dS 6 ?_; refine dSG 7 ?_; refine dSG 8 ?_; refine dSG 9 ?_; refine dRG 10 ?_; refine dCG ((k2)) 11 ?_; refine dRG 12 ?_; refine dCG ((hda)) 13 ?_; refine dSG 14 ?_; refine dS 15 ?_; (try clear F); first | refine dN ?_ | refine dB ?_ | refine DA.done (by decide +kernel) ?_
      have F := @k4; refine tFa ?_; (try clear F)
      have F := @t23; refine tF ?_; (try clear F)
      exact ⟨j + 1, ⟨by omega, by simp [upd_lit], by simp [upd_lit, t22], by simp [upd_lit, t4], rfl⟩, by omega⟩
    · have F := (aand @t23 (aand @t22 (aand @nl @hlt))); refine tFa ?_; (try clear F)
      refine tS1 fun K Kp hK hKp => ?_; refine Gives.at (sanity) ?_; apply hK; clear hK hKp K Kp
      refine tS ?_
      exact Fin.gives sm
end Go.Proofs.YtgfadepkiejncaaGreat
