/- Texts of the proof, part Le: they prove nothing by themselves that is claimed. -/
import Derived.Test.YtgfadepkiejncaaGreatLc
import Derived.Test.YtgfadepkiejncaaGreatLd
import Derived.Sort.LotB
import Derived.Test.YtgfadepkiejncaaGreatLb
import Derived.Lib.DecodeN
set_option linter.unusedVariables false
set_option linter.unusedSimpArgs false
namespace Go.Ab
theorem AW.stepR {P : Program} {N : Nat} {Q : APost} {σ : Nat → PV} {m : St} {c : Code} (I J : (Nat → PV) → St → Prop) (h : AW P N c (fun y σ m => (y = .normal ∧ I σ m) ∨ (y = .ret ∧ J σ m)) σ m) (k : ∀ σ m, I σ m → Q .normal σ m) (kr : ∀ σ m, J σ m → Q .ret σ m) : AW P N c Q σ m :=
  AW.mono h fun _ _ _ hx => by
    rcases hx with ⟨e, hi⟩ | ⟨e, hi⟩
    · exact e ▸ k _ _ hi
    · exact e ▸ kr _ _ hi
end Go.Ab
namespace Go.Proofs.YtgfadepkiejncaaGreat
open Go.Ab Go.Sort
set_option maxHeartbeats 0
set_option maxRecDepth 100000
attribute [local irreducible] AW AList ACall DA AExit.then AExit.inBlock YCall DCall
def PdqOK (k : Nat) : Prop := ∀ {m : St} {n L cap : Nat} {d : Array GG} {r : List PV}, Arr m n L d r → (∀ k t, PV.scL k t r) → ∀ a b limit : Nat, b - a = k → a ≤ b → b ≤ L → limit ≤ 1099511627776 → Below ltG a b d →
  ACall Tryz.prog 165 [mar n L cap, vI a, vI b, vI limit, cloC] m (fun r' m' => ∃ R, PermIn a b d R ∧ SortedIn ltG a b R ∧ r' = .ret (.tup []) ∧ m' = m.setLoc n (ar R r))
theorem pdqG (k : Nat) : PdqOK k := by
  induction k using Nat.strongRecOn with
  | ind k ih =>
  intro m n L cap d r H hr a b limit hk hab hb hlim hBe
  have hn := H.lt
  have hm := H.loc
  have hL := H.size
  have hS := H.small
  refine ACall.of_aw Tryz.func165 Tryz.ntmps165 rfl rfl (by simp) ?_
  refine tS ?_
  refine AW.loop (ι := Nat) (fun l σ m' => ∃ (a1 b1 lim : Nat) (wb wp : Bool) (d1 : Array GG), b1 - a1 = l ∧ l ≤ k ∧ a1 ≤ b1 ∧ b1 ≤ L ∧ lim ≤ 1099511627776 ∧ PermIn 0 L d d1 ∧ Below ltG a1 b1 d1 ∧ (∀ R, PermIn a1 b1 d1 R → SortedIn ltG a1 b1 R → PermIn a b d R ∧ SortedIn ltG a b R) ∧
    σ 10 = vB wb ∧ σ 11 = vB wp ∧ σ 0 = mar n L cap ∧ σ 1 = vI a1 ∧ σ 2 = vI b1 ∧ σ 3 = vI lim ∧ σ 4 = cloC ∧ m' = m.setLoc n (ar d1 r)) (fun l => l) k ?_ ?_
  · exact ⟨a, b, limit, true, true, d, hk, Nat.le_refl _, hab, hb, hlim, permIn_refl _ _ _, hBe, fun R h1 h2 => ⟨h1, h2⟩, by simp [upd_lit], by simp [upd_lit], by simp [upd_lit], by simp [upd_lit], by simp [upd_lit], by simp [upd_lit], by simp [upd_lit], (setLoc_self hm).symm⟩
  rintro l σ m' ⟨a1, b1, lim, wb, wp, d1, hl, hlk, hab1, hb1, hlim1, hP1, hB1, hfin, t10, t11, t0, t1, t2, t3, t4, rfl⟩
  have hs1 : d1.size = L := by rw [hP1.1]; exact hL
  have H1 := H.set d1 hs1
  have el : (b1 : Int) - a1 = (l : Int) := by omega
  have F := (aand @t1 (aand @t2 @el)); refine tF ?_; (try clear F)
  by_cases h12 : (l : Int) ≤ 12
  · have F := @h12; refine tFa ?_; (try clear F)
    have F := (aand @t0 (aand @t1 (aand @t2 @t4))); refine tF1 fun K Kp hK hKp => ?_; (try clear F); refine GivesTo.at (insertion H1 a1 b1 (by omega) (by omega)) ?_; apply hK; clear hK hKp K Kp
    refine tSa ?_
    have hI := insertionSort_holds ltG_swo d1 a1 b1 hab1 (by omega)
    exact Fin.here (r := .tup []) (by exact ⟨[], rfl, rfl⟩) (.inr rfl) ⟨_, (hfin _ hI.1 hI.2).1, (hfin _ hI.1 hI.2).2, rfl, by rw [setLoc_setLoc]⟩
  by_cases hlz : lim = 0
  · have hlz2 : (lim : Int) = 0 := by omega
    have F := (aand @h12 (aand @t3 (aand @hlz @hlz2))); refine tFa ?_; (try clear F)
    have F := (aand @t0 (aand @t1 (aand @t2 @t4))); refine tF1 fun K Kp hK hKp => ?_; (try clear F); refine GivesTo.at (heap H1 a1 b1 (by omega) (by omega)) ?_; apply hK; clear hK hKp K Kp
    refine tSa ?_
    have hI := heapSort_holds ltG_swo d1 a1 b1 hab1 (by omega)
    exact Fin.here (r := .tup []) (by exact ⟨[], rfl, rfl⟩) (.inr rfl) ⟨_, (hfin _ hI.1 hI.2).1, (hfin _ hI.1 hI.2).2, rfl, by rw [setLoc_setLoc]⟩
  have hlz2 : ¬ (lim : Int) = 0 := by omega
  have F := (aand @h12 (aand @t3 (aand @hlz @hlz2))); refine tFa ?_; (try clear F)
  have hlt : a1 < b1 := by omega
  have F := @t10; refine tF ?_; (try clear F)
  refine AW.step (fun τ m' => ∃ (d2 : Array GG) (lim2 : Nat), lim2 ≤ 1099511627776 ∧ PermIn a1 b1 d1 d2 ∧ τ 13 = σ 13 ∧ τ 10 = vB wb ∧ τ 11 = vB wp ∧ τ 0 = mar n L cap ∧ τ 1 = vI a1 ∧ τ 2 = vI b1 ∧ τ 3 = vI lim2 ∧ τ 4 = cloC ∧ τ 12 = vI l ∧ m' = m.setLoc n (ar d2 r)) ?_ ?_
  · cases wb with
    | true =>
      have F := @t10; refine tFa ?_; (try clear F)
      exact ⟨rfl, d1, lim, hlim1, permIn_refl _ _ _, by simp [upd_lit], by simp [upd_lit, t10], by simp [upd_lit, t11], by simp [upd_lit, t0], by simp [upd_lit, t1], by simp [upd_lit, t2], by simp [upd_lit, t3], by simp [upd_lit, t4], by simp [upd_lit], rfl⟩
    | false =>
      obtain ⟨lim2, hl2⟩ : ∃ x, x + 1 = lim := ⟨lim - 1, by omega⟩
      have e2 : (lim : Int) - 1 = (lim2 : Int) := by omega
      have F := @t10; refine tFa ?_; (try clear F)
      have F := (aand @t0 (aand @t1 (aand @t2 @t4))); refine tF1 fun K Kp hK hKp => ?_; (try clear F); refine ACall.mono (breakG H1 hr a1 b1 (by omega) (by omega)) ?_
      rintro _ _ ⟨d2, hp2, rfl, rfl⟩
      refine hK _ _ ?_; clear hK hKp K Kp
      have F := (aand @t3 @e2); refine tF ?_; (try clear F)
      exact ⟨rfl, d2, lim2, by omega, hp2, by simp [upd_lit], by simp [upd_lit, t10], by simp [upd_lit, t11], by simp [upd_lit, t0], by simp [upd_lit, t1], by simp [upd_lit, t2], by simp [upd_lit, t3], by simp [upd_lit, t4], by simp [upd_lit], by rw [setLoc_setLoc]⟩
  clear t10 t11 t0 t1 t2 t3 t4
  rintro τ m' ⟨d2, lim2, hlim2, hp12, -, t10, t11, t0, t1, t2, t3, t4, t12, rfl⟩
  have hs2 : d2.size = L := by rw [hp12.1]; exact hs1
  have H2 := H.set d2 hs2
  have F := (aand @t0 (aand @t1 (aand @t2 @t4))); refine tF ?_; (try clear F)
  refine tS1 fun K Kp hK hKp => ?_; refine ACall.mono (choosePivotG H2 a1 b1 hlt (by omega)) ?_
  rintro _ _ ⟨x, h, hx1, hx2, hh, rfl, rfl⟩
  refine hK _ _ ?_; clear hK hKp K Kp
  refine tS ?_
  refine AW.step (fun τ m' => ∃ (d3 : Array GG) (piv h2 : Nat), PermIn a1 b1 d1 d3 ∧ a1 ≤ piv ∧ piv < b1 ∧ τ 13 = vI piv ∧ τ 14 = vI h2 ∧ τ 10 = vB wb ∧ τ 11 = vB wp ∧ τ 0 = mar n L cap ∧ τ 1 = vI a1 ∧ τ 2 = vI b1 ∧ τ 3 = vI lim2 ∧ τ 4 = cloC ∧ τ 12 = vI l ∧ m' = m.setLoc n (ar d3 r)) ?_ ?_
  · by_cases hh2 : (h : Int) = 2
    · have F := @hh2; refine tFa ?_; (try clear F)
      have F := (aand @t0 (aand @t1 (aand @t2 @t4))); refine tF1 fun K Kp hK hKp => ?_; (try clear F); refine GivesTo.at (reverseG H2 a1 b1 hlt (by omega)) ?_; apply hK; clear hK hKp K Kp
      obtain ⟨q1, hq1⟩ : ∃ q, q + 1 = b1 := ⟨b1 - 1, by omega⟩
      have eq1 : (b1 : Int) - 1 = (q1 : Int) := by omega
      obtain ⟨q2, hq2⟩ : ∃ q, q = x - a1 := ⟨_, rfl⟩
      have eq2 : (x : Int) - a1 = (q2 : Int) := by omega
      obtain ⟨q3, hq3⟩ : ∃ q, q = q1 - q2 := ⟨_, rfl⟩
      have eq3 : (q1 : Int) - q2 = (q3 : Int) := by omega
      have F := (aand @t2 (aand @t1 (aand @eq1 (aand @eq2 @eq3)))); refine tF ?_; (try clear F)
      exact ⟨rfl, _, q3, 1, permIn_trans _ _ _ _ _ hp12 (reverseRange_holds d2 a1 b1 hab1 (by omega)), by omega, by omega, by simp [upd_lit], by simp [upd_lit], by simp [upd_lit, t10], by simp [upd_lit, t11], by simp [upd_lit, t0], by simp [upd_lit, t1], by simp [upd_lit, t2], by simp [upd_lit, t3], by simp [upd_lit, t4], by simp [upd_lit, t12], by rw [setLoc_setLoc]⟩
    · have F := @hh2; refine tFa ?_; (try clear F)
      exact ⟨rfl, d2, x, h, hp12, hx1, hx2, by simp [upd_lit], by simp [upd_lit], by simp [upd_lit, t10], by simp [upd_lit, t11], by simp [upd_lit, t0], by simp [upd_lit, t1], by simp [upd_lit, t2], by simp [upd_lit, t3], by simp [upd_lit, t4], by simp [upd_lit, t12], rfl⟩
  clear t10 t11 t0 t1 t2 t3 t4 t12 hs2 H2 hp12 hh hx1 hx2 d2
  rintro τ m' ⟨d3, piv, h2, hp13, hv1, hv2, t13, t14, t10, t11, t0, t1, t2, t3, t4, t12, rfl⟩
  have hs3 : d3.size = L := by rw [hp13.1]; exact hs1
  have H3 := H.set d3 hs3
  have hB3 := hB1.perm (by omega) hp13
  refine AExit.norT ?_
  refine AW.seq ?_
  refine AW.stepR (fun τ m' => ∃ (d4 : Array GG), PermIn a1 b1 d1 d4 ∧ τ 13 = vI piv ∧ τ 10 = vB wb ∧ τ 11 = vB wp ∧ τ 0 = mar n L cap ∧ τ 1 = vI a1 ∧ τ 2 = vI b1 ∧ τ 3 = vI lim2 ∧ τ 4 = cloC ∧ τ 12 = vI l ∧ m' = m.setLoc n (ar d4 r)) (fun τ m' => ∃ R, PermIn a1 b1 d1 R ∧ SortedIn ltG a1 b1 R ∧ m' = m.setLoc n (ar R r)) ?_ ?_ ?_
  · have skip : ∀ ρ : Nat → PV, ρ 13 = vI piv → (ρ 10 = vB wb ∧ ρ 11 = vB wp ∧ ρ 0 = mar n L cap ∧ ρ 1 = vI a1 ∧ ρ 2 = vI b1 ∧ ρ 3 = vI lim2 ∧ ρ 4 = cloC ∧ ρ 12 = vI l) → ∃ (d4 : Array GG), PermIn a1 b1 d1 d4 ∧ ρ 13 = vI piv ∧ ρ 10 = vB wb ∧ ρ 11 = vB wp ∧ ρ 0 = mar n L cap ∧ ρ 1 = vI a1 ∧ ρ 2 = vI b1 ∧ ρ 3 = vI lim2 ∧ ρ 4 = cloC ∧ ρ 12 = vI l ∧ m.setLoc n (ar d3 r) = m.setLoc n (ar d4 r) :=
      fun ρ h13 ⟨h10, h11, h0, h1, h2, h3, h4, h12⟩ => ⟨d3, hp13, h13, h10, h11, h0, h1, h2, h3, h4, h12, rfl⟩
    cases wb with
    | false =>
      have F := @t10; refine tFa ?_; (try clear F)
      exact .inl ⟨rfl, skip _ (by simp [upd_lit, t13]) ⟨by simp [upd_lit, t10], by simp [upd_lit, t11], by simp [upd_lit, t0], by simp [upd_lit, t1], by simp [upd_lit, t2], by simp [upd_lit, t3], by simp [upd_lit, t4], by simp [upd_lit, t12]⟩⟩
    | true =>
    cases wp with
    | false =>
      have F := (aand @t10 @t11); refine tFa ?_; (try clear F)
      exact .inl ⟨rfl, skip _ (by simp [upd_lit, t13]) ⟨by simp [upd_lit, t10], by simp [upd_lit, t11], by simp [upd_lit, t0], by simp [upd_lit, t1], by simp [upd_lit, t2], by simp [upd_lit, t3], by simp [upd_lit, t4], by simp [upd_lit, t12]⟩⟩
    | true =>
    by_cases hh1 : h2 = 1
    rotate_left
    · have hh1' : ¬ (h2 : Int) = 1 := by omega
      have F := (aand @t10 (aand @t11 (aand @t14 (aand @hh1 @hh1')))); refine tFa ?_; (try clear F)
      exact .inl ⟨rfl, skip _ (by simp [upd_lit, t13]) ⟨by simp [upd_lit, t10], by simp [upd_lit, t11], by simp [upd_lit, t0], by simp [upd_lit, t1], by simp [upd_lit, t2], by simp [upd_lit, t3], by simp [upd_lit, t4], by simp [upd_lit, t12]⟩⟩
    have hh1' : (h2 : Int) = 1 := by omega
    have F := (aand @t10 (aand @t11 (aand @t14 @hh1'))); refine tFa ?_; (try clear F)
    have F := (aand @t0 (aand @t1 (aand @t2 @t4))); refine tF1 fun K Kp hK hKp => ?_; (try clear F); refine GivesTo.at (partialG H3 a1 b1 hlt (by omega)) ?_; apply hK; clear hK hKp K Kp
    have hpi := partialInsertionSort_holds ltG_swo d3 a1 b1 hlt (by omega) hB3
    cases hres : (partialInsertionSort ltG d3 a1 b1).2 with
    | true =>
      refine tSa ?_
      exact .inr ⟨rfl, _, permIn_trans _ _ _ _ _ hp13 hpi.1, hpi.2 hres, by rw [setLoc_setLoc]⟩
    | false =>
      refine tSa ?_
      exact .inl ⟨rfl, _, permIn_trans _ _ _ _ _ hp13 hpi.1, by simp [upd_lit, t13], by simp [upd_lit, t10], by simp [upd_lit, t11], by simp [upd_lit, t0], by simp [upd_lit, t1], by simp [upd_lit, t2], by simp [upd_lit, t3], by simp [upd_lit, t4], by simp [upd_lit, t12], by rw [setLoc_setLoc]⟩
  rotate_left
  · rintro τ m' ⟨R, hR1, hR2, rfl⟩
    have hF := hfin R hR1 hR2
    refine tSa ?_
    exact Fin.here (r := .tup []) (by exact ⟨[], rfl, rfl⟩) (.inr rfl) ⟨R, hF.1, hF.2, rfl, rfl⟩
  clear t10 t11 t0 t1 t2 t3 t4 t12 t13 t14 hs3 H3 hp13 hB3 d3
  rintro τ m' ⟨d4, hp14, t13, t10, t11, t0, t1, t2, t3, t4, t12, rfl⟩
  have hs4 : d4.size = L := by rw [hp14.1]; exact hs1
  have H4 := H.set d4 hs4
  have hB4 := hB1.perm (by omega) hp14
  have hP4 : PermIn 0 L d d4 := permIn_trans _ _ _ _ _ hP1 (permIn_mono _ _ a1 b1 0 L (by omega) hb1 (by omega) hp14)
  refine AExit.norT ?_
  refine AW.seq ?_
  refine AW.seq ?_
  have v1 : piv < d4.size := by omega
  have v2 : (piv : Int) < L := by omega
  refine AW.step (fun τ m' => τ 97 = vB (decide (0 < a1) && !ltG (gt d4 (a1 - 1)) (gt d4 piv)) ∧ τ 13 = vI piv ∧ τ 10 = vB wb ∧ τ 11 = vB wp ∧ τ 0 = mar n L cap ∧ τ 1 = vI a1 ∧ τ 2 = vI b1 ∧ τ 3 = vI lim2 ∧ τ 4 = cloC ∧ τ 12 = vI l ∧ m' = m.setLoc n (ar d4 r)) ?_ ?_
  · by_cases ha0 : 0 < a1
    · have ha0' : (0 : Int) < a1 := by omega
      obtain ⟨w, hw⟩ : ∃ w, w + 1 = a1 := ⟨a1 - 1, by omega⟩
      have ew : (a1 : Int) - 1 = (w : Int) := by omega
      have w1 : w < d4.size := by omega
      have w2 : (w : Int) < L := by omega
      have hcmp := cmpG (gt d4 w) (gt d4 piv)
      rw [show a1 - 1 = w from by omega]
      refine AW.draw [.S, .S, .S, .S, .S, .S, .S, .S, .R, .S, .S, .S, .R, .R, .S, .S, .S] (by decide +kernel) ?_; have F := (aand @t0 (aand @t1 (aand @t4 (aand @t13 (aand @ha0 (aand @ha0' (aand @ew (aand @w1 (aand @w2 (aand @v1 (aand @v2 (aand @hn (aand @ar_get @ar_fit))))))))))))); refine dS 0 ?_; refine dS 1 ?_; refine dS 2 ?_; refine dSG 3 ?_; refine dSG 4 ?_; refine dSG 5 ?_; refine dSG 6 ?_; refine dSG 7 ?_; refine dRG 8 ?_; refine dSG 9 ?_; refine dSG 10 ?_; refine dSG 11 ?_; refine dRG 12 ?_; refine dCG ((hcmp)) 13 ?_; refine dSG 14 ?_; refine dSG 15 ?_; refine dS 16 ?_; (try clear F); first | refine dN ?_ | refine dB ?_ | refine DA.done (by decide +kernel) ?_
      exact ⟨rfl, by simp [upd_lit, ha0, ltG], by simp [upd_lit, t13], by simp [upd_lit, t10], by simp [upd_lit, t11], by simp [upd_lit, t0], by simp [upd_lit, t1], by simp [upd_lit, t2], by simp [upd_lit, t3], by simp [upd_lit, t4], by simp [upd_lit, t12], rfl⟩
    · have ha0' : ¬ (0 : Int) < a1 := by omega
      refine AW.draw [.S, .S, .S, .S, .S, .S, .S, .S, .R, .S, .S, .S, .R, .R, .S, .S, .S] (by decide +kernel) ?_; have F := (aand @t1 (aand @ha0 @ha0')); refine dS 0 ?_; refine dS 1 ?_; refine dS 2 ?_; refine dXx 3 ?_; refine dXx 4 ?_; refine dXx 5 ?_; refine dXx 6 ?_; refine dXx 7 ?_; refine dXX 8 ?_; refine dXx 9 ?_; refine dXx 10 ?_; refine dXx 11 ?_; refine dXX 12 ?_; refine dXX 13 ?_; refine dXx 14 ?_; refine dXx 15 ?_; refine dS 16 ?_; (try clear F); first | refine dN ?_ | refine dB ?_ | refine DA.done (by decide +kernel) ?_
      exact ⟨rfl, by simp [upd_lit, ha0], by simp [upd_lit, t13], by simp [upd_lit, t10], by simp [upd_lit, t11], by simp [upd_lit, t0], by simp [upd_lit, t1], by simp [upd_lit, t2], by simp [upd_lit, t3], by simp [upd_lit, t4], by simp [upd_lit, t12], rfl⟩
  clear t10 t11 t0 t1 t2 t3 t4 t12 t13
  rintro τ m' ⟨t97, t13, t10, t11, t0, t1, t2, t3, t4, t12, rfl⟩
  cases hc : (decide (0 < a1) && !ltG (gt d4 (a1 - 1)) (gt d4 piv)) with
  | true =>
    rw [hc] at t97
    simp only [Bool.and_eq_true, decide_eq_true_eq, Bool.not_eq_true'] at hc
    have F := @t97; refine tFa ?_; (try clear F)
    have F := (aand @t0 (aand @t1 (aand @t2 (aand @t4 @t13)))); refine tF1 fun K Kp hK hKp => ?_; (try clear F); refine GivesTo.at (partitionEqualG H4 a1 b1 piv hv1 hv2 (by omega)) ?_; apply hK; clear hK hKp K Kp
    obtain ⟨mid, d5, hpe⟩ : ∃ mid d5, partitionEqual ltG d4 a1 b1 piv = (mid, d5) := ⟨_, _, rfl⟩
    obtain ⟨g1, g2, g3, g4, g5⟩ := round_eq ltG_swo (partitionEqual_holds ltG) hc.1 hv1 hv2 (by omega) hB4 hc.2 hpe
    rw [hpe]
    dsimp only
    have hPm : PermIn 0 L d d5 := by
      have := partitionEqual_holds ltG ltG_swo d4 a1 b1 piv hv1 hv2 (by omega) (fun i h1 h2 => by
        rcases hB4 with h0 | hB4
        · omega
        · exact ltG_swo.ntrans _ _ _ (hB4 i h1 h2) hc.2)
      rw [hpe] at this
      exact permIn_trans _ _ _ _ _ hP4 (permIn_mono _ _ a1 b1 0 L (by omega) hb1 (by omega) this.2.2.1)
    refine tS ?_
    exact ⟨b1 - mid, ⟨mid, b1, lim2, wb, wp, d5, rfl, by omega, g2, hb1, hlim2, hPm, g4, fun R h1 h2 => by
      have := g5 R h1 h2
      exact hfin R (permIn_trans _ _ _ _ _ hp14 this.1) this.2, by simp [upd_lit, t10], by simp [upd_lit, t11], by simp [upd_lit, t0], by simp [upd_lit], by simp [upd_lit, t2], by simp [upd_lit, t3], by simp [upd_lit, t4], by rw [setLoc_setLoc]⟩, by omega⟩
  | false =>
    rw [hc] at t97
    have F := @t97; refine tFa ?_; (try clear F)
    have F := (aand @t0 (aand @t1 (aand @t2 (aand @t4 @t13)))); refine tF1 fun K Kp hK hKp => ?_; (try clear F); refine GivesTo.at (partitionG H4 a1 b1 piv hv1 hv2 (by omega)) ?_; apply hK; clear hK hKp K Kp
    obtain ⟨mid, ap, d5, hpe⟩ : ∃ mid ap d5, partition ltG d4 a1 b1 piv = (mid, ap, d5) := ⟨_, _, _, rfl⟩
    obtain ⟨g1, g2, g3, g4, g5, g6, g7⟩ := round_part ltG_swo (partition_holds ltG) hv1 hv2 (by omega) hB4 hpe
    have hPm : PermIn 0 L d d5 := by
      have := partition_holds ltG ltG_swo d4 a1 b1 piv hv1 hv2 (by omega)
      rw [hpe] at this
      exact permIn_trans _ _ _ _ _ hP4 (permIn_mono _ _ a1 b1 0 L (by omega) hb1 (by omega) this.2.2.1)
    rw [hpe]
    dsimp only
    have hs5 : d5.size = L := by rw [g3]; exact hs4
    have H5 := H.set d5 hs5
    obtain ⟨x1, hx1⟩ : ∃ x, x = mid - a1 := ⟨_, rfl⟩
    have ex1 : (mid : Int) - a1 = (x1 : Int) := by omega
    obtain ⟨y1, hy1⟩ : ∃ x, x = b1 - mid := ⟨_, rfl⟩
    have ey1 : (b1 : Int) - mid = (y1 : Int) := by omega
    obtain ⟨z1, hz1⟩ : ∃ x, x = l / 8 := ⟨_, rfl⟩
    have ez1 : (l : Int).tdiv 8 = (z1 : Int) := by rw [hz1]; rfl
    obtain ⟨m1, hm1⟩ : ∃ x, x = mid + 1 := ⟨_, rfl⟩
    have em1 : (mid : Int) + 1 = (m1 : Int) := by omega
    rw [setLoc_setLoc]
    have F := (aand @t1 (aand @t2 (aand @t12 (aand @ex1 (aand @ey1 @ez1))))); refine tF ?_; (try clear F)
    by_cases hxy : x1 < y1
    · have F := (aand @hxy (aand @t0 (aand @t1 (aand @t3 @t4)))); refine tFa ?_; (try clear F)
      refine tS1 fun K Kp hK hKp => ?_; refine ACall.mono (ih (mid - a1) (by omega) H5 hr a1 mid lim2 rfl g1 (by omega) hlim2 g4) ?_
      rintro _ _ ⟨d6, hd6, hd6s, rfl, rfl⟩
      refine hK _ _ ?_; clear hK hKp K Kp
      have F := @em1; refine tF ?_; (try clear F)
      have g8 := g6 d6 hd6 hd6s
      exact ⟨b1 - m1, ⟨m1, b1, lim2, decide (z1 ≤ x1), ap, d6, rfl, by omega, by omega, hb1, hlim2, permIn_trans _ _ _ _ _ hPm (permIn_mono _ _ a1 mid 0 L (by omega) (by omega) (by omega) hd6), by rw [hm1]; exact g8.1, fun R h1 h2 => by
        rw [hm1] at h1 h2
        have := g8.2 R h1 h2
        exact hfin R (permIn_trans _ _ _ _ _ hp14 this.1) this.2, by simp [upd_lit], by simp [upd_lit], by simp [upd_lit, t0], by simp [upd_lit], by simp [upd_lit, t2], by simp [upd_lit, t3], by simp [upd_lit, t4], by rw [setLoc_setLoc]⟩, by omega⟩
    · have F := (aand @hxy (aand @t0 (aand @t2 (aand @t3 (aand @t4 @em1))))); refine tFa ?_; (try clear F)
      refine tS1 fun K Kp hK hKp => ?_; refine ACall.mono (ih (b1 - m1) (by omega) H5 hr m1 b1 lim2 rfl (by omega) (by omega) hlim2 (by rw [hm1]; exact g5)) ?_
      rintro _ _ ⟨d6, hd6, hd6s, rfl, rfl⟩
      refine hK _ _ ?_; clear hK hKp K Kp
      refine tS ?_
      rw [hm1] at hd6 hd6s
      have g8 := g7 d6 hd6 hd6s
      exact ⟨mid - a1, ⟨a1, mid, lim2, decide (z1 ≤ y1), ap, d6, rfl, by omega, by omega, by omega, hlim2, permIn_trans _ _ _ _ _ hPm (permIn_mono _ _ (mid + 1) b1 0 L (by omega) (by omega) (by omega) hd6), g8.1, fun R h1 h2 => by
        have := g8.2 R h1 h2
        exact hfin R (permIn_trans _ _ _ _ _ hp14 this.1) this.2, by simp [upd_lit], by simp [upd_lit], by simp [upd_lit, t0], by simp [upd_lit, t1], by simp [upd_lit], by simp [upd_lit, t3], by simp [upd_lit, t4], by rw [setLoc_setLoc]⟩, by omega⟩
end Go.Proofs.YtgfadepkiejncaaGreat
namespace Go.Proofs.YtgfadepkiejncaaGreat
open Go.Ab Go.Sort
set_option maxHeartbeats 0
set_option maxRecDepth 100000
attribute [local irreducible] AW AList ACall DA AExit.then AExit.inBlock YCall DCall
theorem sortG {m : St} {n L cap : Nat} {d : Array GG} {r : List PV} (H : Arr m n L d r) (hr : ∀ k t, PV.scL k t r) :
    ACall Tryz.prog 143 [mar n L cap, cloC] m (fun r' m' => ∃ R, PermIn 0 L d R ∧ SortedIn ltG 0 L R ∧ r' = .ret (.tup []) ∧ m' = m.setLoc n (ar R r)) := by
  refine ACall.of_aw Tryz.func143 Tryz.ntmps143 rfl rfl (by simp) ?_
  have hn := H.lt
  have hS := H.small
  have hL := H.size
  have w64 : IntKind.u64.wrap (L : Int) = L := wrap_u64 _ (by omega) (by omega)
  have hb : bitsLen L ≤ 41 := by rw [bitsLen_le_iff]; omega
  have F := @w64; refine tF ?_; (try clear F)
  refine tS1 fun K Kp hK hKp => ?_; refine Gives.at (bitsLenG L (by omega)) ?_; apply hK; clear hK hKp K Kp
  refine tS ?_
  refine tS1 fun K Kp hK hKp => ?_; refine ACall.mono (pdqG L H hr 0 L (bitsLen L) (by omega) (by omega) (by omega) (by omega) (.inl rfl)) ?_
  rintro _ _ ⟨R, h1, h2, rfl, rfl⟩
  refine hK _ _ ?_; clear hK hKp K Kp
  refine tS ?_
  exact Fin.here (r := .tup []) (by exact ⟨[], rfl, rfl⟩) (.inl rfl) ⟨R, h1, h2, rfl, rfl⟩
end Go.Proofs.YtgfadepkiejncaaGreat
namespace Go.Proofs.YtgfadepkiejncaaGreat
open Go.Ab Go.Sort
set_option maxHeartbeats 0
set_option maxRecDepth 100000
attribute [local irreducible] AW AList ACall DA AExit.then AExit.inBlock YCall DCall
theorem isOm (v : GV) : Gives Tryz.prog 142 [v.pv] (vB (decide (v.kind = 0))) := by
  intro m
  refine ACall.of_aw Tryz.func142 Tryz.ntmps142 rfl rfl (by simp) ?_
  refine tS ?_
  have e0 : (v.cells)[0]? = some (vI v.kind) := by rw [cells_eq]; rfl
  by_cases h : v.kind = 0
  · have h' : (v.kind : Int) = 0 := by omega
    have F := (aand @e0 (aand @h @h')); refine tF ?_; (try clear F)
    exact Fin.gives Same.auto (hq := by simp [upd_lit, h])
  · have h' : ¬ (v.kind : Int) = 0 := by omega
    have F := (aand @e0 (aand @h @h')); refine tF ?_; (try clear F)
    exact Fin.gives Same.auto (hq := by simp [upd_lit, h])
theorem eqG (x y : GV) (hx : good x) (hy : good y) : Gives Tryz.prog 145 [x.pv, y.pv] (vB (decide (cmpV x y = 0))) := by
  intro m
  refine ACall.of_aw Tryz.func145 Tryz.ntmps145 rfl rfl (by simp) ?_
  refine tS ?_
  refine tS1 fun K Kp hK hKp => ?_; refine Gives.at (val_compare x y hx hy) ?_; apply hK; clear hK hKp K Kp
  refine tS ?_
  exact Fin.gives Same.auto
def firstOm (d : Array GG) (i : Nat) : Nat := if h : i < d.size then (if (gt d i).1.kind = 0 then i else firstOm d (i + 1)) else d.size
termination_by d.size - i
theorem firstOm_le (d : Array GG) (i : Nat) (h : i ≤ d.size) : i ≤ firstOm d i ∧ firstOm d i ≤ d.size := by
  fun_induction firstOm d i with
  | case1 i hi hk => omega
  | case2 i hi hk ih => have := ih (by omega); omega
  | case3 i hi => omega
abbrev cloO : PV := .clo 142 [] []
theorem indexG {m : St} {n L cap : Nat} {d : Array GG} {r : List PV} (H : Arr m n L d r) :
    GivesTo Tryz.prog 148 [mar n L cap, cloO] m (vI (if firstOm d 0 < L then (firstOm d 0 : Int) else -1)) m := by
  have hn := H.lt
  have hm := H.loc
  have hS := H.small
  have hL := H.size
  refine ACall.of_aw Tryz.func148 Tryz.ntmps148 rfl rfl (by simp) ?_
  refine tS ?_
  refine AW.loop (ι := Nat) (fun i σ m' => i ≤ L ∧ σ 8 = vI i ∧ σ 7 = vI L ∧ σ 0 = mar n L cap ∧ σ 1 = cloO ∧ firstOm d i = firstOm d 0 ∧ m' = m) (fun i => L - i) 0 ?_ ?_
  · exact ⟨by omega, by simp [upd_lit], by simp [upd_lit], by simp [upd_lit], by simp [upd_lit], rfl, rfl⟩
  rintro i σ m' ⟨hi, t8, t7, t0, t1, hE, rfl⟩
  rw [firstOm] at hE
  by_cases hlt : i < L
  rotate_left
  · rw [dif_neg (by omega)] at hE
    rw [if_neg (by omega)]
    have F := (aand @t8 (aand @t7 @hlt)); refine tFa ?_; (try clear F)
    exact Fin.gives Same.auto
  rw [dif_pos (by omega)] at hE
  have i1 : i < d.size := by omega
  have i2 : (i : Int) < L := by omega
  have F := (aand @t8 (aand @t7 (aand @hlt (aand @t1 (aand @t0 (aand @i1 (aand @i2 (aand @hn (aand @hm (aand @ar_get @ar_fit)))))))))); refine tFa ?_; (try clear F)
  refine tS1 fun K Kp hK hKp => ?_; refine Gives.at (isOm (gt d i).1) ?_; apply hK; clear hK hKp K Kp
  by_cases hk : (gt d i).1.kind = 0
  · rw [if_pos hk] at hE
    rw [← hE, if_pos hlt]
    have F := @hk; refine tFa ?_; (try clear F)
    exact Fin.gives Same.auto
  · rw [if_neg hk] at hE
    have F := (aand @hk @t8); refine tFa ?_; (try clear F)
    exact ⟨i + 1, ⟨by omega, by simp [upd_lit], by simp [upd_lit, t7], by simp [upd_lit, t0], by simp [upd_lit, t1], hE, rfl⟩, by omega⟩
end Go.Proofs.YtgfadepkiejncaaGreat
namespace Go.Proofs.YtgfadepkiejncaaGreat
open Go.Ab Go.Sort
set_option maxHeartbeats 0
set_option maxRecDepth 100000
attribute [local irreducible] AW AList ACall DA AExit.then AExit.inBlock YCall DCall
theorem rows_stripL : ∀ l : List GV, PV.stripL (GV.rows l).flatten = (GV.rows l).flatten
  | [] => rfl
  | v :: l => by
    have h : ∀ xs ys : List PV, PV.stripL (xs ++ ys) = PV.stripL xs ++ PV.stripL ys := by
      intro xs ys
      induction xs with
      | nil => rfl
      | cons x xs ih => simp [PV.stripL, ih]
    simp only [GV.rows, List.flatten_cons]
    rw [h, cells_strip, rows_stripL l]
theorem cloneG (l : List GV) (h0 : l ≠ []) (hl : l.length ≤ 1000000) (m : St) :
    ACall Tryz.prog 141 [GV.pvs l] m (fun r' m' => r' = .ret (.marr m.nloc 0 l.length l.length) ∧ m' = m.newLoc (GV.rows l).flatten) := by
  refine ACall.of_aw Tryz.func141 Tryz.ntmps141 rfl rfl (by simp) ?_
  refine tS ?_
  refine AList.op (by decide) ?_; intro K Kp hK hKp; simp [upd_lit]
  refine ⟨?_, fun h => absurd (List.length_eq_zero_iff.1 (by simpa [GV.rows_eq] using congrArg List.length h)) h0⟩
  apply hK; clear hK hKp K Kp
  refine tSa ?_
  refine AList.opK (by decide) ?_; intro K Kp hK hKp
  have hpos : 0 < l.length := List.length_pos_iff.2 h0
  refine op_appendL (e := 27) (o2 := .no) (rows := []) (news := GV.rows l) rfl rfl rfl rfl (by kernel_rfl) (by kernel_rfl) (by kernel_rfl) (fun r hr => by cases hr) (rows_w l) ?_ ?_ ?_ (by simp [opv, upd_lit]) (by simp [opv, upd_lit]) (hK _ _ ?_)
  · have e : tbytes Tryz.prog 27 ≤ 1000 := by decide +kernel
    have : (GV.rows l).length = l.length := by rw [GV.rows_eq, List.length_map]
    simp only [List.length_nil, Nat.zero_add, this]
    exact Nat.le_trans (Nat.mul_le_mul hl e) (by omega)
  · simp [GV.rows_eq] <;> omega
  · simp [GV.rows_eq] <;> omega
  clear hK hKp K Kp
  refine tS ?_
  refine Fin.here (r := .marr m.nloc 0 l.length l.length) (by simp [ResP, ResL, resV, upd_lit, show Tryz.f141.results.toList = [.tmp 2] from rfl, GV.rows_eq]) (.inr rfl) ⟨rfl, ?_⟩
  rw [rows_stripL]
end Go.Proofs.YtgfadepkiejncaaGreat
namespace Go.Ab
theorem Same.setBoth {m m' : St} (h : Same m m') (n : Nat) (cs : List PV) : Same (m.setLoc n cs) (m'.setLoc n cs) :=
  Same.mk h.lloc h.ltok (fun i hi => by rw [setLoc_loc, setLoc_loc]; by_cases e : i = n; rw [if_pos e, if_pos e]; rw [if_neg e, if_neg e]; exact h.get hi) (fun k hk => ⟨(h.top k hk).1.symm, (h.top k hk).2.symm⟩) (fun n hn => h.getL hn) (fun n hn => h.getI hn) (fun k cs hk hd hc => h.getA hk hd hc)
end Go.Ab
namespace Go.Proofs.YtgfadepkiejncaaGreat
open Go.Ab Go.Sort
set_option maxHeartbeats 0
set_option maxRecDepth 100000
attribute [local irreducible] AW AList ACall DA AExit.then AExit.inBlock YCall DCall
def nzG (x : GG) : Bool := decide (x.1.kind ≠ 0)
theorem firstOm_none (d : Array GG) : ∀ i, i ≤ d.size → firstOm d i = d.size → ∀ k, i ≤ k → k < d.size → nzG (gt d k) = true := by
  intro i hi h k hk hk2
  fun_induction firstOm d i with
  | case1 i hi2 hk0 => omega
  | case2 i hi2 hk0 ih =>
    by_cases e : i = k
    · subst e; simp [nzG, hk0]
    · exact ih (by omega) h (by omega)
  | case3 i hi2 => omega
theorem firstOm_pre (d : Array GG) : ∀ i, ∀ k, i ≤ k → k < firstOm d i → nzG (gt d k) = true := by
  intro i k hk hk2
  fun_induction firstOm d i with
  | case1 i hi2 hk0 => omega
  | case2 i hi2 hk0 ih =>
    by_cases e : i = k
    · subst e; simp [nzG, hk0]
    · exact ih (by omega) hk2
  | case3 i hi2 =>
    omega
theorem firstOm_at (d : Array GG) : ∀ i, firstOm d i < d.size → nzG (gt d (firstOm d i)) = false := by
  intro i h
  fun_induction firstOm d i with
  | case1 i hi2 hk0 => simp [nzG, hk0]
  | case2 i hi2 hk0 ih => exact ih h
  | case3 i hi2 => omega
theorem gt_toList (d : Array GG) (i : Nat) (h : i < d.size) : d.toList[i]'(by simpa using h) = gt d i := by simp [gt, h]
theorem take_succ_filter (d : Array GG) (i : Nat) (h : i < d.size) : (d.toList.take (i + 1)).filter nzG = (d.toList.take i).filter nzG ++ (if nzG (gt d i) then [gt d i] else []) := by
  rw [List.take_add_one, List.filter_append]
  congr 1
  rw [List.getElem?_eq_getElem (by simpa using h), gt_toList d i h]
  simp [List.filter_cons]
theorem gt_set_ne (d : Array GG) (i k : Nat) (x : GG) (h : k ≠ i) : gt (d.setIfInBounds i x) k = gt d k := by
  simp [gt, getElem!_def, Array.getElem?_setIfInBounds, Ne.symm h]
theorem take_set (d : Array GG) (i : Nat) (x : GG) (h : i < d.size) : (d.setIfInBounds i x).toList.take (i + 1) = d.toList.take i ++ [x] := by
  rw [Array.toList_setIfInBounds, List.take_add_one, List.take_set_of_le (Nat.le_refl _)]
  simp [h]
theorem sliceLo (n L i cap : Nat) (hi : i ≤ L) (hc : L ≤ cap) (hlt : i < cap) (m : St) (K : PV → St → Prop) : aslice Tryz.prog 25 (mar n L cap) (some (vI i)) none none m K ↔ K (.marr n (i * 6) (L - i) (cap - i)) m := by
  have h1 : ((L : Int) - i).toNat = L - i := by omega
  simp [aslice, abnd, h1]
  constructor
  · intro h; exact h.2.2.2
  · intro h; exact ⟨by omega, by omega, by omega, h⟩
theorem sliceHi (n L i cap : Nat) (hi : i ≤ L) (hc : L ≤ cap) (h0 : 0 < cap) (m : St) (K : PV → St → Prop) : aslice Tryz.prog 25 (mar n L cap) none (some (vI i)) none m K ↔ K (.marr n 0 i cap) m := by
  simp [aslice, abnd]
  constructor
  · intro h; exact h.2.2.2
  · intro h; exact ⟨by omega, by omega, by omega, h⟩
theorem flat_take : ∀ (l : List GV) (i : Nat) (r : List PV), i ≤ l.length → ((GV.rows l).flatten ++ r).take (i * 6) = (GV.rows (l.take i)).flatten
  | l, 0, r, _ => by simp [GV.rows]
  | v :: l, i + 1, r, h => by
    have := flat_take l i r (by simpa using h)
    simp only [GV.rows, List.flatten_cons, List.append_assoc, List.take_succ_cons]
    rw [show (i + 1) * 6 = v.cells.length + i * 6 from by rw [cells_len]; omega, List.take_length_add_append, this]
theorem clear_ar (d : Array GG) (r zs : List PV) (i : Nat) (hi : i ≤ d.size) (hz : zs.length = (d.size - i) * 6) : setL (ar d r) (i * 6) zs = ar (d.toList.take i).toArray (zs ++ r) := by
  rw [setL_eq _ _ _ (by rw [ar_len, hz]; omega), hz, show i * 6 + (d.size - i) * 6 = d.size * 6 from by omega]
  have h1 : (ar d r).take (i * 6) = (GV.rows ((d.toList.take i).map (·.1))).flatten := by
    rw [ar, flat_take _ _ _ (by simpa using hi), List.map_take]
  have h2 : (ar d r).drop (d.size * 6) = r := by
    rw [ar, List.drop_left' (by rw [rows_flat_len]; simp)]
  rw [h1, h2, ar]
  simp
theorem zrow_scL (zc : List PV) (n : Nat) (h : ∀ x ∈ zc, ∀ k t, x.sc k t) (k t : Nat) : PV.scL k t (zrow zc n) := by
  have key : ∀ l : List PV, (∀ x ∈ l, x.sc k t) → PV.scL k t l := by
    intro l
    induction l with
    | nil => intro _; trivial
    | cons x l ih => intro h; exact ⟨h x (by simp), ih fun y hy => h y (by simp [hy])⟩
  refine key _ fun x hx => ?_
  obtain ⟨i, _, rfl⟩ := List.mem_map.1 hx
  rw [List.getD_eq_getElem?_getD]
  cases e : zc[i % zc.length]? with
  | none => trivial
  | some y => exact h y (List.mem_of_getElem? e) k t
theorem deleteG {m : St} {n L cap : Nat} {d : Array GG} {r : List PV} (H : Arr m n L d r) (hr : ∀ k t, PV.scL k t r) (hLc : L ≤ cap) :
    ACall Tryz.prog 140 [mar n L cap, cloO] m (fun r' m' => ∃ (D : Array GG) (r2 : List PV), D.toList = d.toList.filter nzG ∧ (∀ k t, PV.scL k t r2) ∧ r' = .ret (mar n D.size cap) ∧ m' = m.setLoc n (ar D r2)) := by
  have hn := H.lt
  have hm := H.loc
  have hS := H.small
  have hL := H.size
  refine ACall.of_aw Tryz.func140 Tryz.ntmps140 rfl rfl (by simp) ?_
  have hf := firstOm_le d 0 (by omega)
  refine tS ?_
  refine tS1 fun K Kp hK hKp => ?_; refine GivesTo.at (indexG H) ?_; apply hK; clear hK hKp K Kp
  by_cases hf0 : firstOm d 0 < L
  rotate_left
  · rw [if_neg hf0]
    refine tSa ?_
    refine Fin.here (r := mar n L cap) (by rfl) (.inr rfl) ⟨d, r, ?_, hr, by rw [hL], (setLoc_self hm).symm⟩
    rw [List.filter_eq_self.2]
    intro x hx
    obtain ⟨k, hk, rfl⟩ := List.getElem_of_mem hx
    rw [gt_toList d k (by simpa using hk)]
    exact firstOm_none d 0 (by omega) (by omega) k (by omega) (by simpa using hk)
  rw [if_pos hf0]
  obtain ⟨f, hfe⟩ : ∃ f, f = firstOm d 0 := ⟨_, rfl⟩
  rw [← hfe]
  rw [← hfe] at hf0 hf
  have hne : ¬ (f : Int) = -1 := by omega
  have F := @hne; refine tFa ?_; (try clear F)
  have hz := firstOm_at d 0 (by omega)
  rw [← hfe] at hz
  refine AW.loop (ι := Nat) (fun j σ m' => f + 1 ≤ j ∧ j ≤ L ∧ ∃ (i : Nat) (d1 : Array GG), i < j ∧ σ 5 = vI i ∧ σ 6 = vI j ∧ σ 0 = mar n L cap ∧ σ 1 = cloO ∧ d1.size = L ∧ d1.toList.take i = (d.toList.take j).filter nzG ∧ (∀ k, j ≤ k → gt d1 k = gt d k) ∧ Same (m.setLoc n (ar d1 r)) m' ∧ m'.loc n = some (ar d1 r)) (fun j => L - j) (f + 1) ?_ ?_
  · refine ⟨Nat.le_refl _, by omega, f, d, by omega, by simp [upd_lit], by simp [upd_lit], by simp [upd_lit], by simp [upd_lit], hL, ?_, fun _ _ => rfl, by rw [setLoc_self hm]; exact Same.refl m, hm⟩
    rw [take_succ_filter d f (by omega), hz]
    simp only [Bool.false_eq_true, if_false, List.append_nil]
    symm
    rw [List.filter_eq_self]
    intro x hx
    obtain ⟨k, hk, rfl⟩ := List.getElem_of_mem hx
    rw [List.getElem_take, gt_toList d k (by simp at hk; omega)]
    exact firstOm_pre d 0 k (by omega) (by simp at hk; omega)
  rintro j σ m' ⟨hj1, hj2, i, d1, hij, t5, t6, t0, t1, hs, hpre, hrest, hsame, hloc⟩
  have hn2 : n < m'.nloc := Nat.lt_of_lt_of_le hn hsame.lloc
  by_cases hjl : j < L
  rotate_left
  · have hjL : j = L := by omega
    subst hjL
    have F := (aand @t6 (aand @t0 @hjl)); refine tFa ?_; (try clear F)
    have sl := sliceLo n j i cap (by omega) hLc (by omega)
    have sh := sliceHi n j i cap (by omega) hLc (by omega)
    have F := (aand @t5 @sl); refine tF ?_; (try clear F)
    refine AList.step rfl rfl ?_
    obtain ⟨z, hz1⟩ : ∃ z, tzero Tryz.prog 27 = some z := ⟨_, rfl⟩
    have hzl : (zcells z).length = 6 := by
      have : (tzero Tryz.prog 27).map (fun z => (zcells z).length) = some 6 := by kernel_rfl
      rw [hz1] at this; simpa using this
    have hzo : zOK z = true := by
      have : (tzero Tryz.prog 27).map zOK = some true := by kernel_rfl
      rw [hz1] at this; simpa using this
    refine op_clear (e := 27) (z := z) (n := n) (off := i * 6) (len := j - i) (cap := cap - i) (cs := ar d1 r) rfl rfl rfl rfl rfl hz1 hzo (by omega) (by simp [opv, upd_lit]) hn2 hloc (by rw [ar_len, hzl]; omega) ?_
    have hzs : ∀ x ∈ zcells z, ∀ k t, PV.sc k t x := by
      have : (tzero Tryz.prog 27).map zcells = some [vI 0, vI 0, vB false, .list .full [], .v (.string ⟨#[]⟩), .list .full []] := by kernel_rfl
      rw [hz1] at this
      simp only [Option.map_some, Option.some.injEq] at this
      rw [this]
      intro x hx k t
      simp at hx
      rcases hx with rfl | rfl | rfl | rfl | rfl <;> trivial
    simp only [put]
    rw [hzl, clear_ar d1 r _ i (by omega) (by rw [zrow_len, hs])]
    have hr2 : ∀ k t, PV.scL k t (zrow (zcells z) ((j - i) * 6) ++ r) := fun k t => scL_app _ _ _ _ (zrow_scL _ _ hzs k t) (hr k t)
    generalize zrow (zcells z) ((j - i) * 6) ++ r = r2 at *
    have hDs : (d1.toList.take i).toArray.size = i := by simp; omega
    have hDl : (d1.toList.take i).toArray.toList = d.toList.filter nzG := by
      rw [List.toList_toArray, hpre, List.take_of_length_le (by simp; omega)]
    generalize (d1.toList.take i).toArray = D at *
    have hsame3 := hsame.setBoth n (ar D r2)
    rw [setLoc_setLoc] at hsame3
    have F := (aand @t0 (aand @t5 @sh)); refine tF ?_; (try clear F)
    exact Fin.leaves (r := mar n i cap) (m2 := m.setLoc n (ar D r2)) (by rfl) (.inr rfl) (Leaves.ofSet hsame3 (ar_scL _ _ _ _ (hr2 _ _))) ⟨D, r2, hDl, hr2, by rw [hDs], rfl⟩ (hs := by show n < m.nloc; exact hn)
  have j1 : j < d1.size := by omega
  have j2 : (j : Int) < L := by omega
  have i1 : i < d1.size := by omega
  have i2 : (i : Int) < L := by omega
  have hnn : n ≠ m'.nloc := by omega
  have hn3 : n < m'.nloc + 1 := by omega
  have F := (aand @t6 (aand @t0 (aand @t1 (aand @hjl (aand @j1 (aand @j2 (aand @hn2 (aand @hloc (aand @ar_get @ar_fit))))))))); refine tFa ?_; (try clear F)
  have F := @t1; refine tF1 fun K Kp hK hKp => ?_; (try clear F); refine Gives.at (isOm (gt d1 j).1) ?_; apply hK; clear hK hKp K Kp
  have hsame2 : Same (m.setLoc n (ar d1 r)) ((m'.newLoc [vI 0, vI 0, vB false, .list .full [], .v (.string ⟨#[]⟩), .list .full []]).setLoc m'.nloc (gt d1 j).1.cells) := (hsame.newLoc _).setLoc hsame.lloc _
  have hgj := hrest j (Nat.le_refl _)
  by_cases hk : (gt d1 j).1.kind = 0
  · have F := (aand @hk @t6); refine tFa ?_; (try clear F)
    refine ⟨j + 1, ⟨by omega, by omega, i, d1, by omega, by simp [upd_lit, t5], by simp [upd_lit], by simp [upd_lit, t0], by simp [upd_lit, t1], hs, ?_, fun k hk => hrest k (by omega), hsame2, by simp [hnn, hloc]⟩, by omega⟩
    rw [take_succ_filter d j (by omega), hpre, if_neg (by rw [← hgj]; simp [nzG, hk])]; simp
  · have F := (aand @hk (aand @t6 (aand @t5 (aand @t0 (aand @i1 (aand @i2 (aand @hn3 (aand @hnn (aand @hloc (aand @ar_fit @ar_set)))))))))); refine tFa ?_; (try clear F)
    refine ⟨j + 1, ⟨by omega, by omega, i + 1, d1.setIfInBounds i (gt d1 j), by omega, by simp [upd_lit], by simp [upd_lit], by simp [upd_lit, t0], by simp [upd_lit, t1], by simp [hs], ?_, fun k hk => by rw [gt_set_ne _ _ _ _ (by omega)]; exact hrest k (by omega), ?_, by simp⟩, by omega⟩
    · rw [take_set d1 i _ i1, take_succ_filter d j (by omega), hpre, if_pos (by rw [← hgj]; simp [nzG, hk]), hgj]
    · have := hsame2.setBoth n (ar (d1.setIfInBounds i (gt d1 j)) r)
      rw [setLoc_setLoc] at this
      exact this
end Go.Proofs.YtgfadepkiejncaaGreat
namespace Go.Proofs.YtgfadepkiejncaaGreat
open Go.Ab Go.Sort
set_option maxHeartbeats 0
set_option maxRecDepth 100000
attribute [local irreducible] AW AList ACall DA AExit.then AExit.inBlock YCall DCall
def keepTo (d : Array GG) : Nat → List GG
  | 0 => []
  | a + 1 => keepTo d a ++ (if a = 0 ∨ cmpV (gt d a).1 (gt d (a - 1)).1 ≠ 0 then [gt d a] else [])
abbrev cloE : PV := .clo 145 [] []
theorem take_succ_gt (d : Array GG) (i : Nat) (h : i < d.size) : d.toList.take (i + 1) = d.toList.take i ++ [gt d i] := by
  rw [List.take_add_one, List.getElem?_eq_getElem (by simpa using h), gt_toList d i h]; rfl
theorem compactG {m : St} {n L cap : Nat} {d : Array GG} {r : List PV} (H : Arr m n L d r) (hr : ∀ k t, PV.scL k t r) (hLc : L ≤ cap) :
    ACall Tryz.prog 144 [mar n L cap, cloE] m (fun r' m' => ∃ (D : Array GG) (r2 : List PV), D.toList = keepTo d L ∧ (∀ k t, PV.scL k t r2) ∧ r' = .ret (mar n D.size cap) ∧ m' = m.setLoc n (ar D r2)) := by
  have hn := H.lt
  have hm := H.loc
  have hS := H.small
  have hL := H.size
  refine ACall.of_aw Tryz.func144 Tryz.ntmps144 rfl rfl (by simp) ?_
  have hend : d.toList = keepTo d L → d.toList = keepTo d L := id
  refine tS ?_
  by_cases h2 : (L : Int) < 2
  · have F := @h2; refine tFa ?_; (try clear F)
    refine Fin.here (r := mar n L cap) (by rfl) (.inr rfl) ⟨d, r, ?_, hr, by rw [hL], (setLoc_self hm).symm⟩
    rw [← List.take_of_length_le (l := d.toList) (i := L) (by simp; omega)]
    rcases (by omega : L = 0 ∨ L = 1) with rfl | rfl
    · rfl
    · rw [take_succ_gt d 0 (by omega)]; rfl
  have F := @h2; refine tFa ?_; (try clear F)
  refine AW.loop (ι := Nat) (fun k σ m' => 1 ≤ k ∧ k ≤ L ∧ σ 5 = vI k ∧ σ 0 = mar n L cap ∧ σ 1 = cloE ∧ keepTo d k = d.toList.take k ∧ m = m') (fun k => L - k) 1 ?_ ?_
  · refine ⟨Nat.le_refl _, by omega, by simp [upd_lit], by simp [upd_lit], by simp [upd_lit], ?_, rfl⟩
    rw [take_succ_gt d 0 (by omega)]; rfl
  rintro k σ m' ⟨hk1, hk2, t5, t0, t1, hkeep, rfl⟩
  by_cases hkl : k < L
  rotate_left
  · have hkL : k = L := by omega
    subst hkL
    have F := (aand @t5 (aand @t0 @hkl)); refine tFa ?_; (try clear F)
    refine Fin.here (r := mar n k cap) (by simp [ResP, ResL, resV, upd_lit, t0, show Tryz.f144.results.toList = [.tmp 4] from rfl]) (.inr rfl) ⟨d, r, ?_, hr, by rw [hL], (setLoc_self hm).symm⟩
    rw [hkeep, List.take_of_length_le (by simp; omega)]
  obtain ⟨p, hp⟩ : ∃ p, p + 1 = k := ⟨k - 1, by omega⟩
  have ep : (k : Int) - 1 = (p : Int) := by omega
  have k1 : k < d.size := by omega
  have k2 : (k : Int) < L := by omega
  have p1 : p < d.size := by omega
  have p2 : (p : Int) < L := by omega
  have heq := eqG (gt d k).1 (gt d p).1 (gt d k).2 (gt d p).2
  have F := (aand @t5 (aand @t0 @hkl)); refine tFa ?_; (try clear F)
  repeat (first | refine AW.seq ?_ | refine AW.block ?_ | refine AW.skip ?_ | refine AExit.norT ?_ | refine AExit.norB ?_ | refine AList.nil ?_)
  refine AW.draw [.S, .S, .S, .S, .R, .S, .S, .S, .S, .R, .R] (by decide +kernel) ?_; have F := (aand @t5 (aand @t0 (aand @t1 (aand @ep (aand @k1 (aand @k2 (aand @p1 (aand @p2 (aand @hn (aand @hm (aand @ar_get @ar_fit))))))))))); refine dS 0 ?_; refine dS 1 ?_; refine dS 2 ?_; refine dS 3 ?_; refine dR 4 ?_; refine dS 5 ?_; refine dS 6 ?_; refine dS 7 ?_; refine dS 8 ?_; refine dR 9 ?_; refine dC ((heq)) 10 ?_; (try clear F); first | refine dN ?_ | refine dB ?_ | refine DA.done (by decide +kernel) ?_
  have hks : keepTo d (k + 1) = keepTo d k ++ (if cmpV (gt d k).1 (gt d p).1 ≠ 0 then [gt d k] else []) := by
    rw [keepTo, show k - 1 = p from by omega]; simp [show k ≠ 0 from by omega]
  by_cases hc : cmpV (gt d k).1 (gt d p).1 = 0
  rotate_left
  · have F := (aand @hc @t5); refine tFa ?_; (try clear F)
    refine ⟨k + 1, ⟨by omega, by omega, by simp [upd_lit], by simp [upd_lit, t0], by simp [upd_lit, t1], ?_, rfl⟩, by omega⟩
    rw [hks, if_pos hc, take_succ_gt d k k1, hkeep]
  rw [if_neg (by simp [hc]), List.append_nil, hkeep] at hks
  have sl := sliceLo n L k cap (by omega) hLc (by omega)
  have F := (aand @hc (aand @t5 (aand @t0 @sl))); refine tFa ?_; (try clear F)
  obtain ⟨l2, hl2⟩ : ∃ l2, l2 = L - k := ⟨_, rfl⟩
  rw [← hl2]
  refine AW.loop (ι := Nat) (fun q σ m' => 1 ≤ q ∧ q ≤ l2 ∧ ∃ (i : Nat) (d1 : Array GG), i < k + q ∧ σ 7 = vI q ∧ σ 5 = vI i ∧ σ 6 = .marr n (k * 6) l2 (cap - k) ∧ σ 0 = mar n L cap ∧ σ 1 = cloE ∧ d1.size = L ∧ d1.toList.take i = keepTo d (k + q) ∧ (∀ x, k + q - 1 ≤ x → gt d1 x = gt d x) ∧ m' = m.setLoc n (ar d1 r)) (fun q => l2 - q) 1 ?_ ?_
  · exact ⟨Nat.le_refl _, by omega, k, d, by omega, by simp [upd_lit], by simp [upd_lit, t5], by simp [upd_lit, hl2], by simp [upd_lit, t0], by simp [upd_lit, t1], hL, hks.symm, fun _ _ => rfl, (setLoc_self hm).symm⟩
  clear t5 t0 t1 sl
  rintro q τ m2 ⟨hq1, hq2, i, d1, hi, t7, t5, t6, t0, t1, hs, hpre, hrest, rfl⟩
  by_cases hql : q < l2
  rotate_left
  · have hql2 : k + q = L := by omega
    rw [hql2] at hpre
    have F := (aand @t7 (aand @t6 @hql)); refine tFa ?_; (try clear F)
    have sl := sliceLo n L i cap (by omega) hLc (by omega)
    have sh := sliceHi n L i cap (by omega) hLc (by omega)
    have F := (aand @t5 (aand @t0 @sl)); refine tF ?_; (try clear F)
    refine AList.step rfl rfl ?_
    obtain ⟨z, hz1⟩ : ∃ z, tzero Tryz.prog 27 = some z := ⟨_, rfl⟩
    have hz6 : zcells z = [vI 0, vI 0, vB false, .list .full [], .v (.string ⟨#[]⟩), .list .full []] := by
      have : (tzero Tryz.prog 27).map zcells = some [vI 0, vI 0, vB false, .list .full [], .v (.string ⟨#[]⟩), .list .full []] := by kernel_rfl
      rw [hz1] at this
      simpa using this
    have hzl : (zcells z).length = 6 := by rw [hz6]; rfl
    have hzo : zOK z = true := by
      have : (tzero Tryz.prog 27).map zOK = some true := by kernel_rfl
      rw [hz1] at this; simpa using this
    refine op_clear (e := 27) (z := z) (n := n) (off := i * 6) (len := L - i) (cap := cap - i) (cs := ar d1 r) rfl rfl rfl rfl rfl hz1 hzo (by omega) (by simp [opv, upd_lit]) (by exact hn) (by simp) (by rw [ar_len, hzl]; omega) ?_
    have hzs : ∀ x ∈ zcells z, ∀ k t, PV.sc k t x := by
      rw [hz6]
      intro x hx k t
      simp at hx
      rcases hx with rfl | rfl | rfl | rfl | rfl <;> trivial
    simp only [put]
    rw [hzl, clear_ar d1 r _ i (by omega) (by rw [zrow_len, hs]), setLoc_setLoc]
    have hr2 : ∀ k t, PV.scL k t (zrow (zcells z) ((L - i) * 6) ++ r) := fun k t => scL_app _ _ _ _ (zrow_scL _ _ hzs k t) (hr k t)
    generalize zrow (zcells z) ((L - i) * 6) ++ r = r2 at *
    have hDs : (d1.toList.take i).toArray.size = i := by simp; omega
    have hDl : (d1.toList.take i).toArray.toList = keepTo d L := by rw [List.toList_toArray, hpre]
    generalize (d1.toList.take i).toArray = D at *
    have F := (aand @t0 (aand @t5 @sh)); refine tF ?_; (try clear F)
    exact Fin.here (r := mar n i cap) (by simp [ResP, ResL, resV, upd_lit, show Tryz.f144.results.toList = [.tmp 4] from rfl]) (.inr rfl) ⟨D, r2, hDl, hr2, by rw [hDs], rfl⟩
  obtain ⟨a, ha⟩ : ∃ a, a = k + q := ⟨_, rfl⟩
  obtain ⟨q0, hq0⟩ : ∃ q0, q0 + 1 = q := ⟨q - 1, by omega⟩
  obtain ⟨b, hb⟩ : ∃ b, b = k + q0 := ⟨_, rfl⟩
  have eq0 : (q : Int) - 1 = (q0 : Int) := by omega
  have a1 : a < d1.size := by omega
  have b1 : b < d1.size := by omega
  have i1 : i < d1.size := by omega
  have i2 : (i : Int) < L := by omega
  have q2 : (q : Int) < l2 := by omega
  have q3 : (q0 : Int) < l2 := by omega
  have oa : k * 6 + q * 6 = a * 6 := by omega
  have ob : k * 6 + q0 * 6 = b * 6 := by omega
  have heq := eqG (gt d1 a).1 (gt d1 b).1 (gt d1 a).2 (gt d1 b).2
  have F := (aand @t7 (aand @t6 @hql)); refine tFa ?_; (try clear F)
  repeat (first | refine AW.seq ?_ | refine AW.block ?_ | refine AW.skip ?_ | refine AExit.norT ?_ | refine AExit.norB ?_ | refine AList.nil ?_)
  refine AW.draw [.S, .S, .S, .S, .R, .S, .S, .S, .S, .R, .R, .S] (by decide +kernel) ?_; have F := (aand @t7 (aand @t6 (aand @t1 (aand @eq0 (aand @q2 (aand @q3 (aand @oa (aand @ob (aand @a1 (aand @b1 (aand @hn (aand @ar_get @ar_fit)))))))))))); refine dS 0 ?_; refine dS 1 ?_; refine dS 2 ?_; refine dS 3 ?_; refine dR 4 ?_; refine dS 5 ?_; refine dS 6 ?_; refine dS 7 ?_; refine dS 8 ?_; refine dR 9 ?_; refine dC ((heq)) 10 ?_; refine dS 11 ?_; (try clear F); first | refine dN ?_ | refine dB ?_ | refine DA.done (by decide +kernel) ?_
  have hga := hrest a (by omega)
  have hgb := hrest b (by omega)
  have hka : keepTo d (a + 1) = keepTo d a ++ (if cmpV (gt d a).1 (gt d b).1 ≠ 0 then [gt d a] else []) := by
    rw [keepTo, show a - 1 = b from by omega]; simp [show a ≠ 0 from by omega]
  rw [← ha] at hpre
  by_cases hc2 : cmpV (gt d1 a).1 (gt d1 b).1 = 0
  · have F := (aand @hc2 @t7); refine tFa ?_; (try clear F)
    refine ⟨q + 1, ⟨by omega, by omega, i, d1, by omega, by simp [upd_lit], by simp [upd_lit, t5], by simp [upd_lit, t6], by simp [upd_lit, t0], by simp [upd_lit, t1], hs, ?_, fun x hx => hrest x (by omega), rfl⟩, by omega⟩
    rw [show k + (q + 1) = a + 1 from by omega, hka, if_neg (by rw [← hga, ← hgb]; simp [hc2]), List.append_nil]; exact hpre
  · have F := (aand @hc2 (aand @t7 (aand @t5 (aand @t6 (aand @t0 (aand @q2 (aand @oa (aand @a1 (aand @i1 (aand @i2 (aand @hn (aand @ar_get (aand @ar_fit (aand @ar_set @setLoc_setLoc)))))))))))))); refine tFa ?_; (try clear F)
    refine ⟨q + 1, ⟨by omega, by omega, i + 1, d1.setIfInBounds i (gt d1 a), by omega, by simp [upd_lit], by simp [upd_lit], by simp [upd_lit, t6], by simp [upd_lit, t0], by simp [upd_lit, t1], by simp [hs], ?_, fun x hx => by rw [gt_set_ne _ _ _ _ (by omega)]; exact hrest x (by omega), rfl⟩, by omega⟩
    rw [show k + (q + 1) = a + 1 from by omega, hka, if_pos (by rw [← hga, ← hgb]; exact hc2), take_set d1 i _ i1, hpre, hga]
end Go.Proofs.YtgfadepkiejncaaGreat
namespace Go.Proofs.YtgfadepkiejncaaGreat
open Go.Ab Go.Sort
set_option maxHeartbeats 0
set_option maxRecDepth 100000
theorem keepTo_spec (R : Array GG) (L : Nat) (hL : R.size = L) (hs : SortedIn ltG 0 L R) : ∀ a, a ≤ L →
    Inc ((keepTo R a).map (·.1)) ∧ (∀ z : GG, z ∈ keepTo R a ↔ ∃ k, k < a ∧ gt R k = z)
  | 0, _ => ⟨List.Pairwise.nil, fun z => by simp [keepTo]⟩
  | a + 1, h => by
    obtain ⟨h1, h2⟩ := keepTo_spec R L hL hs a (by omega)
    have mono : ∀ i j, i ≤ j → j < L → cmpV (gt R i).1 (gt R j).1 ≤ 0 := by
      intro i j hij hj
      by_cases e : i = j
      · subst e; rw [cmp_self]; omega
      · have := hs i j (by omega) (by omega) hj
        have h3 : ¬ cmpV (gt R j).1 (gt R i).1 < 0 := by
          intro q; have : ltG R[j]! R[i]! = true := by simp [gt_eq, ltG, q]
          simp_all
        have := cmp_neg (gt R i).1 (gt R j).1
        omega
    rw [keepTo]
    by_cases hc : a = 0 ∨ cmpV (gt R a).1 (gt R (a - 1)).1 ≠ 0
    · rw [if_pos hc]
      refine ⟨?_, fun z => ?_⟩
      · rw [List.map_append]
        refine List.pairwise_append.2 ⟨h1, List.pairwise_singleton _ _, ?_⟩
        intro x hx y hy
        simp at hy
        subst hy
        obtain ⟨w, hw, rfl⟩ := List.mem_map.1 hx
        obtain ⟨k, hk, rfl⟩ := (h2 w).1 hw
        have ha : a ≠ 0 := by omega
        have hc2 : cmpV (gt R a).1 (gt R (a - 1)).1 ≠ 0 := hc.resolve_left ha
        have m1 := mono k (a - 1) (by omega) (by omega)
        have m2 := mono (a - 1) a (by omega) (by omega)
        have m3 := cmp_neg (gt R (a - 1)).1 (gt R a).1
        have m4 : cmpV (gt R (a - 1)).1 (gt R a).1 < 0 := by omega
        by_cases e : cmpV (gt R k).1 (gt R (a - 1)).1 = 0
        · rw [cmp_zero _ _ (gt R k).2 (gt R (a - 1)).2 e]; exact m4
        · exact cmp_trans _ _ _ (gt R k).2 (gt R (a - 1)).2 (gt R a).2 (by omega) m4
      · rw [List.mem_append, h2]
        constructor
        · rintro (⟨k, hk, e⟩ | e)
          · exact ⟨k, by omega, e⟩
          · simp at e; exact ⟨a, by omega, e.symm⟩
        · rintro ⟨k, hk, e⟩
          by_cases hka : k = a
          · subst hka; exact .inr (by simp [e])
          · exact .inl ⟨k, by omega, e⟩
    · rw [if_neg hc, List.append_nil]
      refine ⟨h1, fun z => ?_⟩
      rw [h2]
      have ha : a ≠ 0 := fun e => hc (.inl e)
      have hc2 : cmpV (gt R a).1 (gt R (a - 1)).1 = 0 := by
        by_cases e : cmpV (gt R a).1 (gt R (a - 1)).1 = 0
        · exact e
        · exact absurd (.inr e) hc
      have he : gt R a = gt R (a - 1) := Subtype.ext (cmp_zero _ _ (gt R a).2 (gt R (a - 1)).2 hc2)
      constructor
      · rintro ⟨k, hk, e⟩; exact ⟨k, by omega, e⟩
      · rintro ⟨k, hk, e⟩
        by_cases hka : k = a
        · subst hka; exact ⟨k - 1, by omega, by rw [← he]; exact e⟩
        · exact ⟨k, by omega, e⟩
theorem perm_mem {d R : Array GG} (h : PermIn 0 d.size d R) (z : GG) : z ∈ R.toList ↔ z ∈ d.toList := by
  have h3 := h.2.2
  have e1 : (d.extract 0 d.size).toList = d.toList := by simp
  have e2 : (R.extract 0 d.size).toList = R.toList := by rw [← h.1]; simp
  rw [e1, e2] at h3
  exact h3.mem_iff
theorem mem_gt (R : Array GG) (z : GG) : z ∈ R.toList ↔ ∃ k, k < R.size ∧ gt R k = z := by
  rw [List.mem_iff_getElem]
  constructor
  · rintro ⟨k, hk, e⟩; exact ⟨k, by simpa using hk, by rw [← gt_toList R k (by simpa using hk)]; exact e⟩
  · rintro ⟨k, hk, e⟩; exact ⟨k, by simpa using hk, by rw [gt_toList R k hk]; exact e⟩
theorem sorted_setF (l : List GV) (g : goods l) (d D R : Array GG) (hd : d.toList.map (·.1) = l) (hD : D.toList = d.toList.filter nzG) (hR : PermIn 0 D.size D R) (hs : SortedIn ltG 0 D.size R) :
    (keepTo R D.size).map (·.1) = setF l := by
  obtain ⟨h1, h2⟩ := keepTo_spec R D.size hR.1 hs D.size (Nat.le_refl _)
  refine setF_eq g h1 fun z => ?_
  subst hd
  constructor
  · intro hz
    obtain ⟨w, hw, rfl⟩ := List.mem_map.1 hz
    have : w ∈ R.toList := (mem_gt R w).2 (by rw [hR.1]; exact (h2 w).1 hw)
    rw [perm_mem hR, hD, List.mem_filter] at this
    exact ⟨List.mem_map.2 ⟨w, this.1, rfl⟩, by simpa [nzG] using this.2⟩
  · rintro ⟨hz, hk⟩
    obtain ⟨w, hw, rfl⟩ := List.mem_map.1 hz
    have : w ∈ R.toList := by rw [perm_mem hR, hD, List.mem_filter]; exact ⟨hw, by simpa [nzG] using hk⟩
    exact List.mem_map.2 ⟨w, (h2 w).2 (by rw [← hR.1]; exact (mem_gt R w).1 this), rfl⟩
end Go.Proofs.YtgfadepkiejncaaGreat
namespace Go.Proofs.YtgfadepkiejncaaGreat
open Go.Ab Go.Sort
set_option maxHeartbeats 0
set_option maxRecDepth 100000
attribute [local irreducible] AW AList ACall DA AExit.then AExit.inBlock YCall DCall
def mkL : (l : List GV) → goods l → List GG
  | [], _ => []
  | v :: l, g => ⟨v, g v (by simp)⟩ :: mkL l (fun x hx => g x (by simp [hx]))
theorem mkL_map : ∀ (l : List GV) (g : goods l), (mkL l g).map (·.1) = l
  | [], _ => rfl
  | v :: l, g => congrArg (v :: ·) (mkL_map l fun x hx => g x (by simp [hx]))
def mkG (l : List GV) (g : goods l) : Array GG := (mkL l g).toArray
theorem mkG_list (l : List GV) (g : goods l) : (mkG l g).toList.map (·.1) = l := by rw [mkG, List.toList_toArray, mkL_map]
theorem mkG_size (l : List GV) (g : goods l) : (mkG l g).size = l.length := by
  have := congrArg List.length (mkG_list l g)
  simpa using this
theorem chunk_rows : ∀ (l : List GV) (r : List PV), chunk 6 l.length ((GV.rows l).flatten ++ r) = GV.rows l
  | [], _ => rfl
  | v :: l, r => by
    simp only [List.length_cons, chunk, GV.rows, List.flatten_cons, List.append_assoc]
    rw [List.take_left' (cells_len v), List.drop_left' (cells_len v), chunk_rows l r]
theorem sortedG (l : List GV) (g : goods l) (h0 : l ≠ []) (hl : l.length ≤ 1000000) : Gives Tryz.prog 96 [GV.pvs l] (.agg (GV.mk 8 0 false [] ⟨#[]⟩ (setF l)).cells) := by
  intro m
  refine ACall.of_aw Tryz.func96 Tryz.ntmps96 rfl rfl (by simp) ?_
  refine tS ?_
  refine tS1 fun K Kp hK hKp => ?_; refine ACall.mono (cloneG l h0 hl _) ?_
  rintro _ _ ⟨rfl, rfl⟩
  refine hK _ _ ?_; clear hK hKp K Kp
  have hlen : (mkG l g).size = l.length := mkG_size l g
  obtain ⟨m1, hm1⟩ : ∃ m1, m1 = m.newLoc [vI 0, vI 0, vB false, .list .full [], .v (.string ⟨#[]⟩), .list .full []] := ⟨_, rfl⟩
  have H : Arr (m1.newLoc (GV.rows l).flatten) m1.nloc l.length (mkG l g) [] :=
    ⟨by simp, by rw [ar, mkG_list, List.append_nil]; simp, hlen, by omega⟩
  rw [← hm1]
  refine tS1 fun K Kp hK hKp => ?_; refine ACall.mono (deleteG H (fun _ _ => trivial) (Nat.le_refl _)) ?_
  rintro _ _ ⟨D, r2, hD, hr2, rfl, rfl⟩
  refine hK _ _ ?_; clear hK hKp K Kp
  have hDl : D.size ≤ l.length := by
    have := congrArg List.length hD
    have h2 := List.length_filter_le nzG (mkG l g).toList
    simp only [Array.length_toList] at this h2
    omega
  have H2 : Arr ((m1.newLoc (GV.rows l).flatten).setLoc m1.nloc (ar D r2)) m1.nloc D.size D r2 := ⟨by simp, by simp, rfl, by omega⟩
  refine tS ?_
  refine tS1 fun K Kp hK hKp => ?_; refine ACall.mono (sortG H2 hr2) ?_
  rintro _ _ ⟨R, hR1, hR2, rfl, rfl⟩
  refine hK _ _ ?_; clear hK hKp K Kp
  rw [setLoc_setLoc]
  have H3 : Arr ((m1.newLoc (GV.rows l).flatten).setLoc m1.nloc (ar R r2)) m1.nloc D.size R r2 := ⟨by simp, by simp, hR1.1, by omega⟩
  refine tS ?_
  refine tS1 fun K Kp hK hKp => ?_; refine ACall.mono (compactG H3 hr2 hDl) ?_
  rintro _ _ ⟨E, r3, hE, hr3, rfl, rfl⟩
  refine hK _ _ ?_; clear hK hKp K Kp
  rw [setLoc_setLoc]
  have hset := sorted_setF l g (mkG l g) D R (mkG_list l g) hD hR1 hR2
  rw [← hE] at hset
  refine tS1 fun K Kp hK hKp => ?_
  refine hK _ _ ?_; clear hK hKp K Kp
  refine AList.nil ?_
  refine AExit.norT ?_
  have hEl : E.size = (setF l).length := by
    have := congrArg List.length hset
    simpa using this
  have hEs : E.size ≤ l.length := by rw [hEl]; exact setF_len l
  have hsee := Sees.fz (m := (m1.newLoc (GV.rows l).flatten).setLoc m1.nloc (ar E r3)) (p := mar m1.nloc E.size l.length) (n := m1.nloc) (s := 6) (cs := ar E r3) (by simp) (by simp)
  have hch : PV.fz m1.nloc 6 (ar E r3) (mar m1.nloc E.size l.length) = GV.pvs (setF l) := by
    rw [PV.fz, if_pos ⟨rfl, hEs, by rw [ar_len]; omega⟩]
    have e1 : ((ar E r3).drop 0).take (E.size * 6) = (GV.rows (setF l)).flatten := by
      rw [List.drop_zero, ar, hset, hEl]
      exact List.take_left' (by rw [rows_flat_len])
    have e2 := chunk_rows (setF l) []
    rw [List.append_nil] at e2
    rw [e1, hEl, e2]
  rw [hch] at hsee
  refine AW.sees (d := 0) (p' := GV.pvs (setF l)) (m' := ((m1.newLoc (GV.rows l).flatten).setLoc m1.nloc (ar E r3)).dropLoc m1.nloc) (by simp only [upd_lit]; exact hsee) ?_
  subst hm1
  refine tS ?_
  refine Fin.givesC (p := .agg [vI 8, vI 0, vB false, .list .full [], vS ⟨#[]⟩, GV.pvs (setF l)]) rfl ?_ ?_ (by simp [GV.cells, limbs])
  · simp [upd_lit]; omega
  · refine Same.dropLoc ?_ (by simp) |>.setLoc (by simp) _
    refine Same.setLoc ?_ (by simp) _
    exact Same.auto
end Go.Proofs.YtgfadepkiejncaaGreat
namespace Go.Proofs.YtgfadepkiejncaaGreat
open Go.Ab Go.Sort
set_option maxHeartbeats 0
set_option maxRecDepth 100000
attribute [local irreducible] AW AList ACall DA AExit.then AExit.inBlock YCall DCall
theorem index0 : Gives Tryz.prog 148 [.list .no [], cloO] (vI (-1)) := by
  intro m
  refine ACall.of_aw Tryz.func148 Tryz.ntmps148 rfl rfl (by simp) ?_
  refine tS ?_
  refine AW.loop (ι := Nat) (fun _ σ m' => σ 8 = vI 0 ∧ σ 7 = vI 0 ∧ m' = m) (fun i => i) 0 ?_ ?_
  · exact ⟨by simp [upd_lit], by simp [upd_lit], rfl⟩
  rintro i σ m' ⟨t8, t7, rfl⟩
  have F := (aand @t8 @t7); refine tFa ?_; (try clear F)
  exact Fin.gives Same.auto
theorem delete0 : Gives Tryz.prog 140 [.list .no [], cloO] (.list .no []) := by
  intro m
  refine ACall.of_aw Tryz.func140 Tryz.ntmps140 rfl rfl (by simp) ?_
  refine tS ?_
  refine tS1 fun K Kp hK hKp => ?_; refine Gives.at (index0) ?_; apply hK; clear hK hKp K Kp
  refine tSa ?_
  exact Fin.gives Same.auto
theorem compact0 : Gives Tryz.prog 144 [.list .no [], cloE] (.list .no []) := by
  intro m
  refine ACall.of_aw Tryz.func144 Tryz.ntmps144 rfl rfl (by simp) ?_
  refine tSa ?_
  exact Fin.gives Same.auto
theorem insertion0 : Gives Tryz.prog 175 [.list .no [], vI 0, vI 0, cloC] (.tup []) := by
  intro m
  refine ACall.of_aw Tryz.func175 Tryz.ntmps175 rfl rfl (by simp) ?_
  refine tS ?_
  refine AW.loop (ι := Nat) (fun _ σ m' => σ 8 = vI 1 ∧ σ 2 = vI 0 ∧ m' = m) (fun i => i) 0 ?_ ?_
  · exact ⟨by simp [upd_lit], by simp [upd_lit], rfl⟩
  rintro i σ m' ⟨t8, t2, rfl⟩
  have F := (aand @t8 @t2); refine tFa ?_; (try clear F)
  exact Fin.here (r := .tup []) (by exact ⟨[], rfl, rfl⟩) (.inl rfl) ⟨rfl, rfl⟩
theorem pdq0 : Gives Tryz.prog 165 [.list .no [], vI 0, vI 0, vI 0, cloC] (.tup []) := by
  intro m
  refine ACall.of_aw Tryz.func165 Tryz.ntmps165 rfl rfl (by simp) ?_
  refine tS ?_
  refine AW.loop (ι := Nat) (fun _ σ m' => σ 0 = .list .no [] ∧ σ 1 = vI 0 ∧ σ 2 = vI 0 ∧ σ 4 = cloC ∧ m' = m) (fun i => i) 0 ?_ ?_
  · exact ⟨by simp [upd_lit], by simp [upd_lit], by simp [upd_lit], by simp [upd_lit], rfl⟩
  rintro i σ m' ⟨t0, t1, t2, t4, rfl⟩
  have F := (aand @t0 (aand @t1 (aand @t2 @t4))); refine tFa ?_; (try clear F)
  refine tS1 fun K Kp hK hKp => ?_; refine Gives.at (insertion0) ?_; apply hK; clear hK hKp K Kp
  refine tSa ?_
  exact Fin.here (r := .tup []) (by exact ⟨[], rfl, rfl⟩) (.inr rfl) ⟨rfl, rfl⟩
theorem sort0 : Gives Tryz.prog 143 [.list .no [], cloC] (.tup []) := by
  intro m
  refine ACall.of_aw Tryz.func143 Tryz.ntmps143 rfl rfl (by simp) ?_
  have hb : ((bitsLen 0 : Nat) : Int) = 0 := rfl
  refine tS ?_
  refine tS1 fun K Kp hK hKp => ?_; refine Gives.at (bitsLenG 0 (by omega)) ?_; apply hK; clear hK hKp K Kp
  have F := @hb; refine tF ?_; (try clear F)
  refine tS1 fun K Kp hK hKp => ?_; refine Gives.at (pdq0) ?_; apply hK; clear hK hKp K Kp
  refine tS ?_
  exact Fin.here (r := .tup []) (by exact ⟨[], rfl, rfl⟩) (.inl rfl) ⟨rfl, rfl⟩
theorem clone0 : Gives Tryz.prog 141 [.list .no []] (.list .no []) := by
  intro m
  refine ACall.of_aw Tryz.func141 Tryz.ntmps141 rfl rfl (by simp) ?_
  refine tS ?_
  refine AList.op (by decide) ?_; intro K Kp hK hKp; simp [upd_lit]
  refine ⟨?_, ?_⟩
  · apply hK; clear hK hKp K Kp
    refine tSa ?_
    refine AList.op (by decide) ?_; intro K Kp hK hKp; simp [upd_lit]
    refine app25 (l := []) (l' := []) (m0 := m) (.full (Same.refl m)) rfl (by simp) fun o' m'' ho' _ => hK _ _ ?_; clear hK hKp K Kp
    refine tS ?_
    exact Fin.ret rfl ho'.1 (by simp [upd_lit]; rfl) (by simp) ⟨rfl, rfl⟩
  · apply hK; clear hK hKp K Kp
    refine tS ?_
    refine AW.cond (t := true) (by simp [upd_lit]) (fun _ => ?_) (fun h => by cases h)
    refine tSn ?_
    refine AW.nilS (d := 2) (by simp [upd_lit]) ?_
    refine tS ?_
    exact Fin.ret rfl (Same.refl m) (by simp [upd_lit]) (by simp) ⟨rfl, rfl⟩
theorem sorted0 : Gives Tryz.prog 96 [GV.pvs []] (.agg (GV.mk 8 0 false [] ⟨#[]⟩ (setF [])).cells) := by
  intro m
  have e : setF [] = [] := List.length_eq_zero_iff.1 (Nat.le_zero.1 (setF_len []))
  rw [e]
  refine ACall.of_aw Tryz.func96 Tryz.ntmps96 rfl rfl (by simp) ?_
  refine tS ?_
  refine tS1 fun K Kp hK hKp => ?_; refine Gives.at (clone0) ?_; apply hK; clear hK hKp K Kp
  refine tS ?_
  refine tS1 fun K Kp hK hKp => ?_; refine Gives.at (delete0) ?_; apply hK; clear hK hKp K Kp
  refine tS ?_
  refine tS1 fun K Kp hK hKp => ?_; refine Gives.at (sort0) ?_; apply hK; clear hK hKp K Kp
  refine tS ?_
  refine tS1 fun K Kp hK hKp => ?_; refine Gives.at (compact0) ?_; apply hK; clear hK hKp K Kp
  refine tS ?_
  refine Fin.givesC (p := .agg [vI 8, vI 0, vB false, .list .full [], vS ⟨#[]⟩, .list .no []]) rfl (by simp [upd_lit]) Same.auto (by rfl)
end Go.Proofs.YtgfadepkiejncaaGreat
namespace Go.Proofs.YtgfadepkiejncaaGreat
open Go.Ab Go.Sort
set_option maxHeartbeats 0
set_option maxRecDepth 100000
attribute [local irreducible] AW AList ACall DA AExit.then AExit.inBlock YCall DCall
theorem val_sorted (l : List GV) (g : goods l) (hl : l.length ≤ 1000000) : Gives Tryz.prog 96 [GV.pvs l] (setV (setF l)).pv := by
  by_cases h0 : l = []
  · subst h0; exact sorted0
  · exact sortedG l g h0 hl
theorem setF_nodes (l : List GV) (g : goods l) : nodesL (setF l) ≤ nodesL l := by
  obtain ⟨s1, s2, s3⟩ := setF_spec _ g
  exact nodesL_sub (Inc_nodup s1) fun x hx => ((s3 x).1 hx).1
theorem val_set (l : List GV) (g : goods l) (hl : l.length ≤ 1000000) (hn : nodesL l < 1000000000) : Gives Tryz.prog 41 [GV.pvs l] (outP (fitV (setV (setF l))) (fitE (setV (setF l)))) := by
  have h1 := setF_nodes l g
  obtain ⟨s1, s2, s3⟩ := setF_spec _ g
  have en : nodes (setV (setF l)) = 1 + nodesL (setF l) := nodes_eq _
  intro m
  refine ACall.of_aw Tryz.func41 Tryz.ntmps41 rfl rfl (by simp) ?_
  refine tS ?_
  refine tS1 fun K Kp hK hKp => ?_; refine Gives.at (val_sorted l g hl) ?_; apply hK; clear hK hKp K Kp
  refine tS ?_
  refine tS1 fun K Kp hK hKp => ?_; refine Gives.at (val_sized (setV (setF l)) (by omega) (small_list s2)) ?_; apply hK; clear hK hKp K Kp
  refine tS ?_
  refine Fin.ret (p := outP (fitV (setV (setF l))) (fitE (setV (setF l)))) ?_ Same.auto (by simp) (by simp) ⟨rfl, rfl⟩
  simp [ResP, ResL, resV, upd_lit, show Tryz.f41.results.toList = [.cell 2 27, .tmp 3] from rfl]
end Go.Proofs.YtgfadepkiejncaaGreat
namespace Go.Proofs.YtgfadepkiejncaaGreat
open Go.Ab Go.Sort
set_option maxHeartbeats 0
set_option maxRecDepth 100000
attribute [local irreducible] AW AList ACall DA AExit.then AExit.inBlock YCall DCall
theorem good_om : good omV := by
  refine ⟨?_, omV_ok⟩
  rw [fmd_eq]
  exact ⟨⟨by simp [fieldsF, GV.kind, GV.neg, GV.abs, GV.str, GV.els, GV.num], by rfl, by simp [GV.abs], by show (0 : Nat) ≤ 1000; omega⟩, fun h => by simp [GV.kind] at h, trivial⟩
def hasF (s x : GV) : Bool := if s.kind = 8 then isF s.els x else false
theorem has_any (s x : GV) (gs : good s) (gx : good x) (ls : nodes s < 100000000000) : Gives Tryz.prog 61 [s.pv, x.pv] (vB (hasF s x)) := by
  have hf := val_find s x gs gx ls
  by_cases h8 : s.kind = 8
  · have := law_has s x gs gx h8 ls
    rwa [hasF, if_pos h8]
  rw [if_neg h8] at hf
  rw [hasF, if_neg h8]
  intro m
  refine ACall.of_aw Tryz.func61 Tryz.ntmps61 rfl rfl (by simp) ?_
  refine tS ?_
  refine tS1 fun K Kp hK hKp => ?_; refine Gives.at (hf) ?_; apply hK; clear hK hKp K Kp
  refine tS ?_
  exact Fin.gives Same.auto
theorem fieldsF_set (l : List GV) : fieldsF (setV l) = true := by simp [fieldsF, GV.kind, GV.neg, GV.abs, GV.str, GV.els, GV.num]
theorem set_goodI {l : List GV} (g : goods l) (hi : Inc l) (h0 : ∀ x ∈ l, x.kind ≠ 0) (hlen : l.length < 1000000) : good (setV l) := by
  refine ⟨?_, setV_ok g hlen⟩
  rw [fmd_eq]
  exact ⟨⟨fieldsF_set l, by rfl, by simp [GV.abs], by show (0 : Nat) ≤ 1000; omega⟩, fun _ => ⟨h0, (incr_none g).2 hi⟩, (fmdL_iff _).2 fun x hx => (g x hx).1⟩
theorem setF_goodI {l : List GV} (g : goods l) (hlen : l.length < 1000000) : good (setV (setF l)) := by
  obtain ⟨s1, s2, s3⟩ := setF_spec _ g
  exact set_goodI s2 s1 (fun x hx => ((s3 x).1 hx).2) (Nat.lt_of_le_of_lt (setF_len l) hlen)
theorem hasF_mem {l : List GV} (g : goods l) (hi : Inc l) {x : GV} (gx : good x) : hasF (setV l) x = true ↔ x ∈ l := by
  rw [hasF, if_pos (show (setV l).kind = 8 from rfl)]; exact isF_mem l x gx g hi
theorem fitV_good {v : GV} (h : good v) : good (fitV v) := by unfold fitV; split; exact h; exact good_om
theorem fit_cases (v : GV) : (fitV v = v ∧ fitE v = 0) ∨ (fitV v = omV ∧ fitE v = 3) := by
  cases h : fitB v
  · exact .inr (by simp [fitV, fitE, h])
  · exact .inl (by simp [fitV, fitE, h])
theorem hasF_kept {a s x : GV} {t : Bool} (ga : good a) (a8 : a.kind = 8) (gx : good x) : hasF (setV (keptL a.els s t)) x = true ↔ x ∈ keptL a.els s t := hasF_mem (filt_goods ga.els) (filt_Inc (set_Inc ga a8)) gx
structure ElF (a b x : GV) : Prop where
  c : hasF (setV (keptL a.els b true)) x = (isF a.els x && isF b.els x)
  m : hasF (setV (keptL a.els b false)) x = (isF a.els x && !isF b.els x)
  l : hasF (setV (keptL a.els (setV [x]) false)) x = false
  u : hasF (setV (setF (a.els ++ b.els))) x = (isF a.els x || isF b.els x)
  i : decide (keptL a.els b false = []) = sameV (setV (setF (a.els ++ b.els))) b
  w : hasF (setV (setF (a.els ++ [x]))) x = true
  s : isF a.els x = sameV (setV (setF (a.els ++ [x]))) a
  n : (keptL a.els b true).length + (keptL a.els b false).length = a.els.length
  k : isF a.els x = false → setV (keptL a.els (setV [x]) false) = a
theorem set_eta {a : GV} (h : good a) (h8 : a.kind = 8) : a = setV a.els := by
  have hf := h.1
  rw [fmd_eq] at hf
  have hn := node_fields hf.1
  obtain ⟨f1, f2, f3, f4⟩ := hn
  have e1 := f1 (by omega) (by omega)
  have e2 := f2 (by omega)
  have e4 := f4 (by omega) (by omega) (by omega) (by omega)
  have e3 : a.str = ⟨#[]⟩ := by
    rw [Lib.toList_data] at e2
    have := congrArg List.length e2
    exact ByteArray.ext (Array.eq_empty_of_size_eq_zero (by simpa using this))
  exact gv_ext h8 e4 e1.1 e1.2 e3 rfl
theorem set_ext {a b : GV} (ga : good a) (gb : good b) (ha : a.kind = 8) (hb : b.kind = 8) (h : ∀ z, z ∈ a.els ↔ z ∈ b.els) : a = b := by
  rw [set_eta ga ha, set_eta gb hb]
  congr 1
  exact Inc_unique _ _ (set_Inc ga ha) (set_Inc gb hb) h
theorem filt_split (f : GV → Bool) (l : List GV) : (l.filter fun x => f x == true).length + (l.filter fun x => f x == false).length = l.length := by
  induction l with
  | nil => rfl
  | cons x l ih => cases h : f x <;> simp [h] <;> simp at ih <;> omega
theorem elF {a b x : GV} (ha : Fm a) (hb : Fm b) (gx : good x) (h0 : x.kind ≠ 0) (a8 : a.kind = 8) (b8 : b.kind = 8) : ElF a b x := by
  have ga := ha.good
  have gb := hb.good
  have ia := set_Inc ga a8
  have ib := set_Inc gb b8
  have gab : goods (a.els ++ b.els) := fun y hy => (List.mem_append.1 hy).elim (ga.els y) (gb.els y)
  have gax : goods (a.els ++ [x]) := fun y hy => (List.mem_append.1 hy).elim (ga.els y) (fun h => by simp at h; rw [h]; exact gx)
  have na := set_nonom ga a8
  have nb := set_nonom gb b8
  have la := ha.len
  have lb := hb.len
  obtain ⟨u1, u2, u3⟩ := setF_spec _ gab
  obtain ⟨w1, w2, w3⟩ := setF_spec _ gax
  have g1 : good (setV [x]) := one_good gx h0
  have m1 := isF_mem a.els x gx ga.els ia
  have m2 := isF_mem b.els x gx gb.els ib
  have gU : good (setV (setF (a.els ++ b.els))) := setF_goodI gab (by simp; omega)
  have gW : good (setV (setF (a.els ++ [x]))) := setF_goodI gax (by simp; omega)
  have gL : good (setV (keptL a.els (setV [x]) false)) := set_goodI (filt_goods ga.els) (filt_Inc ia) (fun y hy => na y (List.mem_filter.1 hy).1) (Nat.lt_of_le_of_lt (List.length_filter_le _ _) (by omega))
  refine ⟨?_, ?_, ?_, ?_, ?_, ?_, ?_, filt_split _ _, ?_⟩
  · rw [Bool.eq_iff_iff, hasF_kept ga a8 gx, mem_kept ga.els gb b8, Bool.and_eq_true, m1, m2]; simp
  · rw [Bool.eq_iff_iff, hasF_kept ga a8 gx, mem_kept ga.els gb b8, Bool.and_eq_true, m1, Bool.not_eq_true', Bool.eq_false_iff, ne_eq, m2]; simp
  · rw [Bool.eq_false_iff, ne_eq, hasF_kept ga a8 gx, mem_kept ga.els g1 rfl]
    simp [GV.els]
  · rw [Bool.eq_iff_iff, hasF_mem u2 u1 gx, u3, Bool.or_eq_true, m1, m2, List.mem_append]
    exact ⟨fun h => h.1, fun h => ⟨h, h0⟩⟩
  · rw [Bool.eq_iff_iff, decide_eq_true_eq, sameV_iff]
    constructor
    · intro h
      refine set_ext gU gb rfl b8 fun z => ?_
      show z ∈ setF (a.els ++ b.els) ↔ _
      rw [u3, List.mem_append]
      constructor
      · rintro ⟨hz | hz, _⟩
        · by_cases hzb : z ∈ b.els
          · exact hzb
          · have : z ∈ keptL a.els b false := (mem_kept ga.els gb b8 z).2 ⟨hz, by simp [hzb]⟩
            rw [h] at this; simp at this
        · exact hz
      · intro hz; exact ⟨.inr hz, nb z hz⟩
    · intro h
      have he : setF (a.els ++ b.els) = b.els := congrArg GV.els h
      rw [List.eq_nil_iff_forall_not_mem]
      intro z hz
      have := (mem_kept ga.els gb b8 z).1 hz
      have hb' : z ∈ b.els := by rw [← he]; exact (u3 z).2 ⟨List.mem_append.2 (.inl this.1), na z this.1⟩
      simpa using this.2.1 hb'
  · rw [hasF_mem w2 w1 gx, w3]; exact ⟨by simp, h0⟩
  · rw [Bool.eq_iff_iff, m1, sameV_iff]
    constructor
    · intro h
      refine set_ext gW ga rfl a8 fun z => ?_
      show z ∈ setF (a.els ++ [x]) ↔ _
      rw [w3, List.mem_append]
      constructor
      · rintro ⟨hz | hz, _⟩
        · exact hz
        · simp at hz; rw [hz]; exact h
      · intro hz; exact ⟨.inl hz, na z hz⟩
    · intro h
      have he : setF (a.els ++ [x]) = a.els := congrArg GV.els h
      rw [← he, w3]; exact ⟨by simp, h0⟩
  · intro h
    refine set_ext gL ga rfl a8 fun z => ?_
    show z ∈ keptL a.els (setV [x]) false ↔ _
    rw [mem_kept ga.els g1 rfl]
    have hx : ¬ x ∈ a.els := by rw [← m1, h]; simp
    constructor
    · intro hz; exact hz.1
    · intro hz
      refine ⟨hz, ?_⟩
      have : z ≠ x := fun e => hx (e ▸ hz)
      simp [GV.els, this]
end Go.Proofs.YtgfadepkiejncaaGreat
namespace Go.Proofs.YtgfadepkiejncaaGreat
open Go.Ab Go.Sort
set_option maxHeartbeats 0
set_option maxRecDepth 100000
attribute [local irreducible] AW AList ACall DA AExit.then AExit.inBlock YCall DCall
end Go.Proofs.YtgfadepkiejncaaGreat
namespace Go.Proofs.YtgfadepkiejncaaGreat
open Go.Ab Go.Sort
set_option maxHeartbeats 0
set_option maxRecDepth 100000
attribute [local irreducible] AW AList ACall DA AExit.then AExit.inBlock YCall DCall
def p1 (v : GV) : GV := v.els[0]?.getD default
def p2 (v : GV) : GV := v.els[1]?.getD default
end Go.Proofs.YtgfadepkiejncaaGreat
namespace Go.Proofs.YtgfadepkiejncaaGreat
open Go.Ab Go.Sort
set_option maxHeartbeats 0
set_option maxRecDepth 100000
attribute [local irreducible] AW AList ACall DA AExit.then AExit.inBlock YCall DCall
end Go.Proofs.YtgfadepkiejncaaGreat
namespace Go.Proofs.YtgfadepkiejncaaGreat
open Go.Ab Go.Sort
set_option maxHeartbeats 0
set_option maxRecDepth 100000
attribute [local irreducible] AW AList ACall DA AExit.then AExit.inBlock YCall DCall
end Go.Proofs.YtgfadepkiejncaaGreat
namespace Go.Ab
theorem Ow.other {m0 m m' : St} {o o' oB : Own} {s n q sB nB : Nat} (h : Ow m0 m o s n) (hB : Ow m0 m oB sB nB) (hd : ∀ k, o = .tok k → oB ≠ .tok k) (a : AppRes s m o n q o' m') :
    Ow m0 m' oB sB nB ∧ ∀ k, o' = .tok k → oB ≠ .tok k := by
  obtain ⟨h1, h2, h3⟩ := h
  obtain ⟨b1, b2, b3⟩ := hB
  rcases a with ⟨rfl, rfl, rfl⟩ | ⟨_, rfl, rfl⟩ | ⟨_, k, rfl, rfl, rfl⟩
  · exact ⟨⟨b1, b2, b3⟩, hd⟩
  · refine ⟨⟨b1.newTok _ _, ?_, b3⟩, ?_⟩
    · cases oB with
      | no => exact b2
      | full => trivial
      | tok k =>
        obtain ⟨c1, c2, c3, c4⟩ := b2
        have : k ≠ m.ntok := by omega
        exact ⟨Nat.lt_succ_of_lt c1, by simp [St.newTok, upd, this, c2], by simp [St.newTok, upd, this, c3], by simp [St.newTok, upd, this, c4]⟩
    · intro k e e2
      cases e
      subst e2
      exact absurd b2.1 (Nat.lt_irrefl _)
  · refine ⟨⟨b1.growTok (h3 k rfl) _, ?_, b3⟩, hd⟩
    cases oB with
    | no => exact b2
    | full => trivial
    | tok j =>
      obtain ⟨c1, c2, c3, c4⟩ := b2
      have : j ≠ k := fun e => hd k rfl (by rw [e])
      exact ⟨c1, by simp [St.growTok, upd, this, c2], c3, c4⟩
section
variable {P : Program} {N : Nat} {l : List Oper} {cls : List Cls} {Q : APost} {σ : Nat → PV} {m : St} {listed : Array Bool} {fuel : Nat}
end
end Go.Ab
namespace Go.Proofs.YtgfadepkiejncaaGreat
open Go.Ab Go.Sort
set_option maxHeartbeats 0
set_option maxRecDepth 100000
attribute [local irreducible] AW AList ACall DA AExit.then AExit.inBlock YCall DCall
end Go.Proofs.YtgfadepkiejncaaGreat
namespace Go.Ab
theorem AW.gen {P : Program} {N : Nat} {c : Code} {Q : APost} {σ : Nat → PV} {m : St} (h : ∀ mm, mm = m → AW P N c Q σ mm) : AW P N c Q σ m := h m rfl
end Go.Ab
namespace Go.Proofs.YtgfadepkiejncaaGreat
open Go.Ab Go.Sort
set_option maxHeartbeats 0
set_option maxRecDepth 100000
attribute [local irreducible] AW AList ACall DA AExit.then AExit.inBlock YCall DCall
end Go.Proofs.YtgfadepkiejncaaGreat
namespace Go.Proofs.YtgfadepkiejncaaGreat
open Go.Ab
set_option maxHeartbeats 0
set_option maxRecDepth 100000
attribute [local irreducible] AW AList ACall DA AExit.then AExit.inBlock YCall DCall
end Go.Proofs.YtgfadepkiejncaaGreat
namespace Go.Ab
theorem Post.imp {Γ : Ctx} {w : World} {N : Nat} {Q Q' : APost} (h : ∀ x σ m, Q x σ m → Q' x σ m) {e : Exit} {a : Act} {w' : World} (hp : Post Γ w N Q e a w') : Post Γ w N Q' e a w' := by
  obtain ⟨x, σ, m, Γ', h1, h2⟩ := hp
  exact ⟨x, σ, m, Γ', h x σ m h1, h2⟩
theorem AList.cut {P : Program} {N : Nat} {Q : APost} {ops : Array Oper} {l : List Oper} {σ : Nat → PV} {m : St} {I nx : (Nat → PV) → St → Prop} (h : AList P N ops (AExit.then I Q) l σ m) (h2 : ∀ σ m, I σ m → nx σ m) : AList P N ops (AExit.then nx Q) l σ m :=
  fun Γ a w hs => wpList_mono (fun _ _ _ => Post.imp fun x σ m h => by cases x <;> first | exact h2 σ m h | exact h) _ _ _ (h Γ a w hs)
end Go.Ab
namespace Go.Proofs.YtgfadepkiejncaaGreat
open Go.Ab
set_option maxHeartbeats 0
set_option maxRecDepth 100000
attribute [local irreducible] AW AList ACall DA AExit.then AExit.inBlock YCall DCall
end Go.Proofs.YtgfadepkiejncaaGreat
namespace Go.Ab
def Dies (P : Program) (f : FuncId) (args : List PV) (r : PV) : Prop := ∀ m, ACall P f args m (fun r' m' => r' = .pan r ∧ m' = m)
theorem Dies.at {P : Program} {f : FuncId} {args : List PV} {r : PV} {m : St} {K Kp : PV → St → Prop} (h : Dies P f args r) (k : Kp r m) :
    ACall P f args m (fun r' m' => match r' with | .ret p => K p m' | .pan p => Kp p m') := (h m).mono (by rintro _ _ ⟨rfl, rfl⟩; exact k)
def GivesAt (P : Program) (f : FuncId) (args : List PV) (m : St) (r : PV) : Prop := ACall P f args m (fun r' m' => r' = .ret r ∧ m' = m)
theorem GivesAt.at {P : Program} {f : FuncId} {args : List PV} {r : PV} {m : St} {K Kp : PV → St → Prop} (h : GivesAt P f args m r) (k : K r m) :
    ACall P f args m (fun r' m' => match r' with | .ret p => K p m' | .pan p => Kp p m') := ACall.mono h (by rintro _ _ ⟨rfl, rfl⟩; exact k)
theorem Fin.done {P : Program} {fn : Func} {m m' : St} {σ : Nat → PV} (hm : Same m m') (hp : ResP P fn.results.toList σ m' (.tup []) := by exact ⟨[], rfl, rfl⟩) : Fin P fn m (fun r' m' => r' = .ret (.tup []) ∧ m' = m) .normal σ m' :=
  Fin.normal hp hm rfl trivial ⟨rfl, rfl⟩
end Go.Ab
namespace Go.Proofs.YtgfadepkiejncaaGreat
open Go.Ab
set_option maxHeartbeats 0
set_option maxRecDepth 100000
attribute [local irreducible] AW AList ACall DA AExit.then AExit.inBlock YCall DCall
abbrev badE (e : Int) : PV := .iface 117 (.agg [vE e])
@[simp] theorem bs57_1 (x : Int) (m : St) (K : PV → St → Prop) : abuildSlice Tryz.prog 57 1 [(0, vI x)] m K ↔ K (.list .full (ints [x])) m := by
  have h := abuildSlice_all (P := Tryz.prog) (t := 57) (s := 1) (e := 3) (z := .int .i64 0) (xs := [vI x]) (rs := ints [x]) (m := m) (K := K) (by simp) (by simp) (by simp) (by decide) (by decide) (by simp) (by simp) (cells1_ints [x])
  have e : (ints [x]).map PV.stripL = ints [x] := by simp [ints, PV.stripL, PV.strip]
  rw [e] at h
  exact h
@[simp] theorem bs57_4 (x y z w : Int) (m : St) (K : PV → St → Prop) : abuildSlice Tryz.prog 57 4 [(0, vI x), (1, vI y), (2, vI z), (3, vI w)] m K ↔ K (.list .full (ints [x, y, z, w])) m := by
  have h := abuildSlice_all (P := Tryz.prog) (t := 57) (s := 1) (e := 3) (z := .int .i64 0) (xs := [vI x, vI y, vI z, vI w]) (rs := ints [x, y, z, w]) (m := m) (K := K) (by simp) (by simp) (by simp) (by decide) (by decide) (by simp) (by simp) (cells1_ints [x, y, z, w])
  have e : (ints [x, y, z, w]).map PV.stripL = ints [x, y, z, w] := by simp [ints, PV.stripL, PV.strip]
  rw [e] at h
  exact h
def resE (e : Int) : ARes := if e = 0 then .ret (.tup []) else .pan (badE e)
def GivesR (P : Program) (f : FuncId) (args : List PV) (e : Int) : Prop := ∀ m, ACall P f args m (fun r' m' => r' = resE e ∧ m' = m)
theorem GivesR.ok {P : Program} {f : FuncId} {args : List PV} {e : Int} (h : GivesR P f args e) (h0 : e = 0) : Gives P f args (.tup []) := fun m => (h m).mono (by rintro _ _ ⟨rfl, rfl⟩; subst h0; exact ⟨rfl, rfl⟩)
end Go.Proofs.YtgfadepkiejncaaGreat
namespace Go.Proofs.YtgfadepkiejncaaGreat
open Go.Ab Go.Sort
set_option maxHeartbeats 0
set_option maxRecDepth 100000
attribute [local irreducible] AW AList ACall DA AExit.then AExit.inBlock YCall DCall
end Go.Proofs.YtgfadepkiejncaaGreat
namespace Go.Ab
end Go.Ab
namespace Go.Proofs.YtgfadepkiejncaaGreat
open Go.Ab Go.Sort
set_option maxHeartbeats 0
set_option maxRecDepth 100000
attribute [local irreducible] AW AList ACall DA AExit.then AExit.inBlock YCall DCall
end Go.Proofs.YtgfadepkiejncaaGreat
namespace Go.Proofs.YtgfadepkiejncaaGreat
open Go.Ab Go.Sort
set_option maxHeartbeats 0
set_option maxRecDepth 100000
theorem nodesL_mem : ∀ (l : List GV) (x : GV), x ∈ l → nodes x ≤ nodesL l
  | [], x, h => by simp at h
  | v :: l, x, h => by
    rcases List.mem_cons.1 h with rfl | h
    · simp [nodesL]
    · have := nodesL_mem l x h; simp [nodesL]; omega
end Go.Proofs.YtgfadepkiejncaaGreat
namespace Go.Proofs.YtgfadepkiejncaaGreat
open Go.Ab Go.Sort
set_option maxHeartbeats 0
set_option maxRecDepth 100000
attribute [local irreducible] AW AList ACall DA AExit.then AExit.inBlock YCall DCall
end Go.Proofs.YtgfadepkiejncaaGreat
namespace Go.Proofs.YtgfadepkiejncaaGreat
open Go.Ab Go.Sort
set_option maxHeartbeats 0
set_option maxRecDepth 100000
attribute [local irreducible] AW AList ACall DA AExit.then AExit.inBlock YCall DCall
end Go.Proofs.YtgfadepkiejncaaGreat
namespace Go.Proofs.YtgfadepkiejncaaGreat
open Go.Ab
set_option maxHeartbeats 0
set_option maxRecDepth 100000
attribute [local irreducible] AW AList ACall DA AExit.then AExit.inBlock YCall DCall
end Go.Proofs.YtgfadepkiejncaaGreat
namespace Go.Ab
@[simp] theorem setIt_nloc (m : St) (n : Nat) (s : ByteArray) (i : Nat) : (m.setIt n s i).nloc = m.nloc := rfl
theorem Same.newIt {m m' : St} (h : Same m m') (s : ByteArray) (i : Nat) : Same m (m'.newIt s i) :=
  Same.trans h (Same.mk (Nat.le_succ _) (Nat.le_refl _) (fun n hn => upd_ne _ _ _ _ (by omega)) (fun _ _ => ⟨rfl, rfl⟩) (fun n hn => upd_ne _ _ _ _ (by omega)) (fun n hn => upd_ne _ _ _ _ (by omega)) (fun _ _ _ _ h => h))
theorem Same.setIt {m m' : St} (h : Same m m') {n : Nat} (hn : m.nloc ≤ n) (s : ByteArray) (i : Nat) : Same m (m'.setIt n s i) :=
  Same.mk h.lloc h.ltok (fun i hi => h.get hi) (fun k hk => ⟨(h.top k hk).1.symm, (h.top k hk).2.symm⟩) (fun n hn => h.getL hn) (fun j hj => by show upd m'.it n _ j = _; rw [upd_ne _ _ _ _ (by omega)]; exact h.getI hj) (fun k cs hk hd hc => h.getA hk hd hc)
end Go.Ab
namespace Go.Proofs.YtgfadepkiejncaaGreat
open Go.Ab
set_option maxHeartbeats 0
set_option maxRecDepth 100000
attribute [local irreducible] AW AList ACall DA AExit.then AExit.inBlock YCall DCall
def fb (s : ByteArray) : Nat → Nat → Int
  | 0, _ => -1
  | k + 1, i => if textB (byteAt s i) = true then fb s k (i + 1) else i
end Go.Proofs.YtgfadepkiejncaaGreat
namespace Go.Proofs.YtgfadepkiejncaaGreat
open Go.Ab
set_option maxHeartbeats 0
set_option maxRecDepth 100000
attribute [local irreducible] AW AList ACall DA AExit.then AExit.inBlock YCall DCall
end Go.Proofs.YtgfadepkiejncaaGreat
namespace Go.Ab
end Go.Ab
namespace Go.Proofs.YtgfadepkiejncaaGreat
open Go.Ab
set_option maxHeartbeats 0
set_option maxRecDepth 100000
attribute [local irreducible] AW AList ACall DA AExit.then AExit.inBlock YCall DCall
end Go.Proofs.YtgfadepkiejncaaGreat
namespace Go.Proofs.YtgfadepkiejncaaGreat
open Go.Ab
set_option maxHeartbeats 0
set_option maxRecDepth 100000
attribute [local irreducible] AW AList ACall DA AExit.then AExit.inBlock YCall DCall
end Go.Proofs.YtgfadepkiejncaaGreat
namespace Go.Ab
theorem AList.gen {P : Program} {N : Nat} {Q : APost} {ops : Array Oper} {l : List Oper} {σ : Nat → PV} {m : St} (h : ∀ mm, mm = m → AList P N ops Q l σ mm) : AList P N ops Q l σ m := h m rfl
end Go.Ab
namespace Go.Proofs.YtgfadepkiejncaaGreat
open Go.Ab Go.Sort
set_option maxHeartbeats 0
set_option maxRecDepth 100000
attribute [local irreducible] AW AList ACall DA AExit.then AExit.inBlock YCall DCall
end Go.Proofs.YtgfadepkiejncaaGreat
namespace Go.Proofs.YtgfadepkiejncaaGreat
open Go.Ab Go.Sort
set_option maxHeartbeats 0
set_option maxRecDepth 100000
attribute [local irreducible] AW AList ACall DA AExit.then AExit.inBlock YCall DCall
theorem nodesL_le {n : Nat} : ∀ (l : List GV), (∀ x ∈ l, nodes x ≤ n) → nodesL l ≤ l.length * n
  | [], _ => by simp [nodesL]
  | v :: l, h => by
    have h1 := h v (by simp)
    have h2 := nodesL_le l fun x hx => h x (by simp [hx])
    simp only [nodesL, List.length_cons, Nat.add_mul]
    omega
end Go.Proofs.YtgfadepkiejncaaGreat
namespace Go.Proofs.YtgfadepkiejncaaGreat
open Go.Ab Go.Sort
set_option maxHeartbeats 0
set_option maxRecDepth 100000
attribute [local irreducible] AW AList ACall DA AExit.then AExit.inBlock YCall DCall
def bkL (l : List GV) (i : Nat) : List GV := (List.range i).flatMap fun j => [l[l.length - 1 - j]?.getD default, l[j]?.getD default]
theorem bkL_succ (l : List GV) (i : Nat) : bkL l (i + 1) = bkL l i ++ [l[l.length - 1 - i]?.getD default, l[i]?.getD default] := by
  simp [bkL, List.range_succ]
theorem bkL_len (l : List GV) : ∀ i, (bkL l i).length = 2 * i
  | 0 => rfl
  | i + 1 => by rw [bkL_succ, List.length_append, bkL_len l i]; simp; omega
theorem bkL_mem (l : List GV) : ∀ i, i ≤ l.length → ∀ z ∈ bkL l i, z ∈ l
  | 0, _, z, hz => by simp [bkL] at hz
  | i + 1, h, z, hz => by
    rw [bkL_succ, List.mem_append] at hz
    rcases hz with hz | hz
    · exact bkL_mem l i (by omega) z hz
    · rw [List.getElem?_eq_getElem (by omega), List.getElem?_eq_getElem (by omega), Option.getD_some, Option.getD_some] at hz
      simp only [List.mem_cons, List.not_mem_nil, or_false] at hz
      rcases hz with rfl | rfl <;> exact List.getElem_mem _
theorem bkL_all (l : List GV) : ∀ i, i ≤ l.length → ∀ j (h : j < l.length), j < i → l[j] ∈ bkL l i
  | 0, _, j, h, hj => by omega
  | i + 1, hi, j, h, hj => by
    rw [bkL_succ, List.mem_append]
    by_cases e : j = i
    · subst e; exact .inr (by simp [h])
    · exact .inl (bkL_all l i (by omega) j h (by omega))
theorem back_set {a : GV} (fa : Fm a) (a8 : a.kind = 8) : Gives Tryz.prog 41 [GV.pvs (bkL a.els a.els.length)] (outP a 0) := by
  have ga := fa.good
  have gb : goods (bkL a.els a.els.length) := fun z hz => ga.els z (bkL_mem _ _ (Nat.le_refl _) z hz)
  have la := fa.len
  have hl := bkL_len a.els a.els.length
  have hn := nodesL_le (n := 400) (bkL a.els a.els.length) fun z hz => by
    have h1 := nodesL_mem a.els z (bkL_mem _ _ (Nat.le_refl _) z hz)
    have h2 := nodes_eq a
    have := fa.nodes
    omega
  have h := val_set (bkL a.els a.els.length) gb (by omega) (by omega)
  have e : a.els = setF (bkL a.els a.els.length) := setF_eq gb (set_Inc ga a8) fun z => by
    constructor
    · intro hz
      refine ⟨?_, set_nonom ga a8 z hz⟩
      obtain ⟨j, hj, rfl⟩ := List.getElem_of_mem hz
      exact bkL_all _ _ (Nat.le_refl _) j hj hj
    · intro hz; exact bkL_mem _ _ (Nat.le_refl _) z hz.1
  rw [← e, ← set_eta ga a8] at h
  have hf : fitB a = true := by have := fa.nodes; have := fa.deep; simp [fitB]; omega
  rwa [show fitV a = a from by simp [fitV, hf], show fitE a = 0 from by simp [fitE, hf]] at h
theorem law14 (a b x : GV) (ha : a.ok) (hb : b.ok) (hx : x.ok) : Gives Tryz.prog 14 [a.pv, b.pv, x.pv] (vB true) := by
  intro m
  refine ACall.of_aw Tryz.func14 Tryz.ntmps14 rfl rfl (by simp) ?_
  refine tS ?_
  refine tS1 fun K Kp hK hKp => ?_; refine Gives.at (law_some a ha) ?_; apply hK; clear hK hKp K Kp
  cases h1 : someF a with
  | false =>
    refine tSg ?_
    refine tSa ?_
    refine tS1 fun K Kp hK hKp => ?_; refine Gives.at (sanity) ?_; apply hK; clear hK hKp K Kp
    refine tS ?_
    exact Fin.gives Same.auto
  | true =>
  refine tSg ?_
  refine tSc (law_some b hb) ?_
  cases h2 : someF b with
  | false =>
    refine tSg ?_
    refine tSa ?_
    refine tS1 fun K Kp hK hKp => ?_; refine Gives.at (sanity) ?_; apply hK; clear hK hKp K Kp
    refine tS ?_
    exact Fin.gives Same.auto
  | true =>
  refine tSg ?_
  refine tSc (law_some x hx) ?_
  cases h3 : someF x with
  | false =>
    refine tSg ?_
    refine tSa ?_
    refine tS1 fun K Kp hK hKp => ?_; refine Gives.at (sanity) ?_; apply hK; clear hK hKp K Kp
    refine tS ?_
    exact Fin.gives Same.auto
  | true =>
  by_cases a8 : a.kind = 8
  rotate_left
  · have F := @a8; refine tFg ?_; (try clear F)
    refine tSa ?_
    refine tS1 fun K Kp hK hKp => ?_; refine Gives.at (sanity) ?_; apply hK; clear hK hKp K Kp
    refine tS ?_
    exact Fin.gives Same.auto
  by_cases b8 : b.kind = 8
  rotate_left
  · have F := (aand @a8 @b8); refine tFg ?_; (try clear F)
    refine tSa ?_
    refine tS1 fun K Kp hK hKp => ?_; refine Gives.at (sanity) ?_; apply hK; clear hK hKp K Kp
    refine tS ?_
    exact Fin.gives Same.auto
  simp only [someF, Bool.and_eq_true, Bool.not_eq_true', decide_eq_false_iff_not] at h1 h2 h3
  have fa := formed_Fm ha h1.2
  have fb := formed_Fm hb h2.2
  have fx := formed_Fm hx h3.2
  have ga := fa.good
  have gb := fb.good
  have gx := fx.good
  have E := elF fa fb gx h3.1 a8 b8
  have na := fa.nodes
  have nb := fb.nodes
  have nx := fx.nodes
  have la := fa.len
  have lb := fb.len
  have ia := set_Inc ga a8
  have ib := set_Inc gb b8
  have gab : goods (a.els ++ b.els) := fun y hy => (List.mem_append.1 hy).elim (ga.els y) (gb.els y)
  have gax : goods (a.els ++ [x]) := fun y hy => (List.mem_append.1 hy).elim (ga.els y) (fun h => by simp at h; rw [h]; exact gx)
  have gU : good (setV (setF (a.els ++ b.els))) := setF_goodI gab (by simp; omega)
  have gW : good (setV (setF (a.els ++ [x]))) := setF_goodI gax (by simp; omega)
  have gK : ∀ (s : GV) (t : Bool), good (setV (keptL a.els s t)) := fun s t => set_goodI (filt_goods ga.els) (filt_Inc ia) (fun y hy => set_nonom ga a8 y (List.mem_filter.1 hy).1) (Nat.lt_of_le_of_lt (List.length_filter_le _ _) (by omega))
  have fK : ∀ (s : GV) (t : Bool), fitB (setV (keptL a.els s t)) = true := fun s t => sub_fits fa (Inc_nodup (filt_Inc ia)) fun y hy => (List.mem_filter.1 hy).1
  have nK : ∀ (s : GV) (t : Bool), nodes (setV (keptL a.els s t)) ≤ 400 := fun s t => Nat.le_trans (kept_ok a s t ga).1 na
  have c1 := law_has a x ga gx a8 (by omega)
  have c2 := law_has b x gb gx b8 (by omega)
  have cu := val_union a b ga gb (by omega) (by omega)
  rw [if_pos ⟨a8, b8⟩, union_eq ia ib ga.els gb.els (set_nonom ga a8) (set_nonom gb b8)] at cu
  have cc := val_common a b ga gb (by omega) (by omega)
  rw [if_pos ⟨a8, b8⟩, common_eq ga gb a8 b8, show fitV (setV (keptL a.els b true)) = setV (keptL a.els b true) from by simp [fitV, fK], show fitE (setV (keptL a.els b true)) = 0 from by simp [fitE, fK]] at cc
  have cm := val_minus a b ga gb (by omega) (by omega)
  rw [if_pos ⟨a8, b8⟩, minus_eq ga gb a8 b8, show fitV (setV (keptL a.els b false)) = setV (keptL a.els b false) from by simp [fitV, fK], show fitE (setV (keptL a.els b false)) = 0 from by simp [fitE, fK]] at cm
  have cw := val_with a x ga gx h3.1 (by omega) (by omega)
  rw [if_pos a8, with_eq ga gx h3.1 a8] at cw
  have cl := val_less a x ga gx h3.1 (by omega) (by omega)
  rw [if_pos a8, less_eq ga gx h3.1 a8, show fitV (setV (keptL a.els (setV [x]) false)) = setV (keptL a.els (setV [x]) false) from by simp [fitV, fK], show fitE (setV (keptL a.els (setV [x]) false)) = 0 from by simp [fitE, fK]] at cl
  have ci := val_within a b ga gb (by omega) (by omega)
  rw [if_pos ⟨a8, b8⟩, minus_eq ga gb a8 b8, show fitV (setV (keptL a.els b false)) = setV (keptL a.els b false) from by simp [fitV, fK], show fitE (setV (keptL a.els b false)) = 0 from by simp [fitE, fK], show (decide ((0 : Int) = 0) && decide ((setV (keptL a.els b false)).els = [])) = decide (keptL a.els b false = []) from by rw [decide_eq_true rfl, Bool.true_and]; rfl] at ci
  have hC := has_any _ x (gK b true) gx (by have := nK b true; omega)
  rw [E.c] at hC
  have hM := has_any _ x (gK b false) gx (by have := nK b false; omega)
  rw [E.m] at hM
  have hL := has_any _ x (gK (setV [x]) false) gx (by have := nK (setV [x]) false; omega)
  rw [E.l] at hL
  have lU := setF_len (a.els ++ b.els)
  have lW := setF_len (a.els ++ [x])
  have eU1 : nodes (setV (setF (a.els ++ b.els))) = 1 + nodesL (setF (a.els ++ b.els)) := nodes_eq _
  have eU2 := setF_nodes _ gab
  rw [nodesL_append] at eU2
  have eW1 : nodes (setV (setF (a.els ++ [x]))) = 1 + nodesL (setF (a.els ++ [x])) := nodes_eq _
  have eW2 := setF_nodes _ gax
  rw [nodesL_append] at eW2
  have ena := nodes_eq a
  have enb := nodes_eq b
  have enx : nodesL [x] = nodes x := by simp [nodesL]
  have om1 : nodes omV = 1 := rfl
  obtain ⟨U, eU, cu, gU', nU, hU⟩ : ∃ U eU, Gives Tryz.prog 65 [a.pv, b.pv] (outP U eU) ∧ good U ∧ nodes U < 100000 ∧ (eU = 0 → hasF U x = (isF a.els x || isF b.els x) ∧ decide (keptL a.els b false = []) = sameV U b) := by
    refine ⟨_, _, cu, fitV_good gU, ?_, ?_⟩
    · rcases fit_cases (setV (setF (a.els ++ b.els))) with ⟨h, _⟩ | ⟨h, _⟩ <;> rw [h] <;> omega
    · intro h0
      rcases fit_cases (setV (setF (a.els ++ b.els))) with ⟨h, _⟩ | ⟨_, h⟩
      · rw [h]; exact ⟨E.u, E.i⟩
      · rw [h] at h0; omega
  obtain ⟨W, eW, cw, gW', nW, hW⟩ : ∃ U eU, Gives Tryz.prog 63 [a.pv, x.pv] (outP U eU) ∧ good U ∧ nodes U < 100000 ∧ (eU = 0 → hasF U x = true ∧ isF a.els x = sameV U a) := by
    refine ⟨_, _, cw, fitV_good gW, ?_, ?_⟩
    · rcases fit_cases (setV (setF (a.els ++ [x]))) with ⟨h, _⟩ | ⟨h, _⟩ <;> rw [h] <;> omega
    · intro h0
      rcases fit_cases (setV (setF (a.els ++ [x]))) with ⟨h, _⟩ | ⟨_, h⟩
      · rw [h]; exact ⟨E.w, E.s⟩
      · rw [h] at h0; omega
  have hUx := has_any U x gU' gx (by omega)
  have hWx := has_any W x gW' gx (by omega)
  have sUb := ref_same U b gU'.2 hb
  have sWa := ref_same W a gW'.2 ha
  have sLa := ref_same (setV (keptL a.els (setV [x]) false)) a (gK _ _).2 ha
  have hk := E.k
  have hn := E.n
  obtain ⟨C, eC⟩ : ∃ C, C = keptL a.els b true := ⟨_, rfl⟩
  obtain ⟨M, eM⟩ : ∃ C, C = keptL a.els b false := ⟨_, rfl⟩
  obtain ⟨L, eL⟩ : ∃ C, C = keptL a.els (setV [x]) false := ⟨_, rfl⟩
  rw [← eC] at hC cc hn
  rw [← eM] at hM cm hn ci hU
  rw [← eL] at hL cl sLa hk
  obtain ⟨o1, ho1⟩ : ∃ o, o = isF a.els x := ⟨_, rfl⟩
  obtain ⟨o2, ho2⟩ : ∃ o, o = isF b.els x := ⟨_, rfl⟩
  rw [← ho1] at c1 hC hM hU hW hk
  rw [← ho2] at c2 hC hM hU
  obtain ⟨T, hT⟩ : ∃ T, T = decide (M = []) := ⟨_, rfl⟩
  rw [← hT] at ci hU
  clear E gK fK nK lU lW eU1 eU2 eW1 eW2 ena enb enx om1 gab gax gU gW h1 h2
  have F := (aand @a8 @b8); refine tFg ?_; (try clear F)
  refine tSa ?_
  refine tS1 fun K Kp hK hKp => ?_; refine Gives.at (c1) ?_; apply hK; clear hK hKp K Kp
  refine tS ?_
  refine tS1 fun K Kp hK hKp => ?_; refine Gives.at (c2) ?_; apply hK; clear hK hKp K Kp
  refine tS ?_
  refine tS1 fun K Kp hK hKp => ?_; refine Gives.at (cu) ?_; apply hK; clear hK hKp K Kp
  refine tS ?_
  refine tS1 fun K Kp hK hKp => ?_; refine Gives.at (cc) ?_; apply hK; clear hK hKp K Kp
  refine tS ?_
  refine tS1 fun K Kp hK hKp => ?_; refine Gives.at (cm) ?_; apply hK; clear hK hKp K Kp
  refine tS ?_
  refine tS1 fun K Kp hK hKp => ?_; refine Gives.at (cw) ?_; apply hK; clear hK hKp K Kp
  refine tS ?_
  refine tS1 fun K Kp hK hKp => ?_; refine Gives.at (cl) ?_; apply hK; clear hK hKp K Kp
  refine tS ?_
  refine tS1 fun K Kp hK hKp => ?_; refine Gives.at (ci) ?_; apply hK; clear hK hKp K Kp
  refine tS ?_
  refine AList.gen fun mm hmm => ?_
  have g0 : mm.loc m.nloc = some a.cells := by rw [hmm]; simp [Nat.add_assoc]
  have g1 : mm.loc (m.nloc + 1) = some b.cells := by rw [hmm]; simp [Nat.add_assoc] <;> (intros; omega)
  have g2 : mm.loc (m.nloc + 2) = some x.cells := by rw [hmm]; simp [Nat.add_assoc] <;> (intros; omega)
  have g3 : mm.loc (m.nloc + 3) = some U.cells := by rw [hmm]; simp [Nat.add_assoc] <;> (intros; omega)
  have g4 : mm.loc (m.nloc + 4) = some (setV C).cells := by rw [hmm]; simp [Nat.add_assoc] <;> (intros; omega)
  have g5 : mm.loc (m.nloc + 5) = some (setV M).cells := by rw [hmm]; simp [Nat.add_assoc] <;> (intros; omega)
  have g6 : mm.loc (m.nloc + 6) = some W.cells := by rw [hmm]; simp [Nat.add_assoc] <;> (intros; omega)
  have g7 : mm.loc (m.nloc + 7) = some (setV L).cells := by rw [hmm]; simp [Nat.add_assoc] <;> (intros; omega)
  have nn : mm.nloc = m.nloc + 8 := by rw [hmm]; simp [Nat.add_assoc]
  have sm : Same m mm := by rw [hmm]; exact Same.auto
  clear hmm
  have n0 : m.nloc < mm.nloc := by omega
  have n1 : m.nloc + 1 < mm.nloc := by omega
  have n2 : m.nloc + 2 < mm.nloc := by omega
  have n3 : m.nloc + 3 < mm.nloc := by omega
  have n4 : m.nloc + 4 < mm.nloc := by omega
  have n5 : m.nloc + 5 < mm.nloc := by omega
  have n6 : m.nloc + 6 < mm.nloc := by omega
  have n7 : m.nloc + 7 < mm.nloc := by omega
  have F := (aand @g2 (aand @g4 (aand @n2 @n4))); refine tFg ?_; (try clear F)
  refine tSc (hC) ?_
  have F := (aand @g2 (aand @g5 (aand @n2 @n5))); refine tFp ?_; (try clear F)
  refine tSc (hM) ?_
  have F := (aand @g2 (aand @g7 (aand @n2 @n7))); refine tFp ?_; (try clear F)
  refine tSc (hL) ?_
  refine tSp ?_
  refine AW.condF (by simp [upd_lit]) ?_
  have F := (aand @g2 (aand @g3 (aand @n2 @n3))); refine tFp ?_; (try clear F)
  refine tSc (hUx) ?_
  have F := (aand @g1 (aand @g3 (aand @n1 @n3))); refine tFp ?_; (try clear F)
  refine tSC (sUb) ?_
  have F := (aand @g2 (aand @g6 (aand @n2 @n6))); refine tFp ?_; (try clear F)
  refine tSC (hWx) ?_
  have F := (aand @g0 (aand @g6 (aand @n0 @n6))); refine tFp ?_; (try clear F)
  refine tSC (sWa) ?_
  refine tSp ?_
  have eA : (decide (eU = 0) && (!(hasF U x == (o1 || o2)) || !(T == sameV U b))) = false := by
    by_cases h : eU = 0
    · have := hU h; simp [h, this.1, ← this.2]
    · simp [h]
  have eB : (decide (eW = 0) && (!hasF W x || !(o1 == sameV W a))) = false := by
    by_cases h : eW = 0
    · have := hW h; simp [h, this.1, ← this.2]
    · simp [h]
  refine AW.condF (by simp [upd_lit, eA, eB]) ?_
  have hT' : decide (M = []) = T := hT.symm
  have hn' : (C.length : Int) + M.length = a.els.length := by omega
  have lC : C.length ≤ 400 := by omega
  have lM : M.length ≤ 400 := by omega
  have sC : (setV C).els = C := rfl
  have sM : (setV M).els = M := rfl
  have F := (aand @g0 (aand @g4 (aand @g5 (aand @g7 (aand @n0 (aand @n4 (aand @n5 (aand @n7 (aand @sC (aand @sM (aand @hn' @hT'))))))))))); refine tFp ?_; (try clear F)
  refine tSc (sLa) ?_
  refine tSp ?_
  have eC2 : (!o1 && !sameV (setV L) a) = false := by
    cases h : o1
    · rw [hk h, sameV_refl]; rfl
    · rfl
  refine AW.condF (by simp [upd_lit, eC2]) ?_
  have F := (aand @g0 @n0); refine tF ?_; (try clear F)
  refine AW.nilS (d := 21) (by simp [upd_lit]) ?_
  have hset := back_set fa a8
  refine AW.loop (ι := Nat) (fun r σ m' => r ≤ a.els.length ∧ σ 22 = vI ((r : Int) - 1) ∧ σ 3 = .loc m.nloc 0 ∧ (∃ o, σ 21 = .list o (GV.rows (bkL a.els (a.els.length - r))) ∧ Ow mm m' o 6 (bkL a.els (a.els.length - r)).length)) (fun r => r) a.els.length ?_ ?_
  · exact ⟨by simp, by simp [upd_lit], by simp [upd_lit], .full, by simp [upd_lit, bkL, GV.rows], by simpa [bkL] using Ow.full (Same.refl mm)⟩
  rintro r σ m' ⟨hr, t22, t3, o, t21, ho⟩
  have q0 : m.nloc < m'.nloc := Nat.lt_of_lt_of_le n0 ho.same.lloc
  have k0 : m'.loc m.nloc = some a.cells := (ho.same.get n0).trans g0
  cases r with
  | zero =>
    rw [show a.els.length - 0 = a.els.length from rfl] at t21
    have t22' : σ 22 = vI (-1) := by rw [t22]; rfl
    have F := @t22'; refine tFa ?_; (try clear F)
    have F := @t21; refine tF ?_; (try clear F)
    have F := @t21; refine tF1 fun K Kp hK hKp => ?_; (try clear F); refine Gives.at (hset) ?_; apply hK; clear hK hKp K Kp
    refine tS ?_
    refine tS1 fun K Kp hK hKp => ?_; refine Gives.at (sanity) ?_; apply hK; clear hK hKp K Kp
    have hsa := ref_same a a ha ha
    rw [sameV_refl] at hsa
    have hne : m.nloc ≠ m'.nloc := by omega
    have q0' : m.nloc < m'.nloc + 1 := by omega
    have F := (aand @t3 (aand @k0 (aand @q0' @hne))); refine tFg ?_; (try clear F)
    refine tSc (hsa) ?_
    refine tSg ?_
    exact Fin.gives (((sm.trans ho.same).newLoc _).setLoc (by have := ho.same.lloc; omega) _)
  | succ q =>
    obtain ⟨p, hp⟩ : ∃ p, p = a.els.length - (q + 1) := ⟨_, rfl⟩
    have e1 : ((q + 1 : Nat) : Int) - 1 = (q : Int) := by omega
    rw [e1] at t22
    have hq : q < a.els.length := by omega
    have hpl : p < a.els.length := by omega
    have ep : (a.els.length : Int) - 1 - q = p := by omega
    have e2 : a.els.length - q = p + 1 := by omega
    have hb := bkL_succ a.els p
    rw [show a.els.length - 1 - p = q from by omega, List.getElem?_eq_getElem hq, List.getElem?_eq_getElem hpl, Option.getD_some, Option.getD_some] at hb
    have hbl := bkL_len a.els p
    rw [← hp] at t21 ho
    have hq0 : (0 : Int) ≤ q := by omega
    have F := (aand @t22 @hq0); refine tFa ?_; (try clear F)
    repeat (first | refine AW.seq ?_ | refine AW.block ?_ | refine AW.skip ?_ | refine AExit.norT ?_ | refine AExit.norB ?_ | refine AList.nil ?_)
    refine AW.draw [.S, .S, .R, .S, .S, .R, .S, .R, .S, .R, .S, .S, .S, .S, .S, .R, .S, .W, .S] (by decide +kernel) ?_; have F := (aand @t21 (aand @t3 (aand @t22 (aand @k0 (aand @q0 (aand @hq (aand @hpl (aand @ep @rows_getD)))))))); refine dST 0 ?_; refine dST 1 ?_; refine dRT 2 ?_; refine dST 3 ?_; refine dST 4 ?_; refine dRT 5 ?_; refine dST 6 ?_; refine dRT 7 ?_; refine dST 8 ?_; refine dRT 9 ?_; refine dST 10 ?_; refine dST 11 ?_; refine dST 12 ?_; refine dST 13 ?_; refine dST 14 ?_; refine dRT 15 ?_; refine dST 16 ?_; (try clear F); refine DA.W (oi := ?oiw1) 17 ?aw1 ?bw1 ?cw1 ?dw1 ?ew1 ?fw1; (case aw1 => rfl); (case bw1 => decide +kernel); (case cw1 => rfl); (case dw1 => rfl); (case ew1 => decide); intro K Kp hK hKp; (simp [t21, upd_lit]; refine app25 (l' := [a.els[q], a.els[p]]) ho rfl (by simp; omega) fun o' m'' ho' hs => hK _ _ ?_; clear hK hKp K Kp); have F := (aand @t21 (aand @t3 (aand @t22 (aand @k0 (aand @q0 (aand @hq (aand @hpl (aand @ep @rows_getD)))))))); refine dST 18 ?_; (try clear F); first | refine dN ?_ | refine dB ?_ | refine DA.done (by decide +kernel) ?_
    have F := @t22; refine tF ?_; (try clear F)
    exact ⟨q, ⟨by omega, by simp [upd_lit], by simp [upd_lit, t3], o', by simp [upd_lit, e2, hb], by rw [e2, hb]; simpa using ho'⟩, by omega⟩
end Go.Proofs.YtgfadepkiejncaaGreat
