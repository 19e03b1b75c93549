/- Texts of the proof, part Ld: they prove nothing by themselves that is claimed. -/
import Derived.Test.YtgfadepkiejncaaGreatLc
import Derived.Test.YtgfadepkiejncaaGreatLb
import Derived.Sort.LotD3
import Derived.Sort.LotD1
import Derived.Sort.LotA
import Derived.Sort.LotC
import Derived.Sort.LotB
set_option linter.unusedVariables false
set_option linter.unusedSimpArgs false
namespace Go.Proofs.YtgfadepkiejncaaGreat
open Go.Ab
set_option maxHeartbeats 0
def nodeOK (v : GV) : Prop := fieldsF v = true ∧ formF v = true ∧ v.abs.length ≤ 40 ∧ v.str.size ≤ 1000
def incr : Option GV → List GV → Prop
  | _, [] => True
  | none, v :: l => incr (some v) l
  | some p, v :: l => cmpV p v < 0 ∧ incr (some v) l
mutual
def fmd : GV → Prop
  | .mk k n ng a s l => nodeOK (.mk k n ng a s l) ∧ (k = 8 → (∀ x ∈ l, x.kind ≠ 0) ∧ incr none l) ∧ fmdL l
def fmdL : List GV → Prop
  | [] => True
  | v :: l => fmd v ∧ fmdL l
end
theorem fmd_eq (v : GV) : fmd v = (nodeOK v ∧ (v.kind = 8 → (∀ x ∈ v.els, x.kind ≠ 0) ∧ incr none v.els) ∧ fmdL v.els) := by cases v; rfl
theorem fmdL_iff (l : List GV) : fmdL l ↔ ∀ x ∈ l, fmd x := by
  induction l with
  | nil => simp [fmdL]
  | cons v l ih => simp [fmdL, ih]
theorem okL_iff (l : List GV) : GV.okL l ↔ ∀ x ∈ l, x.ok := by
  induction l with
  | nil => simp [GV.okL]
  | cons v l ih => simp [GV.okL, ih]
theorem badSet_false {k : Int} {p : Option GV} {v : GV} (h : badSet k p v = false) (hk : k = 8) : v.kind ≠ 0 ∧ ∀ q, p = some q → cmpV q v < 0 := by
  subst hk
  simp [badSet] at h
  refine ⟨h.1, fun q e => ?_⟩
  subst e
  simpa using h.2
mutual
theorem fol_ok : ∀ (v : GV) (N d : Int), 0 ≤ N → (folV v N 0 d).2 = 0 → fmd v ∧ N + nodes v ≤ 3000 ∧ d + deep v ≤ 21 ∧ (folV v N 0 d).1 = N + nodes v
  | .mk k n ng a s l, N, d, hN, h => by
    simp only [folV] at h ⊢
    rw [if_neg (by simp)] at h ⊢
    split at h
    · cases h
    rename_i h1
    rw [if_neg h1]
    split at h
    · cases h
    rename_i h2
    rw [if_neg h2]
    split at h
    · cases h
    rename_i h3
    rw [if_neg h3]
    simp at h1 h2 h3
    obtain ⟨q1, q2, q3, q4⟩ := folL_ok k none l (N + 1) d (by omega) h
    have e1 : (nodes (.mk k n ng a s l) : Int) = 1 + nodesL l := by simp [nodes]
    have e2 : (deep (.mk k n ng a s l) : Int) = 1 + deepL l := by simp [deep]
    refine ⟨⟨⟨by simpa using h2.1, by simpa using h2.2, by simp only [GV.abs]; omega, by simp only [GV.str]; omega⟩, fun hk => q4 hk, q1⟩, ?_, ?_, by rw [q3]; omega⟩
    · cases l with
      | nil => simp [nodesL] at e1; omega
      | cons y l => have := (q2 (by simp)).1; omega
    · cases l with
      | nil => simp [deepL] at e2; omega
      | cons y l => have := (q2 (by simp)).2; omega
theorem folL_ok : ∀ (k : Int) (p : Option GV) (l : List GV) (N d : Int), 0 ≤ N → (folL k p l N d).2 = 0 → fmdL l ∧ (l ≠ [] → N + nodesL l ≤ 3000 ∧ d + deepL l ≤ 20) ∧ (folL k p l N d).1 = N + nodesL l ∧ (k = 8 → (∀ x ∈ l, x.kind ≠ 0) ∧ incr p l)
  | k, p, [], N, d, hN, h => by simp [folL, fmdL, nodesL, incr]
  | k, p, v :: l, N, d, hN, h => by
    simp only [folL] at h ⊢
    split at h
    · contradiction
    rename_i h1
    rw [if_neg h1]
    split at h
    · cases h
    rename_i h2
    rw [if_neg h2]
    have h1 : (folV v N 0 (d + 1)).2 = 0 := by simpa using h1
    obtain ⟨q1, q2, q3, q4⟩ := fol_ok v N (d + 1) hN h1
    rw [q4] at h ⊢
    obtain ⟨r1, r2, r3, r4⟩ := folL_ok k (some v) l (N + nodes v) d (by omega) h
    have e1 : (nodesL (v :: l) : Int) = nodes v + nodesL l := by simp [nodesL]
    have e2 : (deepL (v :: l) : Int) = max (deep v) (deepL l) := by simp [deepL]
    refine ⟨⟨q1, r1⟩, fun _ => ?_, by rw [r3]; omega, fun hk => ?_⟩
    · cases l with
      | nil => simp [nodesL, deepL] at *; omega
      | cons y l => have := r2 (by simp); omega
    · obtain ⟨s1, s2⟩ := badSet_false (Bool.eq_false_iff.2 h2) hk
      obtain ⟨s3, s4⟩ := r4 hk
      refine ⟨fun x hx => (List.mem_cons.1 hx).elim (fun e => e ▸ s1) (s3 x), ?_⟩
      cases p with
      | none => exact s4
      | some q => exact ⟨s2 q rfl, s4⟩
end
mutual
theorem fol_of : ∀ (v : GV) (N d : Int), fmd v → N + nodes v ≤ 3000 → d + deep v ≤ 21 → folV v N 0 d = (N + nodes v, 0)
  | .mk k n ng a s l, N, d, h, h1, h2 => by
    have e1 : (nodes (.mk k n ng a s l) : Int) = 1 + nodesL l := by simp [nodes]
    have e2 : (deep (.mk k n ng a s l) : Int) = 1 + deepL l := by simp [deep]
    obtain ⟨⟨g1, g2, g3, g4⟩, g5, g6⟩ := h
    simp only [GV.abs, GV.str] at g3 g4
    simp only [folV]
    rw [if_neg (by simp), if_neg (by simp; omega), if_neg (by simp [g1, g2]), if_neg (by simp; omega)]
    rw [folL_of k none l (N + 1) d g6 g5 (by omega) (by omega)]
    congr 1; omega
theorem folL_of : ∀ (k : Int) (p : Option GV) (l : List GV) (N d : Int), fmdL l → (k = 8 → (∀ x ∈ l, x.kind ≠ 0) ∧ incr p l) → N + nodesL l ≤ 3000 → d + deepL l ≤ 20 → folL k p l N d = (N + nodesL l, 0)
  | k, p, [], N, d, _, _, _, _ => by simp [folL, nodesL]
  | k, p, v :: l, N, d, h, hk, h1, h2 => by
    have e1 : (nodesL (v :: l) : Int) = nodes v + nodesL l := by simp [nodesL]
    have e2 : (deepL (v :: l) : Int) = max (deep v) (deepL l) := by simp [deepL]
    simp only [folL]
    rw [fol_of v N (d + 1) h.1 (by omega) (by omega), if_neg (by simp)]
    have hb : badSet k p v = false := by
      by_cases e : k = 8
      · obtain ⟨s1, s2⟩ := hk e
        have s1 := s1 v (by simp)
        subst e
        simp only [badSet, decide_true, Bool.true_and, decide_eq_false s1, Bool.false_or]
        cases p with
        | none => rfl
        | some q => have := s2.1; simp; omega
      · simp [badSet, e]
    rw [if_neg (by rw [hb]; simp)]
    rw [folL_of k (some v) l (N + nodes v) d h.2 (fun e => ?_) (by omega) (by omega)]
    · congr 1; omega
    · obtain ⟨s1, s2⟩ := hk e
      refine ⟨fun x hx => s1 x (by simp [hx]), ?_⟩
      cases p with
      | none => exact s2
      | some q => exact s2.2
end
theorem checkF_ok {v : GV} : checkF v = 0 ↔ fmd v ∧ nodes v ≤ 3000 ∧ deep v ≤ 20 := by
  unfold checkF
  constructor
  · intro h
    obtain ⟨h1, h2, h3, _⟩ := fol_ok v 0 1 (by omega) h
    exact ⟨h1, by omega, by omega⟩
  · rintro ⟨h1, h2, h3⟩
    rw [fol_of v 0 1 h1 (by omega) (by omega)]
theorem fmd.node {v : GV} (h : fmd v) : nodeOK v := by rw [fmd_eq] at h; exact h.1
theorem fmd.els {v : GV} (h : fmd v) : ∀ x ∈ v.els, fmd x := by rw [fmd_eq] at h; exact (fmdL_iff _).1 h.2.2
theorem ok_els {v : GV} (h : v.ok) : ∀ x ∈ v.els, x.ok := (okL_iff _).1 h.els
theorem node_kind {v : GV} (h : nodeOK v) : 0 ≤ v.kind ∧ v.kind ≤ 8 := by
  have := h.1
  unfold fieldsF at this
  simp only at this
  split at this
  · cases this
  rename_i h1
  simp at h1
  omega
theorem node_fields {v : GV} (h : nodeOK v) : (v.kind ≠ 2 → v.kind ≠ 3 → v.neg = false ∧ v.abs = []) ∧ (v.kind ≠ 4 → v.str.toList = []) ∧ (v.kind ≠ 7 → v.kind ≠ 8 → v.els = []) ∧ (v.kind ≠ 1 → v.kind ≠ 3 → v.kind ≠ 5 → v.kind ≠ 6 → v.num = 0) := by
  have := h.1
  unfold fieldsF at this
  simp only at this
  split at this
  · cases this
  split at this
  · cases this
  rename_i h2
  split at this
  · cases this
  rename_i h3
  simp at h2 h3 this
  refine ⟨fun a b => ?_, fun a => ?_, fun a b => ?_, fun a b c d => ?_⟩
  · have := h2 a b
    exact ⟨this.1, this.2⟩
  · exact h3.1 a
  · exact h3.2 a b
  · rcases this with (((this | this) | this) | this) | this <;> first | exact this | exact absurd this a | exact absurd this b | exact absurd this c | exact absurd this d
theorem node_int {v : GV} (h : nodeOK v) (hk : v.kind = 2 ∨ v.kind = 3) : intOK v.neg v.abs := by
  have := h.2.1
  unfold formF at this
  simp only at this
  rw [if_neg (by omega), if_neg (by omega), if_neg (by omega), if_pos hk] at this
  split at this
  · cases this
  rename_i h1
  simp [lastZ] at h1
  have h2 := h.2.2.1
  refine ⟨by omega, fun e => ?_, fun e => ?_⟩
  · have := h1.2 e
    simpa using this
  · have := h1.1 (List.length_pos_iff.2 e)
    simpa using this
theorem node_dec {v : GV} (h : nodeOK v) (hk : v.kind = 3) : 1 ≤ v.num ∧ v.num ≤ 20 ∧ (v.num = 1 ∨ tensF v.abs = false) := by
  have := h.2.1
  unfold formF at this
  simp only at this
  rw [if_neg (by omega), if_neg (by omega), if_neg (by omega), if_pos (.inr hk)] at this
  split at this
  · cases this
  simp at this
  exact ⟨this.1.1, this.1.2, this.2⟩
def scaledV (v : GV) : Int := sgn v.neg (valN v.abs) * 10 ^ (20 - v.num).toNat
theorem pow10_pos (n : Nat) : (0 : Int) < 10 ^ n := Int.pow_pos (by decide)
theorem nF_mul (a b : Int) (n : Nat) : numbersF (a * 10 ^ n) (b * 10 ^ n) = numbersF a b := by
  have hp := pow10_pos n
  unfold numbersF
  by_cases h1 : a < b
  · rw [if_pos h1, if_pos (Int.mul_lt_mul_of_pos_right h1 hp)]
  by_cases h2 : b < a
  · rw [if_neg h1, if_pos h2, if_neg, if_pos (Int.mul_lt_mul_of_pos_right h2 hp)]
    have := Int.mul_lt_mul_of_pos_right h2 hp
    omega
  have : a = b := by omega
  subst this
  simp
theorem sgn_mul (n : Bool) (x y : Int) : sgn n (x * y) = sgn n x * y := by cases n <;> simp [sgn, Int.neg_mul]
theorem node_scOK {v : GV} (h : nodeOK v) (hv : v.ok) (hk : v.kind = 3) : scOK v := ⟨node_int h (.inr hk), hv.limb, h.2.2.1, (node_dec h hk).1, (node_dec h hk).2.1⟩
theorem decF_val {a b : GV} (ha : scOK a) (hb : scOK b) : decF a b = numbersF (scaledV a) (scaledV b) := by
  obtain ⟨a1, a2, a3, a4, a5⟩ := ha
  obtain ⟨b1, b2, b3, b4, b5⟩ := hb
  have ga := tens10_good (b.num - a.num).toNat a.neg a.abs a1 a2 (by omega)
  have gb := tens10_good (a.num - b.num).toNat b.neg b.abs b1 b2 (by omega)
  rw [decF, intsF_val ga.1 gb.1 ga.2 gb.2, valN_tens10 _ _ a2, valN_tens10 _ _ b2, sgn_mul, sgn_mul]
  unfold scaledV
  rw [← nF_mul _ _ (20 - max a.num b.num).toNat, Int.mul_assoc, Int.mul_assoc, ← Int.pow_add, ← Int.pow_add]
  congr 2
  · congr 1; omega
  · congr 1; omega
theorem dec_inj {a b : GV} (na : nodeOK a) (nb : nodeOK b) (oa : a.ok) (ob : b.ok) (ka : a.kind = 3) (kb : b.kind = 3) (h : scaledV a = scaledV b) : a.num = b.num ∧ a.neg = b.neg ∧ a.abs = b.abs := by
  have key : ∀ {a b : GV}, nodeOK a → nodeOK b → a.ok → b.ok → a.kind = 3 → b.kind = 3 → scaledV a = scaledV b → ¬ a.num < b.num := by
    intro a b na nb oa ob ka kb h hlt
    obtain ⟨a1, a2, a3⟩ := node_dec na ka
    obtain ⟨b1, b2, b3⟩ := node_dec nb kb
    have hb : valN b.abs % 10 ≠ 0 := by
      rcases b3 with b3 | b3
      · omega
      · rw [tensF_val] at b3; simpa using b3
    unfold scaledV at h
    obtain ⟨d, hd⟩ : ∃ d : Nat, (20 - a.num).toNat = (20 - b.num).toNat + (d + 1) := ⟨(b.num - a.num).toNat - 1, by omega⟩
    rw [hd, Nat.add_comm, Int.pow_add, ← Int.mul_assoc] at h
    have h2 := Int.eq_of_mul_eq_mul_right (Int.ne_of_gt (pow10_pos _)) h
    rw [Int.pow_succ, ← Int.mul_assoc] at h2
    obtain ⟨t, ht⟩ : ∃ t, t = sgn a.neg (valN a.abs) * 10 ^ d := ⟨_, rfl⟩
    rw [← ht] at h2
    cases e : b.neg <;> rw [e] at h2 <;> simp [sgn] at h2 <;> omega
  have e : a.num = b.num := by
    have := key na nb oa ob ka kb h
    have := key nb na ob oa kb ka h.symm
    omega
  refine ⟨e, ?_⟩
  unfold scaledV at h
  rw [e] at h
  exact sgn_inj (node_int na (.inr ka)) (node_int nb (.inr kb)) oa.limb ob.limb (Int.eq_of_mul_eq_mul_right (Int.ne_of_gt (pow10_pos _)) h)
end Go.Proofs.YtgfadepkiejncaaGreat
namespace Go.Proofs.YtgfadepkiejncaaGreat
open Go.Ab
set_option maxHeartbeats 0
theorem cmpAt_neg (a b : List Int) : ∀ n, cmpAt b a n = - cmpAt a b n
  | 0 => rfl
  | n + 1 => by
    simp only [cmpAt, cmpAt_neg a b n]
    generalize a.getD n 0 = x, b.getD n 0 = y
    rcases Int.lt_trichotomy x y with h | h | h
    · rw [if_neg (by omega), if_pos h, if_pos h]; rfl
    · subst h; simp
    · rw [if_pos h, if_neg (by omega), if_pos h]
theorem sizeF_neg (a b : List Int) : sizeF b a = - sizeF a b := by
  unfold sizeF
  by_cases h : a.length = b.length
  · rw [if_neg (by omega), if_neg (by omega), h]; exact cmpAt_neg a b _
  · rw [if_pos (by omega), if_pos h]
    by_cases h1 : a.length < b.length
    · rw [if_neg (by omega), if_pos h1]; rfl
    · rw [if_pos (by omega), if_neg h1]
theorem intsF_neg (n n' : Bool) (a a' : List Int) : intsF n' a' n a = - intsF n a n' a' := by
  cases n <;> cases n' <;> simp [intsF]
  · exact sizeF_neg a a'
  · exact sizeF_neg a' a
mutual
theorem cmp_neg : ∀ a b : GV, cmpV b a = - cmpV a b
  | .mk k n ng x s l, .mk k' n' ng' x' s' l' => by
    have hL := cmpL_neg l l'
    simp only [cmpV]
    by_cases hk : k = k'
    · subst hk
      rw [if_neg (show ¬ (k ≠ k) from fun e => e rfl), if_neg (show ¬ (k ≠ k) from fun e => e rfl)]
      by_cases h2 : k = 2
      · rw [if_pos h2, if_pos h2]; exact intsF_neg _ _ _ _
      rw [if_neg h2, if_neg h2]
      by_cases h3 : k = 3
      · rw [if_pos h3, if_pos h3]; exact intsF_neg _ _ _ _
      rw [if_neg h3, if_neg h3]
      by_cases h4 : k = 4
      · rw [if_pos h4, if_pos h4]; exact strF_neg _ _
      rw [if_neg h4, if_neg h4]
      by_cases h7 : k = 7 ∨ k = 8
      · rw [if_pos h7, if_pos h7]
        by_cases hl : l.length = l'.length
        · rw [if_neg (by omega), if_neg (by omega)]; exact hL
        · rw [if_pos (by omega), if_pos hl]; exact nF_neg _ _
      rw [if_neg h7, if_neg h7]; exact nF_neg _ _
    · rw [if_pos (fun e => hk e.symm), if_pos hk]; exact nF_neg _ _
theorem cmpL_neg : ∀ a b : List GV, cmpL b a = - cmpL a b
  | [], [] => rfl
  | [], _ :: _ => rfl
  | _ :: _, [] => rfl
  | x :: a, y :: b => by
    have h1 := cmp_neg x y
    have h2 := cmpL_neg a b
    simp only [cmpL]
    by_cases h : cmpV x y = 0
    · rw [if_neg (by omega), if_neg (by omega)]; exact h2
    · rw [if_pos (by omega), if_pos h]; exact h1
end
theorem cmp_self (a : GV) : cmpV a a = 0 := by have := cmp_neg a a; omega
def good (v : GV) : Prop := fmd v ∧ v.ok
theorem good.els {v : GV} (h : good v) : ∀ x ∈ v.els, good x := fun x hx => ⟨h.1.els x hx, ok_els h.2 x hx⟩
theorem cmp_same_kind {a b : GV} (h : a.kind = b.kind) : cmpV a b = if a.kind = 2 then intsF a.neg a.abs b.neg b.abs else
    if a.kind = 3 then decF a b else
    if a.kind = 4 then strF a.str b.str else
    if a.kind = 7 ∨ a.kind = 8 then (if a.els.length ≠ b.els.length then numbersF a.els.length b.els.length else cmpL a.els b.els) else numbersF a.num b.num := by
  rw [cmpV_eq, if_neg (by simp [h])]
theorem cmp_diff_kind {a b : GV} (h : a.kind ≠ b.kind) : cmpV a b = numbersF a.kind b.kind := by rw [cmpV_eq, if_pos h]
theorem gv_ext {a b : GV} (h1 : a.kind = b.kind) (h2 : a.num = b.num) (h3 : a.neg = b.neg) (h4 : a.abs = b.abs) (h5 : a.str = b.str) (h6 : a.els = b.els) : a = b := by
  cases a; cases b; simp [GV.kind, GV.num, GV.neg, GV.abs, GV.str, GV.els] at *; exact ⟨h1, h2, h3, h4, h5, h6⟩
mutual
theorem cmp_zero : ∀ a b : GV, good a → good b → cmpV a b = 0 → a = b
  | .mk k n ng x s l, b, ga, gb, h => by
    have hL := cmpL_zero l b.els (fun y hy => ga.els y (by simp only [GV.els]; exact hy)) gb.els
    obtain ⟨a, ea⟩ : ∃ a : GV, a = .mk k n ng x s l := ⟨_, rfl⟩
    have el : l = a.els := by rw [ea]; rfl
    rw [← ea] at ga h ⊢
    rw [el] at hL
    by_cases hk : a.kind = b.kind
    · rw [cmp_same_kind hk] at h
      have fa := node_fields ga.1.node
      have fb := node_fields gb.1.node
      obtain ⟨a1, a2, a3, a4⟩ := fa
      obtain ⟨b1, b2, b3, b4⟩ := fb
      by_cases h2 : a.kind = 2
      · rw [if_pos h2, intsF_val (node_int ga.1.node (.inl h2)) (node_int gb.1.node (.inl (hk ▸ h2))) ga.2.limb gb.2.limb, nF_zero] at h
        obtain ⟨e1, e2⟩ := sgn_inj (node_int ga.1.node (.inl h2)) (node_int gb.1.node (.inl (hk ▸ h2))) ga.2.limb gb.2.limb h
        exact gv_ext hk (by rw [a4 (by omega) (by omega) (by omega) (by omega), b4 (by omega) (by omega) (by omega) (by omega)]) e1 e2 (str_ext (by rw [a2 (by omega), b2 (by omega)])) (by rw [a3 (by omega) (by omega), b3 (by omega) (by omega)])
      rw [if_neg h2] at h
      by_cases h3 : a.kind = 3
      · rw [if_pos h3, decF_val (node_scOK ga.1.node ga.2 h3) (node_scOK gb.1.node gb.2 (hk ▸ h3)), nF_zero] at h
        obtain ⟨e0, e1, e2⟩ := dec_inj ga.1.node gb.1.node ga.2 gb.2 h3 (hk ▸ h3) h
        exact gv_ext hk e0 e1 e2 (str_ext (by rw [a2 (by omega), b2 (by omega)])) (by rw [a3 (by omega) (by omega), b3 (by omega) (by omega)])
      rw [if_neg h3] at h
      obtain ⟨a1, a1'⟩ := a1 h2 h3
      obtain ⟨b1, b1'⟩ := b1 (by omega) (by omega)
      by_cases h4 : a.kind = 4
      · rw [if_pos h4, strF_zero] at h
        exact gv_ext hk (by rw [a4 (by omega) (by omega) (by omega) (by omega), b4 (by omega) (by omega) (by omega) (by omega)]) (by rw [a1, b1]) (by rw [a1', b1']) h (by rw [a3 (by omega) (by omega), b3 (by omega) (by omega)])
      rw [if_neg h4] at h
      have hs : a.str = b.str := str_ext (by rw [a2 h4, b2 (by omega)])
      by_cases h7 : a.kind = 7 ∨ a.kind = 8
      · rw [if_pos h7] at h
        split at h
        · rename_i hl; rw [nF_zero] at h; omega
        rename_i hl
        exact gv_ext hk (by rw [a4 (by omega) (by omega) (by omega) (by omega), b4 (by omega) (by omega) (by omega) (by omega)]) (by rw [a1, b1]) (by rw [a1', b1']) hs (hL (by omega) h)
      · rw [if_neg h7, nF_zero] at h
        exact gv_ext hk h (by rw [a1, b1]) (by rw [a1', b1']) hs (by rw [a3 (by omega) (by omega), b3 (by omega) (by omega)])
    · rw [cmp_diff_kind hk, nF_zero] at h
      exact absurd h hk
theorem cmpL_zero : ∀ a b : List GV, (∀ x ∈ a, good x) → (∀ x ∈ b, good x) → a.length = b.length → cmpL a b = 0 → a = b
  | [], [], _, _, _, _ => rfl
  | [], _ :: _, _, _, h, _ => by simp at h
  | _ :: _, [], _, _, h, _ => by simp at h
  | x :: a, y :: b, ga, gb, hl, h => by
    simp only [cmpL] at h
    split at h
    · contradiction
    · rename_i h1
      have h1 : cmpV x y = 0 := by simpa using h1
      rw [cmp_zero x y (ga x (by simp)) (gb y (by simp)) h1, cmpL_zero a b (fun z hz => ga z (by simp [hz])) (fun z hz => gb z (by simp [hz])) (by simpa using hl) h]
end
mutual
theorem cmp_trans : ∀ a b c : GV, good a → good b → good c → cmpV a b < 0 → cmpV b c < 0 → cmpV a c < 0
  | .mk k n ng x s l, b, c, ga, gb, gc, h1, h2 => by
    have hL := cmpL_trans l b.els c.els (fun y hy => ga.els y (by simp only [GV.els]; exact hy)) gb.els gc.els
    obtain ⟨a, ea⟩ : ∃ a : GV, a = .mk k n ng x s l := ⟨_, rfl⟩
    have el : l = a.els := by rw [ea]; rfl
    rw [← ea] at ga h1 ⊢
    rw [el] at hL
    by_cases kab : a.kind = b.kind
    · by_cases kbc : b.kind = c.kind
      · have kac : a.kind = c.kind := kab.trans kbc
        rw [cmp_same_kind kab] at h1
        rw [cmp_same_kind kbc, ← kab] at h2
        rw [cmp_same_kind kac]
        by_cases e2 : a.kind = 2
        · have ia := node_int ga.1.node (.inl e2)
          have ib := node_int gb.1.node (.inl (kab ▸ e2))
          have ic := node_int gc.1.node (.inl (kac ▸ e2))
          rw [if_pos e2, intsF_val ia ib ga.2.limb gb.2.limb, nF_lt] at h1
          rw [if_pos e2, intsF_val ib ic gb.2.limb gc.2.limb, nF_lt] at h2
          rw [if_pos e2, intsF_val ia ic ga.2.limb gc.2.limb, nF_lt]
          omega
        rw [if_neg e2] at h1 h2 ⊢
        by_cases e3 : a.kind = 3
        · have ia := node_scOK ga.1.node ga.2 e3
          have ib := node_scOK gb.1.node gb.2 (kab ▸ e3)
          have ic := node_scOK gc.1.node gc.2 (kac ▸ e3)
          rw [if_pos e3, decF_val ia ib, nF_lt] at h1
          rw [if_pos e3, decF_val ib ic, nF_lt] at h2
          rw [if_pos e3, decF_val ia ic, nF_lt]
          omega
        rw [if_neg e3] at h1 h2 ⊢
        by_cases e4 : a.kind = 4
        · rw [if_pos e4, strF_lt] at h1 h2 ⊢
          exact bl_trans _ _ _ h1 h2
        rw [if_neg e4] at h1 h2 ⊢
        by_cases e7 : a.kind = 7 ∨ a.kind = 8
        · rw [if_pos e7] at h1 h2 ⊢
          by_cases l1 : a.els.length = b.els.length
          · rw [if_neg (by omega)] at h1
            by_cases l2 : b.els.length = c.els.length
            · rw [if_neg (by omega)] at h2 ⊢
              exact hL l1 l2 h1 h2
            · rw [if_pos l2, nF_lt] at h2
              rw [if_pos (by omega), nF_lt]; omega
          · rw [if_pos l1, nF_lt] at h1
            by_cases l2 : b.els.length = c.els.length
            · rw [if_pos (by omega), nF_lt]; omega
            · rw [if_pos l2, nF_lt] at h2
              rw [if_pos (by omega), nF_lt]; omega
        · rw [if_neg e7, nF_lt] at h1 h2 ⊢
          omega
      · rw [cmp_diff_kind kbc, nF_lt] at h2
        rw [cmp_diff_kind (by omega), nF_lt]; omega
    · rw [cmp_diff_kind kab, nF_lt] at h1
      by_cases kbc : b.kind = c.kind
      · rw [cmp_diff_kind (by omega), nF_lt]; omega
      · rw [cmp_diff_kind kbc, nF_lt] at h2
        rw [cmp_diff_kind (by omega), nF_lt]; omega
theorem cmpL_trans : ∀ a b c : List GV, (∀ x ∈ a, good x) → (∀ x ∈ b, good x) → (∀ x ∈ c, good x) → a.length = b.length → b.length = c.length → cmpL a b < 0 → cmpL b c < 0 → cmpL a c < 0
  | [], b, c, _, _, _, _, _, h, _ => by simp [cmpL] at h
  | _ :: _, [], _, _, _, _, h, _, _, _ => by simp at h
  | _ :: _, _ :: _, [], _, _, _, _, h, _, _ => by simp at h
  | x :: a, y :: b, z :: c, ga, gb, gc, l1, l2, h1, h2 => by
    have gx := ga x (by simp)
    have gy := gb y (by simp)
    have gz := gc z (by simp)
    have hx := cmp_trans x y z gx gy gz
    have hL := cmpL_trans a b c (fun w hw => ga w (by simp [hw])) (fun w hw => gb w (by simp [hw])) (fun w hw => gc w (by simp [hw])) (by simpa using l1) (by simpa using l2)
    simp only [cmpL] at h1 h2 ⊢
    by_cases e1 : cmpV x y = 0
    · rw [if_neg (by omega)] at h1
      have := cmp_zero x y gx gy e1
      subst this
      by_cases e2 : cmpV x z = 0
      · rw [if_neg (by omega)] at h2 ⊢
        exact hL h1 h2
      · rw [if_pos e2] at h2 ⊢
        exact h2
    · rw [if_pos e1] at h1
      by_cases e2 : cmpV y z = 0
      · have := cmp_zero y z gy gz e2
        subst this
        rw [if_pos e1]
        exact h1
      · rw [if_pos e2] at h2
        have := hx h1 h2
        rw [if_pos (by omega)]
        exact this
end
mutual
theorem sameV_iff : ∀ a b : GV, sameV a b = true ↔ a = b
  | .mk k n ng x s l, .mk k' n' ng' x' s' l' => by
    have hL := sameL_iff l l'
    simp only [sameV, sameInt]
    simp
    constructor
    · rintro ⟨⟨⟨⟨⟨h1, h2⟩, h3⟩, h4⟩, h5, h6⟩, h7⟩
      exact ⟨h1, h2, h5, h6, str_ext h3, (hL h4).1 h7⟩
    · rintro ⟨rfl, rfl, rfl, rfl, rfl, rfl⟩
      exact ⟨⟨⟨⟨⟨rfl, rfl⟩, rfl⟩, rfl⟩, rfl, rfl⟩, (hL rfl).2 rfl⟩
theorem sameL_iff : ∀ a b : List GV, a.length = b.length → (sameL a b = true ↔ a = b)
  | [], [], _ => by simp [sameL]
  | [], _ :: _, h => by simp at h
  | _ :: _, [], h => by simp at h
  | x :: a, y :: b, h => by
    have h1 := sameV_iff x y
    have h2 := sameL_iff a b (by simpa using h)
    simp [sameL, h1, h2]
end
theorem cmp_tri {a b : GV} (ha : good a) (hb : good b) : cmpV a b < 0 ∨ a = b ∨ cmpV b a < 0 := by
  have := cmp_neg a b
  rcases Int.lt_trichotomy (cmpV a b) 0 with h | h | h
  · exact .inl h
  · exact .inr (.inl (cmp_zero a b ha hb h))
  · exact .inr (.inr (by omega))
end Go.Proofs.YtgfadepkiejncaaGreat
namespace Go.Proofs.YtgfadepkiejncaaGreat
open Go.Ab
set_option maxHeartbeats 0
set_option maxRecDepth 100000
attribute [local irreducible] AW AList ACall DA AExit.then AExit.inBlock YCall DCall
def cfL : List GV → List GV → Int
  | [], [] => 0
  | [], _ :: _ => -1
  | _ :: _, [] => 1
  | a :: l, b :: l' => if cmpV a b ≠ 0 then cmpV a b else cfL l l'
theorem cfL_eq : ∀ l l' : List GV, l.length = l'.length → cfL l l' = cmpL l l'
  | [], [], _ => rfl
  | [], _ :: _, h => by simp at h
  | _ :: _, [], h => by simp at h
  | a :: l, b :: l', h => by simp only [cfL, cmpL]; rw [cfL_eq l l' (by simpa using h)]
theorem compare_func (l l' : List GV) (la : l.length < 1152921504606846976) (lb : l'.length < 1152921504606846976) (h : ∀ x ∈ l, ∀ y ∈ l', Gives Tryz.prog 22 [x.pv, y.pv] (vI (cmpV x y))) : Gives Tryz.prog 164 [GV.pvs l, GV.pvs l', .clo 22 [] []] (vI (cfL l l')) := by
  intro m
  refine ACall.of_aw Tryz.func164 Tryz.ntmps164 rfl rfl (by simp) ?_
  refine tS ?_
  refine AW.loop (ι := Nat) (fun i σ m' => i ≤ l.length ∧ i ≤ l'.length ∧ cfL l l' = cfL (l.drop i) (l'.drop i) ∧ σ 13 = vI i ∧ σ 12 = vI l.length ∧ σ 11 = GV.pvs l ∧ σ 0 = GV.pvs l ∧ σ 1 = GV.pvs l' ∧ σ 2 = .clo 22 [] [] ∧ Same m m') (fun i => l.length - i) 0 ?_ ?_
  · exact ⟨by simp, by simp, rfl, by simp [upd_lit], by simp [upd_lit], by simp [upd_lit], by simp [upd_lit], by simp [upd_lit], by simp [upd_lit], Same.refl m⟩
  rintro i σ m' ⟨hi, hi', hc, h13, h12, h11, h0, h1, h2, sm⟩
  have F := (aand @h13 (aand @h12 @h11)); refine tF ?_; (try clear F)
  refine AW.condD (p := i < l.length) (by simp [upd_lit]) (fun hlt => ?_) (fun hge => ?_)
  · have F := (aand @h13 (aand @h11 (aand @hlt @rows_getD))); refine tF ?_; (try clear F)
    have F := @h1; refine tF ?_; (try clear F)
    refine AW.condD (p := l'.length ≤ i) (by simp [upd_lit]) (fun hle => ?_) (fun hgt => ?_)
    · refine tS ?_
      have e : l'.drop i = [] := List.drop_eq_nil_of_le hle
      rw [List.drop_eq_getElem_cons hlt, e] at hc
      rw [hc]
      exact Fin.gives (sm.newLoc _ |>.setLoc sm.lloc _) rfl (by simp [upd_lit, cfL])
    · have hgt : i < l'.length := by omega
      have hcall := h l[i] (List.getElem_mem hlt) l'[i] (List.getElem_mem hgt)
      have F := (aand @h1 (aand @hgt @rows_getD)); refine tF ?_; (try clear F)
      have F := @h2; refine tF ?_; (try clear F)
      have F := @h2; refine tF1 fun K Kp hK hKp => ?_; (try clear F); refine Gives.at (hcall) ?_; apply hK; clear hK hKp K Kp
      refine tS ?_
      rw [List.drop_eq_getElem_cons hlt, List.drop_eq_getElem_cons hgt, cfL] at hc
      refine AW.condD (p := cmpV l[i] l'[i] ≠ 0) (by simp [upd_lit]) (fun hz => ?_) (fun hz => ?_)
      · refine tS ?_
        rw [hc, if_pos hz]
        exact Fin.gives ((sm.newLoc _ |>.setLoc sm.lloc _).newLoc _ |>.setLoc (by have := sm.lloc; simp; omega) _)
      · have F := @h13; refine tF ?_; (try clear F)
        refine ⟨i + 1, ⟨by omega, by omega, by rw [hc, if_neg hz], by simp [upd_lit], by simp [upd_lit, h12], by simp [upd_lit, h11], by simp [upd_lit, h0], by simp [upd_lit, h1], by simp [upd_lit, h2], ?_⟩, by omega⟩
        exact (sm.newLoc _ |>.setLoc sm.lloc _).newLoc _ |>.setLoc (by have := sm.lloc; simp; omega) _
  · have F := (aand @h0 @h1); refine tF ?_; (try clear F)
    have e : i = l.length := by omega
    subst e
    rw [List.drop_length] at hc
    refine AW.condD (p := l.length < l'.length) (by simp [upd_lit]) (fun hlt => ?_) (fun hge2 => ?_)
    · refine tS ?_
      rw [List.drop_eq_getElem_cons hlt] at hc
      rw [hc]
      exact Fin.gives sm rfl (by simp [upd_lit, cfL])
    · refine tS ?_
      rw [List.drop_eq_nil_of_le (by omega)] at hc
      rw [hc]
      exact Fin.gives sm rfl (by simp [upd_lit, cfL])
theorem cells1_ints : ∀ l : List Int, Cells1 1 (l.map (fun x => vI x)) (ints l)
  | [] => .nil
  | x :: l => .cons rfl rfl (cells1_ints l)
@[simp] theorem bs57 (x y : Int) (m : St) (K : PV → St → Prop) : abuildSlice Tryz.prog 57 2 [(0, vI x), (1, vI y)] m K ↔ K (.list .full (ints [x, y])) m := by
  have h := abuildSlice_all (P := Tryz.prog) (t := 57) (s := 1) (e := 3) (z := .int .i64 0) (xs := [vI x, vI y]) (rs := ints [x, y]) (m := m) (K := K) (by simp) (by simp) (by simp) (by decide) (by decide) (by simp) (by simp) (cells1_ints [x, y])
  have e : (ints [x, y]).map PV.stripL = ints [x, y] := by simp [ints, PV.stripL, PV.strip]
  rw [e] at h
  exact h
def listF (a b : GV) : Int := if a.els.length ≠ b.els.length then numbersF a.els.length b.els.length else cmpL a.els b.els
theorem by_list (a b : GV) (la : a.els.length < 1152921504606846976) (lb : b.els.length < 1152921504606846976) (h : ∀ x ∈ a.els, ∀ y ∈ b.els, Gives Tryz.prog 22 [x.pv, y.pv] (vI (cmpV x y))) : Gives Tryz.prog 135 [a.pv, b.pv] (vI (listF a b)) := by
  have e : orF [numbersF a.els.length b.els.length, cfL a.els b.els] = listF a b := by
    unfold listF
    by_cases hl : a.els.length = b.els.length
    · rw [if_neg (by omega), hl, cfL_eq _ _ hl, orF, if_neg (by rw [nF_zero.2 rfl]; simp), orF, orF]
      split <;> omega
    · have : numbersF a.els.length b.els.length ≠ 0 := fun e => by rw [nF_zero] at e; omega
      rw [if_pos hl, orF, if_pos this]
  have hor := cmp_or [numbersF a.els.length b.els.length, cfL a.els b.els] (by simp)
  rw [e] at hor
  intro m
  refine ACall.of_aw Tryz.func135 Tryz.ntmps135 rfl rfl (by simp) ?_
  refine tS ?_
  refine AW.draw [.S, .R, .S, .S, .R, .S, .R, .S, .R, .S, .R, .R, .W, .R, .S] (by decide +kernel) ?_; have F := True.intro; refine dST 0 ?_; refine dRT 1 ?_; refine dST 2 ?_; refine dST 3 ?_; refine dRT 4 ?_; refine dST 5 ?_; refine dCT ((cmp_int a.els.length b.els.length)) 6 ?_; refine dST 7 ?_; refine dRT 8 ?_; refine dST 9 ?_; refine dRT 10 ?_; refine dCT ((compare_func a.els b.els la lb h)) 11 ?_; refine dW 12 ?_; refine dCT ((hor)) 13 ?_; refine dST 14 ?_; (try clear F); first | refine dN ?_ | refine dB ?_ | refine DA.done (by decide +kernel) ?_
  refine tS ?_
  exact Fin.gives Same.auto
theorem val_compares : Gives Tryz.prog 86 [] (.agg [.clo 131 [] [], .clo 131 [] [], .clo 132 [] [], .clo 133 [] [], .clo 134 [] [], .clo 131 [] [], .clo 131 [] [], .clo 135 [] [], .clo 135 [] []]) :=
  fun m => ecall_sound spc1_ok (n := 100) (r := .ret (.agg [.clo 131 [] [], .clo 131 [] [], .clo 132 [] [], .clo 133 [] [], .clo 134 [] [], .clo 131 [] [], .clo 131 [] [], .clo 135 [] [], .clo 135 [] []])) (by kernel_rfl) m
@[simp] theorem ta_91 : tagg Tryz.prog 91 = false := by kernel_rfl
@[simp] theorem ti_91 : tinfo Tryz.prog 91 = true := by kernel_rfl
@[simp] theorem ts_91 : tsize Tryz.prog 91 = 1 := by kernel_rfl
theorem val_compare_step (a b : GV) (f : FuncId) (n : Nat) (hn : n ≤ 8) (hk : a.kind = n) (hk' : b.kind = n) (hf : ([131, 131, 132, 133, 134, 131, 131, 135, 135] : List FuncId)[n]? = some f) (h : Gives Tryz.prog f [a.pv, b.pv] (vI (cmpV a b))) : Gives Tryz.prog 22 [a.pv, b.pv] (vI (cmpV a b)) := by
  intro m
  refine ACall.of_aw Tryz.func22 Tryz.ntmps22 rfl rfl (by simp) ?_
  have e1 : ¬ (n : Int) < 0 := by omega
  have e2 : ¬ (8 : Int) < n := by omega
  have F := (aand @hk (aand @hk' (aand @e1 @e2))); refine tFg ?_; (try clear F)
  refine AW.cond (t := false) (by simp [upd_lit]) (fun h => by cases h) (fun _ => ?_)
  refine tS ?_
  have hn' : n < 9 := by omega
  obtain rfl | rfl | rfl | rfl | rfl | rfl | rfl | rfl | rfl : n = 0 ∨ n = 1 ∨ n = 2 ∨ n = 3 ∨ n = 4 ∨ n = 5 ∨ n = 6 ∨ n = 7 ∨ n = 8 := by omega
  all_goals (
    cases hf
    refine AW.draw [.R, .S, .R, .S, .R, .R, .R, .S] (by decide +kernel) ?_; have F := (aand @hk @hk'); refine dC ((val_compares)) 0 ?_; refine dS 1 ?_; refine dR 2 ?_; refine dS 3 ?_; refine dR 4 ?_; refine dR 5 ?_; refine dC ((h)) 6 ?_; refine dS 7 ?_; (try clear F); first | refine dN ?_ | refine dB ?_ | refine DA.done (by decide +kernel) ?_
    refine tS ?_
    exact Fin.gives Same.auto)
theorem val_compare (a b : GV) (ha : good a) (hb : good b) : Gives Tryz.prog 22 [a.pv, b.pv] (vI (cmpV a b)) := by
  generalize hN : nodes a = N
  induction N using Nat.strongRecOn generalizing a b with
  | _ N ih =>
  subst hN
  by_cases hk : a.kind = b.kind
  · have ka := node_kind ha.1.node
    obtain ⟨n, hn⟩ : ∃ n : Nat, a.kind = n := ⟨a.kind.toNat, by omega⟩
    have h7 : (a.kind = 7 ∨ a.kind = 8) → Gives Tryz.prog 135 [a.pv, b.pv] (vI (cmpV a b)) := fun h => by
      have hl := by_list a b ha.2.len hb.2.len (fun x hx y hy => ih (nodes x) (by
        obtain ⟨i, hi, rfl⟩ := List.getElem_of_mem hx
        have := nodes_get a.els i hi
        have := nodes_eq a
        omega) x y (ha.els x hx) (hb.els y hy) rfl)
      have e : cmpV a b = listF a b := by rw [cmp_same_kind hk, if_neg (by omega), if_neg (by omega), if_neg (by omega), if_pos h]; rfl
      rw [e]; exact hl
    have h1 : (a.kind ≠ 2 → a.kind ≠ 3 → a.kind ≠ 4 → a.kind ≠ 7 → a.kind ≠ 8 → Gives Tryz.prog 131 [a.pv, b.pv] (vI (cmpV a b))) := fun h2 h3 h4 h5 h6 => by
      have e : cmpV a b = numbersF a.num b.num := by rw [cmp_same_kind hk, if_neg h2, if_neg h3, if_neg h4, if_neg (by omega)]
      rw [e]; exact by_number a b
    have h2 : a.kind = 2 → Gives Tryz.prog 132 [a.pv, b.pv] (vI (cmpV a b)) := fun h => by
      have e : cmpV a b = intsF a.neg a.abs b.neg b.abs := by rw [cmp_same_kind hk, if_pos h]
      rw [e]; exact by_int a b (node_int ha.1.node (.inl h)) (node_int hb.1.node (.inl (hk ▸ h)))
    have h3 : a.kind = 3 → Gives Tryz.prog 133 [a.pv, b.pv] (vI (cmpV a b)) := fun h => by
      have e : cmpV a b = decF a b := by rw [cmp_same_kind hk, if_neg (by omega), if_pos h]
      rw [e]; exact by_dec a b (node_scOK ha.1.node ha.2 h) (node_scOK hb.1.node hb.2 (hk ▸ h))
    have h4 : a.kind = 4 → Gives Tryz.prog 134 [a.pv, b.pv] (vI (cmpV a b)) := fun h => by
      have e : cmpV a b = strF a.str b.str := by rw [cmp_same_kind hk, if_neg (by omega), if_neg (by omega), if_pos h]
      rw [e]; exact by_text a b
    obtain rfl | rfl | rfl | rfl | rfl | rfl | rfl | rfl | rfl : n = 0 ∨ n = 1 ∨ n = 2 ∨ n = 3 ∨ n = 4 ∨ n = 5 ∨ n = 6 ∨ n = 7 ∨ n = 8 := by omega
    · exact val_compare_step a b 131 0 (by omega) hn (hk ▸ hn) rfl (h1 (by omega) (by omega) (by omega) (by omega) (by omega))
    · exact val_compare_step a b 131 1 (by omega) hn (hk ▸ hn) rfl (h1 (by omega) (by omega) (by omega) (by omega) (by omega))
    · exact val_compare_step a b 132 2 (by omega) hn (hk ▸ hn) rfl (h2 hn)
    · exact val_compare_step a b 133 3 (by omega) hn (hk ▸ hn) rfl (h3 hn)
    · exact val_compare_step a b 134 4 (by omega) hn (hk ▸ hn) rfl (h4 hn)
    · exact val_compare_step a b 131 5 (by omega) hn (hk ▸ hn) rfl (h1 (by omega) (by omega) (by omega) (by omega) (by omega))
    · exact val_compare_step a b 131 6 (by omega) hn (hk ▸ hn) rfl (h1 (by omega) (by omega) (by omega) (by omega) (by omega))
    · exact val_compare_step a b 135 7 (by omega) hn (hk ▸ hn) rfl (h7 (.inl hn))
    · exact val_compare_step a b 135 8 (by omega) hn (hk ▸ hn) rfl (h7 (.inr hn))
  · intro m
    refine ACall.of_aw Tryz.func22 Tryz.ntmps22 rfl rfl (by simp) ?_
    have e : cmpV a b = numbersF a.kind b.kind := cmp_diff_kind hk
    rw [e]
    have F := @hk; refine tFg ?_; (try clear F)
    refine AW.cond (t := true) (by simp [upd_lit]) (fun _ => ?_) (fun h => by cases h)
    refine tS ?_
    refine tS1 fun K Kp hK hKp => ?_; refine Gives.at (cmp_int a.kind b.kind) ?_; apply hK; clear hK hKp K Kp
    refine tS ?_
    exact Fin.gives Same.auto
end Go.Proofs.YtgfadepkiejncaaGreat
namespace Go.Proofs.YtgfadepkiejncaaGreat
open Go.Ab
set_option maxHeartbeats 0
def Inc (l : List GV) : Prop := l.Pairwise (fun x y => cmpV x y < 0)
def goods (l : List GV) : Prop := ∀ x ∈ l, good x
theorem goods.tail {x : GV} {l : List GV} (h : goods (x :: l)) : good x ∧ goods l := ⟨h x (by simp), fun y hy => h y (by simp [hy])⟩
theorem cmp_irr (a : GV) : ¬ cmpV a a < 0 := by rw [cmp_self]; omega
theorem cmp_asym {a b : GV} (h : cmpV a b < 0) : ¬ cmpV b a < 0 := by have := cmp_neg a b; omega
theorem incr_some : ∀ (p : GV) (l : List GV), good p → goods l → (incr (some p) l ↔ Inc (p :: l))
  | p, [], _, _ => by simp [incr, Inc]
  | p, v :: l, hp, hl => by
    obtain ⟨hv, hl'⟩ := hl.tail
    have ih := incr_some v l hv hl'
    simp only [incr]
    rw [ih]
    constructor
    · rintro ⟨h1, h2⟩
      refine List.pairwise_cons.2 ⟨fun y hy => ?_, h2⟩
      rcases List.mem_cons.1 hy with rfl | hy
      · exact h1
      · exact cmp_trans p v y hp hv (hl' y hy) h1 ((List.pairwise_cons.1 h2).1 y hy)
    · intro h
      exact ⟨(List.pairwise_cons.1 h).1 v (by simp), (List.pairwise_cons.1 h).2⟩
theorem incr_none {l : List GV} (hl : goods l) : incr none l ↔ Inc l := by
  cases l with
  | nil => simp [incr, Inc]
  | cons v l => simp only [incr]; exact incr_some v l hl.tail.1 hl.tail.2
theorem Inc.tail {x : GV} {l : List GV} (h : Inc (x :: l)) : (∀ y ∈ l, cmpV x y < 0) ∧ Inc l := List.pairwise_cons.1 h
theorem Inc_unique : ∀ (l l' : List GV), Inc l → Inc l' → (∀ x, x ∈ l ↔ x ∈ l') → l = l'
  | [], [], _, _, _ => rfl
  | [], y :: t, _, _, h => by have := (h y).2 (by simp); simp at this
  | x :: l, [], _, _, h => by have := (h x).1 (by simp); simp at this
  | x :: l, y :: t, h1, h2, h => by
    obtain ⟨a1, a2⟩ := h1.tail
    obtain ⟨b1, b2⟩ := h2.tail
    have e : x = y := by
      rcases List.mem_cons.1 ((h x).1 (by simp)) with e | hx
      · exact e
      rcases List.mem_cons.1 ((h y).2 (by simp)) with e | hy
      · exact e.symm
      · exact absurd (b1 x hx) (cmp_asym (a1 y hy))
    subst e
    rw [Inc_unique l t a2 b2 fun z => ?_]
    constructor
    · intro hz
      rcases List.mem_cons.1 ((h z).1 (by simp [hz])) with e | hz'
      · subst e; exact absurd (a1 z hz) (cmp_irr z)
      · exact hz'
    · intro hz
      rcases List.mem_cons.1 ((h z).2 (by simp [hz])) with e | hz'
      · subst e; exact absurd (b1 z hz) (cmp_irr z)
      · exact hz'
def one (b : Bool) (x : GV) : List GV := if b then [x] else []
def mrgS : List GV → List GV → List GV
  | a, [] => a
  | [], b => b
  | x :: a, y :: b => if cmpV x y ≤ 0 then x :: mrgS a (y :: b) else y :: mrgS (x :: a) b
termination_by a b => a.length + b.length
def srtF (l : List GV) : List GV :=
  if h : l.length < 2 then l else mrgS (srtF (l.take (l.length / 2))) (srtF (l.drop (l.length / 2)))
termination_by l.length
decreasing_by
  · simp; omega
  · simp; omega
def Srt (l : List GV) : Prop := l.Pairwise (fun x y => cmpV x y ≤ 0)
theorem mem_mrgS : ∀ (a b : List GV) (z : GV), z ∈ mrgS a b ↔ z ∈ a ∨ z ∈ b := by
  intro a b
  fun_induction mrgS a b with
  | case1 a => simp
  | case2 b h => simp
  | case3 x a y b h ih => intro z; simp only [List.mem_cons, ih]; grind
  | case4 x a y b h ih => intro z; simp only [List.mem_cons, ih]; grind
theorem cmp_le_trans {a b c : GV} (ha : good a) (hb : good b) (hc : good c) (h1 : cmpV a b ≤ 0) (h2 : cmpV b c ≤ 0) : cmpV a c ≤ 0 := by
  rcases Int.lt_or_eq_of_le h1 with h1 | h1
  · rcases Int.lt_or_eq_of_le h2 with h2 | h2
    · have := cmp_trans a b c ha hb hc h1 h2; omega
    · have := cmp_zero b c hb hc h2; subst this; omega
  · have := cmp_zero a b ha hb h1; subst this; exact h2
theorem mrgS_Srt : ∀ (a b : List GV), Srt a → Srt b → goods a → goods b → Srt (mrgS a b) := by
  intro a b
  fun_induction mrgS a b with
  | case1 a => intro h _ _ _; exact h
  | case2 b h => intro _ h _ _; exact h
  | case3 x a y b h ih =>
    intro ha hb ga gb
    obtain ⟨a1, a2⟩ := List.pairwise_cons.1 ha
    obtain ⟨b1, b2⟩ := List.pairwise_cons.1 hb
    refine List.pairwise_cons.2 ⟨fun z hz => ?_, ih a2 hb ga.tail.2 gb⟩
    rcases (mem_mrgS _ _ z).1 hz with hz | hz
    · exact a1 z hz
    · rcases List.mem_cons.1 hz with rfl | hz'
      · exact h
      · exact cmp_le_trans ga.tail.1 gb.tail.1 (gb z hz) h (b1 z hz')
  | case4 x a y b h ih =>
    intro ha hb ga gb
    obtain ⟨a1, a2⟩ := List.pairwise_cons.1 ha
    obtain ⟨b1, b2⟩ := List.pairwise_cons.1 hb
    have hyx : cmpV y x ≤ 0 := by have := cmp_neg x y; omega
    refine List.pairwise_cons.2 ⟨fun z hz => ?_, ih ha b2 ga gb.tail.2⟩
    rcases (mem_mrgS _ _ z).1 hz with hz | hz
    · rcases List.mem_cons.1 hz with rfl | hz'
      · exact hyx
      · exact cmp_le_trans gb.tail.1 ga.tail.1 (ga z hz) hyx (a1 z hz')
    · exact b1 z hz
theorem mem_srtF : ∀ (l : List GV) (z : GV), z ∈ srtF l ↔ z ∈ l := by
  intro l
  fun_induction srtF l with
  | case1 l h => intro z; rfl
  | case2 l h ih1 ih2 =>
    intro z
    rw [mem_mrgS, ih1, ih2, ← List.mem_append, List.take_append_drop]
theorem srtF_Srt : ∀ (l : List GV), goods l → Srt (srtF l) := by
  intro l
  fun_induction srtF l with
  | case1 l h =>
    intro _
    match l, h with
    | [], _ => exact List.Pairwise.nil
    | [x], _ => exact List.pairwise_singleton _ _
  | case2 l h ih1 ih2 =>
    intro g
    have g1 : goods (l.take (l.length / 2)) := fun x hx => g x (List.mem_of_mem_take hx)
    have g2 : goods (l.drop (l.length / 2)) := fun x hx => g x (List.mem_of_mem_drop hx)
    exact mrgS_Srt _ _ (ih1 g1) (ih2 g2) (fun x hx => g1 x ((mem_srtF _ x).1 hx)) (fun x hx => g2 x ((mem_srtF _ x).1 hx))
theorem mrgS_len : ∀ a b, (mrgS a b).length = a.length + b.length := by
  intro a b
  fun_induction mrgS a b with
  | case1 a => simp
  | case2 b h => simp
  | case3 x a y b h ih => simp [ih]; omega
  | case4 x a y b h ih => simp [ih]; omega
theorem srtF_len : ∀ l : List GV, (srtF l).length = l.length := by
  intro l
  fun_induction srtF l with
  | case1 l h => rfl
  | case2 l h ih1 ih2 => rw [mrgS_len, ih1, ih2]; simp; omega
def dd : List GV → List GV → List GV
  | out, [] => out
  | out, x :: l => dd (if x.kind ≠ 0 ∧ (out = [] ∨ cmpV (out.getLast?.getD default) x ≠ 0) then out ++ [x] else out) l
def setF (l : List GV) : List GV := dd [] (srtF l)
theorem dd_spec : ∀ (l out : List GV), Srt l → goods l → goods out → Inc out → (∀ x ∈ out, ∀ y ∈ l, cmpV x y ≤ 0) → Inc (dd out l) ∧ ∀ z, z ∈ dd out l ↔ z ∈ out ∨ (z ∈ l ∧ z.kind ≠ 0)
  | [], out, _, _, _, ho, _ => ⟨ho, by simp [dd]⟩
  | x :: l, out, hs, gl, go, ho, hle => by
    obtain ⟨s1, s2⟩ := List.pairwise_cons.1 hs
    obtain ⟨gx, gl'⟩ := gl.tail
    simp only [dd]
    by_cases hc : x.kind ≠ 0 ∧ (out = [] ∨ cmpV (out.getLast?.getD default) x ≠ 0)
    · rw [if_pos hc]
      have hlt : ∀ y ∈ out, cmpV y x < 0 := by
        intro y hy
        have h1 := hle y hy x (by simp)
        rcases Int.lt_or_eq_of_le h1 with h | h
        · exact h
        exfalso
        have e := cmp_zero y x (go y hy) gx h
        subst e
        obtain ⟨i, hi, e⟩ := List.getElem_of_mem hy
        have hne : out ≠ [] := List.ne_nil_of_mem hy
        rcases hc.2 with hc | hc
        · exact hne hc
        obtain ⟨w, hw⟩ : ∃ w, out.getLast? = some w := by
          cases h : out.getLast? with
          | none => simp at h; exact absurd h hne
          | some w => exact ⟨w, rfl⟩
        rw [hw] at hc
        simp only [Option.getD_some] at hc
        have hwm : w ∈ out := List.mem_of_getLast? hw
        have hwl := hle w hwm y (by simp)
        have hwlt : cmpV w y < 0 := by omega
        -- w is the last of out, and y is in out
        rw [List.getLast?_eq_getElem?] at hw
        obtain ⟨hk, ew⟩ := List.getElem?_eq_some_iff.1 hw
        rcases Nat.lt_or_ge i (out.length - 1) with hlt | hge
        · have := List.pairwise_iff_getElem.1 ho i (out.length - 1) hi hk hlt
          rw [e, ew] at this
          exact cmp_asym this hwlt
        · have : i = out.length - 1 := by omega
          subst this
          rw [e] at ew
          rw [ew] at hwlt
          exact cmp_irr _ hwlt
      have ho' : Inc (out ++ [x]) := List.pairwise_append.2 ⟨ho, List.pairwise_singleton _ _, fun y hy z hz => by simp at hz; subst hz; exact hlt y hy⟩
      obtain ⟨r1, r2⟩ := dd_spec l (out ++ [x]) s2 gl' (fun y hy => by
        rcases List.mem_append.1 hy with h | h
        · exact go y h
        · simp at h; subst h; exact gx) ho' (fun y hy z hz => by
        rcases List.mem_append.1 hy with h | h
        · exact hle y h z (by simp [hz])
        · simp at h; subst h; exact s1 z hz)
      refine ⟨r1, fun z => ?_⟩
      rw [r2, List.mem_append]
      simp only [List.mem_cons, List.not_mem_nil, or_false]
      constructor
      · rintro ((h | rfl) | ⟨h, h'⟩)
        · exact .inl h
        · exact .inr ⟨.inl rfl, hc.1⟩
        · exact .inr ⟨.inr h, h'⟩
      · rintro (h | ⟨rfl | h, h'⟩)
        · exact .inl (.inl h)
        · exact .inl (.inr rfl)
        · exact .inr ⟨h, h'⟩
    · rw [if_neg hc]
      obtain ⟨r1, r2⟩ := dd_spec l out s2 gl' go ho (fun y hy z hz => hle y hy z (by simp [hz]))
      refine ⟨r1, fun z => ?_⟩
      rw [r2]
      simp only [List.mem_cons]
      constructor
      · rintro (h | ⟨h, h'⟩)
        · exact .inl h
        · exact .inr ⟨.inr h, h'⟩
      · rintro (h | ⟨rfl | h, h'⟩)
        · exact .inl h
        · by_cases hx : out = []
          · exact absurd ⟨h', .inl hx⟩ hc
          · have hz : cmpV (out.getLast?.getD default) z = 0 := by
              by_cases q : cmpV (out.getLast?.getD default) z = 0
              · exact q
              · exact absurd ⟨h', .inr q⟩ hc
            obtain ⟨w, hw⟩ : ∃ w, out.getLast? = some w := by
              cases h : out.getLast? with
              | none => simp at h; exact absurd h hx
              | some w => exact ⟨w, rfl⟩
            rw [hw] at hz
            simp only [Option.getD_some] at hz
            have hwm : w ∈ out := List.mem_of_getLast? hw
            have := cmp_zero w z (go w hwm) gx hz
            subst this
            exact .inl hwm
        · exact .inr ⟨h, h'⟩
theorem setF_spec (l : List GV) (g : goods l) : Inc (setF l) ∧ goods (setF l) ∧ ∀ z, z ∈ setF l ↔ z ∈ l ∧ z.kind ≠ 0 := by
  obtain ⟨h1, h2⟩ := dd_spec (srtF l) [] (srtF_Srt l g) (fun x hx => g x ((mem_srtF _ x).1 hx)) (fun x hx => by simp at hx) List.Pairwise.nil (fun x hx => by simp at hx)
  have h3 : ∀ z, z ∈ setF l ↔ z ∈ l ∧ z.kind ≠ 0 := fun z => by
    rw [setF, h2]; simp [mem_srtF]
  exact ⟨h1, fun z hz => g z ((h3 z).1 hz).1, h3⟩
theorem setF_eq {l s : List GV} (g : goods l) (hs : Inc s) (h : ∀ z, z ∈ s ↔ z ∈ l ∧ z.kind ≠ 0) : s = setF l := by
  obtain ⟨h1, _, h3⟩ := setF_spec l g
  exact Inc_unique s _ hs h1 fun z => by rw [h, h3]
mutual
theorem walk_fmd : ∀ v : GV, fmd v → ∀ x ∈ walkV v, fmd x
  | .mk k n ng a s l, h, x, hx => by
    rw [walkV, List.mem_cons] at hx
    rcases hx with rfl | hx
    · exact h
    · exact walkL_fmd l h.2.2 x hx
theorem walkL_fmd : ∀ l : List GV, fmdL l → ∀ x ∈ walkL l, fmd x
  | [], _, x, hx => by simp [walkL] at hx
  | v :: l, h, x, hx => by
    rw [walkL, List.mem_append] at hx
    rcases hx with hx | hx
    · exact walk_fmd v h.1 x hx
    · exact walkL_fmd l h.2 x hx
end
end Go.Proofs.YtgfadepkiejncaaGreat
namespace Go.Proofs.YtgfadepkiejncaaGreat
open Go.Ab
attribute [local irreducible] AW AList ACall
end Go.Proofs.YtgfadepkiejncaaGreat
namespace Go.Ab
section
variable {P : Program} {N : Nat} {l : List Oper} {cls : List Cls} {Q : APost} {σ : Nat → PV} {m : St} {listed : Array Bool} {fuel : Nat} {B : Prop}
variable {p : PV} {d g j : Nat} {want : Bool} {op : Op} {ty : TypeId} {pos : String} {after : Array Edge}
end
end Go.Ab
namespace Go.Ab
theorem Leaves.ofSet {m m' : St} {n : Nat} {cs : List PV} (h : Same (m.setLoc n cs) m') (hs : PV.scL m.nloc m.ntok cs) : Leaves m m' (m.setLoc n cs) := by
  refine ⟨rfl, Nat.le_refl _, h.lloc, h.ltok, fun i hi => ⟨(h.get hi).symm, ?_⟩, fun k hk => h.top k hk, fun i hi => ⟨(h.getL hi).symm, h.getL hi⟩, fun i hi => (h.getI hi).symm, fun k ds hk hd hc => ⟨h.getA hk hd hc, .inl ⟨hk, hc⟩⟩⟩
  have := h.get (n := i) hi
  rw [setLoc_loc] at this
  by_cases e : i = n
  · rw [if_pos e] at this
    exact .inr fun c hc => by rw [this] at hc; cases hc; exact hs
  · rw [if_neg e] at this; exact .inl this
theorem setLoc_setLoc (m : St) (n : Nat) (a b : List PV) : (m.setLoc n a).setLoc n b = m.setLoc n b := by
  simp only [St.setLoc]; congr 1; funext i; simp only [upd]; split <;> rfl
theorem setLoc_self {m : St} {n : Nat} {cs : List PV} (h : m.loc n = some cs) : m.setLoc n cs = m := by
  cases m; simp only [St.setLoc]; congr 1; funext i; simp only [upd]; split
  · rename_i e; rw [e]; exact h.symm
  · rfl
theorem Fin.all {P : Program} {fn : Func} {m m' m2 : St} {σ : Nat → PV} {r q : PV} {x : AExit} (hx : ResP P fn.results.toList σ m' r) (hx2 : x = .normal ∨ x = .ret) (hr : r.strip = q := by simp [upd_lit]) (e : m' = m2 := by rfl) :
    Fin P fn m (fun r' m'' => r' = .ret q ∧ m'' = m2) x σ m' := by
  subst e hr
  rcases hx2 with rfl | rfl <;> exact ⟨r, _, hx, .inl rfl, rfl, rfl⟩
end Go.Ab
namespace Go.Ab
theorem Fin.givesC {P : Program} {fn : Func} {m m' : St} {σ : Nat → PV} {p r : PV} {a : Tmp} {t : TypeId} (hr : fn.results.toList = [.cell a t]) (hp : aload P t (σ a) m' (fun q m'' => q = p ∧ m'' = m')) (hm : Same m m') (hq : p.strip = r := by simp) (hs : r.sc m.nloc m.ntok := by simp) :
    Fin P fn m (fun r' m' => r' = .ret r ∧ m' = m) .ret σ m' := Fin.retC hr hp hm hq hs ⟨rfl, rfl⟩
end Go.Ab
namespace Go.Proofs.YtgfadepkiejncaaGreat
open Go.Ab
set_option maxHeartbeats 0
set_option maxRecDepth 100000
attribute [local irreducible] AW AList ACall DA AExit.then AExit.inBlock YCall DCall
abbrev omV : GV := .mk 0 0 false [] ⟨#[]⟩ []
abbrev setV (l : List GV) : GV := .mk 8 0 false [] ⟨#[]⟩ l
abbrev made (v : GV) (e : Int) : PV := .agg [vI v.kind, vI v.num, vB v.neg, .list .no (limbs v.abs), vS v.str, .list .no (GV.rows v.els), vE e]
def fitB (v : GV) : Bool := decide ((nodes v : Int) ≤ 3000) && decide ((deep v : Int) ≤ 20)
def fitV (v : GV) : GV := if fitB v then v else omV
def fitE (v : GV) : Int := if fitB v then 0 else 3
def bsF (l : List GV) (x : GV) (lo hi : Nat) : Nat :=
  if h : lo < hi then (if cmpV (l[(lo + hi) / 2]?.getD default) x < 0 then bsF l x ((lo + hi) / 2 + 1) hi else bsF l x lo ((lo + hi) / 2)) else lo
termination_by hi - lo
theorem bsF_spec (l : List GV) (x : GV) (hx : good x) (g : goods l) (hl : Inc l) : ∀ lo hi, lo ≤ hi → hi ≤ l.length → (∀ i (h : i < l.length), i < lo → cmpV l[i] x < 0) → (∀ i (h : i < l.length), hi ≤ i → ¬ cmpV l[i] x < 0) →
    bsF l x lo hi ≤ l.length ∧ (∀ i (h : i < l.length), i < bsF l x lo hi → cmpV l[i] x < 0) ∧ (∀ i (h : i < l.length), bsF l x lo hi ≤ i → ¬ cmpV l[i] x < 0) := by
  intro lo hi
  fun_induction bsF l x lo hi with
  | case1 lo hi h hc ih =>
    intro h1 h2 h3 h4
    have hm : (lo + hi) / 2 < l.length := by omega
    rw [List.getElem?_eq_getElem hm, Option.getD_some] at hc
    refine ih (by omega) h2 (fun i hi' hlt => ?_) h4
    by_cases e : i = (lo + hi) / 2
    · subst e; exact hc
    · exact cmp_trans _ _ _ (g _ (List.getElem_mem hi')) (g _ (List.getElem_mem hm)) hx (List.pairwise_iff_getElem.1 hl i _ hi' hm (by omega)) hc
  | case2 lo hi h hc ih =>
    intro h1 h2 h3 h4
    have hm : (lo + hi) / 2 < l.length := by omega
    rw [List.getElem?_eq_getElem hm, Option.getD_some] at hc
    refine ih (by omega) (by omega) h3 fun i hi' hge hlt => ?_
    by_cases e : i = (lo + hi) / 2
    · subst e; exact hc hlt
    · exact hc (cmp_trans _ _ _ (g _ (List.getElem_mem hm)) (g _ (List.getElem_mem hi')) hx (List.pairwise_iff_getElem.1 hl _ i hm hi' (by omega)) hlt)
  | case3 lo hi h =>
    intro h1 h2 h3 h4
    have : lo = hi := by omega
    subst this
    exact ⟨h2, h3, h4⟩
def atF (l : List GV) (x : GV) : Nat := bsF l x 0 l.length
def isF (l : List GV) (x : GV) : Bool := decide (atF l x < l.length) && decide (cmpV (l[atF l x]?.getD default) x = 0)
theorem isF_mem (l : List GV) (x : GV) (hx : good x) (g : goods l) (hl : Inc l) : isF l x = true ↔ x ∈ l := by
  obtain ⟨h1, h2, h3⟩ := bsF_spec l x hx g hl 0 l.length (by omega) (by omega) (fun i _ h => by omega) (fun i h h' => by omega)
  unfold isF
  rw [Bool.and_eq_true, decide_eq_true_eq, decide_eq_true_eq]
  constructor
  · rintro ⟨q1, q2⟩
    rw [List.getElem?_eq_getElem q1, Option.getD_some] at q2
    rw [← cmp_zero _ x (g _ (List.getElem_mem q1)) hx q2]
    exact List.getElem_mem q1
  · intro hm
    obtain ⟨i, hi, e⟩ := List.getElem_of_mem hm
    have e1 : ¬ i < atF l x := fun q => cmp_irr x (by have := h2 i hi q; rw [e] at this; exact this)
    have e2 : atF l x < l.length := Nat.lt_of_le_of_lt (Nat.not_lt.1 e1) hi
    refine ⟨e2, ?_⟩
    rw [List.getElem?_eq_getElem e2, Option.getD_some]
    by_cases q : i = atF l x
    · subst q; rw [e]; exact cmp_self x
    · have := List.pairwise_iff_getElem.1 hl (atF l x) i e2 hi (by omega)
      rw [e] at this
      exact absurd this (h3 _ e2 (Nat.le_refl _))
end Go.Proofs.YtgfadepkiejncaaGreat
namespace Go.Proofs.YtgfadepkiejncaaGreat
open Go.Ab
set_option maxHeartbeats 0
set_option maxRecDepth 100000
attribute [local irreducible] AW AList ACall DA AExit.then AExit.inBlock YCall DCall
theorem filter_take (f : GV → Bool) (l : List GV) (i : Nat) (h : i < l.length) : (l.take (i + 1)).filter f = (l.take i).filter f ++ if f l[i] then [l[i]] else [] := by
  rw [List.take_succ_eq_append_getElem h, List.filter_append]
  congr 1
  cases hf : f l[i] <;> simp [hf]
theorem filter_take_len (f : GV → Bool) (l : List GV) (i : Nat) : ((l.take i).filter f).length ≤ l.length := Nat.le_trans (List.length_filter_le _ _) (by simp; omega)
theorem rows_take (l : List GV) (n : Nat) : (GV.rows l).take n = GV.rows (l.take n) := by simp [GV.rows_eq, List.map_take]
end Go.Proofs.YtgfadepkiejncaaGreat
namespace Go.Proofs.YtgfadepkiejncaaGreat
open Go.Ab
set_option maxHeartbeats 0
set_option maxRecDepth 100000
attribute [local irreducible] AW AList ACall DA AExit.then AExit.inBlock YCall DCall
theorem dd_len : ∀ (l out : List GV), (dd out l).length ≤ out.length + l.length
  | [], out => by simp [dd]
  | x :: l, out => by
    have := dd_len l
    simp only [dd]
    split
    · have := this (out ++ [x]); simp at this ⊢; omega
    · have := this out; simp; omega
theorem setF_len (l : List GV) : (setF l).length ≤ l.length := by
  have := dd_len (srtF l) []
  rw [srtF_len] at this
  simpa [setF] using this
end Go.Proofs.YtgfadepkiejncaaGreat
namespace Go.Ab
theorem AW.frzL {P : Program} {N : Nat} {Q : APost} {σ : Nat → PV} {m : St} {c : Code} {n d : Nat} {cs : List PV} (hn : n < m.nloc) (hc : m.loc n = some cs) (hd : σ d = .loc n 0) (h : AW P N c Q (upd σ d (.ro cs)) (m.dropLoc n)) : AW P N c Q σ m :=
  AW.frz hn hc (by rw [hd]; simpa [PV.frz] using h)
end Go.Ab
namespace Go.Proofs.YtgfadepkiejncaaGreat
open Go.Ab
set_option maxHeartbeats 0
set_option maxRecDepth 100000
attribute [local irreducible] AW AList ACall DA AExit.then AExit.inBlock YCall DCall
theorem nodesL_append (a b : List GV) : nodesL (a ++ b) = nodesL a + nodesL b := by
  induction a with
  | nil => simp [nodesL]
  | cons v a ih => simp [nodesL, ih]; omega
def smallV (v : GV) : Prop := ∀ x ∈ walkV v, x.abs.length ≤ 1099511627776
theorem good_small {v : GV} (h : good v) : smallV v := fun x hx => by
  have := (walk_fmd v h.1 x hx).node.2.2.1
  omega
theorem walkL_mem_iff (x : GV) : ∀ l : List GV, x ∈ walkL l ↔ ∃ y ∈ l, x ∈ walkV y
  | [] => by simp [walkL]
  | v :: l => by simp [walkL, walkL_mem_iff x l]
theorem small_list {k : Int} {l : List GV} (g : goods l) : smallV (.mk k 0 false [] ⟨#[]⟩ l) := fun x hx => by
  rw [walkV, List.mem_cons] at hx
  rcases hx with rfl | hx
  · simp [GV.abs]
  · obtain ⟨y, hy, h⟩ := (walkL_mem_iff x l).1 hx
    exact good_small (g y hy) x h
theorem Inc_nodup {l : List GV} (h : Inc l) : l.Nodup := by
  refine List.Pairwise.imp (fun {a b} hab e => ?_) h
  subst e; exact cmp_irr a hab
theorem nodesL_sub {l s : List GV} (h : s.Nodup) (hs : ∀ x ∈ s, x ∈ l) : nodesL s ≤ nodesL l := by
  induction s generalizing l with
  | nil => simp [nodesL]
  | cons x s ih =>
    obtain ⟨h1, h2⟩ := List.nodup_cons.1 h
    obtain ⟨p, q, e⟩ := List.append_of_mem (hs x (by simp))
    have := ih (l := p ++ q) h2 (fun y hy => by
      have h3 := hs y (by simp [hy])
      rw [e] at h3
      rcases List.mem_append.1 h3 with h4 | h4
      · simp [h4]
      · rcases List.mem_cons.1 h4 with h5 | h5
        · subst h5; exact absurd hy h1
        · simp [h5])
    rw [e, nodesL_append]
    rw [nodesL_append] at this
    simp only [nodesL]
    omega
end Go.Proofs.YtgfadepkiejncaaGreat
namespace Go.Proofs.YtgfadepkiejncaaGreat
open Go.Ab
set_option maxHeartbeats 0
set_option maxRecDepth 100000
attribute [local irreducible] AW AList ACall DA AExit.then AExit.inBlock YCall DCall
theorem fitB_not (v : GV) : (!fitB v) = (decide (3000 < (nodes v : Int)) || decide (20 < (deep v : Int))) := by
  unfold fitB
  by_cases h1 : (nodes v : Int) ≤ 3000 <;> by_cases h2 : (deep v : Int) ≤ 20 <;> simp [h1, h2] <;> omega
theorem val_sized (v : GV) (hv : nodes v < 1099511627776) (hs : smallV v) : Gives Tryz.prog 95 [v.pv] (.tup [(fitV v).pv, vE (fitE v)]) := by
  intro m
  refine ACall.of_aw Tryz.func95 Tryz.ntmps95 rfl rfl (by simp) ?_
  refine tS ?_
  refine tS1 fun K Kp hK hKp => ?_; refine Gives.at (val_nodes v (by omega)) ?_; apply hK; clear hK hKp K Kp
  have hb := fitB_not v
  by_cases h1 : 3000 < (nodes v : Int)
  · have hf : fitB v = false := by have : (!fitB v) = true := by rw [hb]; simp [h1]
                                   simpa using this
    have e1 : fitV v = omV := by simp [fitV, hf]
    have e2 : fitE v = 3 := by simp [fitE, hf]
    rw [e1, e2]
    have F := @h1; refine tFa ?_; (try clear F)
    refine Fin.ret (p := .tup [.agg [vI 0, vI 0, vB false, .list .full [], vS ⟨#[]⟩, .list .full []], vE 3]) ?_ Same.auto (by rfl) (by simp) ⟨rfl, rfl⟩
    simp [ResP, ResL, resV, upd_lit, show Tryz.f95.results.toList = [.cell 2 27, .tmp 3] from rfl]
  have F := @h1; refine tFg ?_; (try clear F)
  have F := @h1; refine tFc (val_deep v (by omega)) ?_; (try clear F)
  by_cases h2 : 20 < (deep v : Int)
  · have hf : fitB v = false := by have : (!fitB v) = true := by rw [hb]; simp [h2]
                                   simpa using this
    have e1 : fitV v = omV := by simp [fitV, hf]
    have e2 : fitE v = 3 := by simp [fitE, hf]
    rw [e1, e2]
    have F := (aand @h1 @h2); refine tFa ?_; (try clear F)
    refine Fin.ret (p := .tup [.agg [vI 0, vI 0, vB false, .list .full [], vS ⟨#[]⟩, .list .full []], vE 3]) ?_ Same.auto (by rfl) (by simp) ⟨rfl, rfl⟩
    simp [ResP, ResL, resV, upd_lit, show Tryz.f95.results.toList = [.cell 2 27, .tmp 3] from rfl]
  · have hf : fitB v = true := by have : (!fitB v) = false := by rw [hb]; simp [h1, h2]
                                  simpa using this
    have e1 : fitV v = v := by simp [fitV, hf]
    have e2 : fitE v = 0 := by simp [fitE, hf]
    rw [e1, e2]
    have F := (aand @h1 @h2); refine tFa ?_; (try clear F)
    refine tS1 fun K Kp hK hKp => ?_; refine Gives.at (val_copy v hv hs) ?_; apply hK; clear hK hKp K Kp
    refine tS ?_
    refine Fin.ret (p := .tup [v.pv, vE 0]) ?_ Same.auto (by simp) (by simp) ⟨rfl, rfl⟩
    simp [ResP, ResL, resV, upd_lit, show Tryz.f95.results.toList = [.cell 2 27, .tmp 3] from rfl]
end Go.Proofs.YtgfadepkiejncaaGreat
namespace Go.Ab
end Go.Ab
namespace Go.Proofs.YtgfadepkiejncaaGreat
open Go.Ab
set_option maxHeartbeats 0
set_option maxRecDepth 100000
attribute [local irreducible] AW AList ACall DA AExit.then AExit.inBlock YCall DCall
theorem set0_cells (x y : GV) : setL x.cells 0 y.cells = y.cells := by
  rw [setL_eq _ _ _ (by rw [cells_len, cells_len]; omega), List.drop_of_length_le (by rw [cells_len, cells_len]; omega)]
  simp
abbrev outP (v : GV) (e : Int) : PV := .tup [v.pv, vE e]
theorem set_Inc {a : GV} (h : good a) (h8 : a.kind = 8) : Inc a.els := by
  have := h.1
  rw [fmd_eq] at this
  exact (incr_none h.els).1 (this.2.1 h8).2
end Go.Proofs.YtgfadepkiejncaaGreat
namespace Go.Proofs.YtgfadepkiejncaaGreat
open Go.Ab
set_option maxHeartbeats 0
set_option maxRecDepth 100000
attribute [local irreducible] AW AList ACall DA AExit.then AExit.inBlock YCall DCall
def mixF (a b : Int) : Int := IntKind.u32.wrap (IntKind.u32.wrap ↑(BitVec.ofInt 32 (IntKind.u32.wrap ↑(BitVec.ofInt 32 (IntKind.u32.wrap (a * 32)) ||| BitVec.ofInt 32 (a / 134217728)).toNat) ^^^ BitVec.ofInt 32 b).toNat * 2654435769)
theorem val_mix (a b : Int) : Gives Tryz.prog 90 [vW a, vW b] (vW (mixF a b)) := by
  intro m
  refine ACall.of_aw Tryz.func90 Tryz.ntmps90 rfl rfl (by simp) ?_
  refine tS ?_
  exact Fin.gives Same.auto rfl (by simp [upd_lit]; rfl)
theorem ref_mix (a b : Int) : Gives Tryz.prog 91 [vW a, vW b] (vW (mixF a b)) := by
  intro m
  refine ACall.of_aw Tryz.func91 Tryz.ntmps91 rfl rfl (by simp) ?_
  refine tS ?_
  exact Fin.gives Same.auto rfl (by simp [upd_lit]; rfl)
abbrev w32 (n : Int) : Int := IntKind.u32.wrap n
def totalF (s n : Int) : Int := mixF (mixF (mixF 2166136261 8) s) (w32 n)
theorem val_total (s n : Int) : Gives Tryz.prog 28 [vW s, vI n] (vW (totalF s n)) := by
  intro m
  refine ACall.of_aw Tryz.func28 Tryz.ntmps28 rfl rfl (by simp) ?_
  refine tS ?_
  refine tS1 fun K Kp hK hKp => ?_; refine Gives.at (val_mix 2166136261 8) ?_; apply hK; clear hK hKp K Kp
  refine tS ?_
  refine tS1 fun K Kp hK hKp => ?_; refine Gives.at (val_mix _ s) ?_; apply hK; clear hK hKp K Kp
  refine tS ?_
  refine tS1 fun K Kp hK hKp => ?_; refine Gives.at (val_mix _ (w32 n)) ?_; apply hK; clear hK hKp K Kp
  refine tS ?_
  exact Fin.gives Same.auto rfl (by simp [upd_lit]; rfl)
theorem ref_total (s n : Int) : Gives Tryz.prog 29 [vW s, vI n] (vW (totalF s n)) := by
  intro m
  refine ACall.of_aw Tryz.func29 Tryz.ntmps29 rfl rfl (by simp) ?_
  refine tS ?_
  refine tS1 fun K Kp hK hKp => ?_; refine Gives.at (ref_mix 2166136261 8) ?_; apply hK; clear hK hKp K Kp
  refine tS ?_
  refine tS1 fun K Kp hK hKp => ?_; refine Gives.at (ref_mix _ s) ?_; apply hK; clear hK hKp K Kp
  refine tS ?_
  refine tS1 fun K Kp hK hKp => ?_; refine Gives.at (ref_mix _ (w32 n)) ?_; apply hK; clear hK hKp K Kp
  refine tS ?_
  exact Fin.gives Same.auto rfl (by simp [upd_lit]; rfl)
def foldM (t : Int) (l : List Int) : Int := l.foldl mixF t
theorem foldM_take (t : Int) (l : List Int) (i : Nat) (h : i < l.length) : foldM t (l.take (i + 1)) = mixF (foldM t (l.take i)) l[i] := by
  rw [List.take_succ_eq_append_getElem h, foldM, List.foldl_append]; rfl
def shareH (h : Int) : Int := IntKind.u32.wrap ↑(BitVec.ofInt 32 (mixF 1540483477 h) ^^^ BitVec.ofInt 32 (mixF 1540483477 h / 65536)).toNat
def sumF (l : List Int) : Int := l.foldl (fun s h => w32 (s + shareH h)) 0
theorem sumF_take (l : List Int) (i : Nat) (h : i < l.length) : sumF (l.take (i + 1)) = w32 (sumF (l.take i) + shareH l[i]) := by
  rw [List.take_succ_eq_append_getElem h, sumF, List.foldl_append]; rfl
def strB (s : ByteArray) : List Int := (List.range s.size).map fun i => w32 (byteAt s i)
def hashN (k n : Int) (ng : Bool) (a : List Int) (s : ByteArray) (hs : List Int) : Int :=
  if k = 1 ∨ k = 5 ∨ k = 6 then mixF (mixF 2166136261 (w32 k)) (w32 n) else
  if k = 2 ∨ k = 3 then (if k = 3 then mixF (foldM (mixF (mixF 2166136261 (w32 k)) (if ng then 1 else 0)) a) (w32 n) else foldM (mixF (mixF 2166136261 (w32 k)) (if ng then 1 else 0)) a) else
  if k = 4 then mixF (foldM (mixF 2166136261 (w32 k)) (strB s)) (w32 s.size) else
  if k = 7 then mixF (foldM (mixF 2166136261 (w32 k)) hs) (w32 hs.length) else
  if k = 8 then totalF (sumF hs) hs.length else mixF 2166136261 (w32 k)
mutual
def hashV : GV → Int
  | .mk k n ng a s l => hashN k n ng a s (hashL l)
def hashL : List GV → List Int
  | [] => []
  | v :: l => hashV v :: hashL l
end
theorem hashL_len : ∀ l, (hashL l).length = l.length
  | [] => rfl
  | v :: l => by simp [hashL, hashL_len l]
theorem hashL_get : ∀ (l : List GV) (i : Nat) (h : i < l.length), (hashL l)[i]'(by rw [hashL_len]; exact h) = hashV l[i]
  | v :: l, 0, _ => rfl
  | v :: l, i + 1, h => hashL_get l i (by simpa using h)
theorem hashV_eq (v : GV) : hashV v = hashN v.kind v.num v.neg v.abs v.str (hashL v.els) := by cases v; rfl
theorem share_of (v : GV) (h : Gives Tryz.prog 24 [v.pv] (vW (hashV v))) : Gives Tryz.prog 26 [v.pv] (vW (shareH (hashV v))) := by
  intro m
  refine ACall.of_aw Tryz.func26 Tryz.ntmps26 rfl rfl (by simp) ?_
  refine tS ?_
  refine tS1 fun K Kp hK hKp => ?_; refine Gives.at (h) ?_; apply hK; clear hK hKp K Kp
  refine tS ?_
  refine tS1 fun K Kp hK hKp => ?_; refine Gives.at (val_mix _ _) ?_; apply hK; clear hK hKp K Kp
  refine tS ?_
  exact Fin.gives Same.auto rfl (by simp [upd_lit]; rfl)
theorem val_hash_step (v : GV) (hv : v.ok) (h : ∀ x ∈ v.els, Gives Tryz.prog 24 [x.pv] (vW (hashV x))) : Gives Tryz.prog 24 [v.pv] (vW (hashV v)) := by
  have la := hv.abs
  have ls := hv.str
  have ll := hv.len
  rw [hashV_eq]
  generalize hT : mixF 2166136261 (w32 v.kind) = T
  intro m
  refine ACall.of_aw Tryz.func24 Tryz.ntmps24 rfl rfl (by simp) ?_
  refine tS ?_
  refine tS1 fun K Kp hK hKp => ?_; refine Gives.at (val_mix 2166136261 (w32 v.kind)) ?_; apply hK; clear hK hKp K Kp
  rw [hT]
  by_cases h1 : v.kind = 1 ∨ v.kind = 5 ∨ v.kind = 6
  · have e : hashN v.kind v.num v.neg v.abs v.str (hashL v.els) = mixF T (w32 v.num) := by rw [hashN, if_pos h1, hT]
    rw [e]
    rcases h1 with h1 | h1 | h1
    all_goals (
      have F := @h1; refine tFa ?_; (try clear F)
      have F := @h1; refine tF1 fun K Kp hK hKp => ?_; (try clear F); refine Gives.at (val_mix T (w32 v.num)) ?_; apply hK; clear hK hKp K Kp
      refine tS ?_
      exact Fin.gives Same.auto)
  by_cases h2 : v.kind = 2 ∨ v.kind = 3
  · have e : hashN v.kind v.num v.neg v.abs v.str (hashL v.els) = if v.kind = 3 then mixF (foldM (mixF T (if v.neg then 1 else 0)) v.abs) (w32 v.num) else foldM (mixF T (if v.neg then 1 else 0)) v.abs := by rw [hashN, if_neg h1, if_pos h2, hT]
    rw [e]
    have key : ∀ (hk : v.kind = 2 ∨ v.kind = 3) (σ : Nat → PV) (x : Int), x = (if v.neg then 1 else 0) → True := fun _ _ _ _ => trivial
    have hs : ∀ b : Bool, v.neg = b → (if v.neg then (1 : Int) else 0) = if b then 1 else 0 := fun b h => by rw [h]
    rcases h2 with h2 | h2 <;> rcases Bool.eq_false_or_eq_true v.neg with hb | hb
    all_goals (
      rw [hs _ hb]
      have F := (aand @h2 @hb); refine tFa ?_; (try clear F)
      refine tS1 fun K Kp hK hKp => ?_; refine Gives.at (val_mix _ _) ?_; apply hK; clear hK hKp K Kp
      refine tS ?_
      generalize hU : mixF T _ = U
      refine AW.loop (ι := Nat) (fun i σ m' => i ≤ v.abs.length ∧ σ 41 = vI i ∧ σ 40 = vI v.abs.length ∧ σ 39 = .list .no (limbs v.abs) ∧ σ 3 = vW (foldM U (v.abs.take i)) ∧ σ 1 = .loc m.nloc 0 ∧ m' = m.newLoc v.cells) (fun i => v.abs.length - i) 0 ?_ ?_
      · exact ⟨by simp, by simp [upd_lit], by simp [upd_lit], by simp [upd_lit], by simp [upd_lit, foldM, ← hU], by simp [upd_lit], rfl⟩
      rintro i σ m' ⟨hi, h41, h40, h39, h3, h1, rfl⟩
      have F := (aand @h41 @h40); refine tF ?_; (try clear F)
      refine AW.condD (p := i < v.abs.length) (by simp [upd_lit]) (fun hlt => ?_) (fun hge => ?_)
      · have F := (aand @h41 (aand @h39 (aand @hlt @limbs_getD))); refine tF ?_; (try clear F)
        have F := @h3; refine tF1 fun K Kp hK hKp => ?_; (try clear F); refine Gives.at (val_mix _ v.abs[i]) ?_; apply hK; clear hK hKp K Kp
        have F := @h41; refine tF ?_; (try clear F)
        exact ⟨i + 1, ⟨by omega, by simp [upd_lit], by simp [upd_lit, h40], by simp [upd_lit, h39], by simp [upd_lit]; rw [foldM_take _ _ _ hlt], by simp [upd_lit, h1], rfl⟩, by omega⟩
      · have e : i = v.abs.length := by omega
        subst e
        rw [List.take_length] at h3
        have F := (aand @h1 (aand @h2 @h3)); refine tFa ?_; (try clear F)
        try refine tS1 fun K Kp hK hKp => ?_; refine Gives.at (val_mix _ (w32 v.num)) ?_; apply hK; clear hK hKp K Kp
        try refine tS ?_
        exact Fin.gives Same.auto rfl (by simp [upd_lit, h3, hU, h2]))
  by_cases h4 : v.kind = 4
  · have e : hashN v.kind v.num v.neg v.abs v.str (hashL v.els) = mixF (foldM T (strB v.str)) (w32 v.str.size) := by rw [hashN, if_neg h1, if_neg h2, if_pos h4, hT]
    rw [e]
    have hl : (strB v.str).length = v.str.size := by simp [strB]
    have F := @h4; refine tFa ?_; (try clear F)
    refine AW.loop (ι := Nat) (fun i σ m' => i ≤ v.str.size ∧ σ 62 = vI i ∧ σ 61 = vI v.str.size ∧ σ 3 = vW (foldM T ((strB v.str).take i)) ∧ σ 1 = .loc m.nloc 0 ∧ m' = m.newLoc v.cells) (fun i => v.str.size - i) 0 ?_ ?_
    · exact ⟨by simp, by simp [upd_lit], by simp [upd_lit], by simp [upd_lit, foldM], by simp [upd_lit], rfl⟩
    rintro i σ m' ⟨hi, h62, h61, h3, h1, rfl⟩
    have F := (aand @h62 @h61); refine tF ?_; (try clear F)
    refine AW.condD (p := i < v.str.size) (by simp [upd_lit]) (fun hlt => ?_) (fun hge => ?_)
    · have hg : (strB v.str)[i]'(by omega) = w32 (byteAt v.str i) := by simp [strB]
      have F := (aand @h62 (aand @h1 @hlt)); refine tF ?_; (try clear F)
      have F := @h3; refine tF1 fun K Kp hK hKp => ?_; (try clear F); refine Gives.at (val_mix _ (w32 (byteAt v.str i))) ?_; apply hK; clear hK hKp K Kp
      have F := @h62; refine tF ?_; (try clear F)
      exact ⟨i + 1, ⟨by omega, by simp [upd_lit], by simp [upd_lit, h61], by simp [upd_lit]; rw [foldM_take _ _ _ (by omega), hg], by simp [upd_lit, h1], rfl⟩, by omega⟩
    · have e : i = v.str.size := by omega
      subst e
      rw [List.take_of_length_le (by omega)] at h3
      have F := (aand @h1 @h3); refine tF ?_; (try clear F)
      refine tS1 fun K Kp hK hKp => ?_; refine Gives.at (val_mix _ (w32 v.str.size)) ?_; apply hK; clear hK hKp K Kp
      refine tS ?_
      exact Fin.gives Same.auto
  by_cases h7 : v.kind = 7
  · have e : hashN v.kind v.num v.neg v.abs v.str (hashL v.els) = mixF (foldM T (hashL v.els)) (w32 v.els.length) := by rw [hashN, if_neg h1, if_neg h2, if_neg h4, if_pos h7, hT, hashL_len]
    rw [e]
    have hl := hashL_len v.els
    have F := @h7; refine tFa ?_; (try clear F)
    refine AW.loop (ι := Nat) (fun i σ m' => i ≤ v.els.length ∧ σ 84 = vI i ∧ σ 83 = vI v.els.length ∧ σ 82 = GV.pvs v.els ∧ σ 3 = vW (foldM T ((hashL v.els).take i)) ∧ σ 1 = .loc m.nloc 0 ∧ Same (m.newLoc v.cells) m') (fun i => v.els.length - i) 0 ?_ ?_
    · exact ⟨by simp, by simp [upd_lit], by simp [upd_lit], by simp [upd_lit], by simp [upd_lit, foldM], by simp [upd_lit], Same.refl _⟩
    rintro i σ m' ⟨hi, h84, h83, h82, h3, h1, sm⟩
    have hn : m.nloc < m'.nloc := by have := sm.lloc; simp at this; omega
    have hm : m'.loc m.nloc = some v.cells := by rw [sm.get (by simp)]; simp
    have F := (aand @h84 @h83); refine tF ?_; (try clear F)
    refine AW.condD (p := i < v.els.length) (by simp [upd_lit]) (fun hlt => ?_) (fun hge => ?_)
    · have hg := hashL_get v.els i hlt
      have F := (aand @h84 (aand @h82 (aand @hlt @rows_getD))); refine tF ?_; (try clear F)
      refine tS1 fun K Kp hK hKp => ?_; refine Gives.at (h v.els[i] (List.getElem_mem hlt)) ?_; apply hK; clear hK hKp K Kp
      refine tS ?_
      have F := @h3; refine tF1 fun K Kp hK hKp => ?_; (try clear F); refine Gives.at (val_mix _ (hashV v.els[i])) ?_; apply hK; clear hK hKp K Kp
      have F := @h84; refine tF ?_; (try clear F)
      exact ⟨i + 1, ⟨by omega, by simp [upd_lit], by simp [upd_lit, h83], by simp [upd_lit, h82], by simp [upd_lit]; rw [foldM_take _ _ _ (by omega), hg], by simp [upd_lit, h1], (sm.newLoc _).setLoc sm.lloc _⟩, by omega⟩
    · have e : i = v.els.length := by omega
      subst e
      rw [List.take_of_length_le (by omega)] at h3
      have F := (aand @h1 (aand @h3 (aand @hn @hm))); refine tF ?_; (try clear F)
      refine tS1 fun K Kp hK hKp => ?_; refine Gives.at (val_mix _ (w32 v.els.length)) ?_; apply hK; clear hK hKp K Kp
      refine tS ?_
      exact Fin.gives (Same.trans (Same.newLoc (Same.refl m) _) sm)
  by_cases h8 : v.kind = 8
  · have e : hashN v.kind v.num v.neg v.abs v.str (hashL v.els) = totalF (sumF (hashL v.els)) v.els.length := by rw [hashN, if_neg h1, if_neg h2, if_neg h4, if_neg h7, if_pos h8, hashL_len]
    rw [e]
    have hl := hashL_len v.els
    have F := @h8; refine tFa ?_; (try clear F)
    refine AW.loop (ι := Nat) (fun i σ m' => i ≤ v.els.length ∧ σ 104 = vI i ∧ σ 103 = vI v.els.length ∧ σ 102 = GV.pvs v.els ∧ σ 10 = vW (sumF ((hashL v.els).take i)) ∧ σ 1 = .loc m.nloc 0 ∧ Same (m.newLoc v.cells) m') (fun i => v.els.length - i) 0 ?_ ?_
    · exact ⟨by simp, by simp [upd_lit], by simp [upd_lit], by simp [upd_lit], by simp [upd_lit, sumF], by simp [upd_lit], Same.refl _⟩
    rintro i σ m' ⟨hi, h104, h103, h102, h10, h1, sm⟩
    have hn : m.nloc < m'.nloc := by have := sm.lloc; simp at this; omega
    have hm : m'.loc m.nloc = some v.cells := by rw [sm.get (by simp)]; simp
    have F := (aand @h104 @h103); refine tF ?_; (try clear F)
    refine AW.condD (p := i < v.els.length) (by simp [upd_lit]) (fun hlt => ?_) (fun hge => ?_)
    · have hg := hashL_get v.els i hlt
      have F := (aand @h104 (aand @h102 (aand @hlt @rows_getD))); refine tF ?_; (try clear F)
      have F := @h10; refine tF1 fun K Kp hK hKp => ?_; (try clear F); refine Gives.at (share_of v.els[i] (h v.els[i] (List.getElem_mem hlt))) ?_; apply hK; clear hK hKp K Kp
      have F := (aand @h104 @h10); refine tF ?_; (try clear F)
      exact ⟨i + 1, ⟨by omega, by simp [upd_lit], by simp [upd_lit, h103], by simp [upd_lit, h102], by simp [upd_lit]; rw [sumF_take _ _ (by omega), hg], by simp [upd_lit, h1], (sm.newLoc _).setLoc sm.lloc _⟩, by omega⟩
    · have e : i = v.els.length := by omega
      subst e
      rw [List.take_of_length_le (by omega)] at h10
      have F := (aand @h1 (aand @h10 (aand @hn @hm))); refine tF ?_; (try clear F)
      refine tS1 fun K Kp hK hKp => ?_; refine Gives.at (val_total _ v.els.length) ?_; apply hK; clear hK hKp K Kp
      refine tS ?_
      exact Fin.gives (Same.trans (Same.newLoc (Same.refl m) _) sm)
  · have e : hashN v.kind v.num v.neg v.abs v.str (hashL v.els) = T := by rw [hashN, if_neg h1, if_neg h2, if_neg h4, if_neg h7, if_neg h8, hT]
    rw [e]
    simp only [not_or] at h1 h2
    obtain ⟨p1, p2, p3⟩ := h1
    obtain ⟨p4, p5⟩ := h2
    have F := (aand @p1 (aand @p2 (aand @p3 (aand @p4 (aand @p5 (aand @h4 (aand @h7 @h8))))))); refine tFa ?_; (try clear F)
    exact Fin.gives Same.auto
theorem val_hash (v : GV) (hv : v.ok) : Gives Tryz.prog 24 [v.pv] (vW (hashV v)) := by
  generalize hN : nodes v = N
  induction N using Nat.strongRecOn generalizing v with
  | _ N ih =>
  subst hN
  refine val_hash_step v hv fun x hx => ih (nodes x) ?_ x (ok_els hv x hx) rfl
  obtain ⟨i, hi, rfl⟩ := List.getElem_of_mem hx
  have := nodes_get v.els i hi
  have := nodes_eq v
  omega
end Go.Proofs.YtgfadepkiejncaaGreat
namespace Go.Proofs.YtgfadepkiejncaaGreat
open Go.Ab
set_option maxHeartbeats 0
set_option maxRecDepth 100000
attribute [local irreducible] AW AList ACall DA AExit.then AExit.inBlock YCall DCall
theorem ref_share_of (v : GV) (h : Gives Tryz.prog 25 [v.pv] (vW (hashV v))) : Gives Tryz.prog 27 [v.pv] (vW (shareH (hashV v))) := by
  intro m
  refine ACall.of_aw Tryz.func27 Tryz.ntmps27 rfl rfl (by simp) ?_
  refine tS ?_
  refine tS1 fun K Kp hK hKp => ?_; refine Gives.at (h) ?_; apply hK; clear hK hKp K Kp
  refine tS ?_
  refine tS1 fun K Kp hK hKp => ?_; refine Gives.at (ref_mix _ _) ?_; apply hK; clear hK hKp K Kp
  refine tS ?_
  exact Fin.gives Same.auto rfl (by simp [upd_lit]; rfl)
theorem ref_hash_step (v : GV) (hv : v.ok) (h : ∀ x ∈ v.els, Gives Tryz.prog 25 [x.pv] (vW (hashV x))) : Gives Tryz.prog 25 [v.pv] (vW (hashV v)) := by
  have la := hv.abs
  have ls := hv.str
  have ll := hv.len
  rw [hashV_eq]
  generalize hT : mixF 2166136261 (w32 v.kind) = T
  intro m
  refine ACall.of_aw Tryz.func25 Tryz.ntmps25 rfl rfl (by simp) ?_
  refine tS ?_
  refine tS1 fun K Kp hK hKp => ?_; refine Gives.at (ref_mix 2166136261 (w32 v.kind)) ?_; apply hK; clear hK hKp K Kp
  rw [hT]
  by_cases h1 : v.kind = 1 ∨ v.kind = 5 ∨ v.kind = 6
  · have e : hashN v.kind v.num v.neg v.abs v.str (hashL v.els) = mixF T (w32 v.num) := by rw [hashN, if_pos h1, hT]
    rw [e]
    rcases h1 with h1 | h1 | h1
    all_goals (
      have F := @h1; refine tFa ?_; (try clear F)
      have F := @h1; refine tF1 fun K Kp hK hKp => ?_; (try clear F); refine Gives.at (ref_mix T (w32 v.num)) ?_; apply hK; clear hK hKp K Kp
      refine tS ?_
      exact Fin.gives Same.auto)
  by_cases h2 : v.kind = 2 ∨ v.kind = 3
  · have e : hashN v.kind v.num v.neg v.abs v.str (hashL v.els) = if v.kind = 3 then mixF (foldM (mixF T (if v.neg then 1 else 0)) v.abs) (w32 v.num) else foldM (mixF T (if v.neg then 1 else 0)) v.abs := by rw [hashN, if_neg h1, if_pos h2, hT]
    rw [e]
    have hs : ∀ b : Bool, v.neg = b → (if v.neg then (1 : Int) else 0) = if b then 1 else 0 := fun b h => by rw [h]
    rcases h2 with h2 | h2 <;> rcases Bool.eq_false_or_eq_true v.neg with hb | hb
    all_goals (
      rw [hs _ hb]
      have F := (aand @h2 @hb); refine tFa ?_; (try clear F)
      refine tS1 fun K Kp hK hKp => ?_; refine Gives.at (ref_mix _ _) ?_; apply hK; clear hK hKp K Kp
      refine tS ?_
      generalize hU : mixF T _ = U
      refine AW.loop (ι := Nat) (fun i σ m' => i ≤ v.abs.length ∧ σ 5 = vI i ∧ σ 3 = vW (foldM U (v.abs.take i)) ∧ σ 1 = .loc m.nloc 0 ∧ m' = m.newLoc v.cells) (fun i => v.abs.length - i) 0 ?_ ?_
      · exact ⟨by simp, by simp [upd_lit], by simp [upd_lit, foldM, ← hU], by simp [upd_lit], rfl⟩
      rintro i σ m' ⟨hi, h5, h3, h1, rfl⟩
      have F := (aand @h5 @h1); refine tF ?_; (try clear F)
      refine AW.condD (p := i < v.abs.length) (by simp [upd_lit]) (fun hlt => ?_) (fun hge => ?_)
      · have F := (aand @h5 (aand @h1 (aand @hlt @limbs_getD))); refine tF ?_; (try clear F)
        have F := @h3; refine tF1 fun K Kp hK hKp => ?_; (try clear F); refine Gives.at (ref_mix _ v.abs[i]) ?_; apply hK; clear hK hKp K Kp
        have F := @h5; refine tF ?_; (try clear F)
        exact ⟨i + 1, ⟨by omega, by simp [upd_lit], by simp [upd_lit]; rw [foldM_take _ _ _ hlt], by simp [upd_lit, h1], rfl⟩, by omega⟩
      · have e : i = v.abs.length := by omega
        subst e
        rw [List.take_length] at h3
        have F := (aand @h1 (aand @h2 @h3)); refine tFa ?_; (try clear F)
        try refine tS1 fun K Kp hK hKp => ?_; refine Gives.at (ref_mix _ (w32 v.num)) ?_; apply hK; clear hK hKp K Kp
        try refine tS ?_
        exact Fin.gives Same.auto rfl (by simp [upd_lit, h3, hU, h2]))
  by_cases h4 : v.kind = 4
  · have e : hashN v.kind v.num v.neg v.abs v.str (hashL v.els) = mixF (foldM T (strB v.str)) (w32 v.str.size) := by rw [hashN, if_neg h1, if_neg h2, if_pos h4, hT]
    rw [e]
    have hl : (strB v.str).length = v.str.size := by simp [strB]
    have F := @h4; refine tFa ?_; (try clear F)
    refine AW.loop (ι := Nat) (fun i σ m' => i ≤ v.str.size ∧ σ 6 = vI i ∧ σ 3 = vW (foldM T ((strB v.str).take i)) ∧ σ 1 = .loc m.nloc 0 ∧ m' = m.newLoc v.cells) (fun i => v.str.size - i) 0 ?_ ?_
    · exact ⟨by simp, by simp [upd_lit], by simp [upd_lit, foldM], by simp [upd_lit], rfl⟩
    rintro i σ m' ⟨hi, h6, h3, h1, rfl⟩
    have F := (aand @h6 @h1); refine tF ?_; (try clear F)
    refine AW.condD (p := i < v.str.size) (by simp [upd_lit]) (fun hlt => ?_) (fun hge => ?_)
    · have hg : (strB v.str)[i]'(by omega) = w32 (byteAt v.str i) := by simp [strB]
      have F := (aand @h6 (aand @h1 @hlt)); refine tF ?_; (try clear F)
      have F := @h3; refine tF1 fun K Kp hK hKp => ?_; (try clear F); refine Gives.at (ref_mix _ (w32 (byteAt v.str i))) ?_; apply hK; clear hK hKp K Kp
      have F := @h6; refine tF ?_; (try clear F)
      exact ⟨i + 1, ⟨by omega, by simp [upd_lit], by simp [upd_lit]; rw [foldM_take _ _ _ (by omega), hg], by simp [upd_lit, h1], rfl⟩, by omega⟩
    · have e : i = v.str.size := by omega
      subst e
      rw [List.take_of_length_le (by omega)] at h3
      have F := (aand @h1 @h3); refine tF ?_; (try clear F)
      refine tS1 fun K Kp hK hKp => ?_; refine Gives.at (ref_mix _ (w32 v.str.size)) ?_; apply hK; clear hK hKp K Kp
      refine tS ?_
      exact Fin.gives Same.auto
  by_cases h7 : v.kind = 7
  · have e : hashN v.kind v.num v.neg v.abs v.str (hashL v.els) = mixF (foldM T (hashL v.els)) (w32 v.els.length) := by rw [hashN, if_neg h1, if_neg h2, if_neg h4, if_pos h7, hT, hashL_len]
    rw [e]
    have hl := hashL_len v.els
    have F := @h7; refine tFa ?_; (try clear F)
    refine AW.loop (ι := Nat) (fun i σ m' => i ≤ v.els.length ∧ σ 7 = vI i ∧ σ 3 = vW (foldM T ((hashL v.els).take i)) ∧ σ 1 = .loc m.nloc 0 ∧ m' = m.newLoc v.cells) (fun i => v.els.length - i) 0 ?_ ?_
    · exact ⟨by simp, by simp [upd_lit], by simp [upd_lit, foldM], by simp [upd_lit], rfl⟩
    rintro i σ m' ⟨hi, h7, h3, h1, rfl⟩
    have F := (aand @h7 @h1); refine tF ?_; (try clear F)
    refine AW.condD (p := i < v.els.length) (by simp [upd_lit]) (fun hlt => ?_) (fun hge => ?_)
    · have hg := hashL_get v.els i hlt
      have F := (aand @h7 (aand @h1 (aand @hlt @rows_getD))); refine tF ?_; (try clear F)
      refine tS1 fun K Kp hK hKp => ?_; refine Gives.at (h v.els[i] (List.getElem_mem hlt)) ?_; apply hK; clear hK hKp K Kp
      refine tS ?_
      have F := @h3; refine tF1 fun K Kp hK hKp => ?_; (try clear F); refine Gives.at (ref_mix _ (hashV v.els[i])) ?_; apply hK; clear hK hKp K Kp
      have F := @h7; refine tF ?_; (try clear F)
      exact ⟨i + 1, ⟨by omega, by simp [upd_lit], by simp [upd_lit]; rw [foldM_take _ _ _ (by omega), hg], by simp [upd_lit, h1], rfl⟩, by omega⟩
    · have e : i = v.els.length := by omega
      subst e
      rw [List.take_of_length_le (by omega)] at h3
      have F := (aand @h1 @h3); refine tF ?_; (try clear F)
      refine tS1 fun K Kp hK hKp => ?_; refine Gives.at (ref_mix _ (w32 v.els.length)) ?_; apply hK; clear hK hKp K Kp
      refine tS ?_
      exact Fin.gives Same.auto
  by_cases h8 : v.kind = 8
  · have e : hashN v.kind v.num v.neg v.abs v.str (hashL v.els) = totalF (sumF (hashL v.els)) v.els.length := by rw [hashN, if_neg h1, if_neg h2, if_neg h4, if_neg h7, if_pos h8, hashL_len]
    rw [e]
    have hl := hashL_len v.els
    have F := @h8; refine tFa ?_; (try clear F)
    refine AW.loop (ι := Nat) (fun i σ m' => i ≤ v.els.length ∧ σ 9 = vI i ∧ σ 8 = vW (sumF ((hashL v.els).take i)) ∧ σ 1 = .loc m.nloc 0 ∧ m' = m.newLoc v.cells) (fun i => v.els.length - i) 0 ?_ ?_
    · exact ⟨by simp, by simp [upd_lit], by simp [upd_lit, sumF], by simp [upd_lit], rfl⟩
    rintro i σ m' ⟨hi, h9, h8, h1, rfl⟩
    have F := (aand @h9 @h1); refine tF ?_; (try clear F)
    refine AW.condD (p := i < v.els.length) (by simp [upd_lit]) (fun hlt => ?_) (fun hge => ?_)
    · have hg := hashL_get v.els i hlt
      have F := (aand @h9 (aand @h1 (aand @hlt @rows_getD))); refine tF ?_; (try clear F)
      refine tS1 fun K Kp hK hKp => ?_; refine Gives.at (ref_share_of v.els[i] (h v.els[i] (List.getElem_mem hlt))) ?_; apply hK; clear hK hKp K Kp
      have F := (aand @h9 @h8); refine tF ?_; (try clear F)
      exact ⟨i + 1, ⟨by omega, by simp [upd_lit], by simp [upd_lit]; rw [sumF_take _ _ (by omega), hg], by simp [upd_lit, h1], rfl⟩, by omega⟩
    · have e : i = v.els.length := by omega
      subst e
      rw [List.take_of_length_le (by omega)] at h8
      have F := (aand @h1 @h8); refine tF ?_; (try clear F)
      refine tS1 fun K Kp hK hKp => ?_; refine Gives.at (ref_total _ v.els.length) ?_; apply hK; clear hK hKp K Kp
      refine tS ?_
      exact Fin.gives Same.auto
  · have e : hashN v.kind v.num v.neg v.abs v.str (hashL v.els) = T := by rw [hashN, if_neg h1, if_neg h2, if_neg h4, if_neg h7, if_neg h8, hT]
    rw [e]
    simp only [not_or] at h1 h2
    obtain ⟨p1, p2, p3⟩ := h1
    obtain ⟨p4, p5⟩ := h2
    have F := (aand @p1 (aand @p2 (aand @p3 (aand @p4 (aand @p5 (aand @h4 (aand @h7 @h8))))))); refine tFa ?_; (try clear F)
    exact Fin.gives Same.auto
theorem ref_hash (v : GV) (hv : v.ok) : Gives Tryz.prog 25 [v.pv] (vW (hashV v)) := by
  generalize hN : nodes v = N
  induction N using Nat.strongRecOn generalizing v with
  | _ N ih =>
  subst hN
  refine ref_hash_step v hv fun x hx => ih (nodes x) ?_ x (ok_els hv x hx) rfl
  obtain ⟨i, hi, rfl⟩ := List.getElem_of_mem hx
  have := nodes_get v.els i hi
  have := nodes_eq v
  omega
end Go.Proofs.YtgfadepkiejncaaGreat
namespace Go.Proofs.YtgfadepkiejncaaGreat
open Go.Ab
set_option maxHeartbeats 0
mutual
def okB : GV → Bool
  | .mk k n _ abs s l => (decide (-9223372036854775808 ≤ k) && decide (k < 9223372036854775808)) && (decide (-9223372036854775808 ≤ n) && decide (n < 9223372036854775808)) && decide (abs.length < 1152921504606846976) && decide (s.size < 1152921504606846976) && decide (l.length < 1152921504606846976) && abs.all (fun x => decide (0 ≤ x) && decide (x < 4294967296)) && okBL l
def okBL : List GV → Bool
  | [] => true
  | v :: l => okB v && okBL l
end
mutual
theorem okB_ok : ∀ v : GV, okB v = true → v.ok
  | .mk k n b abs s l, h => by
    simp only [okB, Bool.and_eq_true, decide_eq_true_eq, List.all_eq_true] at h
    obtain ⟨⟨⟨⟨⟨⟨h1, h2⟩, h3⟩, h4⟩, h5⟩, h6⟩, h7⟩ := h
    exact ⟨h1, h2, h3, h4, h5, h6, okBL_ok l h7⟩
theorem okBL_ok : ∀ l : List GV, okBL l = true → GV.okL l
  | [], _ => trivial
  | v :: l, h => by
    simp only [okBL, Bool.and_eq_true] at h
    exact ⟨okB_ok v h.1, okBL_ok l h.2⟩
end
def goodB (v : GV) : Bool := okB v && checkF v == 0
theorem goodB_good {v : GV} (h : goodB v = true) : good v := by
  simp only [goodB, Bool.and_eq_true, beq_iff_eq] at h
  exact ⟨(checkF_ok.1 h.2).1, okB_ok v h.1⟩
def spc2 : CallM → FuncId → List PV → Option (ER PV) := fun callM f args =>
  match f, args with
  | 22, [.agg a, .agg b] => match GV.ofC a, GV.ofC b with
    | some a, some b => if (goodB a && goodB b) = true then some (.ok (vI (cmpV a b))) else none
    | _, _ => none
  | 34, [.agg a, .agg b] => match GV.ofC a, GV.ofC b with
    | some a, some b => if (okB a && okB b) = true then some (.ok (vB (sameV a b))) else none
    | _, _ => none
  | 24, [.agg a] => match GV.ofC a with
    | some a => if okB a = true then some (.ok (vW (hashV a))) else none
    | none => none
  | 25, [.agg a] => match GV.ofC a with
    | some a => if okB a = true then some (.ok (vW (hashV a))) else none
    | none => none
  | 32, [.agg a] => match GV.ofC a with
    | some a => if nodes a < 1152921504606846976 then some (.ok (vI (deep a))) else none
    | none => none
  | f, args => spc1 callM f args
def cfg2 : ECfg := ⟨spc2, [141], [(96, 6)]⟩
theorem spc2_ok : SpcOK Tryz.prog cfg2 := by
  intro callM hM f args p h s
  replace h : spc2 callM f args = some (.ok p) := h
  unfold spc2 at h
  split at h
  · rename_i a b
    split at h
    · rename_i x y hx hy
      split at h
      · rename_i hg; cases h
        have e1 := ofC_spec _ _ hx
        have e2 := ofC_spec _ _ hy
        subst e1 e2
        rw [Bool.and_eq_true] at hg
        exact val_compare x y (goodB_good hg.1) (goodB_good hg.2) s
      · cases h
    · cases h
  · rename_i a b
    split at h
    · rename_i x y hx hy
      split at h
      · rename_i hg; cases h
        have e1 := ofC_spec _ _ hx
        have e2 := ofC_spec _ _ hy
        subst e1 e2
        rw [Bool.and_eq_true] at hg
        exact ref_same x y (okB_ok _ hg.1) (okB_ok _ hg.2) s
      · cases h
    · cases h
  · rename_i a
    split at h
    · rename_i x hx
      split at h
      · rename_i hg; cases h
        have e1 := ofC_spec _ _ hx
        subst e1
        exact val_hash x (okB_ok _ hg) s
      · cases h
    · cases h
  · rename_i a
    split at h
    · rename_i x hx
      split at h
      · rename_i hg; cases h
        have e1 := ofC_spec _ _ hx
        subst e1
        exact ref_hash x (okB_ok _ hg) s
      · cases h
    · cases h
  · rename_i a
    split at h
    · rename_i x hx
      split at h
      · rename_i hg; cases h
        have e1 := ofC_spec _ _ hx
        subst e1
        exact val_deep x hg s
      · cases h
    · cases h
  · exact spc1_ok callM hM _ _ _ h s
end Go.Proofs.YtgfadepkiejncaaGreat
namespace Go.Proofs.YtgfadepkiejncaaGreat
open Go.Ab
set_option maxHeartbeats 0
def exI (n : Int) : GV := .mk 2 0 false [n] ⟨#[]⟩ []
def exO : GV := .mk 0 0 false [] ⟨#[]⟩ []
def exL (k : Int) (l : List GV) : GV := .mk k 0 false [] ⟨#[]⟩ l
def exF : GV := exL 8 [exL 7 [exI 1, exI 2], exL 7 [exI 1, exI 3], exL 7 [exI 2, exI 5]]
theorem set_ex : Gives Tryz.prog 41 [GV.pvs [exI 3, exO, exI 1, exI 3]] (.tup [(exL 8 [exI 1, exI 3]).pv, vE 0]) := fun m =>
  ecall_sound spc2_ok (n := 1000) (r := .ret (.tup [(exL 8 [exI 1, exI 3]).pv, vE 0])) (by kernel_rfl) m
theorem image_ex : Gives Tryz.prog 46 [exF.pv, (exI 1).pv] (.tup [(exL 8 [exI 2, exI 3]).pv, vE 0]) := fun m =>
  ecall_sound spc2_ok (n := 1000) (r := .ret (.tup [(exL 8 [exI 2, exI 3]).pv, vE 0])) (by kernel_rfl) m
theorem apply_ex : Gives Tryz.prog 47 [exF.pv, (exI 2).pv] (.tup [(exI 5).pv, vE 0]) := fun m =>
  ecall_sound spc2_ok (n := 1000) (r := .ret (.tup [(exI 5).pv, vE 0])) (by kernel_rfl) m
def spc3 : CallM → FuncId → List PV → Option (ER PV) := fun callM f args =>
  match f, args with
  | 41, [.list .no r] => match GV.ofR r with
    | some l => if (l.length == 4 && sameL l [exI 3, exO, exI 1, exI 3]) = true then some (.ok (.tup [(exL 8 [exI 1, exI 3]).pv, vE 0])) else none
    | none => none
  | 46, [.agg a, .agg b] => match GV.ofC a, GV.ofC b with
    | some a, some b => if (sameV a exF && sameV b (exI 1)) = true then some (.ok (.tup [(exL 8 [exI 2, exI 3]).pv, vE 0])) else none
    | _, _ => none
  | 47, [.agg a, .agg b] => match GV.ofC a, GV.ofC b with
    | some a, some b => if (sameV a exF && sameV b (exI 2)) = true then some (.ok (.tup [(exI 5).pv, vE 0])) else none
    | _, _ => none
  | f, args => spc2 callM f args
def cfg3 : ECfg := ⟨spc3, [141], [(96, 6)]⟩
theorem spc3_ok : SpcOK Tryz.prog cfg3 := by
  intro callM hM f args p h s
  replace h : spc3 callM f args = some (.ok p) := h
  unfold spc3 at h
  split at h
  · split at h
    · rename_i l hl
      split at h
      · rename_i hg; cases h
        have e1 := ofR_spec _ _ hl
        subst e1
        rw [Bool.and_eq_true, beq_iff_eq] at hg
        have e := (sameL_iff _ _ (by simpa using hg.1)).1 hg.2
        subst e
        exact set_ex s
      · cases h
    · cases h
  · split at h
    · rename_i x y hx hy
      split at h
      · rename_i hg; cases h
        have e1 := ofC_spec _ _ hx
        have e2 := ofC_spec _ _ hy
        subst e1 e2
        rw [Bool.and_eq_true, sameV_iff, sameV_iff] at hg
        obtain ⟨rfl, rfl⟩ := hg
        exact image_ex s
      · cases h
    · cases h
  · split at h
    · rename_i x y hx hy
      split at h
      · rename_i hg; cases h
        have e1 := ofC_spec _ _ hx
        have e2 := ofC_spec _ _ hy
        subst e1 e2
        rw [Bool.and_eq_true, sameV_iff, sameV_iff] at hg
        obtain ⟨rfl, rfl⟩ := hg
        exact apply_ex s
      · cases h
    · cases h
  · exact spc2_ok callM hM _ _ _ h s
theorem sanity : Gives Tryz.prog 18 [] (vB true) := fun m =>
  ecall_sound spc3_ok (n := 1000) (r := .ret (vB true)) (by kernel_rfl) m
end Go.Proofs.YtgfadepkiejncaaGreat
namespace Go.Proofs.YtgfadepkiejncaaGreat
open Go.Ab
set_option maxHeartbeats 0
set_option maxRecDepth 100000
attribute [local irreducible] AW AList ACall DA AExit.then AExit.inBlock
theorem lightF_nodes {v : GV} {most : Int} (h : lightF v most = true) : (nodes v : Int) ≤ most ∧ ∀ x ∈ walkV v, small x = true := by
  unfold lightF at h
  split at h
  · cases h
  · rename_i hlt
    have h3 := (wt_spec v most).2.2 (by omega)
    exact ⟨by omega, fun x hx => List.all_eq_true.1 h x hx⟩
theorem formedF_sizes {v : GV} (h : formedF v = true) : nodes v ≤ 400 ∧ ∀ x ∈ walkV v, x.abs.length ≤ 60 ∧ x.str.size ≤ 1100 := by
  simp only [formedF, Bool.and_eq_true] at h
  obtain ⟨h1, h2⟩ := lightF_nodes h.1
  refine ⟨by omega, fun x hx => ?_⟩
  have := h2 x hx
  simp [small] at this
  omega
mutual
theorem sameV_refl : ∀ a : GV, sameV a a = true
  | .mk k n ng a s l => by simp [sameV, sameInt, sameL_refl l]
theorem sameL_refl : ∀ l : List GV, sameL l l = true
  | [] => rfl
  | a :: l => by simp [sameL, sameV_refl a, sameL_refl l]
end
end Go.Proofs.YtgfadepkiejncaaGreat
namespace Go.Proofs.YtgfadepkiejncaaGreat
open Go.Ab
set_option maxHeartbeats 0
set_option maxRecDepth 100000
attribute [local irreducible] AW AList ACall DA AExit.then AExit.inBlock YCall DCall
theorem formedF_good {v : GV} (hv : v.ok) (h : formedF v = true) : good v ∧ v.dk := by
  simp only [formedF, Bool.and_eq_true, decide_eq_true_eq] at h
  exact ⟨⟨(checkF_ok.1 h.2).1, hv⟩, fol_dk v 0 1 h.2⟩
end Go.Proofs.YtgfadepkiejncaaGreat
namespace Go.Ab
theorem Fin.gives2 {P : Program} {fn : Func} {m m' : St} {σ : Nat → PV} {r : PV} (hm : Same m m') (hp : ResP P fn.results.toList σ m' r) (hq : r.strip = r := by simp) (hs : r.sc m.nloc m.ntok := by simp) : Fin P fn m (fun r' m' => r' = .ret r ∧ m' = m) .ret σ m' :=
  Fin.ret hp hm hq hs ⟨rfl, rfl⟩
end Go.Ab
namespace Go.Proofs.YtgfadepkiejncaaGreat
open Go.Ab
set_option maxHeartbeats 0
set_option maxRecDepth 100000
attribute [local irreducible] AW AList ACall DA AExit.then AExit.inBlock YCall DCall
theorem bin_search (l : List GV) (x : GV) (gl : goods l) (gx : good x) (ll : l.length < 100000000000) : Gives Tryz.prog 118 [GV.pvs l, x.pv, .clo 22 [] []] (.tup [vI (atF l x), vB (isF l x)]) := by
  intro m
  refine ACall.of_aw Tryz.func118 Tryz.ntmps118 rfl rfl (by simp) ?_
  refine tS ?_
  refine AW.loop (ι := Nat × Nat) (fun p σ m' => p.1 ≤ p.2 ∧ p.2 ≤ l.length ∧ bsF l x p.1 p.2 = atF l x ∧ σ 9 = vI p.1 ∧ σ 10 = vI p.2 ∧ σ 8 = vI l.length ∧ σ 4 = .loc m.nloc 0 ∧ σ 0 = GV.pvs l ∧ σ 2 = .clo 22 [] [] ∧ m' = m.newLoc x.cells) (fun p => p.2 - p.1) (0, l.length) ?_ ?_
  · exact ⟨by simp, by simp, rfl, by simp [upd_lit], by simp [upd_lit], by simp [upd_lit], by simp [upd_lit], by simp [upd_lit], by simp [upd_lit], rfl⟩
  rintro ⟨lo, hi⟩ σ m' ⟨h1, h2, hb, h9, h10, h8, t4, t0, t2, rfl⟩
  simp only at h1 h2 hb h9 h10 ⊢
  have F := (aand @h9 @h10); refine tF ?_; (try clear F)
  refine AW.condD (p := lo < hi) (by simp [upd_lit]) (fun hlt => ?_) (fun hge => ?_)
  · rw [bsF, dif_pos hlt] at hb
    obtain ⟨q, eq⟩ : ∃ q, q = (lo + hi) / 2 := ⟨_, rfl⟩
    rw [← eq] at hb
    have hm : q < l.length := by omega
    rw [List.getElem?_eq_getElem hm, Option.getD_some] at hb
    have w1 : IntKind.u64.wrap ((lo : Int) + hi) = (lo : Int) + hi := wrap_u64 _ (by omega) (by omega)
    have e1 : ((lo : Int) + hi) / 2 = (q : Int) := by omega
    have F := (aand @h9 (aand @h10 (aand @w1 @e1))); refine tF ?_; (try clear F)
    repeat (first | refine AW.seq ?_ | refine AW.block ?_ | refine AW.skip ?_ | refine AExit.norT ?_ | refine AExit.norB ?_ | refine AList.nil ?_)
    refine AW.draw [.S, .S, .S, .S, .S, .R, .R, .S] (by decide +kernel) ?_; have F := (aand @t0 (aand @t2 (aand @t4 (aand @hm @rows_getD)))); refine dS 0 ?_; refine dS 1 ?_; refine dS 2 ?_; refine dS 3 ?_; refine dS 4 ?_; refine dR 5 ?_; refine dC ((val_compare _ _ (gl _ (List.getElem_mem hm)) gx)) 6 ?_; refine dS 7 ?_; (try clear F); first | refine dN ?_ | refine dB ?_ | refine DA.done (by decide +kernel) ?_
    refine AW.condD (p := cmpV l[q] x < 0) (by simp [upd_lit]) (fun hc => ?_) (fun hc => ?_)
    · refine tS ?_
      rw [if_pos hc] at hb
      exact ⟨(q + 1, hi), ⟨by simp; omega, h2, hb, by simp [upd_lit], by simp [upd_lit, h10], by simp [upd_lit, h8], by simp [upd_lit, t4], by simp [upd_lit, t0], by simp [upd_lit, t2], rfl⟩, by simp; omega⟩
    · refine tS ?_
      rw [if_neg hc] at hb
      exact ⟨(lo, q), ⟨by simp; omega, by simp; omega, hb, by simp [upd_lit, h9], by simp [upd_lit], by simp [upd_lit, h8], by simp [upd_lit, t4], by simp [upd_lit, t0], by simp [upd_lit, t2], rfl⟩, by simp; omega⟩
  · rw [bsF, dif_neg hge] at hb
    subst hb
    refine tS ?_
    by_cases hlt : atF l x < l.length
    · have hi' : isF l x = decide (cmpV l[atF l x] x = 0) := by simp [isF, hlt]
      rw [hi']
      repeat (first | refine AW.seq ?_ | refine AW.block ?_ | refine AW.skip ?_ | refine AExit.norT ?_ | refine AExit.norB ?_ | refine AList.nil ?_)
      refine AW.draw [.S, .S, .S, .S, .S, .S, .S, .S, .S, .R, .R, .R, .S, .S, .S, .S] (by decide +kernel) ?_; have F := (aand @h9 (aand @h8 (aand @t0 (aand @t2 (aand @t4 (aand @hlt @rows_getD)))))); refine dS 0 ?_; refine dS 1 ?_; refine dS 2 ?_; refine dS 3 ?_; refine dS 4 ?_; refine dSG 5 ?_; refine dSG 6 ?_; refine dSG 7 ?_; refine dSG 8 ?_; refine dRG 9 ?_; refine dRG 10 ?_; refine dCG ((val_compare _ _ (gl _ (List.getElem_mem hlt)) gx)) 11 ?_; refine dSG 12 ?_; refine dS 13 ?_; refine dS 14 ?_; refine dS 15 ?_; (try clear F); first | refine dN ?_ | refine dB ?_ | refine DA.done (by decide +kernel) ?_
      refine tS ?_
      exact Fin.gives2 Same.auto (by simp [ResP, ResL, resV, upd_lit, show Tryz.f118.results.toList = [.tmp 6, .tmp 7] from rfl])
    · have hi' : isF l x = false := by simp [isF, hlt]
      rw [hi']
      repeat (first | refine AW.seq ?_ | refine AW.block ?_ | refine AW.skip ?_ | refine AExit.norT ?_ | refine AExit.norB ?_ | refine AList.nil ?_)
      refine AW.draw [.S, .S, .S, .S, .S, .S, .S, .S, .S, .R, .R, .R, .S, .S, .S, .S] (by decide +kernel) ?_; have F := (aand @h9 (aand @h8 (aand @t0 (aand @t2 (aand @t4 @hlt))))); refine dS 0 ?_; refine dS 1 ?_; refine dS 2 ?_; refine dS 3 ?_; refine dS 4 ?_; refine dXx 5 ?_; refine dXx 6 ?_; refine dXx 7 ?_; refine dXx 8 ?_; refine dXX 9 ?_; refine dXX 10 ?_; refine dXX 11 ?_; refine dXx 12 ?_; refine dS 13 ?_; refine dS 14 ?_; refine dS 15 ?_; (try clear F); first | refine dN ?_ | refine dB ?_ | refine DA.done (by decide +kernel) ?_
      refine tS ?_
      exact Fin.gives2 Same.auto (by simp [ResP, ResL, resV, upd_lit, show Tryz.f118.results.toList = [.tmp 6, .tmp 7] from rfl])
theorem val_find (s x : GV) (gs : good s) (gx : good x) (ls : nodes s < 100000000000) : Gives Tryz.prog 66 [s.pv, x.pv] (if s.kind = 8 then .tup [vI (atF s.els x), vB (isF s.els x)] else .tup [vI 0, vB false]) := by
  have es := nodes_eq s
  have ns := nodesL_len s.els
  intro m
  refine ACall.of_aw Tryz.func66 Tryz.ntmps66 rfl rfl (by simp) ?_
  by_cases h : s.kind = 8
  · rw [if_pos h]
    have F := @h; refine tFa ?_; (try clear F)
    refine tS1 fun K Kp hK hKp => ?_; refine Gives.at (bin_search s.els x gs.els gx (by omega)) ?_; apply hK; clear hK hKp K Kp
    refine tS ?_
    exact Fin.gives2 Same.auto (by simp [ResP, ResL, resV, upd_lit, show Tryz.f66.results.toList = [.tmp 4, .tmp 5] from rfl])
  · rw [if_neg h]
    have F := @h; refine tFa ?_; (try clear F)
    exact Fin.gives2 Same.auto (by simp [ResP, ResL, resV, upd_lit, show Tryz.f66.results.toList = [.tmp 4, .tmp 5] from rfl])
def someF (v : GV) : Bool := !decide (v.kind = 0) && formedF v
theorem law_some (v : GV) (hv : v.ok) : Gives Tryz.prog 45 [v.pv] (vB (someF v)) := by
  intro m
  refine ACall.of_aw Tryz.func45 Tryz.ntmps45 rfl rfl (by simp) ?_
  by_cases h : v.kind = 0
  · have F := @h; refine tFg ?_; (try clear F)
    exact Fin.gives Same.auto rfl (by simp [upd_lit, someF, h])
  · have F := @h; refine tFg ?_; (try clear F)
    have F := @h; refine tFc (law_formed v hv) ?_; (try clear F)
    have F := @h; refine tFg ?_; (try clear F)
    exact Fin.gives Same.auto rfl (by simp [upd_lit, someF, h])
theorem law_has (s x : GV) (gs : good s) (gx : good x) (h8 : s.kind = 8) (ls : nodes s < 100000000000) : Gives Tryz.prog 61 [s.pv, x.pv] (vB (isF s.els x)) := by
  have hf := val_find s x gs gx ls
  rw [if_pos h8] at hf
  intro m
  refine ACall.of_aw Tryz.func61 Tryz.ntmps61 rfl rfl (by simp) ?_
  refine tS ?_
  refine tS1 fun K Kp hK hKp => ?_; refine Gives.at (hf) ?_; apply hK; clear hK hKp K Kp
  refine tS ?_
  exact Fin.gives Same.auto
end Go.Proofs.YtgfadepkiejncaaGreat
namespace Go.Proofs.YtgfadepkiejncaaGreat
open Go.Ab
set_option maxHeartbeats 0
set_option maxRecDepth 100000
attribute [local irreducible] AW AList ACall DA AExit.then AExit.inBlock YCall DCall
theorem set_nonom {a : GV} (h : good a) (h8 : a.kind = 8) : ∀ x ∈ a.els, x.kind ≠ 0 := by
  have := h.1
  rw [fmd_eq] at this
  exact (this.2.1 h8).1
theorem setV_ok {l : List GV} (g : goods l) (hl : l.length < 1000000) : (setV l).ok :=
  ⟨by omega, by omega, by decide, by show (0 : Nat) < _; omega, by omega, fun x hx => (by cases hx), (okL_iff l).2 fun x hx => (g x hx).2⟩
theorem omV_ok : omV.ok := ⟨by omega, by omega, by decide, by show (0 : Nat) < _; omega, by decide, fun x hx => (by cases hx), trivial⟩
theorem deepL_sub {l s : List GV} (hs : ∀ x ∈ s, x ∈ l) : deepL s ≤ deepL l := by
  have h1 : ∀ (l : List GV) (x : GV), x ∈ l → deep x ≤ deepL l := by
    intro l
    induction l with
    | nil => simp
    | cons v l ih =>
      intro x hx
      rcases List.mem_cons.1 hx with rfl | hx
      · simp [deepL]; omega
      · have := ih x hx; simp [deepL]; omega
  induction s with
  | nil => simp [deepL]
  | cons v s ih =>
    have := h1 l v (hs v (by simp))
    have := ih fun x hx => hs x (by simp [hx])
    simp [deepL]; omega
structure Fm (a : GV) : Prop where
  good : good a
  nodes : nodes a ≤ 400
  deep : deep a ≤ 20
theorem formed_Fm {v : GV} (hv : v.ok) (h : formedF v = true) : Fm v := by
  have h1 := (formedF_good hv h).1
  have h2 := (formedF_sizes h).1
  simp only [formedF, Bool.and_eq_true, decide_eq_true_eq] at h
  exact ⟨h1, h2, (checkF_ok.1 h.2).2.2⟩
theorem Fm.len {a : GV} (h : Fm a) : a.els.length ≤ 400 := by have := h.nodes; have := nodes_eq a; have := nodesL_len a.els; omega
abbrev zc : List PV := [PV.v (Value.int IntKind.i64 0), PV.v (Value.int IntKind.i64 0), PV.v (Value.bool false), PV.list Own.full [], PV.v (Value.string { data := #[] }), PV.list Own.full []]
end Go.Proofs.YtgfadepkiejncaaGreat
namespace Go.Proofs.YtgfadepkiejncaaGreat
open Go.Ab Go.Sort
set_option maxHeartbeats 0
set_option maxRecDepth 100000
attribute [local irreducible] AW AList ACall DA AExit.then AExit.inBlock YCall DCall
theorem om_good : good (.mk 0 0 false [] ⟨#[]⟩ []) := by
  refine ⟨?_, ?_⟩
  · rw [fmd_eq]
    refine ⟨⟨by kernel_rfl, by kernel_rfl, by simp [GV.abs], by show (0 : Nat) ≤ 1000; omega⟩, fun h => (by cases h), trivial⟩
  · exact ⟨by omega, by omega, by decide, by show (0 : Nat) < _; omega, by decide, fun x hx => (by cases hx), trivial⟩
abbrev GG := {v : GV // good v}
instance : Inhabited GG := ⟨⟨_, om_good⟩⟩
def ltG (x y : GG) : Bool := decide (cmpV x.1 y.1 < 0)
theorem ltG_swo : SWO ltG := by
  refine ⟨fun x => by simp [ltG, cmp_self], fun x y z h1 h2 => ?_, fun x y z h1 h2 => ?_⟩
  · simp only [ltG, decide_eq_true_eq] at *
    exact cmp_trans _ _ _ x.2 y.2 z.2 h1 h2
  · simp only [ltG, decide_eq_false_iff_not] at *
    intro h
    rcases cmp_tri y.2 z.2 with q | q | q
    · exact h2 q
    · rw [q] at h1; exact h1 h
    · exact h1 (cmp_trans _ _ _ x.2 z.2 y.2 h q)
def ar (d : Array GG) (r : List PV) : List PV := (GV.rows (d.toList.map (·.1))).flatten ++ r
theorem rows_flat_len (l : List GV) : (GV.rows l).flatten.length = l.length * 6 := by
  induction l with
  | nil => rfl
  | cons v l ih => simp [GV.rows, cells_len, ih]; omega
theorem ar_len (d : Array GG) (r : List PV) : (ar d r).length = d.size * 6 + r.length := by rw [ar, List.length_append, rows_flat_len]; simp
theorem rows_flat_get : ∀ (l : List GV) (i : Nat) (h : i < l.length) (r : List PV), (((GV.rows l).flatten ++ r).drop (i * 6)).take 6 = (l[i]).cells
  | v :: l, 0, _, r => by
    simp only [GV.rows, List.flatten_cons, List.append_assoc, Nat.zero_mul, List.drop_zero, List.getElem_cons_zero]
    rw [List.take_append_of_le_length (by rw [cells_len]; omega), List.take_of_length_le (by rw [cells_len]; omega)]
  | v :: l, i + 1, h, r => by
    have := rows_flat_get l i (by simpa using h) r
    simp only [GV.rows, List.flatten_cons, List.append_assoc, List.getElem_cons_succ]
    rw [show (i + 1) * 6 = v.cells.length + i * 6 from by rw [cells_len]; omega, ← List.drop_drop, List.drop_left]
    exact this
def gt (d : Array GG) (i : Nat) : GG := d[i]!
theorem ar_get (d : Array GG) (r : List PV) (i : Nat) (h : i < d.size) : ((ar d r).drop (i * 6)).take 6 = (gt d i).1.cells := by
  rw [gt, ar, rows_flat_get _ i (by simpa using h)]
  simp [h]
theorem rows_flat_set : ∀ (l : List GV) (i : Nat) (h : i < l.length) (r : List PV) (x : GV), setL ((GV.rows l).flatten ++ r) (i * 6) x.cells = (GV.rows (l.set i x)).flatten ++ r
  | v :: l, 0, _, r, x => by
    rw [setL_eq _ _ _ (by rw [List.length_append, rows_flat_len, cells_len]; simp only [List.length_cons]; omega)]
    simp only [Nat.zero_mul, List.take_zero, List.nil_append, Nat.zero_add, List.set_cons_zero, GV.rows, List.flatten_cons, List.append_assoc]
    rw [show x.cells.length = v.cells.length from by rw [cells_len, cells_len], List.drop_left]
  | v :: l, i + 1, h, r, x => by
    have := rows_flat_set l i (by simpa using h) r x
    have hl : i < l.length := by simpa using h
    have hL2 : i * 6 + x.cells.length ≤ ((GV.rows l).flatten ++ r).length := by rw [List.length_append, rows_flat_len, cells_len]; omega
    rw [setL_eq _ _ _ hL2] at this
    rw [setL_eq _ _ _ (by rw [List.length_append, rows_flat_len, cells_len]; simp only [List.length_cons] at h ⊢; omega)]
    simp only [GV.rows, List.flatten_cons, List.append_assoc, List.set_cons_succ]
    rw [← this]
    have e : (i + 1) * 6 = v.cells.length + i * 6 := by rw [cells_len]; omega
    rw [e, List.take_append, List.take_of_length_le (by omega), Nat.add_sub_cancel_left, Nat.add_assoc, ← List.drop_drop, List.drop_left, List.append_assoc, List.append_assoc]
theorem ar_set (d : Array GG) (r : List PV) (i : Nat) (x : GG) (h : i < d.size) : setL (ar d r) (i * 6) x.1.cells = ar (d.setIfInBounds i x) r := by
  rw [ar, rows_flat_set _ i (by simpa using h), ar, Array.toList_setIfInBounds, List.map_set]
theorem cmpG (x y : GG) : Gives Tryz.prog 22 [x.1.pv, y.1.pv] (vI (cmpV x.1 y.1)) := val_compare x.1 y.1 x.2 y.2
theorem swp_gt (d : Array GG) (i j : Nat) : (d.setIfInBounds i (gt d j)).setIfInBounds j (gt d i) = swp d i j := rfl
theorem swp_size (d : Array GG) (i j : Nat) : (swp d i j).size = d.size := by simp [swp]
end Go.Proofs.YtgfadepkiejncaaGreat
namespace Go.Proofs.YtgfadepkiejncaaGreat
open Go.Ab Go.Sort
set_option maxHeartbeats 0
set_option maxRecDepth 100000
attribute [local irreducible] AW AList ACall DA AExit.then AExit.inBlock YCall DCall
theorem ar_fit (d : Array GG) (r : List PV) (i : Nat) (h : i < d.size) : i * 6 + 6 ≤ (ar d r).length := by rw [ar_len]; omega
structure Arr (m : St) (n L : Nat) (d : Array GG) (r : List PV) : Prop where
  lt : n < m.nloc
  loc : m.loc n = some (ar d r)
  size : d.size = L
  small : L ≤ 1099511627776
abbrev mar (n L cap : Nat) : PV := .marr n 0 L cap
abbrev cloC : PV := .clo 22 [] []
theorem insertion {m : St} {n L cap : Nat} {d : Array GG} {r : List PV} (H : Arr m n L d r) (a b : Nat) (hab : a ≤ b) (hb : b ≤ L) :
    ACall Tryz.prog 175 [mar n L cap, vI a, vI b, cloC] m (fun r' m' => r' = .ret (.tup []) ∧ m' = m.setLoc n (ar (insertionSort ltG d a b) r)) := by
  obtain ⟨hn, hm, hL, hS⟩ := H
  refine ACall.of_aw Tryz.func175 Tryz.ntmps175 rfl rfl (by simp) ?_
  refine tS ?_
  refine AW.loop (ι := Nat) (fun i σ m' => a + 1 ≤ i ∧ (i ≤ b ∨ i = a + 1) ∧ σ 8 = vI i ∧ σ 0 = mar n L cap ∧ σ 1 = vI a ∧ σ 2 = vI b ∧ σ 3 = cloC ∧ ∃ d', d'.size = L ∧ insOuter ltG a b i d' = insertionSort ltG d a b ∧ m' = m.setLoc n (ar d' r)) (fun i => b - i) (a + 1) ?_ ?_
  · exact ⟨by simp, .inr rfl, by simp [upd_lit], by simp [upd_lit], by simp [upd_lit], by simp [upd_lit], by simp [upd_lit], d, hL, rfl, (setLoc_self hm).symm⟩
  rintro i σ m' ⟨hi1, hi, h8, h0, h1, h2, h3, d1, hs1, hD, rfl⟩
  rw [insOuter] at hD
  have F := (aand @h8 @h2); refine tF ?_; (try clear F)
  refine AW.condD (p := i < b) (by simp [upd_lit]) (fun hlt => ?_) (fun hge => ?_)
  rotate_left
  · refine tS ?_
    rw [if_neg hge] at hD
    rw [← hD]
    exact Fin.all ⟨[], rfl, rfl⟩ (.inl rfl)
  rw [if_pos hlt] at hD
  have F := @h8; refine tF ?_; (try clear F)
  refine AW.loop (ι := Nat) (fun j τ m' => j ≤ i ∧ τ 9 = vI j ∧ τ 8 = vI i ∧ τ 0 = mar n L cap ∧ τ 1 = vI a ∧ τ 2 = vI b ∧ τ 3 = cloC ∧ ∃ d', d'.size = L ∧ insInner ltG a j d' = insInner ltG a i d1 ∧ m' = m.setLoc n (ar d' r)) (fun j => j) i ?_ ?_
  · exact ⟨Nat.le_refl _, by simp [upd_lit], by simp [upd_lit, h8], by simp [upd_lit, h0], by simp [upd_lit, h1], by simp [upd_lit, h2], by simp [upd_lit, h3], d1, hs1, rfl, rfl⟩
  rintro j τ m' ⟨hj, t9, t8, t0, t1, t2, t3, d2, hs2, hE, rfl⟩
  have out : ∀ ρ : Nat → PV, insInner ltG a j d2 = d2 → ρ 8 = vI ((i + 1 : Nat) : Int) → ρ 0 = mar n L cap → ρ 1 = vI a → ρ 2 = vI b → ρ 3 = cloC →
      ∃ k, (a + 1 ≤ k ∧ (k ≤ b ∨ k = a + 1) ∧ ρ 8 = vI k ∧ ρ 0 = mar n L cap ∧ ρ 1 = vI a ∧ ρ 2 = vI b ∧ ρ 3 = cloC ∧ ∃ d', d'.size = L ∧ insOuter ltG a b k d' = insertionSort ltG d a b ∧ m.setLoc n (ar d2 r) = m.setLoc n (ar d' r)) ∧ b - k < b - i := by
    intro ρ he a8 a0 a1 a2 a3
    rw [he] at hE
    exact ⟨i + 1, ⟨by omega, by omega, a8, a0, a1, a2, a3, d2, hs2, by rw [hE]; exact hD, rfl⟩, by omega⟩
  by_cases hja : a < j
  rotate_left
  · have he : insInner ltG a j d2 = d2 := by
      cases j with
      | zero => rfl
      | succ k => rw [insInner, if_neg]; simp; omega
    repeat (first | refine AW.seq ?_ | refine AW.block ?_ | refine AW.skip ?_ | refine AExit.norT ?_ | refine AExit.norB ?_ | refine AList.nil ?_)
    refine AW.draw [.S, .S, .S, .S, .S, .S, .S, .S, .R, .S, .S, .S, .S, .R, .R, .S, .S] (by decide +kernel) ?_; have F := (aand @t9 (aand @t1 @hja)); refine dS 0 ?_; refine dS 1 ?_; refine dS 2 ?_; refine dS 3 ?_; refine dXx 4 ?_; refine dXx 5 ?_; refine dXx 6 ?_; refine dXx 7 ?_; refine dXX 8 ?_; refine dXx 9 ?_; refine dXx 10 ?_; refine dXx 11 ?_; refine dXx 12 ?_; refine dXX 13 ?_; refine dXX 14 ?_; refine dXx 15 ?_; refine dS 16 ?_; (try clear F); first | refine dN ?_ | refine dB ?_ | refine DA.done (by decide +kernel) ?_
    refine tSa ?_
    have F := @t8; refine tF ?_; (try clear F)
    exact out _ he (by simp [upd_lit]) (by simp [upd_lit, t0]) (by simp [upd_lit, t1]) (by simp [upd_lit, t2]) (by simp [upd_lit, t3])
  obtain ⟨k, rfl⟩ : ∃ k, j = k + 1 := ⟨j - 1, by omega⟩
  have k1 : k + 1 < d2.size := by omega
  have k2 : k < d2.size := by omega
  have e1 : ((k + 1 : Nat) : Int) - 1 = (k : Int) := by omega
  have e2 : (k : Int) + 1 < L := by omega
  have e3 : (k : Int) < L := by omega
  have e4 : (0 : Int) ≤ (k : Int) + 1 := by omega
  have e5 : ((k : Int) + 1).toNat = k + 1 := by omega
  have e6 : (a : Int) < (k : Int) + 1 := by omega
  have hcmp := cmpG (gt d2 (k + 1)) (gt d2 k)
  repeat (first | refine AW.seq ?_ | refine AW.block ?_ | refine AW.skip ?_ | refine AExit.norT ?_ | refine AExit.norB ?_ | refine AList.nil ?_)
  refine AW.draw [.S, .S, .S, .S, .S, .S, .S, .S, .R, .S, .S, .S, .S, .R, .R, .S, .S] (by decide +kernel) ?_; have F := (aand @t9 (aand @t0 (aand @t1 (aand @t3 (aand @e1 (aand @e2 (aand @e3 (aand @e4 (aand @e5 (aand @e6 (aand @k1 (aand @k2 (aand @hn (aand @ar_get @ar_fit)))))))))))))); refine dS 0 ?_; refine dS 1 ?_; refine dS 2 ?_; refine dS 3 ?_; refine dSG 4 ?_; refine dSG 5 ?_; refine dSG 6 ?_; refine dSG 7 ?_; refine dRG 8 ?_; refine dSG 9 ?_; refine dSG 10 ?_; refine dSG 11 ?_; refine dSG 12 ?_; refine dRG 13 ?_; refine dCG ((hcmp)) 14 ?_; refine dSG 15 ?_; refine dS 16 ?_; (try clear F); first | refine dN ?_ | refine dB ?_ | refine DA.done (by decide +kernel) ?_
  by_cases hc : cmpV (gt d2 (k + 1)).1 (gt d2 k).1 < 0
  rotate_left
  · have he : insInner ltG a (k + 1) d2 = d2 := by rw [insInner, if_neg]; show ¬ (decide (k + 1 > a) && ltG (gt d2 (k + 1)) (gt d2 k)) = true; simp [ltG]; omega
    have F := @hc; refine tFa ?_; (try clear F)
    have F := @t8; refine tF ?_; (try clear F)
    exact out _ he (by simp [upd_lit]) (by simp [upd_lit, t0]) (by simp [upd_lit, t1]) (by simp [upd_lit, t2]) (by simp [upd_lit, t3])
  have F := @hc; refine tFa ?_; (try clear F)
  repeat (first | refine AW.seq ?_ | refine AW.block ?_ | refine AW.skip ?_ | refine AExit.norT ?_ | refine AExit.norB ?_ | refine AList.nil ?_)
  refine AW.draw [.S, .S, .S, .S, .S, .S, .S, .S, .S, .R, .S, .S, .S, .R, .S, .W, .S, .W] (by decide +kernel) ?_; have F := (aand @t9 (aand @t0 (aand @t1 (aand @t3 (aand @e1 (aand @e2 (aand @e3 (aand @e4 (aand @e5 (aand @e6 (aand @k1 (aand @k2 (aand @hn (aand @ar_get (aand @ar_fit (aand @ar_set @setLoc_setLoc)))))))))))))))); refine dST 0 ?_; refine dST 1 ?_; refine dST 2 ?_; refine dST 3 ?_; refine dST 4 ?_; refine dST 5 ?_; refine dST 6 ?_; refine dST 7 ?_; refine dST 8 ?_; refine dRT 9 ?_; refine dST 10 ?_; refine dST 11 ?_; refine dST 12 ?_; refine dRT 13 ?_; refine dST 14 ?_; refine dW 15 ?_; refine dST 16 ?_; refine dW 17 ?_; (try clear F); first | refine dN ?_ | refine dB ?_ | refine DA.done (by decide +kernel) ?_
  simp only [put]
  rw [swp_gt]
  repeat (first | refine AW.seq ?_ | refine AW.block ?_ | refine AW.skip ?_ | refine AExit.norT ?_ | refine AExit.norB ?_ | refine AList.nil ?_)
  have F := (aand @t9 @e1); refine tF ?_; (try clear F)
  have he : insInner ltG a (k + 1) d2 = insInner ltG a k (swp d2 (k + 1) k) := by
    rw [insInner, if_pos]; show (decide (k + 1 > a) && ltG (gt d2 (k + 1)) (gt d2 k)) = true; simp [ltG, hc]; omega
  rw [he] at hE
  exact ⟨k, ⟨by omega, by simp [upd_lit], by simp [upd_lit, t8], by simp [upd_lit, t0], by simp [upd_lit, t1], by simp [upd_lit, t2], by simp [upd_lit, t3], _, by rw [swp_size]; exact hs2, hE, rfl⟩, by omega⟩
end Go.Proofs.YtgfadepkiejncaaGreat
namespace Go.Ab
theorem AW.step {P : Program} {N : Nat} {Q : APost} {σ : Nat → PV} {m : St} {c : Code} (I : (Nat → PV) → St → Prop) (h : AW P N c (fun y σ m => y = .normal ∧ I σ m) σ m) (k : ∀ σ m, I σ m → Q .normal σ m) : AW P N c Q σ m :=
  AW.mono h fun _ _ _ ⟨e, hi⟩ => e ▸ k _ _ hi
def GivesTo (P : Program) (f : FuncId) (args : List PV) (m : St) (r : PV) (m2 : St) : Prop := ACall P f args m (fun r' m' => r' = .ret r ∧ m' = m2)
theorem GivesTo.at {P : Program} {f : FuncId} {args : List PV} {r : PV} {m m2 : St} {K Kp : PV → St → Prop} (h : GivesTo P f args m r m2) (k : K r m2) :
    ACall P f args m (fun r' m' => match r' with | .ret p => K p m' | .pan p => Kp p m') := ACall.mono h (by rintro _ _ ⟨rfl, rfl⟩; exact k)
end Go.Ab
namespace Go.Proofs.YtgfadepkiejncaaGreat
open Go.Ab Go.Sort
set_option maxHeartbeats 0
set_option maxRecDepth 100000
attribute [local irreducible] AW AList ACall DA AExit.then AExit.inBlock YCall DCall
theorem gt_eq (d : Array GG) (i : Nat) : d[i]! = gt d i := rfl
theorem sift {m : St} {n L cap : Nat} {d : Array GG} {r : List PV} (H : Arr m n L d r) (lo hi first : Nat) (hh : first + hi ≤ L) (hlo : lo ≤ L) :
    GivesTo Tryz.prog 196 [mar n L cap, vI lo, vI hi, vI first, cloC] m (.tup []) (m.setLoc n (ar (siftDown ltG hi first lo d) r)) := by
  obtain ⟨hn, hm, hL, hS⟩ := H
  refine ACall.of_aw Tryz.func196 Tryz.ntmps196 rfl rfl (by simp) ?_
  refine tS ?_
  refine AW.loop (ι := Nat) (fun root σ m' => root ≤ L ∧ σ 10 = vI root ∧ σ 0 = mar n L cap ∧ σ 2 = vI hi ∧ σ 3 = vI first ∧ σ 4 = cloC ∧ ∃ d', d'.size = L ∧ siftDown ltG hi first root d' = siftDown ltG hi first lo d ∧ m' = m.setLoc n (ar d' r)) (fun root => hi - root) lo ?_ ?_
  · exact ⟨hlo, by simp [upd_lit], by simp [upd_lit], by simp [upd_lit], by simp [upd_lit], by simp [upd_lit], d, hL, rfl, (setLoc_self hm).symm⟩
  rintro root σ m' ⟨hr, t10, t0, t2, t3, t4, d1, hs, hD, rfl⟩
  rw [siftDown] at hD
  obtain ⟨c, hc⟩ : ∃ c, c = 2 * root + 1 := ⟨_, rfl⟩
  have ec : 2 * (root : Int) + 1 = (c : Int) := by omega
  rw [← hc] at hD
  have F := (aand @t10 (aand @t2 @ec)); refine tF ?_; (try clear F)
  by_cases hge : hi ≤ c
  · rw [dif_pos hge] at hD
    rw [← hD]
    have F := @hge; refine tFa ?_; (try clear F)
    exact Fin.all ⟨[], rfl, rfl⟩ (.inl rfl)
  rw [dif_neg hge] at hD
  have F := @hge; refine tFa ?_; (try clear F)
  obtain ⟨p, hp⟩ : ∃ p, p = first + root := ⟨_, rfl⟩
  obtain ⟨q, hq⟩ : ∃ q, q = first + c := ⟨_, rfl⟩
  have ep : (first : Int) + (root : Int) = p := by omega
  have eq : (first : Int) + (c : Int) = q := by omega
  have p1 : p < d1.size := by omega
  have p2 : (p : Int) < L := by omega
  have q1 : q < d1.size := by omega
  have q2 : (q : Int) < L := by omega
  rw [show 2 * root + 2 = c + 1 from by omega, ← hq, ← hp] at hD
  simp only [gt_eq] at hD
  refine AW.step (fun τ m' => τ 40 = vB (decide (c + 1 < hi) && ltG (gt d1 q) (gt d1 (q + 1))) ∧ τ 11 = vI c ∧ τ 10 = vI root ∧ τ 0 = mar n L cap ∧ τ 2 = vI hi ∧ τ 3 = vI first ∧ τ 4 = cloC ∧ m' = m.setLoc n (ar d1 r)) ?_ ?_
  · by_cases h1 : c + 1 < hi
    · have ec1 : (c : Int) + 1 < hi := by omega
      have q3 : q + 1 < d1.size := by omega
      have q4 : (q : Int) + 1 < L := by omega
      have q5 : (0 : Int) ≤ (q : Int) + 1 := by omega
      have q6 : ((q : Int) + 1).toNat = q + 1 := by omega
      have hcmp := cmpG (gt d1 q) (gt d1 (q + 1))
      refine AW.draw [.S, .S, .S, .S, .S, .S, .S, .S, .S, .S, .S, .R, .S, .S, .S, .S, .S, .S, .R, .R, .S, .S] (by decide +kernel) ?_; have F := (aand @t0 (aand @t2 (aand @t3 (aand @t4 (aand @t10 (aand @ep (aand @eq (aand @p1 (aand @p2 (aand @q1 (aand @q2 (aand @hn (aand @ar_get (aand @ar_fit (aand @h1 (aand @ec1 (aand @q3 (aand @q4 (aand @q5 @q6))))))))))))))))))); refine dS 0 ?_; refine dS 1 ?_; refine dS 2 ?_; refine dS 3 ?_; refine dS 4 ?_; refine dSG 5 ?_; refine dSG 6 ?_; refine dSG 7 ?_; refine dSG 8 ?_; refine dSG 9 ?_; refine dSG 10 ?_; refine dRG 11 ?_; refine dSG 12 ?_; refine dSG 13 ?_; refine dSG 14 ?_; refine dSG 15 ?_; refine dSG 16 ?_; refine dSG 17 ?_; refine dRG 18 ?_; refine dCG ((hcmp)) 19 ?_; refine dSG 20 ?_; refine dS 21 ?_; (try clear F); first | refine dN ?_ | refine dB ?_ | refine DA.done (by decide +kernel) ?_
      exact ⟨rfl, by simp [upd_lit, h1, ltG], by simp [upd_lit], by simp [upd_lit, t10], by simp [upd_lit, t0], by simp [upd_lit, t2], by simp [upd_lit, t3], by simp [upd_lit, t4], rfl⟩
    · have ec1 : ¬ (c : Int) + 1 < hi := by omega
      refine AW.draw [.S, .S, .S, .S, .S, .S, .S, .S, .S, .S, .S, .R, .S, .S, .S, .S, .S, .S, .R, .R, .S, .S] (by decide +kernel) ?_; have F := (aand @t0 (aand @t2 (aand @t3 (aand @t4 (aand @t10 (aand @ep (aand @eq (aand @p1 (aand @p2 (aand @q1 (aand @q2 (aand @hn (aand @ar_get (aand @ar_fit (aand @h1 @ec1))))))))))))))); refine dS 0 ?_; refine dS 1 ?_; refine dS 2 ?_; refine dS 3 ?_; refine dS 4 ?_; refine dXx 5 ?_; refine dXx 6 ?_; refine dXx 7 ?_; refine dXx 8 ?_; refine dXx 9 ?_; refine dXx 10 ?_; refine dXX 11 ?_; refine dXx 12 ?_; refine dXx 13 ?_; refine dXx 14 ?_; refine dXx 15 ?_; refine dXx 16 ?_; refine dXx 17 ?_; refine dXX 18 ?_; refine dXX 19 ?_; refine dXx 20 ?_; refine dS 21 ?_; (try clear F); first | refine dN ?_ | refine dB ?_ | refine DA.done (by decide +kernel) ?_
      exact ⟨rfl, by simp [upd_lit, h1], by simp [upd_lit], by simp [upd_lit, t10], by simp [upd_lit, t0], by simp [upd_lit, t2], by simp [upd_lit, t3], by simp [upd_lit, t4], rfl⟩
  clear t0 t2 t3 t4 t10 σ
  rintro σ m' ⟨t40, t11, t10, t0, t2, t3, t4, rfl⟩
  refine AExit.norT ?_
  refine AW.step (fun τ m' => ∃ k : Nat, k < hi ∧ root < k ∧ τ 11 = vI k ∧ τ 10 = vI root ∧ τ 0 = mar n L cap ∧ τ 2 = vI hi ∧ τ 3 = vI first ∧ τ 4 = cloC ∧ m' = m.setLoc n (ar d1 r) ∧
    (if !ltG (gt d1 p) (gt d1 (first + k)) then d1 else siftDown ltG hi first k (swp d1 p (first + k))) = siftDown ltG hi first lo d) ?_ ?_
  · by_cases hb : (decide (c + 1 < hi) && ltG (gt d1 q) (gt d1 (q + 1))) = true
    · have hb2 := hb
      simp only [Bool.and_eq_true, decide_eq_true_eq] at hb2
      simp only [hb2.1, hb2.2, decide_true, Bool.and_self, if_true, dite_true] at hD
      have F := (aand @t40 (aand @hb @t11)); refine tFa ?_; (try clear F)
      exact ⟨rfl, c + 1, hb2.1, by omega, by simp [upd_lit], by simp [upd_lit, t10], by simp [upd_lit, t0], by simp [upd_lit, t2], by simp [upd_lit, t3], by simp [upd_lit, t4], rfl, hD⟩
    · have hb2 : (decide (c + 1 < hi) && ltG (gt d1 q) (gt d1 (q + 1))) = false := by simpa using hb
      simp only [hb2, Bool.false_eq_true, if_false, dite_false] at hD
      have F := (aand @t40 (aand @hb @t11)); refine tFa ?_; (try clear F)
      exact ⟨rfl, c, by omega, by omega, by simp [upd_lit, t11], by simp [upd_lit, t10], by simp [upd_lit, t0], by simp [upd_lit, t2], by simp [upd_lit, t3], by simp [upd_lit, t4], rfl, by rw [← hq]; exact hD⟩
  clear t0 t2 t3 t4 t10 t11 t40 hD σ eq q1 q2 ec
  rintro σ m' ⟨k, hk, hrk, t11, t10, t0, t2, t3, t4, rfl, hD⟩
  obtain ⟨w, hw⟩ : ∃ w, w = first + k := ⟨_, rfl⟩
  have ek : (first : Int) + (k : Int) = w := by omega
  have k3 : w < d1.size := by omega
  have k4 : (w : Int) < L := by omega
  have hcmp := cmpG (gt d1 p) (gt d1 w)
  rw [← hw] at hD
  repeat (first | refine AW.seq ?_ | refine AW.block ?_ | refine AW.skip ?_ | refine AExit.norT ?_ | refine AExit.norB ?_ | refine AList.nil ?_)
  refine AW.draw [.S, .S, .S, .S, .S, .S, .R, .S, .S, .S, .S, .S, .R, .R, .S, .S] (by decide +kernel) ?_; have F := (aand @t0 (aand @t2 (aand @t3 (aand @t4 (aand @t10 (aand @t11 (aand @ep (aand @ek (aand @p1 (aand @p2 (aand @k3 (aand @k4 (aand @hn (aand @ar_get @ar_fit)))))))))))))); refine dS 0 ?_; refine dS 1 ?_; refine dS 2 ?_; refine dS 3 ?_; refine dS 4 ?_; refine dS 5 ?_; refine dR 6 ?_; refine dS 7 ?_; refine dS 8 ?_; refine dS 9 ?_; refine dS 10 ?_; refine dS 11 ?_; refine dR 12 ?_; refine dC ((hcmp)) 13 ?_; refine dS 14 ?_; refine dS 15 ?_; (try clear F); first | refine dN ?_ | refine dB ?_ | refine DA.done (by decide +kernel) ?_
  by_cases hl : cmpV (gt d1 p).1 (gt d1 w).1 < 0
  rotate_left
  · rw [if_pos (by simp [ltG]; omega)] at hD
    rw [← hD]
    have F := @hl; refine tFa ?_; (try clear F)
    exact Fin.all ⟨[], rfl, rfl⟩ (.inr rfl)
  rw [if_neg (by simp [ltG]; omega)] at hD
  have F := @hl; refine tFa ?_; (try clear F)
  repeat (first | refine AW.seq ?_ | refine AW.block ?_ | refine AW.skip ?_ | refine AExit.norT ?_ | refine AExit.norB ?_ | refine AList.nil ?_)
  refine AW.draw [.S, .S, .S, .S, .S, .S, .S, .S, .S, .S, .S, .S, .S, .R, .S, .S, .S, .S, .S, .R, .S, .W, .S, .W] (by decide +kernel) ?_; have F := (aand @t0 (aand @t2 (aand @t3 (aand @t4 (aand @t10 (aand @t11 (aand @ep (aand @ek (aand @p1 (aand @p2 (aand @k3 (aand @k4 (aand @hn (aand @ar_get (aand @ar_fit (aand @ar_set @setLoc_setLoc)))))))))))))))); refine dST 0 ?_; refine dST 1 ?_; refine dST 2 ?_; refine dST 3 ?_; refine dST 4 ?_; refine dST 5 ?_; refine dST 6 ?_; refine dST 7 ?_; refine dST 8 ?_; refine dST 9 ?_; refine dST 10 ?_; refine dST 11 ?_; refine dST 12 ?_; refine dRT 13 ?_; refine dST 14 ?_; refine dST 15 ?_; refine dST 16 ?_; refine dST 17 ?_; refine dST 18 ?_; refine dRT 19 ?_; refine dST 20 ?_; refine dW 21 ?_; refine dST 22 ?_; refine dW 23 ?_; (try clear F); first | refine dN ?_ | refine dB ?_ | refine DA.done (by decide +kernel) ?_
  simp only [put]
  rw [swp_gt]
  repeat (first | refine AW.seq ?_ | refine AW.block ?_ | refine AW.skip ?_ | refine AExit.norT ?_ | refine AExit.norB ?_ | refine AList.nil ?_)
  have F := @t11; refine tF ?_; (try clear F)
  exact ⟨k, ⟨by omega, by simp [upd_lit], by simp [upd_lit, t0], by simp [upd_lit, t2], by simp [upd_lit, t3], by simp [upd_lit, t4], _, by rw [swp_size]; exact hs, hD, rfl⟩, by omega⟩
theorem Arr.set {m : St} {n L : Nat} {d : Array GG} {r : List PV} (H : Arr m n L d r) (d' : Array GG) (h : d'.size = L) : Arr (m.setLoc n (ar d' r)) n L d' r :=
  ⟨H.lt, by simp, h, H.small⟩
theorem siftDown_size (hi first root : Nat) (d : Array GG) : (siftDown ltG hi first root d).size = d.size := by
  fun_induction siftDown ltG hi first root d <;> simp_all [swp_size]
theorem heap {m : St} {n L cap : Nat} {d : Array GG} {r : List PV} (H : Arr m n L d r) (a b : Nat) (hab : a ≤ b) (hb : b ≤ L) :
    GivesTo Tryz.prog 176 [mar n L cap, vI a, vI b, cloC] m (.tup []) (m.setLoc n (ar (heapSort ltG d a b) r)) := by
  have hn := H.lt
  have hm := H.loc
  have hL := H.size
  have hS := H.small
  refine ACall.of_aw Tryz.func176 Tryz.ntmps176 rfl rfl (by simp) ?_
  obtain ⟨h, eh⟩ : ∃ h, h = b - a := ⟨_, rfl⟩
  have eh1 : (b : Int) - a = h := by omega
  have e2 : ((h : Int) - 1).tdiv 2 = (((h - 1) / 2 + 1 : Nat) : Int) - 1 := by
    cases h with
    | zero => rfl
    | succ h => rw [show ((h + 1 : Nat) : Int) - 1 = (h : Int) from by omega]; show ((h / 2 : Nat) : Int) = _; simp
  rw [show heapSort ltG d a b = heapPop ltG a h (heapBuild ltG h a ((h - 1) / 2 + 1) d) from by rw [heapSort, ← eh]]
  have hk0 : (h - 1) / 2 + 1 ≤ L + 1 := by omega
  generalize (h - 1) / 2 + 1 = k0 at *
  have F := (aand @eh1 @e2); refine tF ?_; (try clear F)
  refine AW.loop (ι := Nat) (fun k σ m' => k ≤ L + 1 ∧ σ 11 = vI ((k : Int) - 1) ∧ σ 10 = vI h ∧ σ 9 = vI 0 ∧ σ 8 = vI a ∧ σ 0 = mar n L cap ∧ σ 3 = cloC ∧ ∃ d', d'.size = L ∧ heapBuild ltG h a k d' = heapBuild ltG h a k0 d ∧ m' = m.setLoc n (ar d' r)) (fun k => k) k0 ?_ ?_
  · exact ⟨hk0, by simp [upd_lit], by simp [upd_lit], by simp [upd_lit], by simp [upd_lit], by simp [upd_lit], by simp [upd_lit], d, hL, rfl, (setLoc_self hm).symm⟩
  rintro k σ m' ⟨hk, t11, t10, t9, t8, t0, t3, d1, hs, hD, rfl⟩
  have H1 := H.set d1 hs
  cases k with
  | succ k =>
    have e1 : ((k + 1 : Nat) : Int) - 1 = (k : Int) := by omega
    rw [e1] at t11
    rw [heapBuild] at hD
    have F := @t11; refine tFa ?_; (try clear F)
    have F := (aand @t0 (aand @t11 (aand @t10 (aand @t8 @t3)))); refine tF1 fun K Kp hK hKp => ?_; (try clear F); refine GivesTo.at (sift H1 k h a (by omega) (by omega)) ?_; apply hK; clear hK hKp K Kp
    have F := @t11; refine tF ?_; (try clear F)
    exact ⟨k, ⟨by omega, by simp [upd_lit], by simp [upd_lit, t10], by simp [upd_lit, t9], by simp [upd_lit, t8], by simp [upd_lit, t0], by simp [upd_lit, t3], _, by rw [siftDown_size]; exact hs, hD, by rw [setLoc_setLoc]⟩, by omega⟩
  | zero =>
    have t11 : σ 11 = vI (-1) := t11
    rw [heapBuild] at hD
    subst hD
    have F := (aand @t11 @t10); refine tFa ?_; (try clear F)
    generalize heapBuild ltG h a k0 d = dB at *
    clear t11 H1
    refine AW.loop (ι := Nat) (fun k σ m' => k ≤ h ∧ σ 12 = vI ((k : Int) - 1) ∧ σ 9 = vI 0 ∧ σ 8 = vI a ∧ σ 0 = mar n L cap ∧ σ 3 = cloC ∧ ∃ d', d'.size = L ∧ heapPop ltG a k d' = heapPop ltG a h dB ∧ m' = m.setLoc n (ar d' r)) (fun k => k) h ?_ ?_
    · exact ⟨Nat.le_refl _, by simp [upd_lit], by simp [upd_lit, t9], by simp [upd_lit, t8], by simp [upd_lit, t0], by simp [upd_lit, t3], dB, hs, rfl, rfl⟩
    clear t0 t3 t8 t9 t10
    rintro k τ m' ⟨hk, t12, t9, t8, t0, t3, d1, hs1, hD, rfl⟩
    cases k with
    | zero =>
      have t12 : τ 12 = vI (-1) := t12
      rw [heapPop] at hD
      subst hD
      have F := @t12; refine tFa ?_; (try clear F)
      exact Fin.all ⟨[], rfl, rfl⟩ (.inl rfl)
    | succ k =>
      have e1 : ((k + 1 : Nat) : Int) - 1 = (k : Int) := by omega
      rw [e1] at t12
      rw [heapPop] at hD
      obtain ⟨q, hq⟩ : ∃ q, q = a + k := ⟨_, rfl⟩
      have eq : (a : Int) + (k : Int) = q := by omega
      have a1 : a < d1.size := by omega
      have a2 : (a : Int) < L := by omega
      have q1 : q < d1.size := by omega
      have q2 : (q : Int) < L := by omega
      rw [← hq] at hD
      have H1 := (H.set (swp d1 a q) (by rw [swp_size]; exact hs1))
      have F := @t12; refine tFa ?_; (try clear F)
      repeat (first | refine AW.seq ?_ | refine AW.block ?_ | refine AW.skip ?_ | refine AExit.norT ?_ | refine AExit.norB ?_ | refine AList.nil ?_)
      refine AW.draw [.S, .S, .S, .S, .S, .S, .S, .S, .S, .S, .S, .R, .S, .S, .S, .R, .S, .W, .S, .W] (by decide +kernel) ?_; have F := (aand @t0 (aand @t8 (aand @t12 (aand @eq (aand @a1 (aand @a2 (aand @q1 (aand @q2 (aand @hn (aand @ar_get (aand @ar_fit (aand @ar_set @setLoc_setLoc)))))))))))); refine dST 0 ?_; refine dST 1 ?_; refine dST 2 ?_; refine dST 3 ?_; refine dST 4 ?_; refine dST 5 ?_; refine dST 6 ?_; refine dST 7 ?_; refine dST 8 ?_; refine dST 9 ?_; refine dST 10 ?_; refine dRT 11 ?_; refine dST 12 ?_; refine dST 13 ?_; refine dST 14 ?_; refine dRT 15 ?_; refine dST 16 ?_; refine dW 17 ?_; refine dST 18 ?_; refine dW 19 ?_; (try clear F); first | refine dN ?_ | refine dB ?_ | refine DA.done (by decide +kernel) ?_
      simp only [put]
      rw [swp_gt]
      have F := (aand @t0 (aand @t9 (aand @t12 (aand @t8 @t3)))); refine tF ?_; (try clear F)
      refine tS1 fun K Kp hK hKp => ?_; refine GivesTo.at (sift H1 0 k a (by omega) (by omega)) ?_; apply hK; clear hK hKp K Kp
      have F := @t12; refine tF ?_; (try clear F)
      exact ⟨k, ⟨by omega, by simp [upd_lit], by simp [upd_lit, t9], by simp [upd_lit, t8], by simp [upd_lit, t0], by simp [upd_lit, t3], _, by rw [siftDown_size, swp_size]; exact hs1, hD, by rw [setLoc_setLoc]⟩, by omega⟩
end Go.Proofs.YtgfadepkiejncaaGreat
namespace Go.Ab
theorem Fin.here {P : Program} {fn : Func} {m m' : St} {R : ARes → St → Prop} {σ : Nat → PV} {r q : PV} {x : AExit} (hx : ResP P fn.results.toList σ m' r) (hx2 : x = .normal ∨ x = .ret) (h : R (.ret q) m') (hr : r.strip = q := by simp [upd_lit]) :
    Fin P fn m R x σ m' := by
  subst hr
  rcases hx2 with rfl | rfl <;> exact ⟨r, _, hx, .inl rfl, h⟩
theorem Fin.leaves {P : Program} {fn : Func} {m m' m2 : St} {R : ARes → St → Prop} {σ : Nat → PV} {r q : PV} {x : AExit} (hx : ResP P fn.results.toList σ m' r) (hx2 : x = .normal ∨ x = .ret) (hl : Leaves m m' m2) (h : R (.ret q) m2) (hr : r.strip = q := by simp [upd_lit]) (hs : q.sc m2.nloc m2.ntok := by simp) :
    Fin P fn m R x σ m' := by
  subst hr
  rcases hx2 with rfl | rfl <;> exact ⟨r, m2, hx, .inr ⟨hl.lv, hs⟩, h⟩
end Go.Ab
namespace Go.Proofs.YtgfadepkiejncaaGreat
open Go.Ab Go.Sort
set_option maxHeartbeats 0
set_option maxRecDepth 100000
attribute [local irreducible] AW AList ACall DA AExit.then AExit.inBlock YCall DCall
theorem reverseG {m : St} {n L cap : Nat} {d : Array GG} {r : List PV} (H : Arr m n L d r) (a b : Nat) (hab : a < b) (hb : b ≤ L) :
    GivesTo Tryz.prog 179 [mar n L cap, vI a, vI b, cloC] m (.tup []) (m.setLoc n (ar (reverseRange d a b) r)) := by
  obtain ⟨hn, hm, hL, hS⟩ := H
  refine ACall.of_aw Tryz.func179 Tryz.ntmps179 rfl rfl (by simp) ?_
  obtain ⟨c, rfl⟩ : ∃ c, b = c + 1 := ⟨b - 1, by omega⟩
  have e1 : ((c + 1 : Nat) : Int) - 1 = (c : Int) := by omega
  rw [reverseRange, Nat.add_sub_cancel]
  have F := @e1; refine tF ?_; (try clear F)
  refine AW.loop (ι := Nat × Nat) (fun p σ m' => p.2 ≤ c ∧ p.1 ≤ L ∧ σ 8 = vI p.1 ∧ σ 9 = vI p.2 ∧ σ 0 = mar n L cap ∧ ∃ d', d'.size = L ∧ reverseLoop p.1 p.2 d' = reverseLoop a c d ∧ m' = m.setLoc n (ar d' r)) (fun p => p.2 - p.1) (a, c) ?_ ?_
  · exact ⟨Nat.le_refl _, by show a ≤ L; omega, by simp [upd_lit], by simp [upd_lit, e1], by simp [upd_lit], d, hL, rfl, (setLoc_self hm).symm⟩
  rintro ⟨i, j⟩ σ m' ⟨hj, hi, t8, t9, t0, d1, hs, hD, rfl⟩
  simp only at hj hi t8 t9 hD
  rw [reverseLoop] at hD
  by_cases hij : i < j
  rotate_left
  · rw [if_neg hij] at hD
    rw [← hD]
    have F := (aand @t8 (aand @t9 @hij)); refine tFa ?_; (try clear F)
    exact Fin.all ⟨[], rfl, rfl⟩ (.inl rfl)
  rw [if_pos hij] at hD
  have i1 : i < d1.size := by omega
  have i2 : (i : Int) < L := by omega
  have j1 : j < d1.size := by omega
  have j2 : (j : Int) < L := by omega
  obtain ⟨k, rfl⟩ : ∃ k, j = k + 1 := ⟨j - 1, by omega⟩
  rw [Nat.add_sub_cancel] at hD
  have e2 : ((k + 1 : Nat) : Int) - 1 = (k : Int) := by omega
  generalize hj1 : k + 1 = j at *
  have F := (aand @t8 (aand @t9 @hij)); refine tFa ?_; (try clear F)
  repeat (first | refine AW.seq ?_ | refine AW.block ?_ | refine AW.skip ?_ | refine AExit.norT ?_ | refine AExit.norB ?_ | refine AList.nil ?_)
  refine AW.draw [.S, .S, .S, .S, .S, .S, .S, .R, .S, .S, .S, .R, .S, .W, .S, .W] (by decide +kernel) ?_; have F := (aand @t0 (aand @t8 (aand @t9 (aand @i1 (aand @i2 (aand @j1 (aand @j2 (aand @hn (aand @ar_get (aand @ar_fit (aand @ar_set @setLoc_setLoc))))))))))); refine dST 0 ?_; refine dST 1 ?_; refine dST 2 ?_; refine dST 3 ?_; refine dST 4 ?_; refine dST 5 ?_; refine dST 6 ?_; refine dRT 7 ?_; refine dST 8 ?_; refine dST 9 ?_; refine dST 10 ?_; refine dRT 11 ?_; refine dST 12 ?_; refine dW 13 ?_; refine dST 14 ?_; refine dW 15 ?_; (try clear F); first | refine dN ?_ | refine dB ?_ | refine DA.done (by decide +kernel) ?_
  simp only [put]
  rw [swp_gt]
  have F := (aand @t8 (aand @t9 @e2)); refine tF ?_; (try clear F)
  exact ⟨(i + 1, k), ⟨by show k ≤ c; omega, by show i + 1 ≤ L; omega, by simp [upd_lit], by simp [upd_lit], by simp [upd_lit, t0], _, by rw [swp_size]; exact hs, hD, rfl⟩, by show k - (i + 1) < j - i; omega⟩
theorem Arr.other {m : St} {n s L : Nat} {d : Array GG} {r c : List PV} (H : Arr m n L d r) (h : n ≠ s) : Arr (m.setLoc s c) n L d r :=
  ⟨H.lt, by simp [h, H.loc], H.size, H.small⟩
theorem order2G {m : St} {n L cap : Nat} {d : Array GG} {r : List PV} (H : Arr m n L d r) {s : Nat} {c : Nat} (hs : s < m.nloc) (hns : n ≠ s) (hc : m.loc s = some [vI c]) (hcs : c ≤ 1000) (a b : Nat) (ha : a < L) (hb : b < L) :
    ACall Tryz.prog 209 [mar n L cap, vI a, vI b, .loc s 0, cloC] m (fun r' m' => ∃ x y c' : Nat, (x = a ∧ y = b ∨ x = b ∧ y = a) ∧ c' ≤ c + 1 ∧ r' = .ret (.tup [vI x, vI y]) ∧ m' = m.setLoc s [vI c']) := by
  obtain ⟨hn, hm, hL, hS⟩ := H
  refine ACall.of_aw Tryz.func209 Tryz.ntmps209 rfl rfl (by simp) ?_
  have a1 : a < d.size := by omega
  have a2 : (a : Int) < L := by omega
  have b1 : b < d.size := by omega
  have b2 : (b : Int) < L := by omega
  have hcmp := cmpG (gt d b) (gt d a)
  refine tS ?_
  refine AW.draw [.S, .S, .S, .S, .R, .S, .S, .S, .R, .R, .S] (by decide +kernel) ?_; have F := (aand @a1 (aand @a2 (aand @b1 (aand @b2 (aand @hn (aand @hm (aand @ar_get @ar_fit))))))); refine dS 0 ?_; refine dS 1 ?_; refine dS 2 ?_; refine dS 3 ?_; refine dR 4 ?_; refine dS 5 ?_; refine dS 6 ?_; refine dS 7 ?_; refine dR 8 ?_; refine dC ((hcmp)) 9 ?_; refine dS 10 ?_; (try clear F); first | refine dN ?_ | refine dB ?_ | refine DA.done (by decide +kernel) ?_
  by_cases hl : cmpV (gt d b).1 (gt d a).1 < 0
  · have F := (aand @hl (aand @hc @hs)); refine tFa ?_; (try clear F)
    exact Fin.here (r := .tup [vI b, vI a]) (by simp [ResP, ResL, resV, upd_lit, show Tryz.f209.results.toList = [.tmp 10, .tmp 11] from rfl]) (.inr rfl) ⟨b, a, c + 1, .inr ⟨rfl, rfl⟩, Nat.le_refl _, rfl, rfl⟩
  · have F := (aand @hl (aand @hc @hs)); refine tFa ?_; (try clear F)
    exact Fin.here (r := .tup [vI a, vI b]) (by simp [ResP, ResL, resV, upd_lit, show Tryz.f209.results.toList = [.tmp 10, .tmp 11] from rfl]) (.inr rfl) ⟨a, b, c, .inl ⟨rfl, rfl⟩, by omega, rfl, (setLoc_self hc).symm⟩
theorem medianG {m : St} {n L cap : Nat} {d : Array GG} {r : List PV} (H : Arr m n L d r) {s : Nat} {k : Nat} (hs : s < m.nloc) (hns : n ≠ s) (hk : m.loc s = some [vI k]) (hks : k ≤ 900) (a b c : Nat) (ha : a < L) (hb : b < L) (hc : c < L) :
    ACall Tryz.prog 200 [mar n L cap, vI a, vI b, vI c, .loc s 0, cloC] m (fun r' m' => ∃ x k' : Nat, (x = a ∨ x = b ∨ x = c) ∧ k' ≤ k + 3 ∧ r' = .ret (vI x) ∧ m' = m.setLoc s [vI k']) := by
  refine ACall.of_aw Tryz.func200 Tryz.ntmps200 rfl rfl (by simp) ?_
  refine tS ?_
  refine tS1 fun K Kp hK hKp => ?_; refine ACall.mono (order2G H hs hns hk (by omega) a b ha hb) ?_
  rintro _ _ ⟨x, y, k1, hxy, hk1, rfl, rfl⟩
  refine hK _ _ ?_; clear hK hKp K Kp
  refine tS ?_
  refine tS1 fun K Kp hK hKp => ?_; refine ACall.mono (order2G (H.other hns) (s := s) (c := k1) (by simpa using hs) hns (by simp) (by omega) y c (by omega) hc) ?_
  rintro _ _ ⟨y2, z, k2, hyz, hk2, rfl, rfl⟩
  refine hK _ _ ?_; clear hK hKp K Kp
  refine tS ?_
  refine tS1 fun K Kp hK hKp => ?_; refine ACall.mono (order2G ((H.other hns).other hns) (s := s) (c := k2) (by simpa using hs) hns (by simp) (by omega) x y2 (by omega) (by omega)) ?_
  rintro _ _ ⟨x3, y3, k3, hxy3, hk3, rfl, rfl⟩
  refine hK _ _ ?_; clear hK hKp K Kp
  refine tS ?_
  exact Fin.here (r := vI y3) (by rfl) (.inr rfl) ⟨y3, k3, by omega, by omega, rfl, by rw [setLoc_setLoc, setLoc_setLoc]⟩
theorem medianAdjacentG {m : St} {n L cap : Nat} {d : Array GG} {r : List PV} (H : Arr m n L d r) {s : Nat} {k : Nat} (hs : s < m.nloc) (hns : n ≠ s) (hk : m.loc s = some [vI k]) (hks : k ≤ 900) (a : Nat) (ha : 0 < a) (hb : a + 1 < L) :
    ACall Tryz.prog 199 [mar n L cap, vI a, .loc s 0, cloC] m (fun r' m' => ∃ x k' : Nat, a ≤ x + 1 ∧ x ≤ a + 1 ∧ k' ≤ k + 3 ∧ r' = .ret (vI x) ∧ m' = m.setLoc s [vI k']) := by
  refine ACall.of_aw Tryz.func199 Tryz.ntmps199 rfl rfl (by simp) ?_
  have := H.small
  obtain ⟨p, hp⟩ : ∃ p, p + 1 = a := ⟨a - 1, by omega⟩
  obtain ⟨q, hq⟩ : ∃ q, q = a + 1 := ⟨_, rfl⟩
  have e1 : (a : Int) - 1 = (p : Int) := by omega
  have e2 : (a : Int) + 1 = (q : Int) := by omega
  have F := (aand @e1 @e2); refine tF ?_; (try clear F)
  refine tS1 fun K Kp hK hKp => ?_; refine ACall.mono (medianG H hs hns hk (by omega) p a q (by omega) (by omega) (by omega)) ?_
  rintro _ _ ⟨x, k1, hx, hk1, rfl, rfl⟩
  refine hK _ _ ?_; clear hK hKp K Kp
  refine tS ?_
  exact Fin.here (r := vI x) (by rfl) (.inr rfl) ⟨x, k1, by omega, by omega, by omega, rfl, rfl⟩
theorem newLoc_other {m : St} {n L : Nat} {d : Array GG} {r c : List PV} (H : Arr m n L d r) : Arr (m.newLoc c) n L d r :=
  ⟨by have := H.lt; simp; omega, by have := H.lt; simp [H.loc]; omega, H.size, H.small⟩
theorem choosePivotG {m : St} {n L cap : Nat} {d : Array GG} {r : List PV} (H : Arr m n L d r) (a b : Nat) (hab : a < b) (hb : b ≤ L) :
    ACall Tryz.prog 178 [mar n L cap, vI a, vI b, cloC] m (fun r' m' => ∃ x h : Nat, a ≤ x ∧ x < b ∧ h ≤ 2 ∧ r' = .ret (.tup [vI x, vI h]) ∧ m' = m) := by
  refine ACall.of_aw Tryz.func178 Tryz.ntmps178 rfl rfl (by simp) ?_
  have hS := H.small
  obtain ⟨l, hl⟩ : ∃ l, l = b - a := ⟨_, rfl⟩
  have e1 : (b : Int) - a = l := by omega
  obtain ⟨q, hq⟩ : ∃ q, q = l / 4 := ⟨_, rfl⟩
  have e2 : (l : Int).tdiv 4 = q := by rw [hq]; rfl
  obtain ⟨i, hi⟩ : ∃ i, i = a + q := ⟨_, rfl⟩
  have e3 : (a : Int) + q = i := by omega
  obtain ⟨j, hj⟩ : ∃ j, j = a + q * 2 := ⟨_, rfl⟩
  have e4 : (a : Int) + q * 2 = j := by omega
  obtain ⟨k, hk⟩ : ∃ k, k = a + q * 3 := ⟨_, rfl⟩
  have e5 : (a : Int) + q * 3 = k := by omega
  have F := (aand @e1 (aand @e2 (aand @e3 (aand @e4 @e5)))); refine tF ?_; (try clear F)
  have H0 : Arr (m.newLoc [vI 0]) n L d r := newLoc_other H
  have hns : n ≠ m.nloc := by have := H.lt; omega
  have hlt := H.lt
  refine AW.step (fun τ m' => ∃ x k' : Nat, a ≤ x ∧ x < b ∧ k' ≤ 12 ∧ τ 13 = vI x ∧ τ 11 = .loc m.nloc 0 ∧ m' = (m.newLoc [vI 0]).setLoc m.nloc [vI k']) ?_ ?_
  · by_cases h8 : (8 : Int) ≤ l
    rotate_left
    · have F := @h8; refine tFa ?_; (try clear F)
      exact ⟨rfl, j, 0, by omega, by omega, by omega, by simp [upd_lit], by simp [upd_lit], (setLoc_self (by simp)).symm⟩
    have F := @h8; refine tFg ?_; (try clear F)
    refine AW.condT (by simp [upd_lit, h8]) ?_
    refine AW.seq ?_
    refine AW.step (fun τ m' => ∃ x y z k' : Nat, a ≤ x ∧ x < b ∧ a ≤ y ∧ y < b ∧ a ≤ z ∧ z < b ∧ k' ≤ 9 ∧ τ 12 = vI x ∧ τ 13 = vI y ∧ τ 14 = vI z ∧ τ 11 = .loc m.nloc 0 ∧ τ 0 = mar n L cap ∧ τ 3 = cloC ∧ m' = (m.newLoc [vI 0]).setLoc m.nloc [vI k']) ?_ ?_
    · by_cases h50 : (50 : Int) ≤ l
      rotate_left
      · have F := @h50; refine tFa ?_; (try clear F)
        exact ⟨rfl, i, j, k, 0, by omega, by omega, by omega, by omega, by omega, by omega, by omega, by simp [upd_lit], by simp [upd_lit], by simp [upd_lit], by simp [upd_lit], by simp [upd_lit], by simp [upd_lit], (setLoc_self (by simp)).symm⟩
      have F := @h50; refine tFa ?_; (try clear F)
      refine tS1 fun K Kp hK hKp => ?_; refine ACall.mono (medianAdjacentG H0 (s := m.nloc) (k := 0) (by simp) hns (by simp) (by omega) i (by omega) (by omega)) ?_
      rintro _ _ ⟨x, k1, hx1, hx2, hk1, rfl, rfl⟩
      refine hK _ _ ?_; clear hK hKp K Kp
      refine tS ?_
      refine tS1 fun K Kp hK hKp => ?_; refine ACall.mono (medianAdjacentG (H0.other hns) (s := m.nloc) (k := k1) (by simp) hns (by simp) (by omega) j (by omega) (by omega)) ?_
      rintro _ _ ⟨y, k2, hy1, hy2, hk2, rfl, rfl⟩
      refine hK _ _ ?_; clear hK hKp K Kp
      refine tS ?_
      refine tS1 fun K Kp hK hKp => ?_; refine ACall.mono (medianAdjacentG ((H0.other hns).other hns) (s := m.nloc) (k := k2) (by simp) hns (by simp) (by omega) k (by omega) (by omega)) ?_
      rintro _ _ ⟨z, k3, hz1, hz2, hk3, rfl, rfl⟩
      refine hK _ _ ?_; clear hK hKp K Kp
      refine tS ?_
      exact ⟨rfl, x, y, z, k3, by omega, by omega, by omega, by omega, by omega, by omega, by omega, by simp [upd_lit], by simp [upd_lit], by simp [upd_lit], by simp [upd_lit], by simp [upd_lit], by simp [upd_lit], by rw [setLoc_setLoc, setLoc_setLoc]⟩
    · rintro σ m' ⟨x, y, z, k', hx1, hx2, hy1, hy2, hz1, hz2, hk', t12, t13, t14, t11, t0, t3, rfl⟩
      refine tS ?_
      have F := (aand @t12 (aand @t13 (aand @t14 (aand @t11 (aand @t0 @t3))))); refine tF1 fun K Kp hK hKp => ?_; (try clear F); refine ACall.mono (medianG (H0.other hns) (s := m.nloc) (k := k') (by simp) hns (by simp) (by omega) x y z (by omega) (by omega) (by omega)) ?_
      rintro _ _ ⟨w, k4, hw, hk4, rfl, rfl⟩
      refine hK _ _ ?_; clear hK hKp K Kp
      refine tS ?_
      exact ⟨rfl, w, k4, by omega, by omega, by omega, by simp [upd_lit], by simp [upd_lit, t11], by rw [setLoc_setLoc]⟩
  rintro σ m' ⟨x, k', hx1, hx2, hk', t13, t11, rfl⟩
  have F := (aand @t11 @t13); refine tF ?_; (try clear F)
  by_cases h0 : k' = 0
  · have F := (aand @h0 @t13); refine tFa ?_; (try clear F)
    exact Fin.leaves (r := .tup [vI x, vI 1]) (m2 := m) (by simp [ResP, ResL, resV, upd_lit, show Tryz.f178.results.toList = [.tmp 8, .tmp 9] from rfl]) (.inr rfl) Same.auto ⟨x, 1, hx1, hx2, by omega, rfl, rfl⟩
  by_cases h12 : k' = 12
  · have F := (aand @h0 (aand @h12 @t13)); refine tFa ?_; (try clear F)
    exact Fin.leaves (r := .tup [vI x, vI 2]) (m2 := m) (by simp [ResP, ResL, resV, upd_lit, show Tryz.f178.results.toList = [.tmp 8, .tmp 9] from rfl]) (.inr rfl) Same.auto ⟨x, 2, hx1, hx2, by omega, rfl, rfl⟩
  have h13 : ¬ (k' : Int) = 12 := by omega
  have h01 : ¬ (k' : Int) = 0 := by omega
  have F := (aand @h0 (aand @h12 (aand @h13 (aand @h01 @t13)))); refine tFa ?_; (try clear F)
  exact Fin.leaves (r := .tup [vI x, vI 0]) (m2 := m) (by simp [ResP, ResL, resV, upd_lit, show Tryz.f178.results.toList = [.tmp 8, .tmp 9] from rfl]) (.inr rfl) Same.auto ⟨x, 0, hx1, hx2, by omega, rfl, rfl⟩
end Go.Proofs.YtgfadepkiejncaaGreat
namespace Go.Proofs.YtgfadepkiejncaaGreat
open Go.Ab Go.Sort
set_option maxHeartbeats 0
set_option maxRecDepth 100000
attribute [local irreducible] AW AList ACall DA AExit.then AExit.inBlock YCall DCall
abbrev vU (n : Int) : PV := .v (.int .u64 n)
theorem bitsLen_shr (x s : Nat) (h : 2 ^ s ≤ x) : bitsLen x = s + bitsLen (x / 2 ^ s) := by
  have key : ∀ k, bitsLen x ≤ s + k ↔ s + bitsLen (x / 2 ^ s) ≤ s + k := by
    intro k
    rw [bitsLen_le_iff, Nat.add_le_add_iff_left, bitsLen_le_iff, Nat.div_lt_iff_lt_mul (Nat.two_pow_pos s), Nat.pow_add, Nat.mul_comm]
  have h1 : ¬ bitsLen x ≤ s := by rw [bitsLen_le_iff]; omega
  have h2 := (key (bitsLen x - s)).1 (by omega)
  have h3 := (key (bitsLen (x / 2 ^ s))).2 (Nat.le_refl _)
  omega
theorem tabK (T : ByteArray) (y : Nat) (hy : y < 256) (m : St) {K : PV → St → Prop} (k : K (.v (.int .u8 (bitsLen y))) m) (hT : T.size = 256 ∧ ∀ y < 256, byteAt T y = bitsLen y) :
    0 ≤ (y : Int) ∧ (y : Int) < T.size ∧ K (.v (.int .u8 (byteAt T (y : Int).toNat))) m := by
  refine ⟨by omega, by rw [hT.1]; omega, ?_⟩
  rw [Int.toNat_natCast, hT.2 y hy]; exact k
theorem bits64 (x : Nat) (h : x < 18446744073709551616) : Gives Tryz.prog 184 [vU x] (vI (bitsLen x)) := by
  intro m
  refine ACall.of_aw Tryz.func184 Tryz.ntmps184 rfl rfl (by simp) ?_
  refine tS ?_
  refine AW.step (fun τ m' => ∃ y s : Nat, y < 4294967296 ∧ bitsLen x = s + bitsLen y ∧ s ≤ 32 ∧ τ 0 = vU y ∧ τ 2 = vI s ∧ m' = m) ?_ ?_
  · by_cases hx : (4294967296 : Int) ≤ x
    · have F := @hx; refine tFa ?_; (try clear F)
      exact ⟨rfl, x / 4294967296, 32, by omega, bitsLen_shr x 32 (by omega), by omega, by simp [upd_lit], by simp [upd_lit], rfl⟩
    · have F := @hx; refine tFa ?_; (try clear F)
      exact ⟨rfl, x, 0, by omega, by omega, by omega, by simp [upd_lit], by simp [upd_lit], rfl⟩
  rintro σ m' ⟨y, s, hy, hbl, hs, t0, t2, rfl⟩
  have F := @t0; refine tF ?_; (try clear F)
  refine AW.step (fun τ m2 => ∃ y s : Nat, y < 65536 ∧ bitsLen x = s + bitsLen y ∧ s ≤ 48 ∧ τ 0 = vU y ∧ τ 2 = vI s ∧ m2 = m') ?_ ?_
  · by_cases hx : (65536 : Int) ≤ y
    · have F := (aand @hx (aand @t0 @t2)); refine tFa ?_; (try clear F)
      exact ⟨rfl, y / 65536, s + 16, by omega, by have k : bitsLen y = 16 + bitsLen (y / 65536) := bitsLen_shr y 16 (by omega); omega, by omega, by simp [upd_lit], by simp [upd_lit], rfl⟩
    · have F := @hx; refine tFa ?_; (try clear F)
      exact ⟨rfl, y, s, by omega, by omega, by omega, by simp [upd_lit, t0], by simp [upd_lit, t2], rfl⟩
  clear hy hbl hs t0 t2 y s
  rintro σ m2 ⟨y, s, hy, hbl, hs, t0, t2, rfl⟩
  have F := @t0; refine tF ?_; (try clear F)
  refine AW.step (fun τ m' => ∃ y s : Nat, y < 256 ∧ bitsLen x = s + bitsLen y ∧ s ≤ 56 ∧ τ 0 = vU y ∧ τ 2 = vI s ∧ m' = m2) ?_ ?_
  · by_cases hx : (256 : Int) ≤ y
    · have F := (aand @hx (aand @t0 @t2)); refine tFa ?_; (try clear F)
      exact ⟨rfl, y / 256, s + 8, by omega, by have k : bitsLen y = 8 + bitsLen (y / 256) := bitsLen_shr y 8 (by omega); omega, by omega, by simp [upd_lit], by simp [upd_lit], rfl⟩
    · have F := @hx; refine tFa ?_; (try clear F)
      exact ⟨rfl, y, s, by omega, by omega, by omega, by simp [upd_lit, t0], by simp [upd_lit, t2], rfl⟩
  clear hy hbl hs t0 t2 y s
  rintro σ m2 ⟨y, s, hy, hbl, hs, t0, t2, rfl⟩
  refine AExit.norT ?_
  refine AW.seq ?_
  refine AW.regionL ?_
  have F := (aand @t0 @t2); refine tF1 fun K Kp hK hKp => ?_; (try clear F)
  refine hK _ _ ?_; clear hK hKp K Kp
  have F := (aand @t0 @t2); refine tF1 fun K Kp hK hKp => ?_; (try clear F)
  refine hK _ _ ?_; clear hK hKp K Kp
  have F := (aand @t0 @t2); refine tF1 fun K Kp hK hKp => ?_; (try clear F)
  refine hK _ _ ?_; clear hK hKp K Kp
  have F := (aand @t0 @t2); refine tF1 fun K Kp hK hKp => ?_; (try clear F)
  have w8 : IntKind.u8.wrap (y : Int) = y := by simp [IntKind.wrap, IntKind.bits, IntKind.signed]; omega
  rw [w8]
  refine tabK _ y hy _ ?_ (by refine ⟨by decide +kernel, by decide +kernel⟩)
  refine hK _ _ ?_; clear hK hKp K Kp
  have hb : bitsLen y ≤ 8 := by rw [bitsLen_le_iff]; omega
  rw [w8, hbl]
  generalize bitsLen y = z at *
  have e : (s : Int) + (z : Int) = ((s + z : Nat) : Int) := by omega
  have z8 : IntKind.i64.wrap (z : Int) = z := by simp (disch := omega) only [wrap_i64]
  have F := @z8; refine tF ?_; (try clear F)
  exact Fin.gives Same.auto
theorem bitsLenG (x : Nat) (h : x < 18446744073709551616) : Gives Tryz.prog 166 [vU x] (vI (bitsLen x)) := by
  intro m
  refine ACall.of_aw Tryz.func166 Tryz.ntmps166 rfl rfl (by simp) ?_
  refine tSa ?_
  refine tS1 fun K Kp hK hKp => ?_; refine Gives.at (bits64 x h) ?_; apply hK; clear hK hKp K Kp
  refine tS ?_
  exact Fin.gives Same.auto
theorem nextPow (x : Nat) (h : x ≤ 1099511627776) : Gives Tryz.prog 197 [vI x] (vU ((2 ^ bitsLen x : Nat) : Int)) := by
  intro m
  refine ACall.of_aw Tryz.func197 Tryz.ntmps197 rfl rfl (by simp) ?_
  have w64 : IntKind.u64.wrap (x : Int) = x := wrap_u64 _ (by omega) (by omega)
  have F := @w64; refine tF ?_; (try clear F)
  refine tS1 fun K Kp hK hKp => ?_; refine Gives.at (bitsLenG x (by omega)) ?_; apply hK; clear hK hKp K Kp
  have hb : bitsLen x ≤ 41 := by rw [bitsLen_le_iff]; omega
  have hm : min (bitsLen x) 64 = bitsLen x := by omega
  have hp : 2 ^ bitsLen x ≤ 2 ^ 41 := Nat.pow_le_pow_right (by omega) hb
  have w3 : IntKind.u64.wrap ((2 : Int) ^ bitsLen x) = ((2 ^ bitsLen x : Nat) : Int) := by
    rw [show ((2 : Int) ^ bitsLen x) = ((2 ^ bitsLen x : Nat) : Int) from by simp]
    exact wrap_u64 _ (by exact Int.natCast_nonneg _) (by omega)
  refine tS ?_
  rw [hm, w3]
  exact Fin.gives Same.auto
theorem u64_rng (n : Int) : 0 ≤ IntKind.u64.wrap n ∧ IntKind.u64.wrap n < 18446744073709551616 := by
  have : IntKind.u64.wrap n = n % 18446744073709551616 := by simp [IntKind.wrap, IntKind.bits, IntKind.signed]
  rw [this]; omega
theorem nextG {m : St} {s : Nat} {x : Int} (hs : s < m.nloc) (hx : m.loc s = some [vU x]) :
    ACall Tryz.prog 198 [.loc s 0] m (fun r' m' => ∃ y : Int, (0 ≤ y ∧ y < 18446744073709551616) ∧ r' = .ret (vU y) ∧ m' = m.setLoc s [vU y]) := by
  refine ACall.of_aw Tryz.func198 Tryz.ntmps198 rfl rfl (by simp) ?_
  refine tS ?_
  refine AW.draw [.S, .S, .R, .S, .S, .R, .S, .S, .S, .W] (by decide +kernel) ?_; have F := (aand @hs @hx); refine dS 0 ?_; refine dS 1 ?_; refine dR 2 ?_; refine dS 3 ?_; refine dS 4 ?_; refine dR 5 ?_; refine dS 6 ?_; refine dS 7 ?_; refine dS 8 ?_; refine dW 9 ?_; (try clear F); first | refine dN ?_ | refine dB ?_ | refine DA.done (by decide +kernel) ?_
  simp only [put]
  repeat (first | refine AW.seq ?_ | refine AW.block ?_ | refine AW.skip ?_ | refine AExit.norT ?_ | refine AExit.norB ?_ | refine AList.nil ?_)
  refine AW.draw [.S, .S, .R, .S, .S, .R, .S, .S, .S, .W] (by decide +kernel) ?_; have F := (aand @hs @setLoc_setLoc); refine dS 0 ?_; refine dS 1 ?_; refine dR 2 ?_; refine dS 3 ?_; refine dS 4 ?_; refine dR 5 ?_; refine dS 6 ?_; refine dS 7 ?_; refine dS 8 ?_; refine dW 9 ?_; (try clear F); first | refine dN ?_ | refine dB ?_ | refine DA.done (by decide +kernel) ?_
  simp only [put]
  repeat (first | refine AW.seq ?_ | refine AW.block ?_ | refine AW.skip ?_ | refine AExit.norT ?_ | refine AExit.norB ?_ | refine AList.nil ?_)
  refine AW.draw [.S, .S, .R, .S, .S, .R, .S, .S, .S, .W] (by decide +kernel) ?_; have F := (aand @hs @setLoc_setLoc); refine dS 0 ?_; refine dS 1 ?_; refine dR 2 ?_; refine dS 3 ?_; refine dS 4 ?_; refine dR 5 ?_; refine dS 6 ?_; refine dS 7 ?_; refine dS 8 ?_; refine dW 9 ?_; (try clear F); first | refine dN ?_ | refine dB ?_ | refine DA.done (by decide +kernel) ?_
  simp only [put]
  have F := @hs; refine tF ?_; (try clear F)
  refine Fin.here (q := vU ?z) (by exact rfl) (.inr rfl) ⟨?z, ?a, rfl, ?b⟩ ?c
  case b => exact rfl
  case c => simp [upd_lit]
  case a => exact u64_rng _
end Go.Proofs.YtgfadepkiejncaaGreat
namespace Go.Proofs.YtgfadepkiejncaaGreat
open Go.Ab Go.Sort
set_option maxHeartbeats 0
set_option maxRecDepth 100000
attribute [local irreducible] AW AList ACall DA AExit.then AExit.inBlock YCall DCall
theorem and_powI (x : Int) (k : Nat) (hk : k ≤ 60) : (BitVec.ofInt 64 x &&& BitVec.ofInt 64 (((2 ^ k : Nat) : Int) - 1)).toNat < 2 ^ k := by
  have h1 : 2 ^ k ≤ 2 ^ 60 := Nat.pow_le_pow_right (by omega) hk
  have h2 := Nat.two_pow_pos k
  have e : (((2 ^ k : Nat) : Int) - 1) = ((2 ^ k - 1 : Nat) : Int) := by omega
  rw [e, BitVec.toNat_and]
  have : (BitVec.ofInt 64 ((2 ^ k - 1 : Nat) : Int)).toNat = 2 ^ k - 1 := by
    rw [BitVec.ofInt_natCast, BitVec.toNat_ofNat]; omega
  rw [this]
  have := Nat.and_le_right (n := (BitVec.ofInt 64 x).toNat) (m := 2 ^ k - 1)
  omega
theorem scL_app (k t : Nat) : ∀ xs ys : List PV, PV.scL k t xs → PV.scL k t ys → PV.scL k t (xs ++ ys)
  | [], _, _, h => h
  | _ :: xs, ys, h, h' => ⟨h.1, scL_app k t xs ys h.2 h'⟩
theorem ar_scL (d : Array GG) (r : List PV) (k t : Nat) (h : PV.scL k t r) : PV.scL k t (ar d r) := by
  rw [ar]
  generalize d.toList.map (·.1) = l
  induction l with
  | nil => exact h
  | cons v l ih =>
    simp only [GV.rows, List.flatten_cons, List.append_assoc]
    exact scL_app _ _ _ _ (cells_sc k t v) ih
theorem setLoc_out {m : St} {n : Nat} {cs c0 c : List PV} (h : n < m.nloc) : ((m.newLoc c0).setLoc m.nloc c).setLoc n cs = ((m.setLoc n cs).newLoc c0).setLoc m.nloc c := by
  simp only [St.setLoc, St.newLoc]
  congr 1
  funext i
  simp only [upd]
  by_cases h1 : i = n
  · subst h1; simp [show i ≠ m.nloc from by omega]
  · simp [h1]
theorem andK {y : Int} {k P : Nat} (hk : k ≤ 60) (hP : P = 2 ^ k) {m : St} {K : PV → St → Prop} (h : ∀ z : Nat, z < P → K (vU z) m) :
    K (vU (IntKind.u64.wrap ((BitVec.ofInt 64 y &&& BitVec.ofInt 64 ((P : Int) - 1)).toNat : Int))) m := by
  have hz := and_powI y k hk
  have h1 : 2 ^ k ≤ 2 ^ 60 := Nat.pow_le_pow_right (by omega) hk
  rw [hP, wrap_u64 _ (by omega) (by omega)]
  exact h _ (by rw [hP]; exact hz)
theorem breakG {m : St} {n L cap : Nat} {d : Array GG} {r : List PV} (H : Arr m n L d r) (hr : ∀ k t, PV.scL k t r) (a b : Nat) (hab : a ≤ b) (hb : b ≤ L) :
    ACall Tryz.prog 177 [mar n L cap, vI a, vI b, cloC] m (fun r' m' => ∃ d', PermIn a b d d' ∧ r' = .ret (.tup []) ∧ m' = m.setLoc n (ar d' r)) := by
  refine ACall.of_aw Tryz.func177 Tryz.ntmps177 rfl rfl (by simp) ?_
  have hn := H.lt
  have hm := H.loc
  have hL := H.size
  have hS := H.small
  obtain ⟨l, hl⟩ : ∃ l, l = b - a := ⟨_, rfl⟩
  have e1 : (b : Int) - a = l := by omega
  have F := @e1; refine tF ?_; (try clear F)
  by_cases h8 : (8 : Int) ≤ l
  rotate_left
  · have F := @h8; refine tFa ?_; (try clear F)
    exact Fin.here (r := .tup []) (by exact ⟨[], rfl, rfl⟩) (.inl rfl) ⟨d, permIn_refl d a b, rfl, (setLoc_self hm).symm⟩
  obtain ⟨q, hq⟩ : ∃ q, q = l / 4 := ⟨_, rfl⟩
  have e2 : (l : Int).tdiv 4 = q := by rw [hq]; rfl
  obtain ⟨j0, hj0⟩ : ∃ j, j = a + q * 2 := ⟨_, rfl⟩
  have e4 : (a : Int) + q * 2 = j0 := by omega
  have w64 : IntKind.u64.wrap (l : Int) = l := wrap_u64 _ (by omega) (by omega)
  obtain ⟨P, hP⟩ : ∃ P, P = 2 ^ bitsLen l := ⟨_, rfl⟩
  have hnp := nextPow l (by omega)
  rw [← hP] at hnp
  have hbl : bitsLen l ≤ 41 := by rw [bitsLen_le_iff]; omega
  have hP1 : l < P := by rw [hP]; exact lt_two_pow_bitsLen l
  have hP2 : P ≤ 2 * l := by rw [hP]; exact two_pow_bitsLen_le (by omega)
  have w1 : IntKind.u64.wrap ((P : Int) - 1) = (P : Int) - 1 := wrap_u64 _ (by omega) (by omega)
  obtain ⟨j1, hj1⟩ : ∃ j, j + 1 = j0 := ⟨j0 - 1, by omega⟩
  have e5 : (j0 : Int) - 1 = (j1 : Int) := by omega
  have F := (aand @h8 @w64); refine tFa ?_; (try clear F)
  refine tS1 fun K Kp hK hKp => ?_; refine Gives.at (hnp) ?_; apply hK; clear hK hKp K Kp
  have F := (aand @e2 (aand @e4 @e5)); refine tF ?_; (try clear F)
  have hns : n ≠ m.nloc := by omega
  refine AW.loop (ι := Nat) (fun j σ m' => a ≤ j ∧ j ≤ j0 + 2 ∧ σ 11 = vI j ∧ σ 9 = .loc m.nloc 0 ∧ σ 10 = vU P ∧ σ 8 = vI l ∧ σ 0 = mar n L cap ∧ σ 1 = vI a ∧ ∃ (d' : Array GG) (x : Int), PermIn a b d d' ∧ m' = ((m.newLoc [vU 0]).setLoc m.nloc [vU x]).setLoc n (ar d' r)) (fun j => j0 + 2 - j) j1 ?_ ?_
  · exact ⟨by omega, by omega, by simp [upd_lit], by simp [upd_lit], by simp [upd_lit], by simp [upd_lit], by simp [upd_lit], by simp [upd_lit], d, _, permIn_refl d a b, (setLoc_self (by simp [hns, hm])).symm⟩
  rintro j σ m' ⟨hj, hj2, t11, t9, t10, t8, t0, t1, d1, x, hpm, rfl⟩
  have hs1 : d1.size = L := by rw [hpm.1]; exact hL
  by_cases hle : (j : Int) ≤ (j0 : Int) + 1
  rotate_left
  · have F := (aand @t11 (aand @t1 (aand @t8 (aand @e2 (aand @e4 @hle))))); refine tFa ?_; (try clear F)
    exact Fin.leaves (r := .tup []) (m2 := m.setLoc n (ar d1 r)) (by exact ⟨[], rfl, rfl⟩) (.inl rfl) (Leaves.ofSet (by rw [setLoc_out hn]; exact Same.auto) (ar_scL _ _ _ _ (hr _ _))) ⟨d1, hpm, rfl, rfl⟩
  have F := (aand @t11 (aand @t1 (aand @t8 (aand @e2 (aand @e4 @hle))))); refine tFa ?_; (try clear F)
  have F := @t9; refine tF1 fun K Kp hK hKp => ?_; (try clear F); refine ACall.mono (nextG (s := m.nloc) (x := x) (by simp) (by simp [Ne.symm hns])) ?_
  rintro _ _ ⟨y, hy, rfl, rfl⟩
  refine hK _ _ ?_; clear hK hKp K Kp
  have F := @t10; refine tF1 fun K Kp hK hKp => ?_; (try clear F)
  refine hK _ _ ?_; clear hK hKp K Kp
  have F := @w1; refine tF1 fun K Kp hK hKp => ?_; (try clear F)
  refine hK _ _ ?_; clear hK hKp K Kp
  refine tS1 fun K Kp hK hKp => ?_
  refine andK (k := bitsLen l) (by omega) hP fun z hz => ?_
  refine hK _ _ ?_; clear hK hKp K Kp
  have F := @t8; refine tF ?_; (try clear F)
  refine AW.step (fun τ m2 => ∃ o : Nat, o < l ∧ τ 12 = vI o ∧ τ 11 = vI j ∧ τ 9 = .loc m.nloc 0 ∧ τ 10 = vU P ∧ τ 8 = vI l ∧ τ 0 = mar n L cap ∧ τ 1 = vI a ∧ m2 = ((m.newLoc [vU 0]).setLoc m.nloc [vU y]).setLoc n (ar d1 r)) ?_ ?_
  · have hmm : (((m.newLoc [vU 0]).setLoc m.nloc [vU x]).setLoc n (ar d1 r)).setLoc m.nloc [vU y] = ((m.newLoc [vU 0]).setLoc m.nloc [vU y]).setLoc n (ar d1 r) := by
      rw [setLoc_out hn, setLoc_setLoc, ← setLoc_out hn]
    by_cases hzl : l ≤ z
    · obtain ⟨o, ho⟩ : ∃ o, o + l = z := ⟨z - l, by omega⟩
      have eo : (z : Int) - l = (o : Int) := by omega
      have F := (aand @hzl (aand @eo @t8)); refine tFa ?_; (try clear F)
      exact ⟨rfl, o, by omega, by simp [upd_lit], by simp [upd_lit, t11], by simp [upd_lit, t9], by simp [upd_lit, t10], by simp [upd_lit, t8], by simp [upd_lit, t0], by simp [upd_lit, t1], hmm⟩
    · have F := @hzl; refine tFa ?_; (try clear F)
      exact ⟨rfl, z, by omega, by simp [upd_lit], by simp [upd_lit, t11], by simp [upd_lit, t9], by simp [upd_lit, t10], by simp [upd_lit, t8], by simp [upd_lit, t0], by simp [upd_lit, t1], hmm⟩
  clear t0 t1 t8 t9 t10 t11 hz z
  rintro τ m2 ⟨o, ho, t12, t11, t9, t10, t8, t0, t1, rfl⟩
  obtain ⟨p, hp⟩ : ∃ p, p = a + o := ⟨_, rfl⟩
  have eq : (a : Int) + (o : Int) = p := by omega
  have hn1 : n < m.nloc + 1 := by omega
  have a1 : j < d1.size := by omega
  have a2 : (j : Int) < L := by omega
  have q1 : p < d1.size := by omega
  have q2 : (p : Int) < L := by omega
  repeat (first | refine AW.seq ?_ | refine AW.block ?_ | refine AW.skip ?_ | refine AExit.norT ?_ | refine AExit.norB ?_ | refine AList.nil ?_)
  refine AW.draw [.S, .S, .S, .S, .S, .S, .S, .S, .S, .S, .S, .R, .S, .S, .S, .R, .S, .W, .S, .W] (by decide +kernel) ?_; have F := (aand @t0 (aand @t1 (aand @t11 (aand @t12 (aand @eq (aand @a1 (aand @a2 (aand @q1 (aand @q2 (aand @hn1 (aand @hns (aand @ar_get (aand @ar_fit (aand @ar_set @setLoc_setLoc)))))))))))))); refine dST 0 ?_; refine dST 1 ?_; refine dST 2 ?_; refine dST 3 ?_; refine dST 4 ?_; refine dST 5 ?_; refine dST 6 ?_; refine dST 7 ?_; refine dST 8 ?_; refine dST 9 ?_; refine dST 10 ?_; refine dRT 11 ?_; refine dST 12 ?_; refine dST 13 ?_; refine dST 14 ?_; refine dRT 15 ?_; refine dST 16 ?_; refine dW 17 ?_; refine dST 18 ?_; refine dW 19 ?_; (try clear F); first | refine dN ?_ | refine dB ?_ | refine DA.done (by decide +kernel) ?_
  simp only [put]
  rw [swp_gt]
  have F := @t11; refine tF ?_; (try clear F)
  exact ⟨j + 1, ⟨by omega, by omega, by simp [upd_lit], by simp [upd_lit, t9], by simp [upd_lit, t10], by simp [upd_lit, t8], by simp [upd_lit, t0], by simp [upd_lit, t1], _, _, permIn_trans _ _ _ a b hpm (swp_permIn d1 a b j p (by omega) (by omega) (by omega) (by omega) (by omega)), rfl⟩, by omega⟩
end Go.Proofs.YtgfadepkiejncaaGreat
namespace Go.Proofs.YtgfadepkiejncaaGreat
open Go.Ab Go.Sort
set_option maxHeartbeats 0
set_option maxRecDepth 100000
attribute [local irreducible] AW AList ACall DA AExit.then AExit.inBlock YCall DCall
theorem scanSorted_rng (d : Array GG) (b i : Nat) (h : i ≤ b) : i ≤ scanSorted ltG d b i ∧ scanSorted ltG d b i ≤ b := by
  fun_induction scanSorted ltG d b i with
  | case1 i hc ih => simp only [Bool.and_eq_true, decide_eq_true_eq] at hc; have := ih (by omega); omega
  | case2 => omega
theorem shiftDown_size : ∀ j (d : Array GG), (shiftDown ltG j d).size = d.size
  | 0, d => rfl
  | j + 1, d => by rw [shiftDown]; split; rfl; rw [shiftDown_size j, swp_size]
theorem shiftUp_size (b j : Nat) (d : Array GG) : (shiftUp ltG b j d).size = d.size := by
  fun_induction shiftUp ltG b j d <;> simp_all [swp_size]
theorem partialG {m : St} {n L cap : Nat} {d : Array GG} {r : List PV} (H : Arr m n L d r) (a b : Nat) (hab : a < b) (hb : b ≤ L) :
    GivesTo Tryz.prog 180 [mar n L cap, vI a, vI b, cloC] m (vB (partialInsertionSort ltG d a b).2) (m.setLoc n (ar (partialInsertionSort ltG d a b).1 r)) := by
  have hn := H.lt
  have hm := H.loc
  have hL := H.size
  have hS := H.small
  refine ACall.of_aw Tryz.func180 Tryz.ntmps180 rfl rfl (by simp) ?_
  rw [partialInsertionSort]
  refine tS ?_
  refine AW.loop (ι := Nat) (fun s σ m' => s ≤ 5 ∧ σ 10 = vI (5 - (s : Int)) ∧ σ 0 = mar n L cap ∧ σ 1 = vI a ∧ σ 2 = vI b ∧ σ 3 = cloC ∧ ∃ (i : Nat) (d' : Array GG), a + 1 ≤ i ∧ i ≤ b ∧ σ 9 = vI i ∧ d'.size = L ∧ partialIns ltG a b s i d' = partialIns ltG a b 5 (a + 1) d ∧ m' = m.setLoc n (ar d' r)) (fun s => s) 5 ?_ ?_
  · exact ⟨by omega, by simp [upd_lit], by simp [upd_lit], by simp [upd_lit], by simp [upd_lit], by simp [upd_lit], a + 1, d, by omega, by omega, by simp [upd_lit], hL, rfl, (setLoc_self hm).symm⟩
  rintro s σ m' ⟨hs5, t10, t0, t1, t2, t3, i, d1, hi1, hi2, t9, hs, hD, rfl⟩
  cases s with
  | zero =>
    have t10 : σ 10 = vI 5 := t10
    rw [partialIns] at hD
    rw [← hD]
    have F := @t10; refine tFa ?_; (try clear F)
    exact Fin.here (r := vB false) (by rfl) (.inr rfl) ⟨rfl, rfl⟩
  | succ s =>
    have e1 : (5 : Int) - ((s + 1 : Nat) : Int) < 5 := by omega
    generalize h10 : (5 : Int) - ((s + 1 : Nat) : Int) = k10 at *
    have e2 : k10 + 1 = 5 - (s : Int) := by omega
    rw [partialIns_succ] at hD
    have hsc := scanSorted_rng d1 b i hi2
    have F := (aand @t10 @e1); refine tFg ?_; (try clear F)
    refine AW.condT (by simp [upd_lit, e1]) ?_
    refine AW.skip ?_
    refine AExit.norT ?_
    refine AW.seq ?_
    refine AW.block ?_
    refine AW.seq ?_
    obtain ⟨i2, h2⟩ : ∃ i2, i2 = scanSorted ltG d1 b i := ⟨_, rfl⟩
    rw [← h2] at hsc
    refine AW.step (fun τ m' => τ 9 = vI i2 ∧ τ 10 = vI k10 ∧ τ 0 = mar n L cap ∧ τ 1 = vI a ∧ τ 2 = vI b ∧ τ 3 = cloC ∧ m' = m.setLoc n (ar d1 r)) ?_ ?_
    · refine AW.block ?_
      refine AW.loop (ι := Nat) (fun k τ m' => i ≤ k ∧ k ≤ b ∧ scanSorted ltG d1 b k = i2 ∧ τ 9 = vI k ∧ τ 10 = vI k10 ∧ τ 0 = mar n L cap ∧ τ 1 = vI a ∧ τ 2 = vI b ∧ τ 3 = cloC ∧ m' = m.setLoc n (ar d1 r)) (fun k => b - k) i ?_ ?_
      · exact ⟨Nat.le_refl _, hi2, h2.symm, by simp [upd_lit, t9], by simp [upd_lit, t10], by simp [upd_lit, t0], by simp [upd_lit, t1], by simp [upd_lit, t2], by simp [upd_lit, t3], rfl⟩
      clear t10 t0 t1 t2 t3 t9
      rintro k τ m' ⟨hk1, hk2, hsk, t9, t10, t0, t1, t2, t3, rfl⟩
      rw [scanSorted] at hsk
      by_cases hkb : k < b
      rotate_left
      · rw [if_neg (by simp; omega)] at hsk
        subst hsk
        repeat (first | refine AW.seq ?_ | refine AW.block ?_ | refine AW.skip ?_ | refine AExit.norT ?_ | refine AExit.norB ?_ | refine AList.nil ?_)
        refine AW.draw [.S, .S, .S, .S, .S, .S, .S, .S, .R, .S, .S, .S, .S, .R, .R, .S, .S, .S] (by decide +kernel) ?_; have F := (aand @t9 (aand @t2 @hkb)); refine dS 0 ?_; refine dS 1 ?_; refine dS 2 ?_; refine dS 3 ?_; refine dXx 4 ?_; refine dXx 5 ?_; refine dXx 6 ?_; refine dXx 7 ?_; refine dXX 8 ?_; refine dXx 9 ?_; refine dXx 10 ?_; refine dXx 11 ?_; refine dXx 12 ?_; refine dXX 13 ?_; refine dXX 14 ?_; refine dXx 15 ?_; refine dXx 16 ?_; refine dS 17 ?_; (try clear F); first | refine dN ?_ | refine dB ?_ | refine DA.done (by decide +kernel) ?_
        refine tSa ?_
        exact ⟨rfl, by simp [upd_lit, t9], by simp [upd_lit, t10], by simp [upd_lit, t0], by simp [upd_lit, t1], by simp [upd_lit, t2], by simp [upd_lit, t3], rfl⟩
      obtain ⟨p, rfl⟩ : ∃ p, k = p + 1 := ⟨k - 1, by omega⟩
      have e3 : ((p + 1 : Nat) : Int) - 1 = (p : Int) := by omega
      rw [Nat.add_sub_cancel] at hsk
      generalize hk : p + 1 = k at *
      have k1 : k < d1.size := by omega
      have k2 : (k : Int) < L := by omega
      have p1 : p < d1.size := by omega
      have p2 : (p : Int) < L := by omega
      have hcmp := cmpG (gt d1 k) (gt d1 p)
      repeat (first | refine AW.seq ?_ | refine AW.block ?_ | refine AW.skip ?_ | refine AExit.norT ?_ | refine AExit.norB ?_ | refine AList.nil ?_)
      refine AW.draw [.S, .S, .S, .S, .S, .S, .S, .S, .R, .S, .S, .S, .S, .R, .R, .S, .S, .S] (by decide +kernel) ?_; have F := (aand @t9 (aand @t2 (aand @t0 (aand @t3 (aand @hkb (aand @e3 (aand @k1 (aand @k2 (aand @p1 (aand @p2 (aand @hn (aand @ar_get @ar_fit)))))))))))); refine dS 0 ?_; refine dS 1 ?_; refine dS 2 ?_; refine dS 3 ?_; refine dSG 4 ?_; refine dSG 5 ?_; refine dSG 6 ?_; refine dSG 7 ?_; refine dRG 8 ?_; refine dSG 9 ?_; refine dSG 10 ?_; refine dSG 11 ?_; refine dSG 12 ?_; refine dRG 13 ?_; refine dCG ((hcmp)) 14 ?_; refine dSG 15 ?_; refine dSG 16 ?_; refine dS 17 ?_; (try clear F); first | refine dN ?_ | refine dB ?_ | refine DA.done (by decide +kernel) ?_
      by_cases hl : cmpV (gt d1 k).1 (gt d1 p).1 < 0
      · rw [if_neg (by simp only [gt_eq]; simp [ltG, hl])] at hsk
        subst hsk
        have F := @hl; refine tFa ?_; (try clear F)
        exact ⟨rfl, by simp [upd_lit, t9], by simp [upd_lit, t10], by simp [upd_lit, t0], by simp [upd_lit, t1], by simp [upd_lit, t2], by simp [upd_lit, t3], rfl⟩
      · rw [if_pos (by simp only [gt_eq]; simp [ltG]; omega)] at hsk
        have F := (aand @hl @t9); refine tFa ?_; (try clear F)
        exact ⟨k + 1, ⟨by omega, by omega, hsk, by simp [upd_lit], by simp [upd_lit, t10], by simp [upd_lit, t0], by simp [upd_lit, t1], by simp [upd_lit, t2], by simp [upd_lit, t3], rfl⟩, by omega⟩
    clear t10 t0 t1 t2 t3 t9
    rintro τ m' ⟨t9, t10, t0, t1, t2, t3, rfl⟩
    rw [← h2] at hD
    by_cases hib : i2 = b
    · rw [if_pos hib] at hD
      rw [← hD]
      have F := (aand @t9 (aand @t2 @hib)); refine tFa ?_; (try clear F)
      exact Fin.here (r := vB true) (by rfl) (.inr rfl) ⟨rfl, rfl⟩
    rw [if_neg hib] at hD
    have hib2 : ¬ (i2 : Int) = b := by omega
    obtain ⟨l, hl⟩ : ∃ l, l = b - a := ⟨_, rfl⟩
    have el : (b : Int) - a = (l : Int) := by omega
    by_cases h50 : (l : Int) < 50
    · rw [if_pos (by omega)] at hD
      rw [← hD]
      have F := (aand @t9 (aand @t2 (aand @t1 (aand @hib2 (aand @el @h50))))); refine tFa ?_; (try clear F)
      exact Fin.here (r := vB false) (by rfl) (.inr rfl) ⟨rfl, rfl⟩
    rw [if_neg (by omega)] at hD
    have F := (aand @t9 (aand @t2 (aand @t1 (aand @hib2 (aand @el @h50))))); refine tFa ?_; (try clear F)
    obtain ⟨p, hp⟩ : ∃ p, p + 1 = i2 := ⟨i2 - 1, by omega⟩
    rw [show i2 - 1 = p from by omega] at hD
    have e3 : (i2 : Int) - 1 = (p : Int) := by omega
    have k1 : i2 < d1.size := by omega
    have k2 : (i2 : Int) < L := by omega
    have p1 : p < d1.size := by omega
    have p2 : (p : Int) < L := by omega
    repeat (first | refine AW.seq ?_ | refine AW.block ?_ | refine AW.skip ?_ | refine AExit.norT ?_ | refine AExit.norB ?_ | refine AList.nil ?_)
    refine AW.draw [.S, .S, .S, .S, .S, .S, .S, .S, .S, .R, .S, .S, .S, .R, .S, .W, .S, .W] (by decide +kernel) ?_; have F := (aand @t9 (aand @t0 (aand @e3 (aand @k1 (aand @k2 (aand @p1 (aand @p2 (aand @hn (aand @ar_get (aand @ar_fit (aand @ar_set @setLoc_setLoc))))))))))); refine dST 0 ?_; refine dST 1 ?_; refine dST 2 ?_; refine dST 3 ?_; refine dST 4 ?_; refine dST 5 ?_; refine dST 6 ?_; refine dST 7 ?_; refine dST 8 ?_; refine dRT 9 ?_; refine dST 10 ?_; refine dST 11 ?_; refine dST 12 ?_; refine dRT 13 ?_; refine dST 14 ?_; refine dW 15 ?_; refine dST 16 ?_; refine dW 17 ?_; (try clear F); first | refine dN ?_ | refine dB ?_ | refine DA.done (by decide +kernel) ?_
    simp only [put]
    rw [swp_gt]
    have hs2 : (swp d1 i2 p).size = L := by rw [swp_size]; exact hs
    generalize swp d1 i2 p = d2 at *
    have hai : a + 1 ≤ i2 := by omega
    have hbi : i2 ≤ b := by omega
    clear hib hib2 hs k1 p1 hsc
    refine AW.seq ?_
    refine AW.step (fun τ m' => τ 9 = vI i2 ∧ τ 10 = vI k10 ∧ τ 0 = mar n L cap ∧ τ 1 = vI a ∧ τ 2 = vI b ∧ τ 3 = cloC ∧ m' = m.setLoc n (ar (fixDown ltG a i2 d2) r)) ?_ ?_
    · rw [fixDown]
      obtain ⟨q, hq⟩ : ∃ q, q = i2 - a := ⟨_, rfl⟩
      have eq : (i2 : Int) - a = (q : Int) := by omega
      by_cases hq2 : (2 : Int) ≤ q
      rotate_left
      · rw [if_neg (by omega)]
        have F := (aand @t9 (aand @t1 (aand @eq @hq2))); refine tFa ?_; (try clear F)
        exact ⟨rfl, by simp [upd_lit, t9], by simp [upd_lit, t10], by simp [upd_lit, t0], by simp [upd_lit, t1], by simp [upd_lit, t2], by simp [upd_lit, t3], rfl⟩
      rw [if_pos (by omega), show i2 - 1 = p from by omega]
      have F := (aand @t9 (aand @t1 (aand @eq (aand @hq2 @e3)))); refine tFa ?_; (try clear F)
      refine AW.loop (ι := Nat) (fun j τ m' => j ≤ p ∧ τ 11 = vI j ∧ τ 9 = vI i2 ∧ τ 10 = vI k10 ∧ τ 0 = mar n L cap ∧ τ 1 = vI a ∧ τ 2 = vI b ∧ τ 3 = cloC ∧ ∃ d', d'.size = L ∧ shiftDown ltG j d' = shiftDown ltG p d2 ∧ m' = m.setLoc n (ar d' r)) (fun j => j) p ?_ ?_
      · exact ⟨Nat.le_refl _, by simp [upd_lit], by simp [upd_lit, t9], by simp [upd_lit, t10], by simp [upd_lit, t0], by simp [upd_lit, t1], by simp [upd_lit, t2], by simp [upd_lit, t3], d2, hs2, rfl, rfl⟩
      clear t9 t10 t0 t1 t2 t3
      rintro j τ m' ⟨hj, t11, t9, t10, t0, t1, t2, t3, d3, hs3, hE, rfl⟩
      cases j with
      | zero =>
        have t11 : τ 11 = vI 0 := t11
        rw [shiftDown] at hE
        have F := @t11; refine tFa ?_; (try clear F)
        exact ⟨rfl, by simp [upd_lit, t9], by simp [upd_lit, t10], by simp [upd_lit, t0], by simp [upd_lit, t1], by simp [upd_lit, t2], by simp [upd_lit, t3], by rw [← hE]⟩
      | succ j =>
        have e4 : ((j + 1 : Nat) : Int) - 1 = (j : Int) := by omega
        have e5 : (1 : Int) ≤ ((j + 1 : Nat) : Int) := by omega
        rw [shiftDown] at hE
        generalize hk : j + 1 = k at *
        have k3 : k < d3.size := by omega
        have k4 : (k : Int) < L := by omega
        have j3 : j < d3.size := by omega
        have j4 : (j : Int) < L := by omega
        have hcmp := cmpG (gt d3 k) (gt d3 j)
        have F := (aand @t11 @e5); refine tFa ?_; (try clear F)
        repeat (first | refine AW.seq ?_ | refine AW.block ?_ | refine AW.skip ?_ | refine AExit.norT ?_ | refine AExit.norB ?_ | refine AList.nil ?_)
        refine AW.draw [.S, .S, .S, .S, .R, .S, .S, .S, .S, .R, .R, .S, .S] (by decide +kernel) ?_; have F := (aand @t11 (aand @t0 (aand @t3 (aand @e4 (aand @k3 (aand @k4 (aand @j3 (aand @j4 (aand @hn (aand @ar_get @ar_fit)))))))))); refine dS 0 ?_; refine dS 1 ?_; refine dS 2 ?_; refine dS 3 ?_; refine dR 4 ?_; refine dS 5 ?_; refine dS 6 ?_; refine dS 7 ?_; refine dS 8 ?_; refine dR 9 ?_; refine dC ((hcmp)) 10 ?_; refine dS 11 ?_; refine dS 12 ?_; (try clear F); first | refine dN ?_ | refine dB ?_ | refine DA.done (by decide +kernel) ?_
        by_cases hl : cmpV (gt d3 k).1 (gt d3 j).1 < 0
        rotate_left
        · rw [if_pos (by simp only [gt_eq]; simp [ltG]; omega)] at hE
          have F := @hl; refine tFa ?_; (try clear F)
          exact ⟨rfl, by simp [upd_lit, t9], by simp [upd_lit, t10], by simp [upd_lit, t0], by simp [upd_lit, t1], by simp [upd_lit, t2], by simp [upd_lit, t3], by rw [← hE]⟩
        rw [if_neg (by simp only [gt_eq]; simp [ltG]; omega)] at hE
        have F := @hl; refine tFa ?_; (try clear F)
        repeat (first | refine AW.seq ?_ | refine AW.block ?_ | refine AW.skip ?_ | refine AExit.norT ?_ | refine AExit.norB ?_ | refine AList.nil ?_)
        refine AW.draw [.S, .S, .S, .S, .S, .S, .S, .S, .S, .R, .S, .S, .S, .R, .S, .W, .S, .W] (by decide +kernel) ?_; have F := (aand @t11 (aand @t0 (aand @e4 (aand @k3 (aand @k4 (aand @j3 (aand @j4 (aand @hn (aand @ar_get (aand @ar_fit (aand @ar_set @setLoc_setLoc))))))))))); refine dST 0 ?_; refine dST 1 ?_; refine dST 2 ?_; refine dST 3 ?_; refine dST 4 ?_; refine dST 5 ?_; refine dST 6 ?_; refine dST 7 ?_; refine dST 8 ?_; refine dRT 9 ?_; refine dST 10 ?_; refine dST 11 ?_; refine dST 12 ?_; refine dRT 13 ?_; refine dST 14 ?_; refine dW 15 ?_; refine dST 16 ?_; refine dW 17 ?_; (try clear F); first | refine dN ?_ | refine dB ?_ | refine DA.done (by decide +kernel) ?_
        simp only [put]
        rw [swp_gt]
        have F := (aand @t11 @e4); refine tF ?_; (try clear F)
        exact ⟨j, ⟨by omega, by simp [upd_lit], by simp [upd_lit, t9], by simp [upd_lit, t10], by simp [upd_lit, t0], by simp [upd_lit, t1], by simp [upd_lit, t2], by simp [upd_lit, t3], _, by rw [swp_size]; exact hs3, hE, rfl⟩, by omega⟩
    clear t10 t0 t1 t2 t3 t9
    have hs3 : (fixDown ltG a i2 d2).size = L := by rw [fixDown]; split; rw [shiftDown_size]; exact hs2; exact hs2
    generalize fixDown ltG a i2 d2 = d3 at *
    clear hs2
    rintro τ m' ⟨t9, t10, t0, t1, t2, t3, rfl⟩
    refine AExit.norT ?_
    refine AW.step (fun τ m' => τ 9 = vI i2 ∧ τ 10 = vI k10 ∧ τ 0 = mar n L cap ∧ τ 1 = vI a ∧ τ 2 = vI b ∧ τ 3 = cloC ∧ m' = m.setLoc n (ar (fixUp ltG b i2 d3) r)) ?_ ?_
    · rw [fixUp]
      obtain ⟨q, hq⟩ : ∃ q, q = b - i2 := ⟨_, rfl⟩
      have eq : (b : Int) - i2 = (q : Int) := by omega
      by_cases hq2 : (2 : Int) ≤ q
      rotate_left
      · rw [if_neg (by omega)]
        have F := (aand @t9 (aand @t2 (aand @eq @hq2))); refine tFa ?_; (try clear F)
        exact ⟨rfl, by simp [upd_lit, t9], by simp [upd_lit, t10], by simp [upd_lit, t0], by simp [upd_lit, t1], by simp [upd_lit, t2], by simp [upd_lit, t3], rfl⟩
      rw [if_pos (by omega)]
      have F := (aand @t9 (aand @t2 (aand @eq @hq2))); refine tFa ?_; (try clear F)
      refine AW.loop (ι := Nat) (fun j τ m' => i2 + 1 ≤ j ∧ j ≤ b ∧ τ 12 = vI j ∧ τ 9 = vI i2 ∧ τ 10 = vI k10 ∧ τ 0 = mar n L cap ∧ τ 1 = vI a ∧ τ 2 = vI b ∧ τ 3 = cloC ∧ ∃ d', d'.size = L ∧ shiftUp ltG b j d' = shiftUp ltG b (i2 + 1) d3 ∧ m' = m.setLoc n (ar d' r)) (fun j => b - j) (i2 + 1) ?_ ?_
      · exact ⟨Nat.le_refl _, by omega, by simp [upd_lit], by simp [upd_lit, t9], by simp [upd_lit, t10], by simp [upd_lit, t0], by simp [upd_lit, t1], by simp [upd_lit, t2], by simp [upd_lit, t3], d3, hs3, rfl, rfl⟩
      clear t9 t10 t0 t1 t2 t3
      rintro j τ m' ⟨hj, hjb, t12, t9, t10, t0, t1, t2, t3, d4, hs4, hE, rfl⟩
      rw [shiftUp] at hE
      by_cases hlt : j < b
      rotate_left
      · rw [if_neg hlt] at hE
        have F := (aand @t12 (aand @t2 @hlt)); refine tFa ?_; (try clear F)
        exact ⟨rfl, by simp [upd_lit, t9], by simp [upd_lit, t10], by simp [upd_lit, t0], by simp [upd_lit, t1], by simp [upd_lit, t2], by simp [upd_lit, t3], by rw [← hE]⟩
      rw [if_pos hlt] at hE
      obtain ⟨w, rfl⟩ : ∃ w, j = w + 1 := ⟨j - 1, by omega⟩
      have e4 : ((w + 1 : Nat) : Int) - 1 = (w : Int) := by omega
      rw [Nat.add_sub_cancel] at hE
      generalize hk : w + 1 = k at *
      have k3 : k < d4.size := by omega
      have k4 : (k : Int) < L := by omega
      have j3 : w < d4.size := by omega
      have j4 : (w : Int) < L := by omega
      have hcmp := cmpG (gt d4 k) (gt d4 w)
      have F := (aand @t12 (aand @t2 @hlt)); refine tFa ?_; (try clear F)
      repeat (first | refine AW.seq ?_ | refine AW.block ?_ | refine AW.skip ?_ | refine AExit.norT ?_ | refine AExit.norB ?_ | refine AList.nil ?_)
      refine AW.draw [.S, .S, .S, .S, .R, .S, .S, .S, .S, .R, .R, .S, .S] (by decide +kernel) ?_; have F := (aand @t12 (aand @t0 (aand @t3 (aand @e4 (aand @k3 (aand @k4 (aand @j3 (aand @j4 (aand @hn (aand @ar_get @ar_fit)))))))))); refine dS 0 ?_; refine dS 1 ?_; refine dS 2 ?_; refine dS 3 ?_; refine dR 4 ?_; refine dS 5 ?_; refine dS 6 ?_; refine dS 7 ?_; refine dS 8 ?_; refine dR 9 ?_; refine dC ((hcmp)) 10 ?_; refine dS 11 ?_; refine dS 12 ?_; (try clear F); first | refine dN ?_ | refine dB ?_ | refine DA.done (by decide +kernel) ?_
      by_cases hl : cmpV (gt d4 k).1 (gt d4 w).1 < 0
      rotate_left
      · rw [if_pos (by simp only [gt_eq]; simp [ltG]; omega)] at hE
        have F := @hl; refine tFa ?_; (try clear F)
        exact ⟨rfl, by simp [upd_lit, t9], by simp [upd_lit, t10], by simp [upd_lit, t0], by simp [upd_lit, t1], by simp [upd_lit, t2], by simp [upd_lit, t3], by rw [← hE]⟩
      rw [if_neg (by simp only [gt_eq]; simp [ltG]; omega)] at hE
      have F := @hl; refine tFa ?_; (try clear F)
      repeat (first | refine AW.seq ?_ | refine AW.block ?_ | refine AW.skip ?_ | refine AExit.norT ?_ | refine AExit.norB ?_ | refine AList.nil ?_)
      refine AW.draw [.S, .S, .S, .S, .S, .S, .S, .S, .S, .R, .S, .S, .S, .R, .S, .W, .S, .W] (by decide +kernel) ?_; have F := (aand @t12 (aand @t0 (aand @e4 (aand @k3 (aand @k4 (aand @j3 (aand @j4 (aand @hn (aand @ar_get (aand @ar_fit (aand @ar_set @setLoc_setLoc))))))))))); refine dST 0 ?_; refine dST 1 ?_; refine dST 2 ?_; refine dST 3 ?_; refine dST 4 ?_; refine dST 5 ?_; refine dST 6 ?_; refine dST 7 ?_; refine dST 8 ?_; refine dRT 9 ?_; refine dST 10 ?_; refine dST 11 ?_; refine dST 12 ?_; refine dRT 13 ?_; refine dST 14 ?_; refine dW 15 ?_; refine dST 16 ?_; refine dW 17 ?_; (try clear F); first | refine dN ?_ | refine dB ?_ | refine DA.done (by decide +kernel) ?_
      simp only [put]
      rw [swp_gt]
      have F := @t12; refine tF ?_; (try clear F)
      exact ⟨k + 1, ⟨by omega, by omega, by simp [upd_lit], by simp [upd_lit, t9], by simp [upd_lit, t10], by simp [upd_lit, t0], by simp [upd_lit, t1], by simp [upd_lit, t2], by simp [upd_lit, t3], _, by rw [swp_size]; exact hs4, hE, rfl⟩, by omega⟩
    clear t10 t0 t1 t2 t3 t9
    have hs4 : (fixUp ltG b i2 d3).size = L := by rw [fixUp]; split; rw [shiftUp_size]; exact hs3; exact hs3
    generalize fixUp ltG b i2 d3 = d4 at *
    rintro τ m' ⟨t9, t10, t0, t1, t2, t3, rfl⟩
    have F := (aand @t10 @e2); refine tF ?_; (try clear F)
    exact ⟨s, ⟨by omega, by simp [upd_lit], by simp [upd_lit, t0], by simp [upd_lit, t1], by simp [upd_lit, t2], by simp [upd_lit, t3], i2, d4, by omega, by omega, by simp [upd_lit, t9], hs4, hD, rfl⟩, by omega⟩
end Go.Proofs.YtgfadepkiejncaaGreat
namespace Go.Ab
theorem AW.stepX {P : Program} {N : Nat} {Q : APost} {σ : Nat → PV} {m : St} {c : Code} (k : Nat) (I : (Nat → PV) → St → Prop) (h : AW P N c (fun y σ m => y = .exit k ∧ I σ m) σ m) (kk : ∀ σ m, I σ m → Q (.exit k) σ m) : AW P N c Q σ m :=
  AW.mono h fun _ _ _ ⟨e, hi⟩ => e ▸ kk _ _ hi
end Go.Ab
namespace Go.Proofs.YtgfadepkiejncaaGreat
open Go.Ab Go.Sort
set_option maxHeartbeats 0
set_option maxRecDepth 100000
attribute [local irreducible] AW AList ACall DA AExit.then AExit.inBlock YCall DCall
theorem partitionEqualG {m : St} {n L cap : Nat} {d : Array GG} {r : List PV} (H : Arr m n L d r) (a b p : Nat) (hp1 : a ≤ p) (hp2 : p < b) (hb : b ≤ L) :
    GivesTo Tryz.prog 181 [mar n L cap, vI a, vI b, vI p, cloC] m (vI (partitionEqual ltG d a b p).1) (m.setLoc n (ar (partitionEqual ltG d a b p).2 r)) := by
  have hn := H.lt
  have hm := H.loc
  have hL := H.size
  have hS := H.small
  refine ACall.of_aw Tryz.func181 Tryz.ntmps181 rfl rfl (by simp) ?_
  rw [partitionEqual]
  have a1 : a < d.size := by omega
  have a2 : (a : Int) < L := by omega
  have p1 : p < d.size := by omega
  have p2 : (p : Int) < L := by omega
  obtain ⟨j0, hj0⟩ : ∃ j, j + 1 = b := ⟨b - 1, by omega⟩
  rw [show b - 1 = j0 from by omega]
  have ej : (b : Int) - 1 = (j0 : Int) := by omega
  refine tS ?_
  refine AW.draw [.S, .S, .S, .S, .S, .S, .S, .R, .S, .S, .S, .R, .S, .W, .S, .W] (by decide +kernel) ?_; have F := (aand @a1 (aand @a2 (aand @p1 (aand @p2 (aand @hn (aand @hm (aand @ar_get (aand @ar_fit (aand @ar_set @setLoc_setLoc))))))))); refine dST 0 ?_; refine dST 1 ?_; refine dST 2 ?_; refine dST 3 ?_; refine dST 4 ?_; refine dST 5 ?_; refine dST 6 ?_; refine dRT 7 ?_; refine dST 8 ?_; refine dST 9 ?_; refine dST 10 ?_; refine dRT 11 ?_; refine dST 12 ?_; refine dW 13 ?_; refine dST 14 ?_; refine dW 15 ?_; (try clear F); first | refine dN ?_ | refine dB ?_ | refine DA.done (by decide +kernel) ?_
  simp only [put]
  rw [swp_gt]
  have hs0 : (swp d a p).size = L := by rw [swp_size]; exact hL
  generalize swp d a p = d0 at *
  clear a1 p1 p2
  have F := @ej; refine tF ?_; (try clear F)
  refine AW.loop (ι := Nat × Nat) (fun q σ m' => a + 1 ≤ q.1 ∧ q.1 ≤ b + 1 ∧ q.2 < b ∧ σ 11 = vI q.1 ∧ σ 12 = vI q.2 ∧ σ 0 = mar n L cap ∧ σ 1 = vI a ∧ σ 4 = cloC ∧ ∃ d', d'.size = L ∧ partEqLoop ltG a q.1 q.2 d' = partEqLoop ltG a (a + 1) j0 d0 ∧ m' = m.setLoc n (ar d' r)) (fun q => q.2 + 1 - q.1) (a + 1, j0) ?_ ?_
  · exact ⟨Nat.le_refl _, by show a + 1 ≤ b + 1; omega, by show j0 < b; omega, by simp [upd_lit], by simp [upd_lit], by simp [upd_lit], by simp [upd_lit], by simp [upd_lit], d0, hs0, rfl, rfl⟩
  rintro ⟨i, j⟩ σ m' ⟨hi, hib, hj, tI, tJ, t0, t1, t4, d1, hs, hD, rfl⟩
  simp only at hi hib hj tI tJ hD
  rw [partEqLoop_eq] at hD
  repeat (first | refine AW.seq ?_ | refine AW.block ?_ | refine AW.skip ?_ | refine AExit.norT ?_ | refine AExit.norB ?_ | refine AList.nil ?_)
  obtain ⟨u, hu⟩ : ∃ z, z = scanUp (fun x => !ltG d1[a]! x) d1 j i := ⟨_, rfl⟩
  refine AW.stepX 2 (fun τ m3 => τ 11 = vI u ∧ τ 12 = vI j ∧ τ 0 = mar n L cap ∧ τ 1 = vI a ∧ τ 4 = cloC ∧ m3 = m.setLoc n (ar d1 r)) ?_ ?_
  · refine AW.loop (ι := Nat) (fun k τ m3 => i ≤ k ∧ scanUp (fun x => !ltG d1[a]! x) d1 j k = u ∧ τ 11 = vI k ∧ τ 12 = vI j ∧ τ 0 = mar n L cap ∧ τ 1 = vI a ∧ τ 4 = cloC ∧ m3 = m.setLoc n (ar d1 r)) (fun k => j + 1 - k) i ?_ ?_
    · exact ⟨Nat.le_refl _, hu.symm, by simp [upd_lit, tI], by simp [upd_lit, tJ], by simp [upd_lit, t0], by simp [upd_lit, t1], by simp [upd_lit, t4], rfl⟩
    rintro k τ m3 ⟨hk, hE, tI, tJ, t0, t1, t4, rfl⟩
    by_cases hkj : k ≤ j
    rotate_left
    · rw [scanUp, if_neg (by simp; omega)] at hE
      subst hE
      repeat (first | refine AW.seq ?_ | refine AW.block ?_ | refine AW.skip ?_ | refine AExit.norT ?_ | refine AExit.norB ?_ | refine AList.nil ?_)
      refine AW.draw [.S, .S, .S, .S, .S, .S, .S, .S, .R, .S, .S, .S, .R, .R, .S, .S, .S] (by decide +kernel) ?_; have F := (aand @tI (aand @tJ @hkj)); refine dS 0 ?_; refine dS 1 ?_; refine dS 2 ?_; refine dS 3 ?_; refine dXx 4 ?_; refine dXx 5 ?_; refine dXx 6 ?_; refine dXx 7 ?_; refine dXX 8 ?_; refine dXx 9 ?_; refine dXx 10 ?_; refine dXx 11 ?_; refine dXX 12 ?_; refine dXX 13 ?_; refine dXx 14 ?_; refine dXx 15 ?_; refine dS 16 ?_; (try clear F); first | refine dN ?_ | refine dB ?_ | refine DA.done (by decide +kernel) ?_
      refine tSa ?_
      exact ⟨rfl, by simp [upd_lit, tI], by simp [upd_lit, tJ], by simp [upd_lit, t0], by simp [upd_lit, t1], by simp [upd_lit, t4], rfl⟩
    rw [scanUp] at hE
    have k1 : k < d1.size := by omega
    have k2 : (k : Int) < L := by omega
    have a1 : a < d1.size := by omega
    have hcmp := cmpG (gt d1 a) (gt d1 k)
    repeat (first | refine AW.seq ?_ | refine AW.block ?_ | refine AW.skip ?_ | refine AExit.norT ?_ | refine AExit.norB ?_ | refine AList.nil ?_)
    refine AW.draw [.S, .S, .S, .S, .S, .S, .S, .S, .R, .S, .S, .S, .R, .R, .S, .S, .S] (by decide +kernel) ?_; have F := (aand @tI (aand @tJ (aand @t0 (aand @t1 (aand @t4 (aand @hkj (aand @k1 (aand @k2 (aand @a1 (aand @a2 (aand @hn (aand @ar_get @ar_fit)))))))))))); refine dS 0 ?_; refine dS 1 ?_; refine dS 2 ?_; refine dS 3 ?_; refine dSG 4 ?_; refine dSG 5 ?_; refine dSG 6 ?_; refine dSG 7 ?_; refine dRG 8 ?_; refine dSG 9 ?_; refine dSG 10 ?_; refine dSG 11 ?_; refine dRG 12 ?_; refine dCG ((hcmp)) 13 ?_; refine dSG 14 ?_; refine dSG 15 ?_; refine dS 16 ?_; (try clear F); first | refine dN ?_ | refine dB ?_ | refine DA.done (by decide +kernel) ?_
    by_cases hl : cmpV (gt d1 a).1 (gt d1 k).1 < 0
    · rw [if_neg (by simp only [gt_eq]; simp [ltG, hl])] at hE
      subst hE
      have F := @hl; refine tFa ?_; (try clear F)
      exact ⟨rfl, by simp [upd_lit, tI], by simp [upd_lit, tJ], by simp [upd_lit, t0], by simp [upd_lit, t1], by simp [upd_lit, t4], rfl⟩
    · rw [if_pos (by simp only [gt_eq]; simp only [ltG, hl, decide_true, decide_false, Bool.not_true, Bool.not_false, Bool.and_true, decide_eq_true_eq]; omega)] at hE
      have F := (aand @hl @tI); refine tFa ?_; (try clear F)
      exact ⟨k + 1, ⟨by omega, hE, by simp [upd_lit], by simp [upd_lit, tJ], by simp [upd_lit, t0], by simp [upd_lit, t1], by simp [upd_lit, t4], rfl⟩, by omega⟩
  rintro τ m3 ⟨tI, tJ, t0, t1, t4, rfl⟩
  have hu1 : i ≤ u ∧ u ≤ b + 1 := by
    have h1 := scanUp_spec (fun x => !ltG d1[a]! x) d1 j _ i rfl
    rw [← hu] at h1
    by_cases hij : i ≤ j + 1
    · have := h1.2.1 hij; omega
    · have hx : scanUp (fun x => !ltG d1[a]! x) d1 j i = i := by rw [scanUp, if_neg (by simp; omega)]
      omega
  rw [← hu] at hD
  refine AExit.exiB ?_
  repeat (first | refine AW.seq ?_ | refine AW.block ?_ | refine AW.skip ?_ | refine AExit.norT ?_ | refine AExit.norB ?_ | refine AList.nil ?_)
  obtain ⟨v, hv⟩ : ∃ z, z = scanDown (fun x => ltG d1[a]! x) d1 u j := ⟨_, rfl⟩
  refine AW.stepX 4 (fun τ m3 => τ 11 = vI u ∧ τ 12 = vI v ∧ τ 0 = mar n L cap ∧ τ 1 = vI a ∧ τ 4 = cloC ∧ m3 = m.setLoc n (ar d1 r)) ?_ ?_
  · refine AW.loop (ι := Nat) (fun k τ m3 => k ≤ j ∧ scanDown (fun x => ltG d1[a]! x) d1 u k = v ∧ τ 11 = vI u ∧ τ 12 = vI k ∧ τ 0 = mar n L cap ∧ τ 1 = vI a ∧ τ 4 = cloC ∧ m3 = m.setLoc n (ar d1 r)) (fun k => k) j ?_ ?_
    · exact ⟨Nat.le_refl _, hv.symm, by simp [upd_lit, tI], by simp [upd_lit, tJ], by simp [upd_lit, t0], by simp [upd_lit, t1], by simp [upd_lit, t4], rfl⟩
    rintro k τ m3 ⟨hk, hE, tI, tJ, t0, t1, t4, rfl⟩
    by_cases hkj : u ≤ k
    rotate_left
    · have hE2 : scanDown (fun x => ltG d1[a]! x) d1 u k = k := by
        cases k with
        | zero => rfl
        | succ w => rw [scanDown, if_neg (by simp; omega)]
      rw [hE2] at hE
      subst hE
      repeat (first | refine AW.seq ?_ | refine AW.block ?_ | refine AW.skip ?_ | refine AExit.norT ?_ | refine AExit.norB ?_ | refine AList.nil ?_)
      refine AW.draw [.S, .S, .S, .S, .S, .S, .S, .S, .R, .S, .S, .S, .R, .R, .S, .S] (by decide +kernel) ?_; have F := (aand @tI (aand @tJ @hkj)); refine dS 0 ?_; refine dS 1 ?_; refine dS 2 ?_; refine dS 3 ?_; refine dXx 4 ?_; refine dXx 5 ?_; refine dXx 6 ?_; refine dXx 7 ?_; refine dXX 8 ?_; refine dXx 9 ?_; refine dXx 10 ?_; refine dXx 11 ?_; refine dXX 12 ?_; refine dXX 13 ?_; refine dXx 14 ?_; refine dS 15 ?_; (try clear F); first | refine dN ?_ | refine dB ?_ | refine DA.done (by decide +kernel) ?_
      refine tSa ?_
      exact ⟨rfl, by simp [upd_lit, tI], by simp [upd_lit, tJ], by simp [upd_lit, t0], by simp [upd_lit, t1], by simp [upd_lit, t4], rfl⟩
    obtain ⟨w, rfl⟩ : ∃ w, k = w + 1 := ⟨k - 1, by omega⟩
    have e4 : ((w + 1 : Nat) : Int) - 1 = (w : Int) := by omega
    rw [scanDown] at hE
    generalize hkk : w + 1 = k at *
    have k1 : k < d1.size := by omega
    have k2 : (k : Int) < L := by omega
    have a1 : a < d1.size := by omega
    have hcmp := cmpG (gt d1 a) (gt d1 k)
    repeat (first | refine AW.seq ?_ | refine AW.block ?_ | refine AW.skip ?_ | refine AExit.norT ?_ | refine AExit.norB ?_ | refine AList.nil ?_)
    refine AW.draw [.S, .S, .S, .S, .S, .S, .S, .S, .R, .S, .S, .S, .R, .R, .S, .S] (by decide +kernel) ?_; have F := (aand @tI (aand @tJ (aand @t0 (aand @t1 (aand @t4 (aand @hkj (aand @k1 (aand @k2 (aand @a1 (aand @a2 (aand @hn (aand @ar_get @ar_fit)))))))))))); refine dS 0 ?_; refine dS 1 ?_; refine dS 2 ?_; refine dS 3 ?_; refine dSG 4 ?_; refine dSG 5 ?_; refine dSG 6 ?_; refine dSG 7 ?_; refine dRG 8 ?_; refine dSG 9 ?_; refine dSG 10 ?_; refine dSG 11 ?_; refine dRG 12 ?_; refine dCG ((hcmp)) 13 ?_; refine dSG 14 ?_; refine dS 15 ?_; (try clear F); first | refine dN ?_ | refine dB ?_ | refine DA.done (by decide +kernel) ?_
    by_cases hl : cmpV (gt d1 a).1 (gt d1 k).1 < 0
    · rw [if_pos (by simp only [gt_eq]; simp only [ltG, hl, decide_true, decide_false, Bool.not_true, Bool.not_false, Bool.and_true, decide_eq_true_eq]; omega)] at hE
      have F := (aand @hl (aand @tJ @e4)); refine tFa ?_; (try clear F)
      exact ⟨w, ⟨by omega, hE, by simp [upd_lit, tI], by simp [upd_lit], by simp [upd_lit, t0], by simp [upd_lit, t1], by simp [upd_lit, t4], rfl⟩, by omega⟩
    · rw [if_neg (by simp only [gt_eq]; simp [ltG, hl])] at hE
      subst hE
      have F := @hl; refine tFa ?_; (try clear F)
      exact ⟨rfl, by simp [upd_lit, tI], by simp [upd_lit, tJ], by simp [upd_lit, t0], by simp [upd_lit, t1], by simp [upd_lit, t4], rfl⟩
  rintro τ m3 ⟨tI, tJ, t0, t1, t4, rfl⟩
  have hv1 : v ≤ j := by rw [hv]; exact scanDown_le _ _ _ _
  rw [← hv] at hD
  refine AExit.exiB ?_
  by_cases hvu : v < u
  · rw [if_pos hvu] at hD
    rw [← hD]
    have F := (aand @tI (aand @tJ @hvu)); refine tFa ?_; (try clear F)
    exact Fin.here (r := vI u) (by rfl) (.inr rfl) ⟨rfl, rfl⟩
  rw [if_neg (by omega)] at hD
  have u1 : u < d1.size := by omega
  have u2 : (u : Int) < L := by omega
  have v1 : v < d1.size := by omega
  have v2 : (v : Int) < L := by omega
  obtain ⟨w, hw⟩ : ∃ w, w + 1 = v := ⟨v - 1, by omega⟩
  have ew : (v : Int) - 1 = (w : Int) := by omega
  rw [show v - 1 = w from by omega] at hD
  have F := (aand @tI (aand @tJ @hvu)); refine tFa ?_; (try clear F)
  repeat (first | refine AW.seq ?_ | refine AW.block ?_ | refine AW.skip ?_ | refine AExit.norT ?_ | refine AExit.norB ?_ | refine AList.nil ?_)
  refine AW.draw [.S, .S, .S, .S, .S, .S, .S, .R, .S, .S, .S, .R, .S, .W, .S, .W] (by decide +kernel) ?_; have F := (aand @tI (aand @tJ (aand @t0 (aand @u1 (aand @u2 (aand @v1 (aand @v2 (aand @hn (aand @ar_get (aand @ar_fit (aand @ar_set @setLoc_setLoc))))))))))); refine dST 0 ?_; refine dST 1 ?_; refine dST 2 ?_; refine dST 3 ?_; refine dST 4 ?_; refine dST 5 ?_; refine dST 6 ?_; refine dRT 7 ?_; refine dST 8 ?_; refine dST 9 ?_; refine dST 10 ?_; refine dRT 11 ?_; refine dST 12 ?_; refine dW 13 ?_; refine dST 14 ?_; refine dW 15 ?_; (try clear F); first | refine dN ?_ | refine dB ?_ | refine DA.done (by decide +kernel) ?_
  simp only [put]
  rw [swp_gt]
  have F := (aand @tI (aand @tJ @ew)); refine tF ?_; (try clear F)
  exact ⟨(u + 1, w), ⟨by show a + 1 ≤ u + 1; omega, by show u + 1 ≤ b + 1; omega, by show w < b; omega, by simp [upd_lit], by simp [upd_lit], by simp [upd_lit, t0], by simp [upd_lit, t1], by simp [upd_lit, t4], _, by rw [swp_size]; exact hs, hD, rfl⟩, by show w + 1 - (u + 1) < j + 1 - i; omega⟩
theorem partitionG {m : St} {n L cap : Nat} {d : Array GG} {r : List PV} (H : Arr m n L d r) (a b p : Nat) (hp1 : a ≤ p) (hp2 : p < b) (hb : b ≤ L) :
    GivesTo Tryz.prog 182 [mar n L cap, vI a, vI b, vI p, cloC] m (.tup [vI (partition ltG d a b p).1, vB (partition ltG d a b p).2.1]) (m.setLoc n (ar (partition ltG d a b p).2.2 r)) := by
  have hn := H.lt
  have hm := H.loc
  have hL := H.size
  have hS := H.small
  refine ACall.of_aw Tryz.func182 Tryz.ntmps182 rfl rfl (by simp) ?_
  obtain ⟨pt, hpt⟩ : ∃ pt, pt = partition ltG d a b p := ⟨_, rfl⟩
  rw [← hpt]
  rw [partition] at hpt
  dsimp only at hpt
  have a1 : a < d.size := by omega
  have a2 : (a : Int) < L := by omega
  have p1 : p < d.size := by omega
  have p2 : (p : Int) < L := by omega
  obtain ⟨j0, hj0⟩ : ∃ j, j + 1 = b := ⟨b - 1, by omega⟩
  rw [show b - 1 = j0 from by omega] at hpt
  have ej : (b : Int) - 1 = (j0 : Int) := by omega
  refine tS ?_
  refine AW.draw [.S, .S, .S, .S, .S, .S, .S, .R, .S, .S, .S, .R, .S, .W, .S, .W] (by decide +kernel) ?_; have F := (aand @a1 (aand @a2 (aand @p1 (aand @p2 (aand @hn (aand @hm (aand @ar_get (aand @ar_fit (aand @ar_set @setLoc_setLoc))))))))); refine dST 0 ?_; refine dST 1 ?_; refine dST 2 ?_; refine dST 3 ?_; refine dST 4 ?_; refine dST 5 ?_; refine dST 6 ?_; refine dRT 7 ?_; refine dST 8 ?_; refine dST 9 ?_; refine dST 10 ?_; refine dRT 11 ?_; refine dST 12 ?_; refine dW 13 ?_; refine dST 14 ?_; refine dW 15 ?_; (try clear F); first | refine dN ?_ | refine dB ?_ | refine DA.done (by decide +kernel) ?_
  simp only [put]
  rw [swp_gt]
  have hs0 : (swp d a p).size = L := by rw [swp_size]; exact hL
  generalize swp d a p = d0 at *
  clear a1 p1 p2
  have F := @ej; refine tF ?_; (try clear F)
  obtain ⟨u, hu⟩ : ∃ z, z = scanUp (fun x => ltG x d0[a]!) d0 j0 (a + 1) := ⟨_, rfl⟩
  refine AW.stepX 0 (fun τ m3 => τ 12 = vI u ∧ τ 13 = vI j0 ∧ τ 0 = mar n L cap ∧ τ 1 = vI a ∧ τ 4 = cloC ∧ m3 = m.setLoc n (ar d0 r)) ?_ ?_
  · refine AW.loop (ι := Nat) (fun k τ m3 => (a + 1) ≤ k ∧ scanUp (fun x => ltG x d0[a]!) d0 j0 k = u ∧ τ 12 = vI k ∧ τ 13 = vI j0 ∧ τ 0 = mar n L cap ∧ τ 1 = vI a ∧ τ 4 = cloC ∧ m3 = m.setLoc n (ar d0 r)) (fun k => j0 + 1 - k) (a + 1) ?_ ?_
    · exact ⟨Nat.le_refl _, hu.symm, by simp [upd_lit], by simp [upd_lit], by simp [upd_lit], by simp [upd_lit], by simp [upd_lit], rfl⟩
    rintro k τ m3 ⟨hk, hE, tI, tJ, t0, t1, t4, rfl⟩
    by_cases hkj : k ≤ j0
    rotate_left
    · rw [scanUp, if_neg (by simp; omega)] at hE
      subst hE
      repeat (first | refine AW.seq ?_ | refine AW.block ?_ | refine AW.skip ?_ | refine AExit.norT ?_ | refine AExit.norB ?_ | refine AList.nil ?_)
      refine AW.draw [.S, .S, .S, .S, .S, .S, .S, .S, .R, .S, .S, .S, .R, .R, .S, .S] (by decide +kernel) ?_; have F := (aand @tI (aand @tJ @hkj)); refine dS 0 ?_; refine dS 1 ?_; refine dS 2 ?_; refine dS 3 ?_; refine dXx 4 ?_; refine dXx 5 ?_; refine dXx 6 ?_; refine dXx 7 ?_; refine dXX 8 ?_; refine dXx 9 ?_; refine dXx 10 ?_; refine dXx 11 ?_; refine dXX 12 ?_; refine dXX 13 ?_; refine dXx 14 ?_; refine dS 15 ?_; (try clear F); first | refine dN ?_ | refine dB ?_ | refine DA.done (by decide +kernel) ?_
      refine tSa ?_
      exact ⟨rfl, by simp [upd_lit, tI], by simp [upd_lit, tJ], by simp [upd_lit, t0], by simp [upd_lit, t1], by simp [upd_lit, t4], rfl⟩
    rw [scanUp] at hE
    have k1 : k < d0.size := by omega
    have k2 : (k : Int) < L := by omega
    have a1 : a < d0.size := by omega
    have hcmp := cmpG (gt d0 k) (gt d0 a)
    repeat (first | refine AW.seq ?_ | refine AW.block ?_ | refine AW.skip ?_ | refine AExit.norT ?_ | refine AExit.norB ?_ | refine AList.nil ?_)
    refine AW.draw [.S, .S, .S, .S, .S, .S, .S, .S, .R, .S, .S, .S, .R, .R, .S, .S] (by decide +kernel) ?_; have F := (aand @tI (aand @tJ (aand @t0 (aand @t1 (aand @t4 (aand @hkj (aand @k1 (aand @k2 (aand @a1 (aand @a2 (aand @hn (aand @ar_get @ar_fit)))))))))))); refine dS 0 ?_; refine dS 1 ?_; refine dS 2 ?_; refine dS 3 ?_; refine dSG 4 ?_; refine dSG 5 ?_; refine dSG 6 ?_; refine dSG 7 ?_; refine dRG 8 ?_; refine dSG 9 ?_; refine dSG 10 ?_; refine dSG 11 ?_; refine dRG 12 ?_; refine dCG ((hcmp)) 13 ?_; refine dSG 14 ?_; refine dS 15 ?_; (try clear F); first | refine dN ?_ | refine dB ?_ | refine DA.done (by decide +kernel) ?_
    by_cases hl : cmpV (gt d0 k).1 (gt d0 a).1 < 0
    · rw [if_pos (by simp only [gt_eq]; simp only [ltG, hl, decide_true, decide_false, Bool.not_true, Bool.not_false, Bool.and_true, decide_eq_true_eq]; omega)] at hE
      have F := (aand @hl @tI); refine tFa ?_; (try clear F)
      exact ⟨k + 1, ⟨by omega, hE, by simp [upd_lit], by simp [upd_lit, tJ], by simp [upd_lit, t0], by simp [upd_lit, t1], by simp [upd_lit, t4], rfl⟩, by omega⟩
    · rw [if_neg (by simp only [gt_eq]; simp [ltG, hl])] at hE
      subst hE
      have F := @hl; refine tFa ?_; (try clear F)
      exact ⟨rfl, by simp [upd_lit, tI], by simp [upd_lit, tJ], by simp [upd_lit, t0], by simp [upd_lit, t1], by simp [upd_lit, t4], rfl⟩
  rintro τ m3 ⟨tI, tJ, t0, t1, t4, rfl⟩
  have hu1 : a + 1 ≤ u ∧ u ≤ b := by
    have h1 := scanUp_spec (fun x => ltG x d0[a]!) d0 j0 _ (a + 1) rfl
    rw [← hu] at h1
    have := h1.2.1 (by omega); omega
  rw [← hu] at hpt
  refine AExit.exiB ?_
  repeat (first | refine AW.seq ?_ | refine AW.block ?_ | refine AW.skip ?_ | refine AExit.norT ?_ | refine AExit.norB ?_ | refine AList.nil ?_)
  obtain ⟨v, hv⟩ : ∃ z, z = scanDown (fun x => !ltG x d0[a]!) d0 u j0 := ⟨_, rfl⟩
  refine AW.stepX 2 (fun τ m3 => τ 12 = vI u ∧ τ 13 = vI v ∧ τ 0 = mar n L cap ∧ τ 1 = vI a ∧ τ 4 = cloC ∧ m3 = m.setLoc n (ar d0 r)) ?_ ?_
  · refine AW.loop (ι := Nat) (fun k τ m3 => k ≤ j0 ∧ scanDown (fun x => !ltG x d0[a]!) d0 u k = v ∧ τ 12 = vI u ∧ τ 13 = vI k ∧ τ 0 = mar n L cap ∧ τ 1 = vI a ∧ τ 4 = cloC ∧ m3 = m.setLoc n (ar d0 r)) (fun k => k) j0 ?_ ?_
    · exact ⟨Nat.le_refl _, hv.symm, by simp [upd_lit, tI], by simp [upd_lit, tJ], by simp [upd_lit, t0], by simp [upd_lit, t1], by simp [upd_lit, t4], rfl⟩
    rintro k τ m3 ⟨hk, hE, tI, tJ, t0, t1, t4, rfl⟩
    by_cases hkj : u ≤ k
    rotate_left
    · have hE2 : scanDown (fun x => !ltG x d0[a]!) d0 u k = k := by
        cases k with
        | zero => rfl
        | succ w => rw [scanDown, if_neg (by simp; omega)]
      rw [hE2] at hE
      subst hE
      repeat (first | refine AW.seq ?_ | refine AW.block ?_ | refine AW.skip ?_ | refine AExit.norT ?_ | refine AExit.norB ?_ | refine AList.nil ?_)
      refine AW.draw [.S, .S, .S, .S, .S, .S, .S, .S, .R, .S, .S, .S, .R, .R, .S, .S, .S] (by decide +kernel) ?_; have F := (aand @tI (aand @tJ @hkj)); refine dS 0 ?_; refine dS 1 ?_; refine dS 2 ?_; refine dS 3 ?_; refine dXx 4 ?_; refine dXx 5 ?_; refine dXx 6 ?_; refine dXx 7 ?_; refine dXX 8 ?_; refine dXx 9 ?_; refine dXx 10 ?_; refine dXx 11 ?_; refine dXX 12 ?_; refine dXX 13 ?_; refine dXx 14 ?_; refine dXx 15 ?_; refine dS 16 ?_; (try clear F); first | refine dN ?_ | refine dB ?_ | refine DA.done (by decide +kernel) ?_
      refine tSa ?_
      exact ⟨rfl, by simp [upd_lit, tI], by simp [upd_lit, tJ], by simp [upd_lit, t0], by simp [upd_lit, t1], by simp [upd_lit, t4], rfl⟩
    obtain ⟨w, rfl⟩ : ∃ w, k = w + 1 := ⟨k - 1, by omega⟩
    have e4 : ((w + 1 : Nat) : Int) - 1 = (w : Int) := by omega
    rw [scanDown] at hE
    generalize hkk : w + 1 = k at *
    have k1 : k < d0.size := by omega
    have k2 : (k : Int) < L := by omega
    have a1 : a < d0.size := by omega
    have hcmp := cmpG (gt d0 k) (gt d0 a)
    repeat (first | refine AW.seq ?_ | refine AW.block ?_ | refine AW.skip ?_ | refine AExit.norT ?_ | refine AExit.norB ?_ | refine AList.nil ?_)
    refine AW.draw [.S, .S, .S, .S, .S, .S, .S, .S, .R, .S, .S, .S, .R, .R, .S, .S, .S] (by decide +kernel) ?_; have F := (aand @tI (aand @tJ (aand @t0 (aand @t1 (aand @t4 (aand @hkj (aand @k1 (aand @k2 (aand @a1 (aand @a2 (aand @hn (aand @ar_get @ar_fit)))))))))))); refine dS 0 ?_; refine dS 1 ?_; refine dS 2 ?_; refine dS 3 ?_; refine dSG 4 ?_; refine dSG 5 ?_; refine dSG 6 ?_; refine dSG 7 ?_; refine dRG 8 ?_; refine dSG 9 ?_; refine dSG 10 ?_; refine dSG 11 ?_; refine dRG 12 ?_; refine dCG ((hcmp)) 13 ?_; refine dSG 14 ?_; refine dSG 15 ?_; refine dS 16 ?_; (try clear F); first | refine dN ?_ | refine dB ?_ | refine DA.done (by decide +kernel) ?_
    by_cases hl : cmpV (gt d0 k).1 (gt d0 a).1 < 0
    · rw [if_neg (by simp only [gt_eq]; simp [ltG, hl])] at hE
      subst hE
      have F := @hl; refine tFa ?_; (try clear F)
      exact ⟨rfl, by simp [upd_lit, tI], by simp [upd_lit, tJ], by simp [upd_lit, t0], by simp [upd_lit, t1], by simp [upd_lit, t4], rfl⟩
    · rw [if_pos (by simp only [gt_eq]; simp only [ltG, hl, decide_true, decide_false, Bool.not_true, Bool.not_false, Bool.and_true, decide_eq_true_eq]; omega)] at hE
      have F := (aand @hl (aand @tJ @e4)); refine tFa ?_; (try clear F)
      exact ⟨w, ⟨by omega, hE, by simp [upd_lit, tI], by simp [upd_lit], by simp [upd_lit, t0], by simp [upd_lit, t1], by simp [upd_lit, t4], rfl⟩, by omega⟩
  rintro τ m3 ⟨tI, tJ, t0, t1, t4, rfl⟩
  have hv1 : v ≤ j0 := by rw [hv]; exact scanDown_le _ _ _ _
  rw [← hv] at hpt
  refine AExit.exiB ?_
  have v1 : v < d0.size := by omega
  have v2 : (v : Int) < L := by omega
  have a1 : a < d0.size := by omega
  by_cases hvu : v < u
  · rw [if_pos hvu] at hpt
    have F := (aand @tI (aand @tJ @hvu)); refine tFa ?_; (try clear F)
    repeat (first | refine AW.seq ?_ | refine AW.block ?_ | refine AW.skip ?_ | refine AExit.norT ?_ | refine AExit.norB ?_ | refine AList.nil ?_)
    refine AW.draw [.S, .S, .S, .S, .S, .S, .S, .R, .S, .S, .S, .R, .S, .W, .S, .W] (by decide +kernel) ?_; have F := (aand @tJ (aand @t0 (aand @t1 (aand @v1 (aand @v2 (aand @a1 (aand @a2 (aand @hn (aand @ar_get (aand @ar_fit (aand @ar_set @setLoc_setLoc))))))))))); refine dST 0 ?_; refine dST 1 ?_; refine dST 2 ?_; refine dST 3 ?_; refine dST 4 ?_; refine dST 5 ?_; refine dST 6 ?_; refine dRT 7 ?_; refine dST 8 ?_; refine dST 9 ?_; refine dST 10 ?_; refine dRT 11 ?_; refine dST 12 ?_; refine dW 13 ?_; refine dST 14 ?_; refine dW 15 ?_; (try clear F); first | refine dN ?_ | refine dB ?_ | refine DA.done (by decide +kernel) ?_
    simp only [put]
    rw [swp_gt]
    have F := @tJ; refine tF ?_; (try clear F)
    rw [hpt]
    exact Fin.here (r := .tup [vI v, vB true]) (by simp [ResP, ResL, resV, upd_lit, show Tryz.f182.results.toList = [.tmp 10, .tmp 11] from rfl]) (.inr rfl) ⟨rfl, rfl⟩
  rw [if_neg (by omega)] at hpt
  have u1 : u < d0.size := by omega
  have u2 : (u : Int) < L := by omega
  obtain ⟨w, hw⟩ : ∃ w, w + 1 = v := ⟨v - 1, by omega⟩
  have ew : (v : Int) - 1 = (w : Int) := by omega
  rw [show v - 1 = w from by omega] at hpt
  have F := (aand @tI (aand @tJ @hvu)); refine tFa ?_; (try clear F)
  repeat (first | refine AW.seq ?_ | refine AW.block ?_ | refine AW.skip ?_ | refine AExit.norT ?_ | refine AExit.norB ?_ | refine AList.nil ?_)
  refine AW.draw [.S, .S, .S, .S, .S, .S, .S, .R, .S, .S, .S, .R, .S, .W, .S, .W] (by decide +kernel) ?_; have F := (aand @tI (aand @tJ (aand @t0 (aand @u1 (aand @u2 (aand @v1 (aand @v2 (aand @hn (aand @ar_get (aand @ar_fit (aand @ar_set @setLoc_setLoc))))))))))); refine dST 0 ?_; refine dST 1 ?_; refine dST 2 ?_; refine dST 3 ?_; refine dST 4 ?_; refine dST 5 ?_; refine dST 6 ?_; refine dRT 7 ?_; refine dST 8 ?_; refine dST 9 ?_; refine dST 10 ?_; refine dRT 11 ?_; refine dST 12 ?_; refine dW 13 ?_; refine dST 14 ?_; refine dW 15 ?_; (try clear F); first | refine dN ?_ | refine dB ?_ | refine DA.done (by decide +kernel) ?_
  simp only [put]
  rw [swp_gt]
  have F := (aand @tI (aand @tJ @ew)); refine tF ?_; (try clear F)
  have hsS : (swp d0 u v).size = L := by rw [swp_size]; exact hs0
  generalize swp d0 u v = ds0 at *
  clear hu hv hs0 u1 v1 a1 v2 u2
  refine AW.loop (ι := Nat × Nat) (fun q σ m' => a + 1 ≤ q.1 ∧ q.1 ≤ b + 1 ∧ q.2 < b ∧ a ≤ q.2 ∧ σ 12 = vI q.1 ∧ σ 13 = vI q.2 ∧ σ 0 = mar n L cap ∧ σ 1 = vI a ∧ σ 4 = cloC ∧ ∃ d', d'.size = L ∧ partLoop ltG a q.1 q.2 d' = partLoop ltG a (u + 1) w ds0 ∧ m' = m.setLoc n (ar d' r)) (fun q => q.2 + 1 - q.1) (u + 1, w) ?_ ?_
  · exact ⟨by show a + 1 ≤ u + 1; omega, by show u + 1 ≤ b + 1; omega, by show w < b; omega, by show a ≤ w; omega, by simp [upd_lit], by simp [upd_lit], by simp [upd_lit, t0], by simp [upd_lit, t1], by simp [upd_lit, t4], ds0, hsS, rfl, rfl⟩
  clear tI tJ t0 t1 t4
  rintro ⟨i, j⟩ σ m' ⟨hi, hib, hj, haj, tI, tJ, t0, t1, t4, d1, hs, hD, rfl⟩
  simp only at hi hib hj haj tI tJ hD
  rw [← hD, partLoop_eq] at hpt
  rw [partLoop_eq] at hD
  repeat (first | refine AW.seq ?_ | refine AW.block ?_ | refine AW.skip ?_ | refine AExit.norT ?_ | refine AExit.norB ?_ | refine AList.nil ?_)
  obtain ⟨x, hx⟩ : ∃ z, z = scanUp (fun x => ltG x d1[a]!) d1 j i := ⟨_, rfl⟩
  refine AW.stepX 6 (fun τ m3 => τ 12 = vI x ∧ τ 13 = vI j ∧ τ 0 = mar n L cap ∧ τ 1 = vI a ∧ τ 4 = cloC ∧ m3 = m.setLoc n (ar d1 r)) ?_ ?_
  · refine AW.loop (ι := Nat) (fun k τ m3 => i ≤ k ∧ scanUp (fun x => ltG x d1[a]!) d1 j k = x ∧ τ 12 = vI k ∧ τ 13 = vI j ∧ τ 0 = mar n L cap ∧ τ 1 = vI a ∧ τ 4 = cloC ∧ m3 = m.setLoc n (ar d1 r)) (fun k => j + 1 - k) i ?_ ?_
    · exact ⟨Nat.le_refl _, hx.symm, by simp [upd_lit, tI], by simp [upd_lit, tJ], by simp [upd_lit, t0], by simp [upd_lit, t1], by simp [upd_lit, t4], rfl⟩
    rintro k τ m3 ⟨hk, hE, tI, tJ, t0, t1, t4, rfl⟩
    by_cases hkj : k ≤ j
    rotate_left
    · rw [scanUp, if_neg (by simp; omega)] at hE
      subst hE
      repeat (first | refine AW.seq ?_ | refine AW.block ?_ | refine AW.skip ?_ | refine AExit.norT ?_ | refine AExit.norB ?_ | refine AList.nil ?_)
      refine AW.draw [.S, .S, .S, .S, .S, .S, .S, .S, .R, .S, .S, .S, .R, .R, .S, .S] (by decide +kernel) ?_; have F := (aand @tI (aand @tJ @hkj)); refine dS 0 ?_; refine dS 1 ?_; refine dS 2 ?_; refine dS 3 ?_; refine dXx 4 ?_; refine dXx 5 ?_; refine dXx 6 ?_; refine dXx 7 ?_; refine dXX 8 ?_; refine dXx 9 ?_; refine dXx 10 ?_; refine dXx 11 ?_; refine dXX 12 ?_; refine dXX 13 ?_; refine dXx 14 ?_; refine dS 15 ?_; (try clear F); first | refine dN ?_ | refine dB ?_ | refine DA.done (by decide +kernel) ?_
      refine tSa ?_
      exact ⟨rfl, by simp [upd_lit, tI], by simp [upd_lit, tJ], by simp [upd_lit, t0], by simp [upd_lit, t1], by simp [upd_lit, t4], rfl⟩
    rw [scanUp] at hE
    have k1 : k < d1.size := by omega
    have k2 : (k : Int) < L := by omega
    have a1 : a < d1.size := by omega
    have hcmp := cmpG (gt d1 k) (gt d1 a)
    repeat (first | refine AW.seq ?_ | refine AW.block ?_ | refine AW.skip ?_ | refine AExit.norT ?_ | refine AExit.norB ?_ | refine AList.nil ?_)
    refine AW.draw [.S, .S, .S, .S, .S, .S, .S, .S, .R, .S, .S, .S, .R, .R, .S, .S] (by decide +kernel) ?_; have F := (aand @tI (aand @tJ (aand @t0 (aand @t1 (aand @t4 (aand @hkj (aand @k1 (aand @k2 (aand @a1 (aand @a2 (aand @hn (aand @ar_get @ar_fit)))))))))))); refine dS 0 ?_; refine dS 1 ?_; refine dS 2 ?_; refine dS 3 ?_; refine dSG 4 ?_; refine dSG 5 ?_; refine dSG 6 ?_; refine dSG 7 ?_; refine dRG 8 ?_; refine dSG 9 ?_; refine dSG 10 ?_; refine dSG 11 ?_; refine dRG 12 ?_; refine dCG ((hcmp)) 13 ?_; refine dSG 14 ?_; refine dS 15 ?_; (try clear F); first | refine dN ?_ | refine dB ?_ | refine DA.done (by decide +kernel) ?_
    by_cases hl : cmpV (gt d1 k).1 (gt d1 a).1 < 0
    · rw [if_pos (by simp only [gt_eq]; simp only [ltG, hl, decide_true, decide_false, Bool.not_true, Bool.not_false, Bool.and_true, decide_eq_true_eq]; omega)] at hE
      have F := (aand @hl @tI); refine tFa ?_; (try clear F)
      exact ⟨k + 1, ⟨by omega, hE, by simp [upd_lit], by simp [upd_lit, tJ], by simp [upd_lit, t0], by simp [upd_lit, t1], by simp [upd_lit, t4], rfl⟩, by omega⟩
    · rw [if_neg (by simp only [gt_eq]; simp [ltG, hl])] at hE
      subst hE
      have F := @hl; refine tFa ?_; (try clear F)
      exact ⟨rfl, by simp [upd_lit, tI], by simp [upd_lit, tJ], by simp [upd_lit, t0], by simp [upd_lit, t1], by simp [upd_lit, t4], rfl⟩
  rintro τ m3 ⟨tI, tJ, t0, t1, t4, rfl⟩
  have hu1 : i ≤ x ∧ x ≤ b + 1 := by
    have h1 := scanUp_spec (fun x => ltG x d1[a]!) d1 j _ i rfl
    rw [← hx] at h1
    by_cases hij : i ≤ j + 1
    · have := h1.2.1 hij; omega
    · have hx : scanUp (fun x => ltG x d1[a]!) d1 j i = i := by rw [scanUp, if_neg (by simp; omega)]
      omega
  rw [← hx] at hD hpt
  refine AExit.exiB ?_
  repeat (first | refine AW.seq ?_ | refine AW.block ?_ | refine AW.skip ?_ | refine AExit.norT ?_ | refine AExit.norB ?_ | refine AList.nil ?_)
  obtain ⟨y, hy⟩ : ∃ z, z = scanDown (fun x => !ltG x d1[a]!) d1 x j := ⟨_, rfl⟩
  refine AW.stepX 8 (fun τ m3 => τ 12 = vI x ∧ τ 13 = vI y ∧ τ 0 = mar n L cap ∧ τ 1 = vI a ∧ τ 4 = cloC ∧ m3 = m.setLoc n (ar d1 r)) ?_ ?_
  · refine AW.loop (ι := Nat) (fun k τ m3 => k ≤ j ∧ scanDown (fun x => !ltG x d1[a]!) d1 x k = y ∧ τ 12 = vI x ∧ τ 13 = vI k ∧ τ 0 = mar n L cap ∧ τ 1 = vI a ∧ τ 4 = cloC ∧ m3 = m.setLoc n (ar d1 r)) (fun k => k) j ?_ ?_
    · exact ⟨Nat.le_refl _, hy.symm, by simp [upd_lit, tI], by simp [upd_lit, tJ], by simp [upd_lit, t0], by simp [upd_lit, t1], by simp [upd_lit, t4], rfl⟩
    rintro k τ m3 ⟨hk, hE, tI, tJ, t0, t1, t4, rfl⟩
    by_cases hkj : x ≤ k
    rotate_left
    · have hE2 : scanDown (fun x => !ltG x d1[a]!) d1 x k = k := by
        cases k with
        | zero => rfl
        | succ w => rw [scanDown, if_neg (by simp; omega)]
      rw [hE2] at hE
      subst hE
      repeat (first | refine AW.seq ?_ | refine AW.block ?_ | refine AW.skip ?_ | refine AExit.norT ?_ | refine AExit.norB ?_ | refine AList.nil ?_)
      refine AW.draw [.S, .S, .S, .S, .S, .S, .S, .S, .R, .S, .S, .S, .R, .R, .S, .S, .S] (by decide +kernel) ?_; have F := (aand @tI (aand @tJ @hkj)); refine dS 0 ?_; refine dS 1 ?_; refine dS 2 ?_; refine dS 3 ?_; refine dXx 4 ?_; refine dXx 5 ?_; refine dXx 6 ?_; refine dXx 7 ?_; refine dXX 8 ?_; refine dXx 9 ?_; refine dXx 10 ?_; refine dXx 11 ?_; refine dXX 12 ?_; refine dXX 13 ?_; refine dXx 14 ?_; refine dXx 15 ?_; refine dS 16 ?_; (try clear F); first | refine dN ?_ | refine dB ?_ | refine DA.done (by decide +kernel) ?_
      refine tSa ?_
      exact ⟨rfl, by simp [upd_lit, tI], by simp [upd_lit, tJ], by simp [upd_lit, t0], by simp [upd_lit, t1], by simp [upd_lit, t4], rfl⟩
    obtain ⟨w, rfl⟩ : ∃ w, k = w + 1 := ⟨k - 1, by omega⟩
    have e4 : ((w + 1 : Nat) : Int) - 1 = (w : Int) := by omega
    rw [scanDown] at hE
    generalize hkk : w + 1 = k at *
    have k1 : k < d1.size := by omega
    have k2 : (k : Int) < L := by omega
    have a1 : a < d1.size := by omega
    have hcmp := cmpG (gt d1 k) (gt d1 a)
    repeat (first | refine AW.seq ?_ | refine AW.block ?_ | refine AW.skip ?_ | refine AExit.norT ?_ | refine AExit.norB ?_ | refine AList.nil ?_)
    refine AW.draw [.S, .S, .S, .S, .S, .S, .S, .S, .R, .S, .S, .S, .R, .R, .S, .S, .S] (by decide +kernel) ?_; have F := (aand @tI (aand @tJ (aand @t0 (aand @t1 (aand @t4 (aand @hkj (aand @k1 (aand @k2 (aand @a1 (aand @a2 (aand @hn (aand @ar_get @ar_fit)))))))))))); refine dS 0 ?_; refine dS 1 ?_; refine dS 2 ?_; refine dS 3 ?_; refine dSG 4 ?_; refine dSG 5 ?_; refine dSG 6 ?_; refine dSG 7 ?_; refine dRG 8 ?_; refine dSG 9 ?_; refine dSG 10 ?_; refine dSG 11 ?_; refine dRG 12 ?_; refine dCG ((hcmp)) 13 ?_; refine dSG 14 ?_; refine dSG 15 ?_; refine dS 16 ?_; (try clear F); first | refine dN ?_ | refine dB ?_ | refine DA.done (by decide +kernel) ?_
    by_cases hl : cmpV (gt d1 k).1 (gt d1 a).1 < 0
    · rw [if_neg (by simp only [gt_eq]; simp [ltG, hl])] at hE
      subst hE
      have F := @hl; refine tFa ?_; (try clear F)
      exact ⟨rfl, by simp [upd_lit, tI], by simp [upd_lit, tJ], by simp [upd_lit, t0], by simp [upd_lit, t1], by simp [upd_lit, t4], rfl⟩
    · rw [if_pos (by simp only [gt_eq]; simp only [ltG, hl, decide_true, decide_false, Bool.not_true, Bool.not_false, Bool.and_true, decide_eq_true_eq]; omega)] at hE
      have F := (aand @hl (aand @tJ @e4)); refine tFa ?_; (try clear F)
      exact ⟨w, ⟨by omega, hE, by simp [upd_lit, tI], by simp [upd_lit], by simp [upd_lit, t0], by simp [upd_lit, t1], by simp [upd_lit, t4], rfl⟩, by omega⟩
  rintro τ m3 ⟨tI, tJ, t0, t1, t4, rfl⟩
  have hy1 : y ≤ j := by rw [hy]; exact scanDown_le _ _ _ _
  have hy2 : a ≤ y := by
    have h1 := (scanDown_spec (fun x => !ltG x d1[a]!) d1 x j).2.1
    rw [← hy] at h1
    by_cases hxj : x ≤ j + 1
    · have := h1 hxj; omega
    · have : scanDown (fun x => !ltG x d1[a]!) d1 x j = j := by
        cases j with
        | zero => rfl
        | succ w => rw [scanDown, if_neg (by simp; omega)]
      omega
  rw [← hy] at hD hpt
  refine AExit.exiB ?_
  have y1 : y < d1.size := by omega
  have y2 : (y : Int) < L := by omega
  have a1 : a < d1.size := by omega
  by_cases hyx : y < x
  · rw [if_pos hyx] at hpt
    have F := (aand @tI (aand @tJ @hyx)); refine tFa ?_; (try clear F)
    repeat (first | refine AW.seq ?_ | refine AW.block ?_ | refine AW.skip ?_ | refine AExit.norT ?_ | refine AExit.norB ?_ | refine AList.nil ?_)
    refine AW.draw [.S, .S, .S, .S, .S, .S, .S, .R, .S, .S, .S, .R, .S, .W, .S, .W] (by decide +kernel) ?_; have F := (aand @tJ (aand @t0 (aand @t1 (aand @y1 (aand @y2 (aand @a1 (aand @a2 (aand @hn (aand @ar_get (aand @ar_fit (aand @ar_set @setLoc_setLoc))))))))))); refine dST 0 ?_; refine dST 1 ?_; refine dST 2 ?_; refine dST 3 ?_; refine dST 4 ?_; refine dST 5 ?_; refine dST 6 ?_; refine dRT 7 ?_; refine dST 8 ?_; refine dST 9 ?_; refine dST 10 ?_; refine dRT 11 ?_; refine dST 12 ?_; refine dW 13 ?_; refine dST 14 ?_; refine dW 15 ?_; (try clear F); first | refine dN ?_ | refine dB ?_ | refine DA.done (by decide +kernel) ?_
    simp only [put]
    rw [swp_gt]
    have F := @tJ; refine tF ?_; (try clear F)
    rw [hpt]
    exact Fin.here (r := .tup [vI y, vB false]) (by simp [ResP, ResL, resV, upd_lit, show Tryz.f182.results.toList = [.tmp 10, .tmp 11] from rfl]) (.inr rfl) ⟨rfl, rfl⟩
  rw [if_neg (by omega)] at hD
  have x1 : x < d1.size := by omega
  have x2 : (x : Int) < L := by omega
  obtain ⟨z, hz⟩ : ∃ z, z + 1 = y := ⟨y - 1, by omega⟩
  have ez : (y : Int) - 1 = (z : Int) := by omega
  rw [show y - 1 = z from by omega] at hD
  have F := (aand @tI (aand @tJ @hyx)); refine tFa ?_; (try clear F)
  repeat (first | refine AW.seq ?_ | refine AW.block ?_ | refine AW.skip ?_ | refine AExit.norT ?_ | refine AExit.norB ?_ | refine AList.nil ?_)
  refine AW.draw [.S, .S, .S, .S, .S, .S, .S, .R, .S, .S, .S, .R, .S, .W, .S, .W] (by decide +kernel) ?_; have F := (aand @tI (aand @tJ (aand @t0 (aand @x1 (aand @x2 (aand @y1 (aand @y2 (aand @hn (aand @ar_get (aand @ar_fit (aand @ar_set @setLoc_setLoc))))))))))); refine dST 0 ?_; refine dST 1 ?_; refine dST 2 ?_; refine dST 3 ?_; refine dST 4 ?_; refine dST 5 ?_; refine dST 6 ?_; refine dRT 7 ?_; refine dST 8 ?_; refine dST 9 ?_; refine dST 10 ?_; refine dRT 11 ?_; refine dST 12 ?_; refine dW 13 ?_; refine dST 14 ?_; refine dW 15 ?_; (try clear F); first | refine dN ?_ | refine dB ?_ | refine DA.done (by decide +kernel) ?_
  simp only [put]
  rw [swp_gt]
  have F := (aand @tI (aand @tJ @ez)); refine tF ?_; (try clear F)
  exact ⟨(x + 1, z), ⟨by show a + 1 ≤ x + 1; omega, by show x + 1 ≤ b + 1; omega, by show z < b; omega, by show a ≤ z; omega, by simp [upd_lit], by simp [upd_lit], by simp [upd_lit, t0], by simp [upd_lit, t1], by simp [upd_lit, t4], _, by rw [swp_size]; exact hs, hD, rfl⟩, by show z + 1 - (x + 1) < j + 1 - i; omega⟩
end Go.Proofs.YtgfadepkiejncaaGreat
namespace Go.Ab
theorem AW.stepR {P : Program} {N : Nat} {Q : APost} {σ : Nat → PV} {m : St} {c : Code} (I J : (Nat → PV) → St → Prop) (h : AW P N c (fun y σ m => (y = .normal ∧ I σ m) ∨ (y = .ret ∧ J σ m)) σ m) (k : ∀ σ m, I σ m → Q .normal σ m) (kr : ∀ σ m, J σ m → Q .ret σ m) : AW P N c Q σ m :=
  AW.mono h fun _ _ _ hx => by
    rcases hx with ⟨e, hi⟩ | ⟨e, hi⟩
    · exact e ▸ k _ _ hi
    · exact e ▸ kr _ _ hi
end Go.Ab
namespace Go.Proofs.YtgfadepkiejncaaGreat
open Go.Ab Go.Sort
set_option maxHeartbeats 0
set_option maxRecDepth 100000
attribute [local irreducible] AW AList ACall DA AExit.then AExit.inBlock YCall DCall
def PdqOK (k : Nat) : Prop := ∀ {m : St} {n L cap : Nat} {d : Array GG} {r : List PV}, Arr m n L d r → (∀ k t, PV.scL k t r) → ∀ a b limit : Nat, b - a = k → a ≤ b → b ≤ L → limit ≤ 1099511627776 → Below ltG a b d →
  ACall Tryz.prog 165 [mar n L cap, vI a, vI b, vI limit, cloC] m (fun r' m' => ∃ R, PermIn a b d R ∧ SortedIn ltG a b R ∧ r' = .ret (.tup []) ∧ m' = m.setLoc n (ar R r))
theorem pdqG (k : Nat) : PdqOK k := by
  induction k using Nat.strongRecOn with
  | ind k ih =>
  intro m n L cap d r H hr a b limit hk hab hb hlim hBe
  have hn := H.lt
  have hm := H.loc
  have hL := H.size
  have hS := H.small
  refine ACall.of_aw Tryz.func165 Tryz.ntmps165 rfl rfl (by simp) ?_
  refine tS ?_
  refine AW.loop (ι := Nat) (fun l σ m' => ∃ (a1 b1 lim : Nat) (wb wp : Bool) (d1 : Array GG), b1 - a1 = l ∧ l ≤ k ∧ a1 ≤ b1 ∧ b1 ≤ L ∧ lim ≤ 1099511627776 ∧ PermIn 0 L d d1 ∧ Below ltG a1 b1 d1 ∧ (∀ R, PermIn a1 b1 d1 R → SortedIn ltG a1 b1 R → PermIn a b d R ∧ SortedIn ltG a b R) ∧
    σ 10 = vB wb ∧ σ 11 = vB wp ∧ σ 0 = mar n L cap ∧ σ 1 = vI a1 ∧ σ 2 = vI b1 ∧ σ 3 = vI lim ∧ σ 4 = cloC ∧ m' = m.setLoc n (ar d1 r)) (fun l => l) k ?_ ?_
  · exact ⟨a, b, limit, true, true, d, hk, Nat.le_refl _, hab, hb, hlim, permIn_refl _ _ _, hBe, fun R h1 h2 => ⟨h1, h2⟩, by simp [upd_lit], by simp [upd_lit], by simp [upd_lit], by simp [upd_lit], by simp [upd_lit], by simp [upd_lit], by simp [upd_lit], (setLoc_self hm).symm⟩
  rintro l σ m' ⟨a1, b1, lim, wb, wp, d1, hl, hlk, hab1, hb1, hlim1, hP1, hB1, hfin, t10, t11, t0, t1, t2, t3, t4, rfl⟩
  have hs1 : d1.size = L := by rw [hP1.1]; exact hL
  have H1 := H.set d1 hs1
  have el : (b1 : Int) - a1 = (l : Int) := by omega
  have F := (aand @t1 (aand @t2 @el)); refine tF ?_; (try clear F)
  by_cases h12 : (l : Int) ≤ 12
  · have F := @h12; refine tFa ?_; (try clear F)
    have F := (aand @t0 (aand @t1 (aand @t2 @t4))); refine tF1 fun K Kp hK hKp => ?_; (try clear F); refine GivesTo.at (insertion H1 a1 b1 (by omega) (by omega)) ?_; apply hK; clear hK hKp K Kp
    refine tSa ?_
    have hI := insertionSort_holds ltG_swo d1 a1 b1 hab1 (by omega)
    exact Fin.here (r := .tup []) (by exact ⟨[], rfl, rfl⟩) (.inr rfl) ⟨_, (hfin _ hI.1 hI.2).1, (hfin _ hI.1 hI.2).2, rfl, by rw [setLoc_setLoc]⟩
  by_cases hlz : lim = 0
  · have hlz2 : (lim : Int) = 0 := by omega
    have F := (aand @h12 (aand @t3 (aand @hlz @hlz2))); refine tFa ?_; (try clear F)
    have F := (aand @t0 (aand @t1 (aand @t2 @t4))); refine tF1 fun K Kp hK hKp => ?_; (try clear F); refine GivesTo.at (heap H1 a1 b1 (by omega) (by omega)) ?_; apply hK; clear hK hKp K Kp
    refine tSa ?_
    have hI := heapSort_holds ltG_swo d1 a1 b1 hab1 (by omega)
    exact Fin.here (r := .tup []) (by exact ⟨[], rfl, rfl⟩) (.inr rfl) ⟨_, (hfin _ hI.1 hI.2).1, (hfin _ hI.1 hI.2).2, rfl, by rw [setLoc_setLoc]⟩
  have hlz2 : ¬ (lim : Int) = 0 := by omega
  have F := (aand @h12 (aand @t3 (aand @hlz @hlz2))); refine tFa ?_; (try clear F)
  have hlt : a1 < b1 := by omega
  have F := @t10; refine tF ?_; (try clear F)
  refine AW.step (fun τ m' => ∃ (d2 : Array GG) (lim2 : Nat), lim2 ≤ 1099511627776 ∧ PermIn a1 b1 d1 d2 ∧ τ 13 = σ 13 ∧ τ 10 = vB wb ∧ τ 11 = vB wp ∧ τ 0 = mar n L cap ∧ τ 1 = vI a1 ∧ τ 2 = vI b1 ∧ τ 3 = vI lim2 ∧ τ 4 = cloC ∧ τ 12 = vI l ∧ m' = m.setLoc n (ar d2 r)) ?_ ?_
  · cases wb with
    | true =>
      have F := @t10; refine tFa ?_; (try clear F)
      exact ⟨rfl, d1, lim, hlim1, permIn_refl _ _ _, by simp [upd_lit], by simp [upd_lit, t10], by simp [upd_lit, t11], by simp [upd_lit, t0], by simp [upd_lit, t1], by simp [upd_lit, t2], by simp [upd_lit, t3], by simp [upd_lit, t4], by simp [upd_lit], rfl⟩
    | false =>
      obtain ⟨lim2, hl2⟩ : ∃ x, x + 1 = lim := ⟨lim - 1, by omega⟩
      have e2 : (lim : Int) - 1 = (lim2 : Int) := by omega
      have F := @t10; refine tFa ?_; (try clear F)
      have F := (aand @t0 (aand @t1 (aand @t2 @t4))); refine tF1 fun K Kp hK hKp => ?_; (try clear F); refine ACall.mono (breakG H1 hr a1 b1 (by omega) (by omega)) ?_
      rintro _ _ ⟨d2, hp2, rfl, rfl⟩
      refine hK _ _ ?_; clear hK hKp K Kp
      have F := (aand @t3 @e2); refine tF ?_; (try clear F)
      exact ⟨rfl, d2, lim2, by omega, hp2, by simp [upd_lit], by simp [upd_lit, t10], by simp [upd_lit, t11], by simp [upd_lit, t0], by simp [upd_lit, t1], by simp [upd_lit, t2], by simp [upd_lit, t3], by simp [upd_lit, t4], by simp [upd_lit], by rw [setLoc_setLoc]⟩
  clear t10 t11 t0 t1 t2 t3 t4
  rintro τ m' ⟨d2, lim2, hlim2, hp12, -, t10, t11, t0, t1, t2, t3, t4, t12, rfl⟩
  have hs2 : d2.size = L := by rw [hp12.1]; exact hs1
  have H2 := H.set d2 hs2
  have F := (aand @t0 (aand @t1 (aand @t2 @t4))); refine tF ?_; (try clear F)
  refine tS1 fun K Kp hK hKp => ?_; refine ACall.mono (choosePivotG H2 a1 b1 hlt (by omega)) ?_
  rintro _ _ ⟨x, h, hx1, hx2, hh, rfl, rfl⟩
  refine hK _ _ ?_; clear hK hKp K Kp
  refine tS ?_
  refine AW.step (fun τ m' => ∃ (d3 : Array GG) (piv h2 : Nat), PermIn a1 b1 d1 d3 ∧ a1 ≤ piv ∧ piv < b1 ∧ τ 13 = vI piv ∧ τ 14 = vI h2 ∧ τ 10 = vB wb ∧ τ 11 = vB wp ∧ τ 0 = mar n L cap ∧ τ 1 = vI a1 ∧ τ 2 = vI b1 ∧ τ 3 = vI lim2 ∧ τ 4 = cloC ∧ τ 12 = vI l ∧ m' = m.setLoc n (ar d3 r)) ?_ ?_
  · by_cases hh2 : (h : Int) = 2
    · have F := @hh2; refine tFa ?_; (try clear F)
      have F := (aand @t0 (aand @t1 (aand @t2 @t4))); refine tF1 fun K Kp hK hKp => ?_; (try clear F); refine GivesTo.at (reverseG H2 a1 b1 hlt (by omega)) ?_; apply hK; clear hK hKp K Kp
      obtain ⟨q1, hq1⟩ : ∃ q, q + 1 = b1 := ⟨b1 - 1, by omega⟩
      have eq1 : (b1 : Int) - 1 = (q1 : Int) := by omega
      obtain ⟨q2, hq2⟩ : ∃ q, q = x - a1 := ⟨_, rfl⟩
      have eq2 : (x : Int) - a1 = (q2 : Int) := by omega
      obtain ⟨q3, hq3⟩ : ∃ q, q = q1 - q2 := ⟨_, rfl⟩
      have eq3 : (q1 : Int) - q2 = (q3 : Int) := by omega
      have F := (aand @t2 (aand @t1 (aand @eq1 (aand @eq2 @eq3)))); refine tF ?_; (try clear F)
      exact ⟨rfl, _, q3, 1, permIn_trans _ _ _ _ _ hp12 (reverseRange_holds d2 a1 b1 hab1 (by omega)), by omega, by omega, by simp [upd_lit], by simp [upd_lit], by simp [upd_lit, t10], by simp [upd_lit, t11], by simp [upd_lit, t0], by simp [upd_lit, t1], by simp [upd_lit, t2], by simp [upd_lit, t3], by simp [upd_lit, t4], by simp [upd_lit, t12], by rw [setLoc_setLoc]⟩
    · have F := @hh2; refine tFa ?_; (try clear F)
      exact ⟨rfl, d2, x, h, hp12, hx1, hx2, by simp [upd_lit], by simp [upd_lit], by simp [upd_lit, t10], by simp [upd_lit, t11], by simp [upd_lit, t0], by simp [upd_lit, t1], by simp [upd_lit, t2], by simp [upd_lit, t3], by simp [upd_lit, t4], by simp [upd_lit, t12], rfl⟩
  clear t10 t11 t0 t1 t2 t3 t4 t12 hs2 H2 hp12 hh hx1 hx2 d2
  rintro τ m' ⟨d3, piv, h2, hp13, hv1, hv2, t13, t14, t10, t11, t0, t1, t2, t3, t4, t12, rfl⟩
  have hs3 : d3.size = L := by rw [hp13.1]; exact hs1
  have H3 := H.set d3 hs3
  have hB3 := hB1.perm (by omega) hp13
  refine AExit.norT ?_
  refine AW.seq ?_
  refine AW.stepR (fun τ m' => ∃ (d4 : Array GG), PermIn a1 b1 d1 d4 ∧ τ 13 = vI piv ∧ τ 10 = vB wb ∧ τ 11 = vB wp ∧ τ 0 = mar n L cap ∧ τ 1 = vI a1 ∧ τ 2 = vI b1 ∧ τ 3 = vI lim2 ∧ τ 4 = cloC ∧ τ 12 = vI l ∧ m' = m.setLoc n (ar d4 r)) (fun τ m' => ∃ R, PermIn a1 b1 d1 R ∧ SortedIn ltG a1 b1 R ∧ m' = m.setLoc n (ar R r)) ?_ ?_ ?_
  · have skip : ∀ ρ : Nat → PV, ρ 13 = vI piv → (ρ 10 = vB wb ∧ ρ 11 = vB wp ∧ ρ 0 = mar n L cap ∧ ρ 1 = vI a1 ∧ ρ 2 = vI b1 ∧ ρ 3 = vI lim2 ∧ ρ 4 = cloC ∧ ρ 12 = vI l) → ∃ (d4 : Array GG), PermIn a1 b1 d1 d4 ∧ ρ 13 = vI piv ∧ ρ 10 = vB wb ∧ ρ 11 = vB wp ∧ ρ 0 = mar n L cap ∧ ρ 1 = vI a1 ∧ ρ 2 = vI b1 ∧ ρ 3 = vI lim2 ∧ ρ 4 = cloC ∧ ρ 12 = vI l ∧ m.setLoc n (ar d3 r) = m.setLoc n (ar d4 r) :=
      fun ρ h13 ⟨h10, h11, h0, h1, h2, h3, h4, h12⟩ => ⟨d3, hp13, h13, h10, h11, h0, h1, h2, h3, h4, h12, rfl⟩
    cases wb with
    | false =>
      have F := @t10; refine tFa ?_; (try clear F)
      exact .inl ⟨rfl, skip _ (by simp [upd_lit, t13]) ⟨by simp [upd_lit, t10], by simp [upd_lit, t11], by simp [upd_lit, t0], by simp [upd_lit, t1], by simp [upd_lit, t2], by simp [upd_lit, t3], by simp [upd_lit, t4], by simp [upd_lit, t12]⟩⟩
    | true =>
    cases wp with
    | false =>
      have F := (aand @t10 @t11); refine tFa ?_; (try clear F)
      exact .inl ⟨rfl, skip _ (by simp [upd_lit, t13]) ⟨by simp [upd_lit, t10], by simp [upd_lit, t11], by simp [upd_lit, t0], by simp [upd_lit, t1], by simp [upd_lit, t2], by simp [upd_lit, t3], by simp [upd_lit, t4], by simp [upd_lit, t12]⟩⟩
    | true =>
    by_cases hh1 : h2 = 1
    rotate_left
    · have hh1' : ¬ (h2 : Int) = 1 := by omega
      have F := (aand @t10 (aand @t11 (aand @t14 (aand @hh1 @hh1')))); refine tFa ?_; (try clear F)
      exact .inl ⟨rfl, skip _ (by simp [upd_lit, t13]) ⟨by simp [upd_lit, t10], by simp [upd_lit, t11], by simp [upd_lit, t0], by simp [upd_lit, t1], by simp [upd_lit, t2], by simp [upd_lit, t3], by simp [upd_lit, t4], by simp [upd_lit, t12]⟩⟩
    have hh1' : (h2 : Int) = 1 := by omega
    have F := (aand @t10 (aand @t11 (aand @t14 @hh1'))); refine tFa ?_; (try clear F)
    have F := (aand @t0 (aand @t1 (aand @t2 @t4))); refine tF1 fun K Kp hK hKp => ?_; (try clear F); refine GivesTo.at (partialG H3 a1 b1 hlt (by omega)) ?_; apply hK; clear hK hKp K Kp
    have hpi := partialInsertionSort_holds ltG_swo d3 a1 b1 hlt (by omega) hB3
    cases hres : (partialInsertionSort ltG d3 a1 b1).2 with
    | true =>
      refine tSa ?_
      exact .inr ⟨rfl, _, permIn_trans _ _ _ _ _ hp13 hpi.1, hpi.2 hres, by rw [setLoc_setLoc]⟩
    | false =>
      refine tSa ?_
      exact .inl ⟨rfl, _, permIn_trans _ _ _ _ _ hp13 hpi.1, by simp [upd_lit, t13], by simp [upd_lit, t10], by simp [upd_lit, t11], by simp [upd_lit, t0], by simp [upd_lit, t1], by simp [upd_lit, t2], by simp [upd_lit, t3], by simp [upd_lit, t4], by simp [upd_lit, t12], by rw [setLoc_setLoc]⟩
  rotate_left
  · rintro τ m' ⟨R, hR1, hR2, rfl⟩
    have hF := hfin R hR1 hR2
    refine tSa ?_
    exact Fin.here (r := .tup []) (by exact ⟨[], rfl, rfl⟩) (.inr rfl) ⟨R, hF.1, hF.2, rfl, rfl⟩
  clear t10 t11 t0 t1 t2 t3 t4 t12 t13 t14 hs3 H3 hp13 hB3 d3
  rintro τ m' ⟨d4, hp14, t13, t10, t11, t0, t1, t2, t3, t4, t12, rfl⟩
  have hs4 : d4.size = L := by rw [hp14.1]; exact hs1
  have H4 := H.set d4 hs4
  have hB4 := hB1.perm (by omega) hp14
  have hP4 : PermIn 0 L d d4 := permIn_trans _ _ _ _ _ hP1 (permIn_mono _ _ a1 b1 0 L (by omega) hb1 (by omega) hp14)
  refine AExit.norT ?_
  refine AW.seq ?_
  refine AW.seq ?_
  have v1 : piv < d4.size := by omega
  have v2 : (piv : Int) < L := by omega
  refine AW.step (fun τ m' => τ 97 = vB (decide (0 < a1) && !ltG (gt d4 (a1 - 1)) (gt d4 piv)) ∧ τ 13 = vI piv ∧ τ 10 = vB wb ∧ τ 11 = vB wp ∧ τ 0 = mar n L cap ∧ τ 1 = vI a1 ∧ τ 2 = vI b1 ∧ τ 3 = vI lim2 ∧ τ 4 = cloC ∧ τ 12 = vI l ∧ m' = m.setLoc n (ar d4 r)) ?_ ?_
  · by_cases ha0 : 0 < a1
    · have ha0' : (0 : Int) < a1 := by omega
      obtain ⟨w, hw⟩ : ∃ w, w + 1 = a1 := ⟨a1 - 1, by omega⟩
      have ew : (a1 : Int) - 1 = (w : Int) := by omega
      have w1 : w < d4.size := by omega
      have w2 : (w : Int) < L := by omega
      have hcmp := cmpG (gt d4 w) (gt d4 piv)
      rw [show a1 - 1 = w from by omega]
      refine AW.draw [.S, .S, .S, .S, .S, .S, .S, .S, .R, .S, .S, .S, .R, .R, .S, .S, .S] (by decide +kernel) ?_; have F := (aand @t0 (aand @t1 (aand @t4 (aand @t13 (aand @ha0 (aand @ha0' (aand @ew (aand @w1 (aand @w2 (aand @v1 (aand @v2 (aand @hn (aand @ar_get @ar_fit))))))))))))); refine dS 0 ?_; refine dS 1 ?_; refine dS 2 ?_; refine dSG 3 ?_; refine dSG 4 ?_; refine dSG 5 ?_; refine dSG 6 ?_; refine dSG 7 ?_; refine dRG 8 ?_; refine dSG 9 ?_; refine dSG 10 ?_; refine dSG 11 ?_; refine dRG 12 ?_; refine dCG ((hcmp)) 13 ?_; refine dSG 14 ?_; refine dSG 15 ?_; refine dS 16 ?_; (try clear F); first | refine dN ?_ | refine dB ?_ | refine DA.done (by decide +kernel) ?_
      exact ⟨rfl, by simp [upd_lit, ha0, ltG], by simp [upd_lit, t13], by simp [upd_lit, t10], by simp [upd_lit, t11], by simp [upd_lit, t0], by simp [upd_lit, t1], by simp [upd_lit, t2], by simp [upd_lit, t3], by simp [upd_lit, t4], by simp [upd_lit, t12], rfl⟩
    · have ha0' : ¬ (0 : Int) < a1 := by omega
      refine AW.draw [.S, .S, .S, .S, .S, .S, .S, .S, .R, .S, .S, .S, .R, .R, .S, .S, .S] (by decide +kernel) ?_; have F := (aand @t1 (aand @ha0 @ha0')); refine dS 0 ?_; refine dS 1 ?_; refine dS 2 ?_; refine dXx 3 ?_; refine dXx 4 ?_; refine dXx 5 ?_; refine dXx 6 ?_; refine dXx 7 ?_; refine dXX 8 ?_; refine dXx 9 ?_; refine dXx 10 ?_; refine dXx 11 ?_; refine dXX 12 ?_; refine dXX 13 ?_; refine dXx 14 ?_; refine dXx 15 ?_; refine dS 16 ?_; (try clear F); first | refine dN ?_ | refine dB ?_ | refine DA.done (by decide +kernel) ?_
      exact ⟨rfl, by simp [upd_lit, ha0], by simp [upd_lit, t13], by simp [upd_lit, t10], by simp [upd_lit, t11], by simp [upd_lit, t0], by simp [upd_lit, t1], by simp [upd_lit, t2], by simp [upd_lit, t3], by simp [upd_lit, t4], by simp [upd_lit, t12], rfl⟩
  clear t10 t11 t0 t1 t2 t3 t4 t12 t13
  rintro τ m' ⟨t97, t13, t10, t11, t0, t1, t2, t3, t4, t12, rfl⟩
  cases hc : (decide (0 < a1) && !ltG (gt d4 (a1 - 1)) (gt d4 piv)) with
  | true =>
    rw [hc] at t97
    simp only [Bool.and_eq_true, decide_eq_true_eq, Bool.not_eq_true'] at hc
    have F := @t97; refine tFa ?_; (try clear F)
    have F := (aand @t0 (aand @t1 (aand @t2 (aand @t4 @t13)))); refine tF1 fun K Kp hK hKp => ?_; (try clear F); refine GivesTo.at (partitionEqualG H4 a1 b1 piv hv1 hv2 (by omega)) ?_; apply hK; clear hK hKp K Kp
    obtain ⟨mid, d5, hpe⟩ : ∃ mid d5, partitionEqual ltG d4 a1 b1 piv = (mid, d5) := ⟨_, _, rfl⟩
    obtain ⟨g1, g2, g3, g4, g5⟩ := round_eq ltG_swo (partitionEqual_holds ltG) hc.1 hv1 hv2 (by omega) hB4 hc.2 hpe
    rw [hpe]
    dsimp only
    have hPm : PermIn 0 L d d5 := by
      have := partitionEqual_holds ltG ltG_swo d4 a1 b1 piv hv1 hv2 (by omega) (fun i h1 h2 => by
        rcases hB4 with h0 | hB4
        · omega
        · exact ltG_swo.ntrans _ _ _ (hB4 i h1 h2) hc.2)
      rw [hpe] at this
      exact permIn_trans _ _ _ _ _ hP4 (permIn_mono _ _ a1 b1 0 L (by omega) hb1 (by omega) this.2.2.1)
    refine tS ?_
    exact ⟨b1 - mid, ⟨mid, b1, lim2, wb, wp, d5, rfl, by omega, g2, hb1, hlim2, hPm, g4, fun R h1 h2 => by
      have := g5 R h1 h2
      exact hfin R (permIn_trans _ _ _ _ _ hp14 this.1) this.2, by simp [upd_lit, t10], by simp [upd_lit, t11], by simp [upd_lit, t0], by simp [upd_lit], by simp [upd_lit, t2], by simp [upd_lit, t3], by simp [upd_lit, t4], by rw [setLoc_setLoc]⟩, by omega⟩
  | false =>
    rw [hc] at t97
    have F := @t97; refine tFa ?_; (try clear F)
    have F := (aand @t0 (aand @t1 (aand @t2 (aand @t4 @t13)))); refine tF1 fun K Kp hK hKp => ?_; (try clear F); refine GivesTo.at (partitionG H4 a1 b1 piv hv1 hv2 (by omega)) ?_; apply hK; clear hK hKp K Kp
    obtain ⟨mid, ap, d5, hpe⟩ : ∃ mid ap d5, partition ltG d4 a1 b1 piv = (mid, ap, d5) := ⟨_, _, _, rfl⟩
    obtain ⟨g1, g2, g3, g4, g5, g6, g7⟩ := round_part ltG_swo (partition_holds ltG) hv1 hv2 (by omega) hB4 hpe
    have hPm : PermIn 0 L d d5 := by
      have := partition_holds ltG ltG_swo d4 a1 b1 piv hv1 hv2 (by omega)
      rw [hpe] at this
      exact permIn_trans _ _ _ _ _ hP4 (permIn_mono _ _ a1 b1 0 L (by omega) hb1 (by omega) this.2.2.1)
    rw [hpe]
    dsimp only
    have hs5 : d5.size = L := by rw [g3]; exact hs4
    have H5 := H.set d5 hs5
    obtain ⟨x1, hx1⟩ : ∃ x, x = mid - a1 := ⟨_, rfl⟩
    have ex1 : (mid : Int) - a1 = (x1 : Int) := by omega
    obtain ⟨y1, hy1⟩ : ∃ x, x = b1 - mid := ⟨_, rfl⟩
    have ey1 : (b1 : Int) - mid = (y1 : Int) := by omega
    obtain ⟨z1, hz1⟩ : ∃ x, x = l / 8 := ⟨_, rfl⟩
    have ez1 : (l : Int).tdiv 8 = (z1 : Int) := by rw [hz1]; rfl
    obtain ⟨m1, hm1⟩ : ∃ x, x = mid + 1 := ⟨_, rfl⟩
    have em1 : (mid : Int) + 1 = (m1 : Int) := by omega
    rw [setLoc_setLoc]
    have F := (aand @t1 (aand @t2 (aand @t12 (aand @ex1 (aand @ey1 @ez1))))); refine tF ?_; (try clear F)
    by_cases hxy : x1 < y1
    · have F := (aand @hxy (aand @t0 (aand @t1 (aand @t3 @t4)))); refine tFa ?_; (try clear F)
      refine tS1 fun K Kp hK hKp => ?_; refine ACall.mono (ih (mid - a1) (by omega) H5 hr a1 mid lim2 rfl g1 (by omega) hlim2 g4) ?_
      rintro _ _ ⟨d6, hd6, hd6s, rfl, rfl⟩
      refine hK _ _ ?_; clear hK hKp K Kp
      have F := @em1; refine tF ?_; (try clear F)
      have g8 := g6 d6 hd6 hd6s
      exact ⟨b1 - m1, ⟨m1, b1, lim2, decide (z1 ≤ x1), ap, d6, rfl, by omega, by omega, hb1, hlim2, permIn_trans _ _ _ _ _ hPm (permIn_mono _ _ a1 mid 0 L (by omega) (by omega) (by omega) hd6), by rw [hm1]; exact g8.1, fun R h1 h2 => by
        rw [hm1] at h1 h2
        have := g8.2 R h1 h2
        exact hfin R (permIn_trans _ _ _ _ _ hp14 this.1) this.2, by simp [upd_lit], by simp [upd_lit], by simp [upd_lit, t0], by simp [upd_lit], by simp [upd_lit, t2], by simp [upd_lit, t3], by simp [upd_lit, t4], by rw [setLoc_setLoc]⟩, by omega⟩
    · have F := (aand @hxy (aand @t0 (aand @t2 (aand @t3 (aand @t4 @em1))))); refine tFa ?_; (try clear F)
      refine tS1 fun K Kp hK hKp => ?_; refine ACall.mono (ih (b1 - m1) (by omega) H5 hr m1 b1 lim2 rfl (by omega) (by omega) hlim2 (by rw [hm1]; exact g5)) ?_
      rintro _ _ ⟨d6, hd6, hd6s, rfl, rfl⟩
      refine hK _ _ ?_; clear hK hKp K Kp
      refine tS ?_
      rw [hm1] at hd6 hd6s
      have g8 := g7 d6 hd6 hd6s
      exact ⟨mid - a1, ⟨a1, mid, lim2, decide (z1 ≤ y1), ap, d6, rfl, by omega, by omega, by omega, hlim2, permIn_trans _ _ _ _ _ hPm (permIn_mono _ _ (mid + 1) b1 0 L (by omega) (by omega) (by omega) hd6), g8.1, fun R h1 h2 => by
        have := g8.2 R h1 h2
        exact hfin R (permIn_trans _ _ _ _ _ hp14 this.1) this.2, by simp [upd_lit], by simp [upd_lit], by simp [upd_lit, t0], by simp [upd_lit, t1], by simp [upd_lit], by simp [upd_lit, t3], by simp [upd_lit, t4], by rw [setLoc_setLoc]⟩, by omega⟩
end Go.Proofs.YtgfadepkiejncaaGreat
namespace Go.Proofs.YtgfadepkiejncaaGreat
open Go.Ab Go.Sort
set_option maxHeartbeats 0
set_option maxRecDepth 100000
attribute [local irreducible] AW AList ACall DA AExit.then AExit.inBlock YCall DCall
theorem sortG {m : St} {n L cap : Nat} {d : Array GG} {r : List PV} (H : Arr m n L d r) (hr : ∀ k t, PV.scL k t r) :
    ACall Tryz.prog 143 [mar n L cap, cloC] m (fun r' m' => ∃ R, PermIn 0 L d R ∧ SortedIn ltG 0 L R ∧ r' = .ret (.tup []) ∧ m' = m.setLoc n (ar R r)) := by
  refine ACall.of_aw Tryz.func143 Tryz.ntmps143 rfl rfl (by simp) ?_
  have hn := H.lt
  have hS := H.small
  have hL := H.size
  have w64 : IntKind.u64.wrap (L : Int) = L := wrap_u64 _ (by omega) (by omega)
  have hb : bitsLen L ≤ 41 := by rw [bitsLen_le_iff]; omega
  have F := @w64; refine tF ?_; (try clear F)
  refine tS1 fun K Kp hK hKp => ?_; refine Gives.at (bitsLenG L (by omega)) ?_; apply hK; clear hK hKp K Kp
  refine tS ?_
  refine tS1 fun K Kp hK hKp => ?_; refine ACall.mono (pdqG L H hr 0 L (bitsLen L) (by omega) (by omega) (by omega) (by omega) (.inl rfl)) ?_
  rintro _ _ ⟨R, h1, h2, rfl, rfl⟩
  refine hK _ _ ?_; clear hK hKp K Kp
  refine tS ?_
  exact Fin.here (r := .tup []) (by exact ⟨[], rfl, rfl⟩) (.inl rfl) ⟨R, h1, h2, rfl, rfl⟩
end Go.Proofs.YtgfadepkiejncaaGreat
namespace Go.Proofs.YtgfadepkiejncaaGreat
open Go.Ab Go.Sort
set_option maxHeartbeats 0
set_option maxRecDepth 100000
attribute [local irreducible] AW AList ACall DA AExit.then AExit.inBlock YCall DCall
theorem isOm (v : GV) : Gives Tryz.prog 142 [v.pv] (vB (decide (v.kind = 0))) := by
  intro m
  refine ACall.of_aw Tryz.func142 Tryz.ntmps142 rfl rfl (by simp) ?_
  refine tS ?_
  have e0 : (v.cells)[0]? = some (vI v.kind) := by rw [cells_eq]; rfl
  by_cases h : v.kind = 0
  · have h' : (v.kind : Int) = 0 := by omega
    have F := (aand @e0 (aand @h @h')); refine tF ?_; (try clear F)
    exact Fin.gives Same.auto (hq := by simp [upd_lit, h])
  · have h' : ¬ (v.kind : Int) = 0 := by omega
    have F := (aand @e0 (aand @h @h')); refine tF ?_; (try clear F)
    exact Fin.gives Same.auto (hq := by simp [upd_lit, h])
theorem eqG (x y : GV) (hx : good x) (hy : good y) : Gives Tryz.prog 145 [x.pv, y.pv] (vB (decide (cmpV x y = 0))) := by
  intro m
  refine ACall.of_aw Tryz.func145 Tryz.ntmps145 rfl rfl (by simp) ?_
  refine tS ?_
  refine tS1 fun K Kp hK hKp => ?_; refine Gives.at (val_compare x y hx hy) ?_; apply hK; clear hK hKp K Kp
  refine tS ?_
  exact Fin.gives Same.auto
def firstOm (d : Array GG) (i : Nat) : Nat := if h : i < d.size then (if (gt d i).1.kind = 0 then i else firstOm d (i + 1)) else d.size
termination_by d.size - i
theorem firstOm_le (d : Array GG) (i : Nat) (h : i ≤ d.size) : i ≤ firstOm d i ∧ firstOm d i ≤ d.size := by
  fun_induction firstOm d i with
  | case1 i hi hk => omega
  | case2 i hi hk ih => have := ih (by omega); omega
  | case3 i hi => omega
abbrev cloO : PV := .clo 142 [] []
theorem indexG {m : St} {n L cap : Nat} {d : Array GG} {r : List PV} (H : Arr m n L d r) :
    GivesTo Tryz.prog 148 [mar n L cap, cloO] m (vI (if firstOm d 0 < L then (firstOm d 0 : Int) else -1)) m := by
  have hn := H.lt
  have hm := H.loc
  have hS := H.small
  have hL := H.size
  refine ACall.of_aw Tryz.func148 Tryz.ntmps148 rfl rfl (by simp) ?_
  refine tS ?_
  refine AW.loop (ι := Nat) (fun i σ m' => i ≤ L ∧ σ 8 = vI i ∧ σ 7 = vI L ∧ σ 0 = mar n L cap ∧ σ 1 = cloO ∧ firstOm d i = firstOm d 0 ∧ m' = m) (fun i => L - i) 0 ?_ ?_
  · exact ⟨by omega, by simp [upd_lit], by simp [upd_lit], by simp [upd_lit], by simp [upd_lit], rfl, rfl⟩
  rintro i σ m' ⟨hi, t8, t7, t0, t1, hE, rfl⟩
  rw [firstOm] at hE
  by_cases hlt : i < L
  rotate_left
  · rw [dif_neg (by omega)] at hE
    rw [if_neg (by omega)]
    have F := (aand @t8 (aand @t7 @hlt)); refine tFa ?_; (try clear F)
    exact Fin.gives Same.auto
  rw [dif_pos (by omega)] at hE
  have i1 : i < d.size := by omega
  have i2 : (i : Int) < L := by omega
  have F := (aand @t8 (aand @t7 (aand @hlt (aand @t1 (aand @t0 (aand @i1 (aand @i2 (aand @hn (aand @hm (aand @ar_get @ar_fit)))))))))); refine tFa ?_; (try clear F)
  refine tS1 fun K Kp hK hKp => ?_; refine Gives.at (isOm (gt d i).1) ?_; apply hK; clear hK hKp K Kp
  by_cases hk : (gt d i).1.kind = 0
  · rw [if_pos hk] at hE
    rw [← hE, if_pos hlt]
    have F := @hk; refine tFa ?_; (try clear F)
    exact Fin.gives Same.auto
  · rw [if_neg hk] at hE
    have F := (aand @hk @t8); refine tFa ?_; (try clear F)
    exact ⟨i + 1, ⟨by omega, by simp [upd_lit], by simp [upd_lit, t7], by simp [upd_lit, t0], by simp [upd_lit, t1], hE, rfl⟩, by omega⟩
end Go.Proofs.YtgfadepkiejncaaGreat
namespace Go.Proofs.YtgfadepkiejncaaGreat
open Go.Ab Go.Sort
set_option maxHeartbeats 0
set_option maxRecDepth 100000
attribute [local irreducible] AW AList ACall DA AExit.then AExit.inBlock YCall DCall
theorem rows_stripL : ∀ l : List GV, PV.stripL (GV.rows l).flatten = (GV.rows l).flatten
  | [] => rfl
  | v :: l => by
    have h : ∀ xs ys : List PV, PV.stripL (xs ++ ys) = PV.stripL xs ++ PV.stripL ys := by
      intro xs ys
      induction xs with
      | nil => rfl
      | cons x xs ih => simp [PV.stripL, ih]
    simp only [GV.rows, List.flatten_cons]
    rw [h, cells_strip, rows_stripL l]
theorem cloneG (l : List GV) (h0 : l ≠ []) (hl : l.length ≤ 1000000) (m : St) :
    ACall Tryz.prog 141 [GV.pvs l] m (fun r' m' => r' = .ret (.marr m.nloc 0 l.length l.length) ∧ m' = m.newLoc (GV.rows l).flatten) := by
  refine ACall.of_aw Tryz.func141 Tryz.ntmps141 rfl rfl (by simp) ?_
  refine tS ?_
  refine AList.op (by decide) ?_; intro K Kp hK hKp; simp [upd_lit]
  refine ⟨?_, fun h => absurd (List.length_eq_zero_iff.1 (by simpa [GV.rows_eq] using congrArg List.length h)) h0⟩
  apply hK; clear hK hKp K Kp
  refine tSa ?_
  refine AList.opK (by decide) ?_; intro K Kp hK hKp
  have hpos : 0 < l.length := List.length_pos_iff.2 h0
  refine op_appendL (e := 27) (o2 := .no) (rows := []) (news := GV.rows l) rfl rfl rfl rfl (by kernel_rfl) (by kernel_rfl) (by kernel_rfl) (fun r hr => by cases hr) (rows_w l) ?_ ?_ ?_ (by simp [opv, upd_lit]) (by simp [opv, upd_lit]) (hK _ _ ?_)
  · have e : tbytes Tryz.prog 27 ≤ 1000 := by decide +kernel
    have : (GV.rows l).length = l.length := by rw [GV.rows_eq, List.length_map]
    simp only [List.length_nil, Nat.zero_add, this]
    exact Nat.le_trans (Nat.mul_le_mul hl e) (by omega)
  · simp [GV.rows_eq] <;> omega
  · simp [GV.rows_eq] <;> omega
  clear hK hKp K Kp
  refine tS ?_
  refine Fin.here (r := .marr m.nloc 0 l.length l.length) (by simp [ResP, ResL, resV, upd_lit, show Tryz.f141.results.toList = [.tmp 2] from rfl, GV.rows_eq]) (.inr rfl) ⟨rfl, ?_⟩
  rw [rows_stripL]
end Go.Proofs.YtgfadepkiejncaaGreat
namespace Go.Ab
theorem Same.setBoth {m m' : St} (h : Same m m') (n : Nat) (cs : List PV) : Same (m.setLoc n cs) (m'.setLoc n cs) :=
  Same.mk h.lloc h.ltok (fun i hi => by rw [setLoc_loc, setLoc_loc]; by_cases e : i = n; rw [if_pos e, if_pos e]; rw [if_neg e, if_neg e]; exact h.get hi) (fun k hk => ⟨(h.top k hk).1.symm, (h.top k hk).2.symm⟩) (fun n hn => h.getL hn) (fun n hn => h.getI hn) (fun k cs hk hd hc => h.getA hk hd hc)
end Go.Ab
namespace Go.Proofs.YtgfadepkiejncaaGreat
open Go.Ab Go.Sort
set_option maxHeartbeats 0
set_option maxRecDepth 100000
attribute [local irreducible] AW AList ACall DA AExit.then AExit.inBlock YCall DCall
def nzG (x : GG) : Bool := decide (x.1.kind ≠ 0)
theorem firstOm_none (d : Array GG) : ∀ i, i ≤ d.size → firstOm d i = d.size → ∀ k, i ≤ k → k < d.size → nzG (gt d k) = true := by
  intro i hi h k hk hk2
  fun_induction firstOm d i with
  | case1 i hi2 hk0 => omega
  | case2 i hi2 hk0 ih =>
    by_cases e : i = k
    · subst e; simp [nzG, hk0]
    · exact ih (by omega) h (by omega)
  | case3 i hi2 => omega
theorem firstOm_pre (d : Array GG) : ∀ i, ∀ k, i ≤ k → k < firstOm d i → nzG (gt d k) = true := by
  intro i k hk hk2
  fun_induction firstOm d i with
  | case1 i hi2 hk0 => omega
  | case2 i hi2 hk0 ih =>
    by_cases e : i = k
    · subst e; simp [nzG, hk0]
    · exact ih (by omega) hk2
  | case3 i hi2 =>
    omega
theorem firstOm_at (d : Array GG) : ∀ i, firstOm d i < d.size → nzG (gt d (firstOm d i)) = false := by
  intro i h
  fun_induction firstOm d i with
  | case1 i hi2 hk0 => simp [nzG, hk0]
  | case2 i hi2 hk0 ih => exact ih h
  | case3 i hi2 => omega
theorem gt_toList (d : Array GG) (i : Nat) (h : i < d.size) : d.toList[i]'(by simpa using h) = gt d i := by simp [gt, h]
theorem take_succ_filter (d : Array GG) (i : Nat) (h : i < d.size) : (d.toList.take (i + 1)).filter nzG = (d.toList.take i).filter nzG ++ (if nzG (gt d i) then [gt d i] else []) := by
  rw [List.take_add_one, List.filter_append]
  congr 1
  rw [List.getElem?_eq_getElem (by simpa using h), gt_toList d i h]
  simp [List.filter_cons]
theorem gt_set_ne (d : Array GG) (i k : Nat) (x : GG) (h : k ≠ i) : gt (d.setIfInBounds i x) k = gt d k := by
  simp [gt, getElem!_def, Array.getElem?_setIfInBounds, Ne.symm h]
theorem take_set (d : Array GG) (i : Nat) (x : GG) (h : i < d.size) : (d.setIfInBounds i x).toList.take (i + 1) = d.toList.take i ++ [x] := by
  rw [Array.toList_setIfInBounds, List.take_add_one, List.take_set_of_le (Nat.le_refl _)]
  simp [h]
theorem sliceLo (n L i cap : Nat) (hi : i ≤ L) (hc : L ≤ cap) (hlt : i < cap) (m : St) (K : PV → St → Prop) : aslice Tryz.prog 25 (mar n L cap) (some (vI i)) none none m K ↔ K (.marr n (i * 6) (L - i) (cap - i)) m := by
  have h1 : ((L : Int) - i).toNat = L - i := by omega
  simp [aslice, abnd, h1]
  constructor
  · intro h; exact h.2.2.2
  · intro h; exact ⟨by omega, by omega, by omega, h⟩
theorem sliceHi (n L i cap : Nat) (hi : i ≤ L) (hc : L ≤ cap) (h0 : 0 < cap) (m : St) (K : PV → St → Prop) : aslice Tryz.prog 25 (mar n L cap) none (some (vI i)) none m K ↔ K (.marr n 0 i cap) m := by
  simp [aslice, abnd]
  constructor
  · intro h; exact h.2.2.2
  · intro h; exact ⟨by omega, by omega, by omega, h⟩
theorem flat_take : ∀ (l : List GV) (i : Nat) (r : List PV), i ≤ l.length → ((GV.rows l).flatten ++ r).take (i * 6) = (GV.rows (l.take i)).flatten
  | l, 0, r, _ => by simp [GV.rows]
  | v :: l, i + 1, r, h => by
    have := flat_take l i r (by simpa using h)
    simp only [GV.rows, List.flatten_cons, List.append_assoc, List.take_succ_cons]
    rw [show (i + 1) * 6 = v.cells.length + i * 6 from by rw [cells_len]; omega, List.take_length_add_append, this]
theorem clear_ar (d : Array GG) (r zs : List PV) (i : Nat) (hi : i ≤ d.size) (hz : zs.length = (d.size - i) * 6) : setL (ar d r) (i * 6) zs = ar (d.toList.take i).toArray (zs ++ r) := by
  rw [setL_eq _ _ _ (by rw [ar_len, hz]; omega), hz, show i * 6 + (d.size - i) * 6 = d.size * 6 from by omega]
  have h1 : (ar d r).take (i * 6) = (GV.rows ((d.toList.take i).map (·.1))).flatten := by
    rw [ar, flat_take _ _ _ (by simpa using hi), List.map_take]
  have h2 : (ar d r).drop (d.size * 6) = r := by
    rw [ar, List.drop_left' (by rw [rows_flat_len]; simp)]
  rw [h1, h2, ar]
  simp
theorem zrow_scL (zc : List PV) (n : Nat) (h : ∀ x ∈ zc, ∀ k t, x.sc k t) (k t : Nat) : PV.scL k t (zrow zc n) := by
  have key : ∀ l : List PV, (∀ x ∈ l, x.sc k t) → PV.scL k t l := by
    intro l
    induction l with
    | nil => intro _; trivial
    | cons x l ih => intro h; exact ⟨h x (by simp), ih fun y hy => h y (by simp [hy])⟩
  refine key _ fun x hx => ?_
  obtain ⟨i, _, rfl⟩ := List.mem_map.1 hx
  rw [List.getD_eq_getElem?_getD]
  cases e : zc[i % zc.length]? with
  | none => trivial
  | some y => exact h y (List.mem_of_getElem? e) k t
theorem deleteG {m : St} {n L cap : Nat} {d : Array GG} {r : List PV} (H : Arr m n L d r) (hr : ∀ k t, PV.scL k t r) (hLc : L ≤ cap) :
    ACall Tryz.prog 140 [mar n L cap, cloO] m (fun r' m' => ∃ (D : Array GG) (r2 : List PV), D.toList = d.toList.filter nzG ∧ (∀ k t, PV.scL k t r2) ∧ r' = .ret (mar n D.size cap) ∧ m' = m.setLoc n (ar D r2)) := by
  have hn := H.lt
  have hm := H.loc
  have hS := H.small
  have hL := H.size
  refine ACall.of_aw Tryz.func140 Tryz.ntmps140 rfl rfl (by simp) ?_
  have hf := firstOm_le d 0 (by omega)
  refine tS ?_
  refine tS1 fun K Kp hK hKp => ?_; refine GivesTo.at (indexG H) ?_; apply hK; clear hK hKp K Kp
  by_cases hf0 : firstOm d 0 < L
  rotate_left
  · rw [if_neg hf0]
    refine tSa ?_
    refine Fin.here (r := mar n L cap) (by rfl) (.inr rfl) ⟨d, r, ?_, hr, by rw [hL], (setLoc_self hm).symm⟩
    rw [List.filter_eq_self.2]
    intro x hx
    obtain ⟨k, hk, rfl⟩ := List.getElem_of_mem hx
    rw [gt_toList d k (by simpa using hk)]
    exact firstOm_none d 0 (by omega) (by omega) k (by omega) (by simpa using hk)
  rw [if_pos hf0]
  obtain ⟨f, hfe⟩ : ∃ f, f = firstOm d 0 := ⟨_, rfl⟩
  rw [← hfe]
  rw [← hfe] at hf0 hf
  have hne : ¬ (f : Int) = -1 := by omega
  have F := @hne; refine tFa ?_; (try clear F)
  have hz := firstOm_at d 0 (by omega)
  rw [← hfe] at hz
  refine AW.loop (ι := Nat) (fun j σ m' => f + 1 ≤ j ∧ j ≤ L ∧ ∃ (i : Nat) (d1 : Array GG), i < j ∧ σ 5 = vI i ∧ σ 6 = vI j ∧ σ 0 = mar n L cap ∧ σ 1 = cloO ∧ d1.size = L ∧ d1.toList.take i = (d.toList.take j).filter nzG ∧ (∀ k, j ≤ k → gt d1 k = gt d k) ∧ Same (m.setLoc n (ar d1 r)) m' ∧ m'.loc n = some (ar d1 r)) (fun j => L - j) (f + 1) ?_ ?_
  · refine ⟨Nat.le_refl _, by omega, f, d, by omega, by simp [upd_lit], by simp [upd_lit], by simp [upd_lit], by simp [upd_lit], hL, ?_, fun _ _ => rfl, by rw [setLoc_self hm]; exact Same.refl m, hm⟩
    rw [take_succ_filter d f (by omega), hz]
    simp only [Bool.false_eq_true, if_false, List.append_nil]
    symm
    rw [List.filter_eq_self]
    intro x hx
    obtain ⟨k, hk, rfl⟩ := List.getElem_of_mem hx
    rw [List.getElem_take, gt_toList d k (by simp at hk; omega)]
    exact firstOm_pre d 0 k (by omega) (by simp at hk; omega)
  rintro j σ m' ⟨hj1, hj2, i, d1, hij, t5, t6, t0, t1, hs, hpre, hrest, hsame, hloc⟩
  have hn2 : n < m'.nloc := Nat.lt_of_lt_of_le hn hsame.lloc
  by_cases hjl : j < L
  rotate_left
  · have hjL : j = L := by omega
    subst hjL
    have F := (aand @t6 (aand @t0 @hjl)); refine tFa ?_; (try clear F)
    have sl := sliceLo n j i cap (by omega) hLc (by omega)
    have sh := sliceHi n j i cap (by omega) hLc (by omega)
    have F := (aand @t5 @sl); refine tF ?_; (try clear F)
    refine AList.step rfl rfl ?_
    obtain ⟨z, hz1⟩ : ∃ z, tzero Tryz.prog 27 = some z := ⟨_, rfl⟩
    have hzl : (zcells z).length = 6 := by
      have : (tzero Tryz.prog 27).map (fun z => (zcells z).length) = some 6 := by kernel_rfl
      rw [hz1] at this; simpa using this
    have hzo : zOK z = true := by
      have : (tzero Tryz.prog 27).map zOK = some true := by kernel_rfl
      rw [hz1] at this; simpa using this
    refine op_clear (e := 27) (z := z) (n := n) (off := i * 6) (len := j - i) (cap := cap - i) (cs := ar d1 r) rfl rfl rfl rfl rfl hz1 hzo (by omega) (by simp [opv, upd_lit]) hn2 hloc (by rw [ar_len, hzl]; omega) ?_
    have hzs : ∀ x ∈ zcells z, ∀ k t, PV.sc k t x := by
      have : (tzero Tryz.prog 27).map zcells = some [vI 0, vI 0, vB false, .list .full [], .v (.string ⟨#[]⟩), .list .full []] := by kernel_rfl
      rw [hz1] at this
      simp only [Option.map_some, Option.some.injEq] at this
      rw [this]
      intro x hx k t
      simp at hx
      rcases hx with rfl | rfl | rfl | rfl | rfl <;> trivial
    simp only [put]
    rw [hzl, clear_ar d1 r _ i (by omega) (by rw [zrow_len, hs])]
    have hr2 : ∀ k t, PV.scL k t (zrow (zcells z) ((j - i) * 6) ++ r) := fun k t => scL_app _ _ _ _ (zrow_scL _ _ hzs k t) (hr k t)
    generalize zrow (zcells z) ((j - i) * 6) ++ r = r2 at *
    have hDs : (d1.toList.take i).toArray.size = i := by simp; omega
    have hDl : (d1.toList.take i).toArray.toList = d.toList.filter nzG := by
      rw [List.toList_toArray, hpre, List.take_of_length_le (by simp; omega)]
    generalize (d1.toList.take i).toArray = D at *
    have hsame3 := hsame.setBoth n (ar D r2)
    rw [setLoc_setLoc] at hsame3
    have F := (aand @t0 (aand @t5 @sh)); refine tF ?_; (try clear F)
    exact Fin.leaves (r := mar n i cap) (m2 := m.setLoc n (ar D r2)) (by rfl) (.inr rfl) (Leaves.ofSet hsame3 (ar_scL _ _ _ _ (hr2 _ _))) ⟨D, r2, hDl, hr2, by rw [hDs], rfl⟩ (hs := by show n < m.nloc; exact hn)
  have j1 : j < d1.size := by omega
  have j2 : (j : Int) < L := by omega
  have i1 : i < d1.size := by omega
  have i2 : (i : Int) < L := by omega
  have hnn : n ≠ m'.nloc := by omega
  have hn3 : n < m'.nloc + 1 := by omega
  have F := (aand @t6 (aand @t0 (aand @t1 (aand @hjl (aand @j1 (aand @j2 (aand @hn2 (aand @hloc (aand @ar_get @ar_fit))))))))); refine tFa ?_; (try clear F)
  have F := @t1; refine tF1 fun K Kp hK hKp => ?_; (try clear F); refine Gives.at (isOm (gt d1 j).1) ?_; apply hK; clear hK hKp K Kp
  have hsame2 : Same (m.setLoc n (ar d1 r)) ((m'.newLoc [vI 0, vI 0, vB false, .list .full [], .v (.string ⟨#[]⟩), .list .full []]).setLoc m'.nloc (gt d1 j).1.cells) := (hsame.newLoc _).setLoc hsame.lloc _
  have hgj := hrest j (Nat.le_refl _)
  by_cases hk : (gt d1 j).1.kind = 0
  · have F := (aand @hk @t6); refine tFa ?_; (try clear F)
    refine ⟨j + 1, ⟨by omega, by omega, i, d1, by omega, by simp [upd_lit, t5], by simp [upd_lit], by simp [upd_lit, t0], by simp [upd_lit, t1], hs, ?_, fun k hk => hrest k (by omega), hsame2, by simp [hnn, hloc]⟩, by omega⟩
    rw [take_succ_filter d j (by omega), hpre, if_neg (by rw [← hgj]; simp [nzG, hk])]; simp
  · have F := (aand @hk (aand @t6 (aand @t5 (aand @t0 (aand @i1 (aand @i2 (aand @hn3 (aand @hnn (aand @hloc (aand @ar_fit @ar_set)))))))))); refine tFa ?_; (try clear F)
    refine ⟨j + 1, ⟨by omega, by omega, i + 1, d1.setIfInBounds i (gt d1 j), by omega, by simp [upd_lit], by simp [upd_lit], by simp [upd_lit, t0], by simp [upd_lit, t1], by simp [hs], ?_, fun k hk => by rw [gt_set_ne _ _ _ _ (by omega)]; exact hrest k (by omega), ?_, by simp⟩, by omega⟩
    · rw [take_set d1 i _ i1, take_succ_filter d j (by omega), hpre, if_pos (by rw [← hgj]; simp [nzG, hk]), hgj]
    · have := hsame2.setBoth n (ar (d1.setIfInBounds i (gt d1 j)) r)
      rw [setLoc_setLoc] at this
      exact this
end Go.Proofs.YtgfadepkiejncaaGreat
namespace Go.Proofs.YtgfadepkiejncaaGreat
open Go.Ab Go.Sort
set_option maxHeartbeats 0
set_option maxRecDepth 100000
attribute [local irreducible] AW AList ACall DA AExit.then AExit.inBlock YCall DCall
def keepTo (d : Array GG) : Nat → List GG
  | 0 => []
  | a + 1 => keepTo d a ++ (if a = 0 ∨ cmpV (gt d a).1 (gt d (a - 1)).1 ≠ 0 then [gt d a] else [])
abbrev cloE : PV := .clo 145 [] []
theorem take_succ_gt (d : Array GG) (i : Nat) (h : i < d.size) : d.toList.take (i + 1) = d.toList.take i ++ [gt d i] := by
  rw [List.take_add_one, List.getElem?_eq_getElem (by simpa using h), gt_toList d i h]; rfl
theorem compactG {m : St} {n L cap : Nat} {d : Array GG} {r : List PV} (H : Arr m n L d r) (hr : ∀ k t, PV.scL k t r) (hLc : L ≤ cap) :
    ACall Tryz.prog 144 [mar n L cap, cloE] m (fun r' m' => ∃ (D : Array GG) (r2 : List PV), D.toList = keepTo d L ∧ (∀ k t, PV.scL k t r2) ∧ r' = .ret (mar n D.size cap) ∧ m' = m.setLoc n (ar D r2)) := by
  have hn := H.lt
  have hm := H.loc
  have hS := H.small
  have hL := H.size
  refine ACall.of_aw Tryz.func144 Tryz.ntmps144 rfl rfl (by simp) ?_
  have hend : d.toList = keepTo d L → d.toList = keepTo d L := id
  refine tS ?_
  by_cases h2 : (L : Int) < 2
  · have F := @h2; refine tFa ?_; (try clear F)
    refine Fin.here (r := mar n L cap) (by rfl) (.inr rfl) ⟨d, r, ?_, hr, by rw [hL], (setLoc_self hm).symm⟩
    rw [← List.take_of_length_le (l := d.toList) (i := L) (by simp; omega)]
    rcases (by omega : L = 0 ∨ L = 1) with rfl | rfl
    · rfl
    · rw [take_succ_gt d 0 (by omega)]; rfl
  have F := @h2; refine tFa ?_; (try clear F)
  refine AW.loop (ι := Nat) (fun k σ m' => 1 ≤ k ∧ k ≤ L ∧ σ 5 = vI k ∧ σ 0 = mar n L cap ∧ σ 1 = cloE ∧ keepTo d k = d.toList.take k ∧ m = m') (fun k => L - k) 1 ?_ ?_
  · refine ⟨Nat.le_refl _, by omega, by simp [upd_lit], by simp [upd_lit], by simp [upd_lit], ?_, rfl⟩
    rw [take_succ_gt d 0 (by omega)]; rfl
  rintro k σ m' ⟨hk1, hk2, t5, t0, t1, hkeep, rfl⟩
  by_cases hkl : k < L
  rotate_left
  · have hkL : k = L := by omega
    subst hkL
    have F := (aand @t5 (aand @t0 @hkl)); refine tFa ?_; (try clear F)
    refine Fin.here (r := mar n k cap) (by simp [ResP, ResL, resV, upd_lit, t0, show Tryz.f144.results.toList = [.tmp 4] from rfl]) (.inr rfl) ⟨d, r, ?_, hr, by rw [hL], (setLoc_self hm).symm⟩
    rw [hkeep, List.take_of_length_le (by simp; omega)]
  obtain ⟨p, hp⟩ : ∃ p, p + 1 = k := ⟨k - 1, by omega⟩
  have ep : (k : Int) - 1 = (p : Int) := by omega
  have k1 : k < d.size := by omega
  have k2 : (k : Int) < L := by omega
  have p1 : p < d.size := by omega
  have p2 : (p : Int) < L := by omega
  have heq := eqG (gt d k).1 (gt d p).1 (gt d k).2 (gt d p).2
  have F := (aand @t5 (aand @t0 @hkl)); refine tFa ?_; (try clear F)
  repeat (first | refine AW.seq ?_ | refine AW.block ?_ | refine AW.skip ?_ | refine AExit.norT ?_ | refine AExit.norB ?_ | refine AList.nil ?_)
  refine AW.draw [.S, .S, .S, .S, .R, .S, .S, .S, .S, .R, .R] (by decide +kernel) ?_; have F := (aand @t5 (aand @t0 (aand @t1 (aand @ep (aand @k1 (aand @k2 (aand @p1 (aand @p2 (aand @hn (aand @hm (aand @ar_get @ar_fit))))))))))); refine dS 0 ?_; refine dS 1 ?_; refine dS 2 ?_; refine dS 3 ?_; refine dR 4 ?_; refine dS 5 ?_; refine dS 6 ?_; refine dS 7 ?_; refine dS 8 ?_; refine dR 9 ?_; refine dC ((heq)) 10 ?_; (try clear F); first | refine dN ?_ | refine dB ?_ | refine DA.done (by decide +kernel) ?_
  have hks : keepTo d (k + 1) = keepTo d k ++ (if cmpV (gt d k).1 (gt d p).1 ≠ 0 then [gt d k] else []) := by
    rw [keepTo, show k - 1 = p from by omega]; simp [show k ≠ 0 from by omega]
  by_cases hc : cmpV (gt d k).1 (gt d p).1 = 0
  rotate_left
  · have F := (aand @hc @t5); refine tFa ?_; (try clear F)
    refine ⟨k + 1, ⟨by omega, by omega, by simp [upd_lit], by simp [upd_lit, t0], by simp [upd_lit, t1], ?_, rfl⟩, by omega⟩
    rw [hks, if_pos hc, take_succ_gt d k k1, hkeep]
  rw [if_neg (by simp [hc]), List.append_nil, hkeep] at hks
  have sl := sliceLo n L k cap (by omega) hLc (by omega)
  have F := (aand @hc (aand @t5 (aand @t0 @sl))); refine tFa ?_; (try clear F)
  obtain ⟨l2, hl2⟩ : ∃ l2, l2 = L - k := ⟨_, rfl⟩
  rw [← hl2]
  refine AW.loop (ι := Nat) (fun q σ m' => 1 ≤ q ∧ q ≤ l2 ∧ ∃ (i : Nat) (d1 : Array GG), i < k + q ∧ σ 7 = vI q ∧ σ 5 = vI i ∧ σ 6 = .marr n (k * 6) l2 (cap - k) ∧ σ 0 = mar n L cap ∧ σ 1 = cloE ∧ d1.size = L ∧ d1.toList.take i = keepTo d (k + q) ∧ (∀ x, k + q - 1 ≤ x → gt d1 x = gt d x) ∧ m' = m.setLoc n (ar d1 r)) (fun q => l2 - q) 1 ?_ ?_
  · exact ⟨Nat.le_refl _, by omega, k, d, by omega, by simp [upd_lit], by simp [upd_lit, t5], by simp [upd_lit, hl2], by simp [upd_lit, t0], by simp [upd_lit, t1], hL, hks.symm, fun _ _ => rfl, (setLoc_self hm).symm⟩
  clear t5 t0 t1 sl
  rintro q τ m2 ⟨hq1, hq2, i, d1, hi, t7, t5, t6, t0, t1, hs, hpre, hrest, rfl⟩
  by_cases hql : q < l2
  rotate_left
  · have hql2 : k + q = L := by omega
    rw [hql2] at hpre
    have F := (aand @t7 (aand @t6 @hql)); refine tFa ?_; (try clear F)
    have sl := sliceLo n L i cap (by omega) hLc (by omega)
    have sh := sliceHi n L i cap (by omega) hLc (by omega)
    have F := (aand @t5 (aand @t0 @sl)); refine tF ?_; (try clear F)
    refine AList.step rfl rfl ?_
    obtain ⟨z, hz1⟩ : ∃ z, tzero Tryz.prog 27 = some z := ⟨_, rfl⟩
    have hz6 : zcells z = [vI 0, vI 0, vB false, .list .full [], .v (.string ⟨#[]⟩), .list .full []] := by
      have : (tzero Tryz.prog 27).map zcells = some [vI 0, vI 0, vB false, .list .full [], .v (.string ⟨#[]⟩), .list .full []] := by kernel_rfl
      rw [hz1] at this
      simpa using this
    have hzl : (zcells z).length = 6 := by rw [hz6]; rfl
    have hzo : zOK z = true := by
      have : (tzero Tryz.prog 27).map zOK = some true := by kernel_rfl
      rw [hz1] at this; simpa using this
    refine op_clear (e := 27) (z := z) (n := n) (off := i * 6) (len := L - i) (cap := cap - i) (cs := ar d1 r) rfl rfl rfl rfl rfl hz1 hzo (by omega) (by simp [opv, upd_lit]) (by exact hn) (by simp) (by rw [ar_len, hzl]; omega) ?_
    have hzs : ∀ x ∈ zcells z, ∀ k t, PV.sc k t x := by
      rw [hz6]
      intro x hx k t
      simp at hx
      rcases hx with rfl | rfl | rfl | rfl | rfl <;> trivial
    simp only [put]
    rw [hzl, clear_ar d1 r _ i (by omega) (by rw [zrow_len, hs]), setLoc_setLoc]
    have hr2 : ∀ k t, PV.scL k t (zrow (zcells z) ((L - i) * 6) ++ r) := fun k t => scL_app _ _ _ _ (zrow_scL _ _ hzs k t) (hr k t)
    generalize zrow (zcells z) ((L - i) * 6) ++ r = r2 at *
    have hDs : (d1.toList.take i).toArray.size = i := by simp; omega
    have hDl : (d1.toList.take i).toArray.toList = keepTo d L := by rw [List.toList_toArray, hpre]
    generalize (d1.toList.take i).toArray = D at *
    have F := (aand @t0 (aand @t5 @sh)); refine tF ?_; (try clear F)
    exact Fin.here (r := mar n i cap) (by simp [ResP, ResL, resV, upd_lit, show Tryz.f144.results.toList = [.tmp 4] from rfl]) (.inr rfl) ⟨D, r2, hDl, hr2, by rw [hDs], rfl⟩
  obtain ⟨a, ha⟩ : ∃ a, a = k + q := ⟨_, rfl⟩
  obtain ⟨q0, hq0⟩ : ∃ q0, q0 + 1 = q := ⟨q - 1, by omega⟩
  obtain ⟨b, hb⟩ : ∃ b, b = k + q0 := ⟨_, rfl⟩
  have eq0 : (q : Int) - 1 = (q0 : Int) := by omega
  have a1 : a < d1.size := by omega
  have b1 : b < d1.size := by omega
  have i1 : i < d1.size := by omega
  have i2 : (i : Int) < L := by omega
  have q2 : (q : Int) < l2 := by omega
  have q3 : (q0 : Int) < l2 := by omega
  have oa : k * 6 + q * 6 = a * 6 := by omega
  have ob : k * 6 + q0 * 6 = b * 6 := by omega
  have heq := eqG (gt d1 a).1 (gt d1 b).1 (gt d1 a).2 (gt d1 b).2
  have F := (aand @t7 (aand @t6 @hql)); refine tFa ?_; (try clear F)
  repeat (first | refine AW.seq ?_ | refine AW.block ?_ | refine AW.skip ?_ | refine AExit.norT ?_ | refine AExit.norB ?_ | refine AList.nil ?_)
  refine AW.draw [.S, .S, .S, .S, .R, .S, .S, .S, .S, .R, .R, .S] (by decide +kernel) ?_; have F := (aand @t7 (aand @t6 (aand @t1 (aand @eq0 (aand @q2 (aand @q3 (aand @oa (aand @ob (aand @a1 (aand @b1 (aand @hn (aand @ar_get @ar_fit)))))))))))); refine dS 0 ?_; refine dS 1 ?_; refine dS 2 ?_; refine dS 3 ?_; refine dR 4 ?_; refine dS 5 ?_; refine dS 6 ?_; refine dS 7 ?_; refine dS 8 ?_; refine dR 9 ?_; refine dC ((heq)) 10 ?_; refine dS 11 ?_; (try clear F); first | refine dN ?_ | refine dB ?_ | refine DA.done (by decide +kernel) ?_
  have hga := hrest a (by omega)
  have hgb := hrest b (by omega)
  have hka : keepTo d (a + 1) = keepTo d a ++ (if cmpV (gt d a).1 (gt d b).1 ≠ 0 then [gt d a] else []) := by
    rw [keepTo, show a - 1 = b from by omega]; simp [show a ≠ 0 from by omega]
  rw [← ha] at hpre
  by_cases hc2 : cmpV (gt d1 a).1 (gt d1 b).1 = 0
  · have F := (aand @hc2 @t7); refine tFa ?_; (try clear F)
    refine ⟨q + 1, ⟨by omega, by omega, i, d1, by omega, by simp [upd_lit], by simp [upd_lit, t5], by simp [upd_lit, t6], by simp [upd_lit, t0], by simp [upd_lit, t1], hs, ?_, fun x hx => hrest x (by omega), rfl⟩, by omega⟩
    rw [show k + (q + 1) = a + 1 from by omega, hka, if_neg (by rw [← hga, ← hgb]; simp [hc2]), List.append_nil]; exact hpre
  · have F := (aand @hc2 (aand @t7 (aand @t5 (aand @t6 (aand @t0 (aand @q2 (aand @oa (aand @a1 (aand @i1 (aand @i2 (aand @hn (aand @ar_get (aand @ar_fit (aand @ar_set @setLoc_setLoc)))))))))))))); refine tFa ?_; (try clear F)
    refine ⟨q + 1, ⟨by omega, by omega, i + 1, d1.setIfInBounds i (gt d1 a), by omega, by simp [upd_lit], by simp [upd_lit], by simp [upd_lit, t6], by simp [upd_lit, t0], by simp [upd_lit, t1], by simp [hs], ?_, fun x hx => by rw [gt_set_ne _ _ _ _ (by omega)]; exact hrest x (by omega), rfl⟩, by omega⟩
    rw [show k + (q + 1) = a + 1 from by omega, hka, if_pos (by rw [← hga, ← hgb]; exact hc2), take_set d1 i _ i1, hpre, hga]
end Go.Proofs.YtgfadepkiejncaaGreat
