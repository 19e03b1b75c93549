/- Texts of the proof, part Le: they prove nothing by themselves that is claimed. -/
import Derived.Test.YtgfadepkiejncaaGreatLd
import Derived.Test.YtgfadepkiejncaaGreatLc
import Derived.Test.YtgfadepkiejncaaGreatLb
set_option linter.unusedVariables false
set_option linter.unusedSimpArgs false
namespace Go.Proofs.YtgfadepkiejncaaGreat
open Go.Ab
set_option maxHeartbeats 0
def Inc (l : List GV) : Prop := l.Pairwise (fun x y => cmpV x y < 0)
def goods (l : List GV) : Prop := ∀ x ∈ l, good x
theorem goods.tail {x : GV} {l : List GV} (h : goods (x :: l)) : good x ∧ goods l := ⟨h x (by simp), fun y hy => h y (by simp [hy])⟩
theorem cmp_irr (a : GV) : ¬ cmpV a a < 0 := by rw [cmp_self]; omega
theorem cmp_asym {a b : GV} (h : cmpV a b < 0) : ¬ cmpV b a < 0 := by have := cmp_neg a b; omega
theorem incr_some : ∀ (p : GV) (l : List GV), good p → goods l → (incr (some p) l ↔ Inc (p :: l))
  | p, [], _, _ => by simp [incr, Inc]
  | p, v :: l, hp, hl => by
    obtain ⟨hv, hl'⟩ := hl.tail
    have ih := incr_some v l hv hl'
    simp only [incr]
    rw [ih]
    constructor
    · rintro ⟨h1, h2⟩
      refine List.pairwise_cons.2 ⟨fun y hy => ?_, h2⟩
      rcases List.mem_cons.1 hy with rfl | hy
      · exact h1
      · exact cmp_trans p v y hp hv (hl' y hy) h1 ((List.pairwise_cons.1 h2).1 y hy)
    · intro h
      exact ⟨(List.pairwise_cons.1 h).1 v (by simp), (List.pairwise_cons.1 h).2⟩
theorem incr_none {l : List GV} (hl : goods l) : incr none l ↔ Inc l := by
  cases l with
  | nil => simp [incr, Inc]
  | cons v l => simp only [incr]; exact incr_some v l hl.tail.1 hl.tail.2
theorem Inc.tail {x : GV} {l : List GV} (h : Inc (x :: l)) : (∀ y ∈ l, cmpV x y < 0) ∧ Inc l := List.pairwise_cons.1 h
theorem Inc_unique : ∀ (l l' : List GV), Inc l → Inc l' → (∀ x, x ∈ l ↔ x ∈ l') → l = l'
  | [], [], _, _, _ => rfl
  | [], y :: t, _, _, h => by have := (h y).2 (by simp); simp at this
  | x :: l, [], _, _, h => by have := (h x).1 (by simp); simp at this
  | x :: l, y :: t, h1, h2, h => by
    obtain ⟨a1, a2⟩ := h1.tail
    obtain ⟨b1, b2⟩ := h2.tail
    have e : x = y := by
      rcases List.mem_cons.1 ((h x).1 (by simp)) with e | hx
      · exact e
      rcases List.mem_cons.1 ((h y).2 (by simp)) with e | hy
      · exact e.symm
      · exact absurd (b1 x hx) (cmp_asym (a1 y hy))
    subst e
    rw [Inc_unique l t a2 b2 fun z => ?_]
    constructor
    · intro hz
      rcases List.mem_cons.1 ((h z).1 (by simp [hz])) with e | hz'
      · subst e; exact absurd (a1 z hz) (cmp_irr z)
      · exact hz'
    · intro hz
      rcases List.mem_cons.1 ((h z).2 (by simp [hz])) with e | hz'
      · subst e; exact absurd (b1 z hz) (cmp_irr z)
      · exact hz'
def one (b : Bool) (x : GV) : List GV := if b then [x] else []
def mrg (st : Bool → Bool → Bool) : List GV → List GV → List GV
  | [], [] => []
  | [], y :: b => one (st false true) y ++ mrg st [] b
  | x :: a, [] => one (st true false) x ++ mrg st a []
  | x :: a, y :: b => if cmpV x y < 0 then one (st true false) x ++ mrg st a (y :: b) else if 0 < cmpV x y then one (st false true) y ++ mrg st (x :: a) b else one (st true true) y ++ mrg st a b
termination_by a b => a.length + b.length
theorem mem_one {b : Bool} {x z : GV} : z ∈ one b x ↔ z = x ∧ b = true := by cases b <;> simp [one]
theorem mem_mrg (st : Bool → Bool → Bool) : ∀ (a b : List GV), Inc a → Inc b → goods a → goods b → ∀ z, z ∈ mrg st a b ↔ ∃ p q : Bool, (p = true ↔ z ∈ a) ∧ (q = true ↔ z ∈ b) ∧ (p || q) = true ∧ st p q = true := by
  intro a b
  fun_induction mrg st a b with
  | case1 =>
    intro _ _ _ _ z
    simp only [List.not_mem_nil, iff_false, false_iff, Bool.not_eq_true]
    rintro ⟨p, q, rfl, rfl, h, _⟩
    cases h
  | case2 y b ih =>
    intro ha hb ga gb z
    obtain ⟨b1, b2⟩ := hb.tail
    rw [List.mem_append, mem_one, ih ha b2 ga gb.tail.2]
    constructor
    · rintro (⟨rfl, h⟩ | ⟨p, q, hp, hq, h1, h2⟩)
      · exact ⟨false, true, by simp, by simp, rfl, h⟩
      · have hp' : p = false := by cases p with | false => rfl | true => have := hp.1 rfl; simp at this
        subst hp'
        simp at h1
        subst h1
        exact ⟨false, true, by simp, by simp [hq.1 rfl], rfl, h2⟩
    · rintro ⟨p, q, hp, hq, h1, h2⟩
      have hp' : p = false := by cases p with | false => rfl | true => have := hp.1 rfl; simp at this
      subst hp'
      simp at h1
      subst h1
      rcases List.mem_cons.1 (hq.1 rfl) with rfl | hz
      · exact .inl ⟨rfl, h2⟩
      · exact .inr ⟨false, true, by simp, by simp [hz], rfl, h2⟩
  | case3 x a ih =>
    intro ha hb ga gb z
    obtain ⟨a1, a2⟩ := ha.tail
    rw [List.mem_append, mem_one, ih a2 hb ga.tail.2 gb]
    constructor
    · rintro (⟨rfl, h⟩ | ⟨p, q, hp, hq, h1, h2⟩)
      · exact ⟨true, false, by simp, by simp, rfl, h⟩
      · have hq' : q = false := by cases q with | false => rfl | true => have := hq.1 rfl; simp at this
        subst hq'
        simp at h1
        subst h1
        exact ⟨true, false, by simp [hp.1 rfl], by simp, rfl, h2⟩
    · rintro ⟨p, q, hp, hq, h1, h2⟩
      have hq' : q = false := by cases q with | false => rfl | true => have := hq.1 rfl; simp at this
      subst hq'
      simp at h1
      subst h1
      rcases List.mem_cons.1 (hp.1 rfl) with rfl | hz
      · exact .inl ⟨rfl, h2⟩
      · exact .inr ⟨true, false, by simp [hz], by simp, rfl, h2⟩
  | case4 x a y b hlt ih =>
    intro ha hb ga gb z
    obtain ⟨a1, a2⟩ := ha.tail
    obtain ⟨b1, b2⟩ := hb.tail
    have gx := ga.tail.1
    have hy : ∀ w ∈ y :: b, cmpV x w < 0 := fun w hw => by
      rcases List.mem_cons.1 hw with rfl | hw'
      · exact hlt
      · exact cmp_trans x y w gx gb.tail.1 (gb w hw) hlt (b1 w hw')
    have hxb : x ∉ y :: b := fun h => cmp_irr x (hy x h)
    rw [List.mem_append, mem_one, ih a2 hb ga.tail.2 gb]
    constructor
    · rintro (⟨rfl, h⟩ | ⟨p, q, hp, hq, h1, h2⟩)
      · exact ⟨true, false, by simp, by simpa using hxb, rfl, h⟩
      · have hzx : z ≠ x := by
          rintro rfl
          cases p with
          | true => exact cmp_irr z (a1 z (hp.1 rfl))
          | false => simp at h1; exact hxb (hq.1 h1)
        exact ⟨p, q, by simp [hp, hzx], hq, h1, h2⟩
    · rintro ⟨p, q, hp, hq, h1, h2⟩
      by_cases hzx : z = x
      · subst hzx
        have hp' : p = true := hp.2 (by simp)
        have hq' : q = false := by cases q with | false => rfl | true => exact absurd (hq.1 rfl) hxb
        subst hp' hq'
        exact .inl ⟨rfl, h2⟩
      · exact .inr ⟨p, q, by rw [hp]; simp [hzx], hq, h1, h2⟩
  | case5 x a y b hnl hgt ih =>
    intro ha hb ga gb z
    obtain ⟨a1, a2⟩ := ha.tail
    obtain ⟨b1, b2⟩ := hb.tail
    have hyx : cmpV y x < 0 := by have := cmp_neg x y; omega
    have hx : ∀ w ∈ x :: a, cmpV y w < 0 := fun w hw => by
      rcases List.mem_cons.1 hw with rfl | hw'
      · exact hyx
      · exact cmp_trans y x w gb.tail.1 ga.tail.1 (ga w hw) hyx (a1 w hw')
    have hya : y ∉ x :: a := fun h => cmp_irr y (hx y h)
    rw [List.mem_append, mem_one, ih ha b2 ga gb.tail.2]
    constructor
    · rintro (⟨rfl, h⟩ | ⟨p, q, hp, hq, h1, h2⟩)
      · exact ⟨false, true, by simpa using hya, by simp, rfl, h⟩
      · have hzy : z ≠ y := by
          rintro rfl
          cases q with
          | true => exact cmp_irr z (b1 z (hq.1 rfl))
          | false => simp at h1; exact hya (hp.1 h1)
        exact ⟨p, q, hp, by simp [hq, hzy], h1, h2⟩
    · rintro ⟨p, q, hp, hq, h1, h2⟩
      by_cases hzy : z = y
      · subst hzy
        have hq' : q = true := hq.2 (by simp)
        have hp' : p = false := by cases p with | false => rfl | true => exact absurd (hp.1 rfl) hya
        subst hp' hq'
        exact .inl ⟨rfl, h2⟩
      · exact .inr ⟨p, q, hp, by rw [hq]; simp [hzy], h1, h2⟩
  | case6 x a y b hnl hng ih =>
    intro ha hb ga gb z
    obtain ⟨a1, a2⟩ := ha.tail
    obtain ⟨b1, b2⟩ := hb.tail
    have e := cmp_zero x y ga.tail.1 gb.tail.1 (by omega)
    subst e
    rw [List.mem_append, mem_one, ih a2 b2 ga.tail.2 gb.tail.2]
    constructor
    · rintro (⟨rfl, h⟩ | ⟨p, q, hp, hq, h1, h2⟩)
      · exact ⟨true, true, by simp, by simp, rfl, h⟩
      · have hzx : z ≠ x := by
          rintro rfl
          cases p with
          | true => exact cmp_irr z (a1 z (hp.1 rfl))
          | false => simp at h1; exact cmp_irr z (b1 z (hq.1 h1))
        exact ⟨p, q, by simp [hp, hzx], by simp [hq, hzx], h1, h2⟩
    · rintro ⟨p, q, hp, hq, h1, h2⟩
      by_cases hzx : z = x
      · subst hzx
        have hp' : p = true := hp.2 (by simp)
        have hq' : q = true := hq.2 (by simp)
        subst hp' hq'
        exact .inl ⟨rfl, h2⟩
      · exact .inr ⟨p, q, by rw [hp]; simp [hzx], by rw [hq]; simp [hzx], h1, h2⟩
theorem mrg_sub {st : Bool → Bool → Bool} {a b : List GV} (ha : Inc a) (hb : Inc b) (ga : goods a) (gb : goods b) {z : GV} (h : z ∈ mrg st a b) : z ∈ a ∨ z ∈ b := by
  obtain ⟨p, q, hp, hq, h1, _⟩ := (mem_mrg st a b ha hb ga gb z).1 h
  cases p with
  | true => exact .inl (hp.1 rfl)
  | false => simp at h1; exact .inr (hq.1 h1)
theorem mrg_goods {st : Bool → Bool → Bool} {a b : List GV} (ha : Inc a) (hb : Inc b) (ga : goods a) (gb : goods b) : goods (mrg st a b) := fun z hz => (mrg_sub ha hb ga gb hz).elim (ga z) (gb z)
theorem one_Inc {b : Bool} {x : GV} {l : List GV} (h : ∀ z ∈ l, cmpV x z < 0) (hl : Inc l) : Inc (one b x ++ l) := by
  cases b with
  | false => exact hl
  | true => exact List.pairwise_cons.2 ⟨h, hl⟩
theorem mrg_Inc (st : Bool → Bool → Bool) : ∀ (a b : List GV), Inc a → Inc b → goods a → goods b → Inc (mrg st a b) := by
  intro a b
  fun_induction mrg st a b with
  | case1 => intro _ _ _ _; exact List.Pairwise.nil
  | case2 y b ih =>
    intro ha hb ga gb
    obtain ⟨b1, b2⟩ := hb.tail
    refine one_Inc (fun z hz => ?_) (ih ha b2 ga gb.tail.2)
    rcases mrg_sub ha b2 ga gb.tail.2 hz with h | h
    · simp at h
    · exact b1 z h
  | case3 x a ih =>
    intro ha hb ga gb
    obtain ⟨a1, a2⟩ := ha.tail
    refine one_Inc (fun z hz => ?_) (ih a2 hb ga.tail.2 gb)
    rcases mrg_sub a2 hb ga.tail.2 gb hz with h | h
    · exact a1 z h
    · simp at h
  | case4 x a y b hlt ih =>
    intro ha hb ga gb
    obtain ⟨a1, a2⟩ := ha.tail
    obtain ⟨b1, b2⟩ := hb.tail
    refine one_Inc (fun z hz => ?_) (ih a2 hb ga.tail.2 gb)
    rcases mrg_sub a2 hb ga.tail.2 gb hz with h | h
    · exact a1 z h
    · rcases List.mem_cons.1 h with rfl | h'
      · exact hlt
      · exact cmp_trans x y z ga.tail.1 gb.tail.1 (gb z h) hlt (b1 z h')
  | case5 x a y b hnl hgt ih =>
    intro ha hb ga gb
    obtain ⟨a1, a2⟩ := ha.tail
    obtain ⟨b1, b2⟩ := hb.tail
    have hyx : cmpV y x < 0 := by have := cmp_neg x y; omega
    refine one_Inc (fun z hz => ?_) (ih ha b2 ga gb.tail.2)
    rcases mrg_sub ha b2 ga gb.tail.2 hz with h | h
    · rcases List.mem_cons.1 h with rfl | h'
      · exact hyx
      · exact cmp_trans y x z gb.tail.1 ga.tail.1 (ga z h) hyx (a1 z h')
    · exact b1 z h
  | case6 x a y b hnl hng ih =>
    intro ha hb ga gb
    obtain ⟨a1, a2⟩ := ha.tail
    obtain ⟨b1, b2⟩ := hb.tail
    have e := cmp_zero x y ga.tail.1 gb.tail.1 (by omega)
    subst e
    refine one_Inc (fun z hz => ?_) (ih a2 b2 ga.tail.2 gb.tail.2)
    rcases mrg_sub a2 b2 ga.tail.2 gb.tail.2 hz with h | h
    · exact a1 z h
    · exact b1 z h
def mrgS : List GV → List GV → List GV
  | a, [] => a
  | [], b => b
  | x :: a, y :: b => if cmpV x y ≤ 0 then x :: mrgS a (y :: b) else y :: mrgS (x :: a) b
termination_by a b => a.length + b.length
def srtF (l : List GV) : List GV :=
  if h : l.length < 2 then l else mrgS (srtF (l.take (l.length / 2))) (srtF (l.drop (l.length / 2)))
termination_by l.length
decreasing_by
  · simp; omega
  · simp; omega
def Srt (l : List GV) : Prop := l.Pairwise (fun x y => cmpV x y ≤ 0)
theorem mem_mrgS : ∀ (a b : List GV) (z : GV), z ∈ mrgS a b ↔ z ∈ a ∨ z ∈ b := by
  intro a b
  fun_induction mrgS a b with
  | case1 a => simp
  | case2 b h => simp
  | case3 x a y b h ih => intro z; simp only [List.mem_cons, ih]; grind
  | case4 x a y b h ih => intro z; simp only [List.mem_cons, ih]; grind
theorem cmp_le_trans {a b c : GV} (ha : good a) (hb : good b) (hc : good c) (h1 : cmpV a b ≤ 0) (h2 : cmpV b c ≤ 0) : cmpV a c ≤ 0 := by
  rcases Int.lt_or_eq_of_le h1 with h1 | h1
  · rcases Int.lt_or_eq_of_le h2 with h2 | h2
    · have := cmp_trans a b c ha hb hc h1 h2; omega
    · have := cmp_zero b c hb hc h2; subst this; omega
  · have := cmp_zero a b ha hb h1; subst this; exact h2
theorem mrgS_Srt : ∀ (a b : List GV), Srt a → Srt b → goods a → goods b → Srt (mrgS a b) := by
  intro a b
  fun_induction mrgS a b with
  | case1 a => intro h _ _ _; exact h
  | case2 b h => intro _ h _ _; exact h
  | case3 x a y b h ih =>
    intro ha hb ga gb
    obtain ⟨a1, a2⟩ := List.pairwise_cons.1 ha
    obtain ⟨b1, b2⟩ := List.pairwise_cons.1 hb
    refine List.pairwise_cons.2 ⟨fun z hz => ?_, ih a2 hb ga.tail.2 gb⟩
    rcases (mem_mrgS _ _ z).1 hz with hz | hz
    · exact a1 z hz
    · rcases List.mem_cons.1 hz with rfl | hz'
      · exact h
      · exact cmp_le_trans ga.tail.1 gb.tail.1 (gb z hz) h (b1 z hz')
  | case4 x a y b h ih =>
    intro ha hb ga gb
    obtain ⟨a1, a2⟩ := List.pairwise_cons.1 ha
    obtain ⟨b1, b2⟩ := List.pairwise_cons.1 hb
    have hyx : cmpV y x ≤ 0 := by have := cmp_neg x y; omega
    refine List.pairwise_cons.2 ⟨fun z hz => ?_, ih ha b2 ga gb.tail.2⟩
    rcases (mem_mrgS _ _ z).1 hz with hz | hz
    · rcases List.mem_cons.1 hz with rfl | hz'
      · exact hyx
      · exact cmp_le_trans gb.tail.1 ga.tail.1 (ga z hz) hyx (a1 z hz')
    · exact b1 z hz
theorem mem_srtF : ∀ (l : List GV) (z : GV), z ∈ srtF l ↔ z ∈ l := by
  intro l
  fun_induction srtF l with
  | case1 l h => intro z; rfl
  | case2 l h ih1 ih2 =>
    intro z
    rw [mem_mrgS, ih1, ih2, ← List.mem_append, List.take_append_drop]
theorem srtF_Srt : ∀ (l : List GV), goods l → Srt (srtF l) := by
  intro l
  fun_induction srtF l with
  | case1 l h =>
    intro _
    match l, h with
    | [], _ => exact List.Pairwise.nil
    | [x], _ => exact List.pairwise_singleton _ _
  | case2 l h ih1 ih2 =>
    intro g
    have g1 : goods (l.take (l.length / 2)) := fun x hx => g x (List.mem_of_mem_take hx)
    have g2 : goods (l.drop (l.length / 2)) := fun x hx => g x (List.mem_of_mem_drop hx)
    exact mrgS_Srt _ _ (ih1 g1) (ih2 g2) (fun x hx => g1 x ((mem_srtF _ x).1 hx)) (fun x hx => g2 x ((mem_srtF _ x).1 hx))
theorem mrgS_len : ∀ a b, (mrgS a b).length = a.length + b.length := by
  intro a b
  fun_induction mrgS a b with
  | case1 a => simp
  | case2 b h => simp
  | case3 x a y b h ih => simp [ih]; omega
  | case4 x a y b h ih => simp [ih]; omega
theorem srtF_len : ∀ l : List GV, (srtF l).length = l.length := by
  intro l
  fun_induction srtF l with
  | case1 l h => rfl
  | case2 l h ih1 ih2 => rw [mrgS_len, ih1, ih2]; simp; omega
def dd : List GV → List GV → List GV
  | out, [] => out
  | out, x :: l => dd (if x.kind ≠ 0 ∧ (out = [] ∨ cmpV (out.getLast?.getD default) x ≠ 0) then out ++ [x] else out) l
def setF (l : List GV) : List GV := dd [] (srtF l)
theorem dd_spec : ∀ (l out : List GV), Srt l → goods l → goods out → Inc out → (∀ x ∈ out, ∀ y ∈ l, cmpV x y ≤ 0) → Inc (dd out l) ∧ ∀ z, z ∈ dd out l ↔ z ∈ out ∨ (z ∈ l ∧ z.kind ≠ 0)
  | [], out, _, _, _, ho, _ => ⟨ho, by simp [dd]⟩
  | x :: l, out, hs, gl, go, ho, hle => by
    obtain ⟨s1, s2⟩ := List.pairwise_cons.1 hs
    obtain ⟨gx, gl'⟩ := gl.tail
    simp only [dd]
    by_cases hc : x.kind ≠ 0 ∧ (out = [] ∨ cmpV (out.getLast?.getD default) x ≠ 0)
    · rw [if_pos hc]
      have hlt : ∀ y ∈ out, cmpV y x < 0 := by
        intro y hy
        have h1 := hle y hy x (by simp)
        rcases Int.lt_or_eq_of_le h1 with h | h
        · exact h
        exfalso
        have e := cmp_zero y x (go y hy) gx h
        subst e
        obtain ⟨i, hi, e⟩ := List.getElem_of_mem hy
        have hne : out ≠ [] := List.ne_nil_of_mem hy
        rcases hc.2 with hc | hc
        · exact hne hc
        obtain ⟨w, hw⟩ : ∃ w, out.getLast? = some w := by
          cases h : out.getLast? with
          | none => simp at h; exact absurd h hne
          | some w => exact ⟨w, rfl⟩
        rw [hw] at hc
        simp only [Option.getD_some] at hc
        have hwm : w ∈ out := List.mem_of_getLast? hw
        have hwl := hle w hwm y (by simp)
        have hwlt : cmpV w y < 0 := by omega
        -- w is the last of out, and y is in out
        rw [List.getLast?_eq_getElem?] at hw
        obtain ⟨hk, ew⟩ := List.getElem?_eq_some_iff.1 hw
        rcases Nat.lt_or_ge i (out.length - 1) with hlt | hge
        · have := List.pairwise_iff_getElem.1 ho i (out.length - 1) hi hk hlt
          rw [e, ew] at this
          exact cmp_asym this hwlt
        · have : i = out.length - 1 := by omega
          subst this
          rw [e] at ew
          rw [ew] at hwlt
          exact cmp_irr _ hwlt
      have ho' : Inc (out ++ [x]) := List.pairwise_append.2 ⟨ho, List.pairwise_singleton _ _, fun y hy z hz => by simp at hz; subst hz; exact hlt y hy⟩
      obtain ⟨r1, r2⟩ := dd_spec l (out ++ [x]) s2 gl' (fun y hy => by
        rcases List.mem_append.1 hy with h | h
        · exact go y h
        · simp at h; subst h; exact gx) ho' (fun y hy z hz => by
        rcases List.mem_append.1 hy with h | h
        · exact hle y h z (by simp [hz])
        · simp at h; subst h; exact s1 z hz)
      refine ⟨r1, fun z => ?_⟩
      rw [r2, List.mem_append]
      simp only [List.mem_cons, List.not_mem_nil, or_false]
      constructor
      · rintro ((h | rfl) | ⟨h, h'⟩)
        · exact .inl h
        · exact .inr ⟨.inl rfl, hc.1⟩
        · exact .inr ⟨.inr h, h'⟩
      · rintro (h | ⟨rfl | h, h'⟩)
        · exact .inl (.inl h)
        · exact .inl (.inr rfl)
        · exact .inr ⟨h, h'⟩
    · rw [if_neg hc]
      obtain ⟨r1, r2⟩ := dd_spec l out s2 gl' go ho (fun y hy z hz => hle y hy z (by simp [hz]))
      refine ⟨r1, fun z => ?_⟩
      rw [r2]
      simp only [List.mem_cons]
      constructor
      · rintro (h | ⟨h, h'⟩)
        · exact .inl h
        · exact .inr ⟨.inr h, h'⟩
      · rintro (h | ⟨rfl | h, h'⟩)
        · exact .inl h
        · by_cases hx : out = []
          · exact absurd ⟨h', .inl hx⟩ hc
          · have hz : cmpV (out.getLast?.getD default) z = 0 := by
              by_cases q : cmpV (out.getLast?.getD default) z = 0
              · exact q
              · exact absurd ⟨h', .inr q⟩ hc
            obtain ⟨w, hw⟩ : ∃ w, out.getLast? = some w := by
              cases h : out.getLast? with
              | none => simp at h; exact absurd h hx
              | some w => exact ⟨w, rfl⟩
            rw [hw] at hz
            simp only [Option.getD_some] at hz
            have hwm : w ∈ out := List.mem_of_getLast? hw
            have := cmp_zero w z (go w hwm) gx hz
            subst this
            exact .inl hwm
        · exact .inr ⟨h, h'⟩
theorem setF_spec (l : List GV) (g : goods l) : Inc (setF l) ∧ goods (setF l) ∧ ∀ z, z ∈ setF l ↔ z ∈ l ∧ z.kind ≠ 0 := by
  obtain ⟨h1, h2⟩ := dd_spec (srtF l) [] (srtF_Srt l g) (fun x hx => g x ((mem_srtF _ x).1 hx)) (fun x hx => by simp at hx) List.Pairwise.nil (fun x hx => by simp at hx)
  have h3 : ∀ z, z ∈ setF l ↔ z ∈ l ∧ z.kind ≠ 0 := fun z => by
    rw [setF, h2]; simp [mem_srtF]
  exact ⟨h1, fun z hz => g z ((h3 z).1 hz).1, h3⟩
theorem setF_eq {l s : List GV} (g : goods l) (hs : Inc s) (h : ∀ z, z ∈ s ↔ z ∈ l ∧ z.kind ≠ 0) : s = setF l := by
  obtain ⟨h1, _, h3⟩ := setF_spec l g
  exact Inc_unique s _ hs h1 fun z => by rw [h, h3]
mutual
theorem walk_fmd : ∀ v : GV, fmd v → ∀ x ∈ walkV v, fmd x
  | .mk k n ng a s l, h, x, hx => by
    rw [walkV, List.mem_cons] at hx
    rcases hx with rfl | hx
    · exact h
    · exact walkL_fmd l h.2.2 x hx
theorem walkL_fmd : ∀ l : List GV, fmdL l → ∀ x ∈ walkL l, fmd x
  | [], _, x, hx => by simp [walkL] at hx
  | v :: l, h, x, hx => by
    rw [walkL, List.mem_append] at hx
    rcases hx with hx | hx
    · exact walk_fmd v h.1 x hx
    · exact walkL_fmd l h.2 x hx
end
end Go.Proofs.YtgfadepkiejncaaGreat
namespace Go.Proofs.YtgfadepkiejncaaGreat
open Go.Ab Go.Sort
set_option maxHeartbeats 0
set_option maxRecDepth 100000
theorem keepTo_spec (R : Array GG) (L : Nat) (hL : R.size = L) (hs : SortedIn ltG 0 L R) : ∀ a, a ≤ L →
    Inc ((keepTo R a).map (·.1)) ∧ (∀ z : GG, z ∈ keepTo R a ↔ ∃ k, k < a ∧ gt R k = z)
  | 0, _ => ⟨List.Pairwise.nil, fun z => by simp [keepTo]⟩
  | a + 1, h => by
    obtain ⟨h1, h2⟩ := keepTo_spec R L hL hs a (by omega)
    have mono : ∀ i j, i ≤ j → j < L → cmpV (gt R i).1 (gt R j).1 ≤ 0 := by
      intro i j hij hj
      by_cases e : i = j
      · subst e; rw [cmp_self]; omega
      · have := hs i j (by omega) (by omega) hj
        have h3 : ¬ cmpV (gt R j).1 (gt R i).1 < 0 := by
          intro q; have : ltG R[j]! R[i]! = true := by simp [gt_eq, ltG, q]
          simp_all
        have := cmp_neg (gt R i).1 (gt R j).1
        omega
    rw [keepTo]
    by_cases hc : a = 0 ∨ cmpV (gt R a).1 (gt R (a - 1)).1 ≠ 0
    · rw [if_pos hc]
      refine ⟨?_, fun z => ?_⟩
      · rw [List.map_append]
        refine List.pairwise_append.2 ⟨h1, List.pairwise_singleton _ _, ?_⟩
        intro x hx y hy
        simp at hy
        subst hy
        obtain ⟨w, hw, rfl⟩ := List.mem_map.1 hx
        obtain ⟨k, hk, rfl⟩ := (h2 w).1 hw
        have ha : a ≠ 0 := by omega
        have hc2 : cmpV (gt R a).1 (gt R (a - 1)).1 ≠ 0 := hc.resolve_left ha
        have m1 := mono k (a - 1) (by omega) (by omega)
        have m2 := mono (a - 1) a (by omega) (by omega)
        have m3 := cmp_neg (gt R (a - 1)).1 (gt R a).1
        have m4 : cmpV (gt R (a - 1)).1 (gt R a).1 < 0 := by omega
        by_cases e : cmpV (gt R k).1 (gt R (a - 1)).1 = 0
        · rw [cmp_zero _ _ (gt R k).2 (gt R (a - 1)).2 e]; exact m4
        · exact cmp_trans _ _ _ (gt R k).2 (gt R (a - 1)).2 (gt R a).2 (by omega) m4
      · rw [List.mem_append, h2]
        constructor
        · rintro (⟨k, hk, e⟩ | e)
          · exact ⟨k, by omega, e⟩
          · simp at e; exact ⟨a, by omega, e.symm⟩
        · rintro ⟨k, hk, e⟩
          by_cases hka : k = a
          · subst hka; exact .inr (by simp [e])
          · exact .inl ⟨k, by omega, e⟩
    · rw [if_neg hc, List.append_nil]
      refine ⟨h1, fun z => ?_⟩
      rw [h2]
      have ha : a ≠ 0 := fun e => hc (.inl e)
      have hc2 : cmpV (gt R a).1 (gt R (a - 1)).1 = 0 := by
        by_cases e : cmpV (gt R a).1 (gt R (a - 1)).1 = 0
        · exact e
        · exact absurd (.inr e) hc
      have he : gt R a = gt R (a - 1) := Subtype.ext (cmp_zero _ _ (gt R a).2 (gt R (a - 1)).2 hc2)
      constructor
      · rintro ⟨k, hk, e⟩; exact ⟨k, by omega, e⟩
      · rintro ⟨k, hk, e⟩
        by_cases hka : k = a
        · subst hka; exact ⟨k - 1, by omega, by rw [← he]; exact e⟩
        · exact ⟨k, by omega, e⟩
theorem perm_mem {d R : Array GG} (h : PermIn 0 d.size d R) (z : GG) : z ∈ R.toList ↔ z ∈ d.toList := by
  have h3 := h.2.2
  have e1 : (d.extract 0 d.size).toList = d.toList := by simp
  have e2 : (R.extract 0 d.size).toList = R.toList := by rw [← h.1]; simp
  rw [e1, e2] at h3
  exact h3.mem_iff
theorem mem_gt (R : Array GG) (z : GG) : z ∈ R.toList ↔ ∃ k, k < R.size ∧ gt R k = z := by
  rw [List.mem_iff_getElem]
  constructor
  · rintro ⟨k, hk, e⟩; exact ⟨k, by simpa using hk, by rw [← gt_toList R k (by simpa using hk)]; exact e⟩
  · rintro ⟨k, hk, e⟩; exact ⟨k, by simpa using hk, by rw [gt_toList R k hk]; exact e⟩
theorem sorted_setF (l : List GV) (g : goods l) (d D R : Array GG) (hd : d.toList.map (·.1) = l) (hD : D.toList = d.toList.filter nzG) (hR : PermIn 0 D.size D R) (hs : SortedIn ltG 0 D.size R) :
    (keepTo R D.size).map (·.1) = setF l := by
  obtain ⟨h1, h2⟩ := keepTo_spec R D.size hR.1 hs D.size (Nat.le_refl _)
  refine setF_eq g h1 fun z => ?_
  subst hd
  constructor
  · intro hz
    obtain ⟨w, hw, rfl⟩ := List.mem_map.1 hz
    have : w ∈ R.toList := (mem_gt R w).2 (by rw [hR.1]; exact (h2 w).1 hw)
    rw [perm_mem hR, hD, List.mem_filter] at this
    exact ⟨List.mem_map.2 ⟨w, this.1, rfl⟩, by simpa [nzG] using this.2⟩
  · rintro ⟨hz, hk⟩
    obtain ⟨w, hw, rfl⟩ := List.mem_map.1 hz
    have : w ∈ R.toList := by rw [perm_mem hR, hD, List.mem_filter]; exact ⟨hw, by simpa [nzG] using hk⟩
    exact List.mem_map.2 ⟨w, (h2 w).2 (by rw [← hR.1]; exact (mem_gt R w).1 this), rfl⟩
end Go.Proofs.YtgfadepkiejncaaGreat
namespace Go.Proofs.YtgfadepkiejncaaGreat
open Go.Ab
attribute [local irreducible] AW AList ACall
theorem ref_nodes (v : GV) (hv : nodes v < 1152921504606846976) : Gives Tryz.prog 31 [v.pv] (vI (nodes v)) := by
  induction hk : nodes v using Nat.strongRecOn generalizing v with
  | _ k ih =>
  subst hk
  have hn := nodes_eq v
  have hl := nodesL_len v.els
  intro m
  refine ACall.of_aw Tryz.func31 Tryz.ntmps31 rfl rfl (by simp) ?_
  repeat (first | (refine AList.op (by decide) ?_; intro K Kp hK hKp; simp [upd_lit]; apply hK; clear hK hKp K Kp) | (refine AList.op0 ?_; intro K Kp hK hKp; simp [upd_lit]; apply hK; clear hK hKp K Kp) | refine AList.nil ?_ | refine AW.seq ?_ | refine AW.regionL ?_ | refine AW.block ?_ | refine AW.skip ?_ | refine AW.exit ?_ | refine AW.ret ?_)
  refine AW.loop (ι := Nat) (fun i σ m' => i ≤ v.els.length ∧ σ 3 = vI (1 + nodesL (v.els.take i)) ∧ σ 4 = vI i ∧ σ 1 = .loc m.nloc 0 ∧ m' = m.newLoc v.cells) (fun i => v.els.length - i) 0 ?_ ?_
  · simp [upd_lit, nodesL]
  rintro i σ m' ⟨hi, h3, h4, h1, rfl⟩
  have hnb := nodesL_take_le v.els i
  repeat (first | (refine AList.op (by decide) ?_; intro K Kp hK hKp; simp [upd_lit, h1, h3, h4]; apply hK; clear hK hKp K Kp) | (refine AList.op0 ?_; intro K Kp hK hKp; simp [upd_lit, h1, h3, h4]; apply hK; clear hK hKp K Kp) | refine AList.nil ?_ | refine AW.seq ?_ | refine AW.regionL ?_ | refine AW.block ?_ | refine AW.skip ?_ | refine AW.exit ?_ | refine AW.ret ?_)
  refine AW.cond (t := decide (i < v.els.length)) ?_ ?_ ?_
  · simp [upd_lit]
  · intro hlt
    have hlt : i < v.els.length := by simpa using hlt
    have hg := nodes_get v.els i hlt
    have ht := nodesL_take v.els i hlt
    repeat (first | (refine AList.op (by decide) ?_; intro K Kp hK hKp; simp [upd_lit, h1, h3, h4, hlt, rows_getD]; apply hK; clear hK hKp K Kp) | (refine AList.op0 ?_; intro K Kp hK hKp; simp [upd_lit, h1, h3, h4, hlt, rows_getD]; apply hK; clear hK hKp K Kp) | refine AList.nil ?_ | refine AW.seq ?_ | refine AW.regionL ?_ | refine AW.block ?_ | refine AW.skip ?_ | refine AW.exit ?_ | refine AW.ret ?_)
    refine AList.op (by decide) ?_; intro K Kp hK hKp; simp [upd_lit, h1, h3, h4, hlt, rows_getD]
    refine Gives.at (ih _ (by omega) v.els[i] (by omega) rfl) ?_
    apply hK; clear hK hKp K Kp
    repeat (first | (refine AList.op (by decide) ?_; intro K Kp hK hKp; simp (disch := omega) [upd_lit, wrap_i64, h1, h3, h4]; apply hK; clear hK hKp K Kp) | (refine AList.op0 ?_; intro K Kp hK hKp; simp (disch := omega) [upd_lit, wrap_i64, h1, h3, h4]; apply hK; clear hK hKp K Kp) | refine AList.nil ?_ | refine AW.seq ?_ | refine AW.regionL ?_ | refine AW.block ?_ | refine AW.skip ?_ | refine AW.exit ?_ | refine AW.ret ?_)
    refine ⟨i + 1, ⟨by omega, ?_, ?_, ?_, rfl⟩, by omega⟩
    · simp [upd_lit, ht]; omega
    · simp [upd_lit]
    · simp [upd_lit, h1]
  · intro hge
    have hge : i = v.els.length := by simp at hge; omega
    subst hge
    repeat (first | (refine AList.op (by decide) ?_; intro K Kp hK hKp; simp (disch := omega) [upd_lit, wrap_i64, h1, h3, h4]; apply hK; clear hK hKp K Kp) | (refine AList.op0 ?_; intro K Kp hK hKp; simp (disch := omega) [upd_lit, wrap_i64, h1, h3, h4]; apply hK; clear hK hKp K Kp) | refine AList.nil ?_ | refine AW.seq ?_ | refine AW.regionL ?_ | refine AW.block ?_ | refine AW.skip ?_ | refine AW.exit ?_ | refine AW.ret ?_)
    exact Fin.ret rfl ((Same.refl m).newLoc _) (by simp [upd_lit, hn]) (by simp) ⟨rfl, rfl⟩
end Go.Proofs.YtgfadepkiejncaaGreat
namespace Go.Ab
theorem Fin.givesC {P : Program} {fn : Func} {m m' : St} {σ : Nat → PV} {p r : PV} {a : Tmp} {t : TypeId} (hr : fn.results.toList = [.cell a t]) (hp : aload P t (σ a) m' (fun q m'' => q = p ∧ m'' = m')) (hm : Same m m') (hq : p.strip = r := by simp) (hs : r.sc m.nloc m.ntok := by simp) :
    Fin P fn m (fun r' m' => r' = .ret r ∧ m' = m) .ret σ m' := Fin.retC hr hp hm hq hs ⟨rfl, rfl⟩
end Go.Ab
namespace Go.Proofs.YtgfadepkiejncaaGreat
open Go.Ab
set_option maxHeartbeats 0
set_option maxRecDepth 100000
attribute [local irreducible] AW AList ACall DA AExit.then AExit.inBlock YCall DCall
abbrev omV : GV := .mk 0 0 false [] ⟨#[]⟩ []
abbrev setV (l : List GV) : GV := .mk 8 0 false [] ⟨#[]⟩ l
abbrev made (v : GV) (e : Int) : PV := .agg [vI v.kind, vI v.num, vB v.neg, .list .no (limbs v.abs), vS v.str, .list .no (GV.rows v.els), vE e]
theorem ref_copy (v : GV) (hv : nodes v < 1099511627776) (hab : ∀ x ∈ walkV v, x.abs.length ≤ 1099511627776) : Gives Tryz.prog 77 [v.pv] v.pv := by
  induction hk : nodes v using Nat.strongRecOn generalizing v with
  | _ k ih =>
  subst hk
  have hn := nodes_eq v
  have hl := nodesL_len v.els
  have ha := hab v (walk_self v)
  intro m
  refine ACall.of_aw Tryz.func77 Tryz.ntmps77 rfl rfl (by simp) ?_
  refine tS ?_
  refine AList.opK (by decide) ?_; intro K Kp hK hKp
  refine op_appendS rfl (by simp) (by simp) ?_
  simp only [opv, upd_lit, cv]
  refine app22 (l := []) (m0 := m) (.full Same.auto) rfl (by simp; omega) fun oA m'' ho' hs => hK _ _ ?_; clear hK hKp K Kp
  have hl0 : m''.loc m.nloc = some v.cells := by rw [hs.loc]; simp; intro h; omega
  have hl1 : m''.loc (m.nloc + 1) = some [vI 0, vI 0, vB false, .list .full [], vS ⟨#[]⟩, .list .full []] := by rw [hs.loc]; simp
  have hl2 : m''.loc (m.nloc + 2) = some v.cells := by rw [hs.loc]; simp
  have hnl : m''.nloc = m.nloc + 3 := by rw [hs.nloc]; simp
  have q0 : m.nloc < m''.nloc := by omega
  have q1 : m.nloc + 1 < m''.nloc := by omega
  have q2 : m.nloc + 2 < m''.nloc := by omega
  have F := (aand @hl2 @q2); refine tF ?_; (try clear F)
  refine AW.nilC (n := m.nloc + 2) (i := 5) (cs := (v.cells.set 3 (.list oA (limbs v.abs))).set 5 (.v (.slice none 0 0))) (by simp; omega) (by simp) (by simp) ?_
  have hcell : ((v.cells.set 3 (.list oA (limbs v.abs))).set 5 (.v (.slice none 0 0))).set 5 (.list .full []) = [vI v.kind, vI v.num, vB v.neg, .list oA (limbs v.abs), vS v.str, .list .full []] := by cases v; rfl
  rw [hcell]
  refine AW.loop (ι := Nat) (fun i σ m' => i ≤ v.els.length ∧ (∃ o, m'.loc (m.nloc + 2) = some [vI v.kind, vI v.num, vB v.neg, .list oA (limbs v.abs), vS v.str, .list o (GV.rows (v.els.take i))] ∧ Ow m m' o 6 i) ∧ m'.loc m.nloc = some v.cells ∧ m'.loc (m.nloc + 1) = some [vI 0, vI 0, vB false, .list .full [], vS ⟨#[]⟩, .list .full []] ∧ m.nloc + 3 ≤ m'.nloc ∧ σ 4 = vI i ∧ σ 1 = .loc m.nloc 0 ∧ σ 2 = .loc (m.nloc + 1) 0 ∧ σ 3 = .loc (m.nloc + 2) 0) (fun i => v.els.length - i) 0 ?_ ?_
  · exact ⟨by simp, ⟨.full, by simp [GV.rows], .full (((ho'.1.setLoc (by omega) _).setLoc (by omega) _).setLoc (by omega) _)⟩, by simp [hl0], by simp [hl1], by simp; omega, by simp [upd_lit], by simp [upd_lit], by simp [upd_lit], by simp [upd_lit]⟩
  clear hl0 hl1 hl2 hnl q0 q1 q2 hcell hs ho'
  rintro i σ m' ⟨hi, ⟨o, e2, ow⟩, e0, e1, hnl, h4, h1, h2, h3⟩
  have q0 : m.nloc < m'.nloc := by omega
  have q1 : m.nloc + 1 < m'.nloc := by omega
  have q2 : m.nloc + 2 < m'.nloc := by omega
  have F := (aand @h4 (aand @h1 (aand @e0 @q0))); refine tF ?_; (try clear F)
  refine AW.condD (p := i < v.els.length) (by simp [upd_lit]) (fun hlt => ?_) (fun hge => ?_)
  · have hg := nodes_get v.els i hlt
    repeat (first | refine AW.seq ?_ | refine AW.block ?_ | refine AW.skip ?_ | refine AExit.norT ?_ | refine AExit.norB ?_ | refine AList.nil ?_)
    refine AW.draw [.S, .R, .S, .R, .S, .S, .R, .R, .S, .W, .S, .W] (by decide +kernel) ?_; have F := (aand @h4 (aand @h1 (aand @h3 (aand @e0 (aand @e2 (aand @q0 (aand @q2 (aand @hlt @rows_getD)))))))); refine dST 0 ?_; refine dRT 1 ?_; refine dST 2 ?_; refine dRT 3 ?_; refine dST 4 ?_; refine dST 5 ?_; refine dRT 6 ?_; refine dCT ((ih _ (by omega) v.els[i] (by omega) (fun x hx => hab x (walk_mem hlt hx)) rfl)) 7 ?_; refine dST 8 ?_; (try clear F); refine DA.W (oi := ?oiw1) 9 ?aw1 ?bw1 ?cw1 ?dw1 ?ew1 ?fw1; (case aw1 => rfl); (case bw1 => decide +kernel); (case cw1 => rfl); (case dw1 => rfl); (case ew1 => decide); intro K Kp hK hKp; (simp [upd_lit]; refine app25 (l' := [v.els[i]]) ow (by simp; omega) (by simp; omega) fun o' m'' ho' hs => hK _ _ ?_; clear hK hKp K Kp); have F := (aand @h4 (aand @h1 (aand @h3 (aand @e0 (aand @e2 (aand @q0 (aand @q2 (aand @hlt @rows_getD)))))))); (try clear F)
    have q2' : m.nloc + 2 < m''.nloc := by rw [hs.nloc]; exact q2
    have e2' : m''.loc (m.nloc + 2) = some [vI v.kind, vI v.num, vB v.neg, .list oA (limbs v.abs), vS v.str, .list o (GV.rows (v.els.take i))] := by rw [hs.loc]; exact e2
    skip; have F := (aand @h3 (aand @e2' @q2')); refine dST 10 ?_; refine dW 11 ?_; (try clear F); first | refine dN ?_ | refine dB ?_ | refine DA.done (by decide +kernel) ?_
    have F := @h4; refine tF ?_; (try clear F)
    refine ⟨i + 1, ⟨by omega, ⟨o', by simp, ⟨ho'.1.setLoc (by omega) _, ho'.2⟩⟩, ?_, ?_, by simp [hs.nloc]; omega, by simp [upd_lit], by simp [upd_lit, h1], by simp [upd_lit, h2], by simp [upd_lit, h3]⟩, by omega⟩
    · simp [hs.loc, e0]
    · simp [hs.loc, e1]
  · have e : i = v.els.length := by omega
    subst e
    rw [List.take_length] at e2
    have F := (aand @h2 (aand @h3 (aand @e1 (aand @e2 (aand @q1 @q2))))); refine tF ?_; (try clear F)
    exact Fin.retC (p := .agg [vI v.kind, vI v.num, vB v.neg, .list oA (limbs v.abs), vS v.str, .list o (GV.rows v.els)]) (q := v.pv) rfl (by simp [upd_lit, h2, q1]) (ow.1.setLoc (by omega) _) (by simp [cells_eq]) (by simp) ⟨rfl, rfl⟩
def fitB (v : GV) : Bool := decide ((nodes v : Int) ≤ 3000) && decide ((deep v : Int) ≤ 20)
theorem ref_fits (v : GV) (hv : nodes v < 1152921504606846976) : Gives Tryz.prog 146 [v.pv] (vB (fitB v)) := by
  intro m
  refine ACall.of_aw Tryz.func146 Tryz.ntmps146 rfl rfl (by simp) ?_
  refine tS ?_
  refine tS1 fun K Kp hK hKp => ?_; refine Gives.at (ref_nodes v hv) ?_; apply hK; clear hK hKp K Kp
  by_cases h : (nodes v : Int) ≤ 3000
  · have F := @h; refine tFg ?_; (try clear F)
    have F := @h; refine tFc (ref_deep v hv) ?_; (try clear F)
    have F := @h; refine tFg ?_; (try clear F)
    exact Fin.gives Same.auto rfl (by simp [upd_lit, fitB, h])
  · have F := @h; refine tFg ?_; (try clear F)
    exact Fin.gives Same.auto rfl (by simp [upd_lit, fitB, h])
theorem ref_bad (e : Int) : Gives Tryz.prog 102 [vE e] (made omV e) := by
  intro m
  refine ACall.of_aw Tryz.func102 Tryz.ntmps102 rfl rfl (by simp) ?_
  refine tS ?_
  exact Fin.givesC (p := .agg [vI 0, vI 0, vB false, .list .full [], vS ⟨#[]⟩, .list .full [], vE e]) rfl (by simp [upd_lit]) Same.auto (by rfl)
def fitV (v : GV) : GV := if fitB v then v else omV
def fitE (v : GV) : Int := if fitB v then 0 else 3
theorem ref_fitting (v : GV) (hv : nodes v < 1099511627776) (hab : ∀ x ∈ walkV v, x.abs.length ≤ 1099511627776) : Gives Tryz.prog 97 [v.pv] (made (fitV v) (fitE v)) := by
  intro m
  refine ACall.of_aw Tryz.func97 Tryz.ntmps97 rfl rfl (by simp) ?_
  refine tS ?_
  refine tS1 fun K Kp hK hKp => ?_; refine Gives.at (ref_fits v (by omega)) ?_; apply hK; clear hK hKp K Kp
  cases h : fitB v with
  | false =>
    have e1 : fitV v = omV := by simp [fitV, h]
    have e2 : fitE v = 3 := by simp [fitE, h]
    rw [e1, e2]
    have F := @h; refine tFa ?_; (try clear F)
    refine tS1 fun K Kp hK hKp => ?_; refine Gives.at (ref_bad 3) ?_; apply hK; clear hK hKp K Kp
    refine tS ?_
    exact Fin.givesC (p := made omV 3) rfl (by simp [upd_lit]) Same.auto (by rfl)
  | true =>
    have e1 : fitV v = v := by simp [fitV, h]
    have e2 : fitE v = 0 := by simp [fitE, h]
    rw [e1, e2]
    have F := @h; refine tFa ?_; (try clear F)
    refine tS1 fun K Kp hK hKp => ?_; refine Gives.at (ref_copy v hv hab) ?_; apply hK; clear hK hKp K Kp
    have F := @cells_eq; refine tF ?_; (try clear F)
    exact Fin.givesC (p := made v 0) rfl (by simp [upd_lit]) Same.auto
theorem ref_sets (a b : GV) : Gives Tryz.prog 121 [a.pv, b.pv] (vB (decide (a.kind = 8) && decide (b.kind = 8))) := by
  intro m
  refine ACall.of_aw Tryz.func121 Tryz.ntmps121 rfl rfl (by simp) ?_
  by_cases h : a.kind = 8
  · have F := @h; refine tFg ?_; (try clear F)
    exact Fin.gives Same.auto rfl (by simp [upd_lit, h])
  · have F := @h; refine tFg ?_; (try clear F)
    exact Fin.gives Same.auto rfl (by simp [upd_lit, h])
theorem ref_one (x : GV) : Gives Tryz.prog 123 [x.pv] (setV [x]).pv := by
  intro m
  refine ACall.of_aw Tryz.func123 Tryz.ntmps123 rfl rfl (by simp) ?_
  refine tS ?_
  exact Fin.givesC (p := .agg [vI 8, vI 0, vB false, .list .full [], vS ⟨#[]⟩, .list .no (GV.rows [x])]) rfl (by simp [upd_lit, GV.rows]) Same.auto (by simp [GV.cells, limbs])
theorem fmd_dk : ∀ v : GV, fmd v → v.dk := by
  intro v
  refine @GV.rec (fun v => fmd v → v.dk) (fun l => fmdL l → GV.dkL l) ?_ ?_ ?_ v
  · intro k n ng a s l ih h
    refine ⟨fun hk => ?_, ih h.2.2⟩
    have h1 := h.1
    have h2 := node_dec h1 hk
    have h3 := h1.2.2.1
    exact ⟨by simp only [GV.abs] at h3 ⊢; omega, by omega, by omega⟩
  · intro _; trivial
  · intro v l h1 h2 h
    exact ⟨h1 h.1, h2 h.2⟩
theorem refC {x y : GV} (hx : good x) (hy : good y) : Gives Tryz.prog 23 [x.pv, y.pv] (vI (cmpV x y)) := ref_compare x y hx.2 hy.2 (fmd_dk x hx.1) (fmd_dk y hy.1)
end Go.Proofs.YtgfadepkiejncaaGreat
namespace Go.Proofs.YtgfadepkiejncaaGreat
open Go.Ab
set_option maxHeartbeats 0
set_option maxRecDepth 100000
attribute [local irreducible] AW AList ACall DA AExit.then AExit.inBlock YCall DCall
theorem rows_take (l : List GV) (n : Nat) : (GV.rows l).take n = GV.rows (l.take n) := by simp [GV.rows_eq, List.map_take]
theorem rows_drop (l : List GV) (n : Nat) : (GV.rows l).drop n = GV.rows (l.drop n) := by simp [GV.rows_eq, List.map_drop]
theorem ref_sorted (l : List GV) (gl : goods l) (hl : l.length < 549755813888) : Gives Tryz.prog 147 [GV.pvs l] (GV.pvs (srtF l)) := by
  generalize hN : l.length = N
  induction N using Nat.strongRecOn generalizing l with
  | _ N ih =>
  subst hN
  rw [srtF]
  intro m
  refine ACall.of_aw Tryz.func147 Tryz.ntmps147 rfl rfl (by simp) ?_
  by_cases h2 : l.length < 2
  · rw [dif_pos h2]
    have h2' : (l.length : Int) < 2 := by omega
    have F := @h2'; refine tFa ?_; (try clear F)
    exact Fin.gives Same.auto
  rw [dif_neg h2]
  have h2' : ¬ (l.length : Int) < 2 := by omega
  obtain ⟨q, eq⟩ : ∃ q, q = l.length / 2 := ⟨_, rfl⟩
  have e1 : (l.length : Int) / 2 = (q : Int) := by omega
  rw [← eq]
  have hq : q ≤ l.length := by omega
  have hq0 : q ≠ 0 := by omega
  have hql : ¬ l.length = q := by omega
  have c1 := ih q (by omega) (l.take q) (fun x hx => gl x (List.mem_of_mem_take hx)) (by simp; omega) (by simp; omega)
  have c2 := ih (l.length - q) (by omega) (l.drop q) (fun x hx => gl x (List.mem_of_mem_drop hx)) (by simp; omega) (by simp)
  have ga : goods (srtF (l.take q)) := fun x hx => gl x (List.mem_of_mem_take ((mem_srtF _ x).1 hx))
  have gb : goods (srtF (l.drop q)) := fun x hx => gl x (List.mem_of_mem_drop ((mem_srtF _ x).1 hx))
  have la := srtF_len (l.take q)
  have lb := srtF_len (l.drop q)
  simp at la lb
  have s1 : ∀ (m : St) (K : PV → St → Prop), K (GV.pvs (l.take q)) m → aslice Tryz.prog 25 (GV.pvs l) none (some (vI q)) none m K := fun m K h => by
    simp [aslice, abnd, rows_take]; exact ⟨hq, h⟩
  have s2 : ∀ (m : St) (K : PV → St → Prop), K (GV.pvs (l.drop q)) m → aslice Tryz.prog 25 (GV.pvs l) (some (vI q)) none none m K := fun m K h => by
    simp [aslice, abnd]; rw [List.take_of_length_le (by simp), rows_drop]; exact ⟨hq, h⟩
  have F := @h2'; refine tFa ?_; (try clear F)
  have F := @e1; refine tF1 fun K Kp hK hKp => ?_; (try clear F)
  refine s1 _ _ ?_
  apply hK; clear hK hKp K Kp
  refine tS ?_
  refine tS1 fun K Kp hK hKp => ?_; refine Gives.at (c1) ?_; apply hK; clear hK hKp K Kp
  refine tS ?_
  have F := @e1; refine tF1 fun K Kp hK hKp => ?_; (try clear F)
  refine s2 _ _ ?_
  apply hK; clear hK hKp K Kp
  refine tS ?_
  refine tS1 fun K Kp hK hKp => ?_; refine Gives.at (c2) ?_; apply hK; clear hK hKp K Kp
  refine tSn ?_
  refine AW.nilS (d := 5) (by simp [upd_lit]) ?_
  generalize hA : srtF (l.take q) = A at *
  generalize hB : srtF (l.drop q) = B at *
  refine AW.loop (ι := Nat × Nat) (fun p σ m' => p.1 ≤ A.length ∧ p.2 ≤ B.length ∧ σ 6 = vI p.1 ∧ σ 7 = vI p.2 ∧ σ 3 = GV.pvs A ∧ σ 4 = GV.pvs B ∧ (∃ out o, σ 5 = .list o (GV.rows out) ∧ Ow m m' o 6 out.length ∧ out.length = p.1 + p.2 ∧ out ++ mrgS (A.drop p.1) (B.drop p.2) = mrgS A B)) (fun p => A.length + B.length - p.1 - p.2) (0, 0) ?_ ?_
  · exact ⟨by simp, by simp, by simp [upd_lit], by simp [upd_lit], by simp [upd_lit], by simp [upd_lit], [], .full, by simp [upd_lit, GV.rows], .full (Same.refl _), rfl, by simp⟩
  rintro ⟨i, k⟩ σ m' ⟨hi, hk, h6, h7, h3, h4, out, o, h5, ho, hlen, hF⟩
  simp only at hi hk h6 h7 hlen hF ⊢
  have hle : (mrgS A B).length < 549755813888 := by rw [mrgS_len]; omega
  by_cases hiA : i < A.length
  rotate_left
  · have ei : i = A.length := by omega
    have hiA' : ¬ (i : Int) < A.length := by omega
    by_cases hkB : k < B.length
    rotate_left
    · -- both at their ends
      have ek : k = B.length := by omega
      have F := (aand @h6 (aand @h7 (aand @h3 (aand @h4 (aand @hiA @hkB))))); refine tFg ?_; (try clear F)
      refine tSa ?_
      have F := @h5; refine tF ?_; (try clear F)
      have : mrgS (A.drop i) (B.drop k) = [] := by rw [ei, ek, List.drop_length, List.drop_length, mrgS]
      rw [this, List.append_nil] at hF
      rw [← hF]
      exact Fin.gives ho.1 rfl (by simp [upd_lit, PV.strip, h5])
    · have F := (aand @h6 (aand @h7 (aand @h3 (aand @h4 (aand @hiA @hkB))))); refine tFg ?_; (try clear F)
      refine tSa ?_
      repeat (first | refine AW.seq ?_ | refine AW.block ?_ | refine AW.skip ?_ | refine AExit.norT ?_ | refine AExit.norB ?_ | refine AList.nil ?_)
      have hkB' : ¬ B.length ≤ k := by omega
      refine AW.draw [.S, .S, .S, .S, .S, .S, .S, .S, .S, .S, .S, .S, .S, .R, .S, .S, .S, .R, .R, .S, .S, .S] (by decide +kernel) ?_; have F := (aand @h6 (aand @h7 (aand @h3 (aand @h4 (aand @hiA @hkB'))))); refine dS 0 ?_; refine dS 1 ?_; refine dS 2 ?_; refine dS 3 ?_; refine dS 4 ?_; refine dSG 5 ?_; refine dSG 6 ?_; refine dSG 7 ?_; refine dSG 8 ?_; refine dSG 9 ?_; refine dXx 10 ?_; refine dXx 11 ?_; refine dXx 12 ?_; refine dXX 13 ?_; refine dXx 14 ?_; refine dXx 15 ?_; refine dXx 16 ?_; refine dXX 17 ?_; refine dXX 18 ?_; refine dXx 19 ?_; refine dSG 20 ?_; refine dS 21 ?_; (try clear F); first | refine dN ?_ | refine dB ?_ | refine DA.done (by decide +kernel) ?_
      refine tSa ?_
      have F := (aand @h5 (aand @h7 (aand @h4 (aand @hkB @rows_getD)))); refine tF ?_; (try clear F)
      refine AList.op (by decide) ?_; intro K Kp hK hKp; simp [h5, upd_lit]
      refine app25 (l' := [B[k]]) ho rfl (by simp; omega) fun o' m'' ho' hs' => hK _ _ ?_; clear hK hKp K Kp
      have F := @h7; refine tF ?_; (try clear F)
      refine ⟨(i, k + 1), ⟨hi, by simp; omega, by simp [upd_lit, h6], by simp [upd_lit], by simp [upd_lit, h3], by simp [upd_lit, h4], out ++ [B[k]], o', by simp [upd_lit], by simpa using ho', by simp [hlen]; omega, ?_⟩, by simp; omega⟩
      rw [← hF, List.append_assoc]
      congr 1
      rw [ei, List.drop_length, List.drop_eq_getElem_cons hkB]
      cases hd : B.drop (k + 1) <;> simp [mrgS]
  have gx := ga A[i] (List.getElem_mem hiA)
  by_cases hkB : k < B.length
  rotate_left
  · have ek : k = B.length := by omega
    have hkB' : B.length ≤ k := by omega
    have F := (aand @h6 (aand @h7 (aand @h3 (aand @h4 (aand @hiA @hkB))))); refine tFg ?_; (try clear F)
    refine tSa ?_
    repeat (first | refine AW.seq ?_ | refine AW.block ?_ | refine AW.skip ?_ | refine AExit.norT ?_ | refine AExit.norB ?_ | refine AList.nil ?_)
    refine AW.draw [.S, .S, .S, .S, .S, .S, .S, .S, .S, .S, .S, .S, .S, .R, .S, .S, .S, .R, .R, .S, .S, .S] (by decide +kernel) ?_; have F := (aand @h6 (aand @h7 (aand @h3 (aand @h4 (aand @hiA @hkB'))))); refine dS 0 ?_; refine dS 1 ?_; refine dS 2 ?_; refine dS 3 ?_; refine dS 4 ?_; refine dXx 5 ?_; refine dXx 6 ?_; refine dXx 7 ?_; refine dXx 8 ?_; refine dXx 9 ?_; refine dXx 10 ?_; refine dXx 11 ?_; refine dXx 12 ?_; refine dXX 13 ?_; refine dXx 14 ?_; refine dXx 15 ?_; refine dXx 16 ?_; refine dXX 17 ?_; refine dXX 18 ?_; refine dXx 19 ?_; refine dXx 20 ?_; refine dS 21 ?_; (try clear F); first | refine dN ?_ | refine dB ?_ | refine DA.done (by decide +kernel) ?_
    refine tSa ?_
    have F := (aand @h5 (aand @h6 (aand @h3 (aand @hiA @rows_getD)))); refine tF ?_; (try clear F)
    refine AList.op (by decide) ?_; intro K Kp hK hKp; simp [h5, upd_lit]
    refine app25 (l' := [A[i]]) ho rfl (by simp; omega) fun o' m'' ho' hs' => hK _ _ ?_; clear hK hKp K Kp
    have F := @h6; refine tF ?_; (try clear F)
    refine ⟨(i + 1, k), ⟨by simp; omega, hk, by simp [upd_lit], by simp [upd_lit, h7], by simp [upd_lit, h3], by simp [upd_lit, h4], out ++ [A[i]], o', by simp [upd_lit], by simpa using ho', by simp [hlen]; omega, ?_⟩, by simp; omega⟩
    rw [← hF, List.append_assoc]
    congr 1
    rw [ek, List.drop_length, List.drop_eq_getElem_cons hiA]
    simp [mrgS]
  have hkB' : ¬ B.length ≤ k := by omega
  have gy := gb B[k] (List.getElem_mem hkB)
  have F := (aand @h6 (aand @h7 (aand @h3 (aand @h4 (aand @hiA @hkB))))); refine tFg ?_; (try clear F)
  refine tSa ?_
  repeat (first | refine AW.seq ?_ | refine AW.block ?_ | refine AW.skip ?_ | refine AExit.norT ?_ | refine AExit.norB ?_ | refine AList.nil ?_)
  refine AW.draw [.S, .S, .S, .S, .S, .S, .S, .S, .S, .S, .S, .S, .S, .R, .S, .S, .S, .R, .R, .S, .S, .S] (by decide +kernel) ?_; have F := (aand @h6 (aand @h7 (aand @h3 (aand @h4 (aand @hiA (aand @hkB (aand @hkB' @rows_getD))))))); refine dS 0 ?_; refine dS 1 ?_; refine dS 2 ?_; refine dS 3 ?_; refine dS 4 ?_; refine dSG 5 ?_; refine dSG 6 ?_; refine dSG 7 ?_; refine dSG 8 ?_; refine dSG 9 ?_; refine dSG 10 ?_; refine dSG 11 ?_; refine dSG 12 ?_; refine dRG 13 ?_; refine dSG 14 ?_; refine dSG 15 ?_; refine dSG 16 ?_; refine dRG 17 ?_; refine dCG ((refC gx gy)) 18 ?_; refine dSG 19 ?_; refine dSG 20 ?_; refine dS 21 ?_; (try clear F); first | refine dN ?_ | refine dB ?_ | refine DA.done (by decide +kernel) ?_
  by_cases hc : cmpV A[i] B[k] ≤ 0
  · have F := @hc; refine tFa ?_; (try clear F)
    have F := (aand @h5 (aand @h6 (aand @h3 (aand @hiA @rows_getD)))); refine tF ?_; (try clear F)
    refine AList.op (by decide) ?_; intro K Kp hK hKp; simp [h5, upd_lit]
    refine app25 (l' := [A[i]]) ho rfl (by simp; omega) fun o' m'' ho' hs' => hK _ _ ?_; clear hK hKp K Kp
    have F := @h6; refine tF ?_; (try clear F)
    refine ⟨(i + 1, k), ⟨by simp; omega, hk, by simp [upd_lit], by simp [upd_lit, h7], by simp [upd_lit, h3], by simp [upd_lit, h4], out ++ [A[i]], o', by simp [upd_lit], by simpa using ho', by simp [hlen]; omega, ?_⟩, by simp; omega⟩
    rw [← hF, List.append_assoc]
    congr 1
    rw [List.drop_eq_getElem_cons hiA, List.drop_eq_getElem_cons hkB, mrgS, if_pos hc]
    rfl
  · have F := @hc; refine tFa ?_; (try clear F)
    have F := (aand @h5 (aand @h7 (aand @h4 (aand @hkB @rows_getD)))); refine tF ?_; (try clear F)
    refine AList.op (by decide) ?_; intro K Kp hK hKp; simp [h5, upd_lit]
    refine app25 (l' := [B[k]]) ho rfl (by simp; omega) fun o' m'' ho' hs' => hK _ _ ?_; clear hK hKp K Kp
    have F := @h7; refine tF ?_; (try clear F)
    refine ⟨(i, k + 1), ⟨hi, by simp; omega, by simp [upd_lit, h6], by simp [upd_lit], by simp [upd_lit, h3], by simp [upd_lit, h4], out ++ [B[k]], o', by simp [upd_lit], by simpa using ho', by simp [hlen]; omega, ?_⟩, by simp; omega⟩
    rw [← hF, List.append_assoc]
    congr 1
    rw [List.drop_eq_getElem_cons hiA, List.drop_eq_getElem_cons hkB, mrgS, if_neg hc]
    rfl
end Go.Proofs.YtgfadepkiejncaaGreat
namespace Go.Proofs.YtgfadepkiejncaaGreat
open Go.Ab
set_option maxHeartbeats 0
set_option maxRecDepth 100000
attribute [local irreducible] AW AList ACall DA AExit.then AExit.inBlock YCall DCall
theorem dd_len : ∀ (l out : List GV), (dd out l).length ≤ out.length + l.length
  | [], out => by simp [dd]
  | x :: l, out => by
    have := dd_len l
    simp only [dd]
    split
    · have := this (out ++ [x]); simp at this ⊢; omega
    · have := this out; simp; omega
theorem setF_len (l : List GV) : (setF l).length ≤ l.length := by
  have := dd_len (srtF l) []
  rw [srtF_len] at this
  simpa [setF] using this
theorem ref_makeSet (l : List GV) (gl : goods l) (hl : l.length < 549755813888) : Gives Tryz.prog 99 [GV.pvs l] (setV (setF l)).pv := by
  intro m
  refine ACall.of_aw Tryz.func99 Tryz.ntmps99 rfl rfl (by simp) ?_
  refine tS ?_
  refine tS1 fun K Kp hK hKp => ?_; refine Gives.at (ref_sorted l gl hl) ?_; apply hK; clear hK hKp K Kp
  refine tS ?_
  have hS := srtF_len l
  have gS : goods (srtF l) := fun x hx => gl x ((mem_srtF l x).1 hx)
  unfold setF
  generalize srtF l = S at *
  refine AW.loop (ι := Nat) (fun i σ m' => i ≤ S.length ∧ σ 5 = vI i ∧ σ 4 = GV.pvs S ∧ σ 3 = .loc (m.nloc + 1) 0 ∧ σ 2 = .loc m.nloc 0 ∧ (∃ out o, m'.loc (m.nloc + 1) = some [vI 8, vI 0, vB false, .list .full [], vS ⟨#[]⟩, .list o (GV.rows out)] ∧ Ow m m' o 6 out.length ∧ out.length ≤ i ∧ goods out ∧ dd out (S.drop i) = dd [] S) ∧ m'.loc m.nloc = some [vI 0, vI 0, vB false, .list .full [], vS ⟨#[]⟩, .list .full []] ∧ m.nloc + 2 ≤ m'.nloc) (fun i => S.length - i) 0 ?_ ?_
  · exact ⟨by simp, by simp [upd_lit], by simp [upd_lit], by simp [upd_lit], by simp [upd_lit], ⟨[], .full, by simp [GV.rows], .full Same.auto, by simp, fun x hx => (by cases hx), rfl⟩, by simp, by simp⟩
  rintro i σ m' ⟨hi, h5, h4, h3, h2, ⟨out, o, e1, ow, hol, go, hF⟩, e0, hnl⟩
  have q0 : m.nloc < m'.nloc := by omega
  have q1 : m.nloc + 1 < m'.nloc := by omega
  have F := (aand @h5 @h4); refine tF ?_; (try clear F)
  refine AW.condD (p := i < S.length) (by simp [upd_lit]) (fun hlt => ?_) (fun hge => ?_)
  rotate_left
  · have e : i = S.length := by omega
    subst e
    rw [List.drop_length, dd] at hF
    have F := (aand @h3 (aand @h2 (aand @e0 (aand @e1 (aand @q0 @q1))))); refine tF ?_; (try clear F)
    rw [← hF]
    exact Fin.givesC (p := .agg [vI 8, vI 0, vB false, .list .full [], vS ⟨#[]⟩, .list o (GV.rows out)]) rfl (by simp [upd_lit, h2, q0]) (ow.1.setLoc (by omega) _) (by simp [GV.cells, limbs])
  obtain ⟨x, ex⟩ : ∃ x, x = S[i] := ⟨_, rfl⟩
  have ex' := ex.symm
  have gx : good x := by rw [ex]; exact gS _ (List.getElem_mem hlt)
  rw [List.drop_eq_getElem_cons hlt, dd, ← ex] at hF
  have F := (aand @h3 (aand @e1 @q1)); refine tF ?_; (try clear F)
  by_cases hx0 : x.kind = 0
  · rw [if_neg (by simp [hx0])] at hF
    repeat (first | refine AW.seq ?_ | refine AW.block ?_ | refine AW.skip ?_ | refine AExit.norT ?_ | refine AExit.norB ?_ | refine AList.nil ?_)
    refine AW.draw [.S, .S, .S, .S, .R, .S, .S, .S, .S, .S, .S, .R, .S, .S, .S, .R, .S, .S, .S, .R, .R, .S, .S, .S] (by decide +kernel) ?_; have F := (aand @h5 (aand @h4 (aand @hlt (aand @rows_getD (aand @ex' @hx0))))); refine dS 0 ?_; refine dS 1 ?_; refine dS 2 ?_; refine dS 3 ?_; refine dR 4 ?_; refine dS 5 ?_; refine dS 6 ?_; refine dXx 7 ?_; refine dXx 8 ?_; refine dXx 9 ?_; refine dXx 10 ?_; refine dXX 11 ?_; refine dXx 12 ?_; refine dXx 13 ?_; refine dXx 14 ?_; refine dXX 15 ?_; refine dXx 16 ?_; refine dXx 17 ?_; refine dXx 18 ?_; refine dXX 19 ?_; refine dXX 20 ?_; refine dXx 21 ?_; refine dXx 22 ?_; refine dS 23 ?_; (try clear F); first | refine dN ?_ | refine dB ?_ | refine DA.done (by decide +kernel) ?_
    refine tSa ?_
    have F := @h5; refine tF ?_; (try clear F)
    exact ⟨i + 1, ⟨by omega, by simp [upd_lit], by simp [upd_lit, h4], by simp [upd_lit, h3], by simp [upd_lit, h2], ⟨out, o, e1, ow, by omega, go, hF⟩, e0, hnl⟩, by omega⟩
  by_cases ho : out = []
  · rw [if_pos ⟨hx0, .inl ho⟩] at hF
    have hol0 : out.length = 0 := by rw [ho]; rfl
    repeat (first | refine AW.seq ?_ | refine AW.block ?_ | refine AW.skip ?_ | refine AExit.norT ?_ | refine AExit.norB ?_ | refine AList.nil ?_)
    refine AW.draw [.S, .S, .S, .S, .R, .S, .S, .S, .S, .S, .S, .R, .S, .S, .S, .R, .S, .S, .S, .R, .R, .S, .S, .S] (by decide +kernel) ?_; have F := (aand @h5 (aand @h4 (aand @hlt (aand @rows_getD (aand @ex' (aand @hx0 (aand @hol0 @ho))))))); refine dS 0 ?_; refine dS 1 ?_; refine dS 2 ?_; refine dS 3 ?_; refine dR 4 ?_; refine dS 5 ?_; refine dS 6 ?_; refine dSG 7 ?_; refine dSG 8 ?_; refine dSG 9 ?_; refine dXx 10 ?_; refine dXX 11 ?_; refine dXx 12 ?_; refine dXx 13 ?_; refine dXx 14 ?_; refine dXX 15 ?_; refine dXx 16 ?_; refine dXx 17 ?_; refine dXx 18 ?_; refine dXX 19 ?_; refine dXX 20 ?_; refine dXx 21 ?_; refine dSG 22 ?_; refine dS 23 ?_; (try clear F); first | refine dN ?_ | refine dB ?_ | refine DA.done (by decide +kernel) ?_
    refine tSa ?_
    repeat (first | refine AW.seq ?_ | refine AW.block ?_ | refine AW.skip ?_ | refine AExit.norT ?_ | refine AExit.norB ?_ | refine AList.nil ?_)
    refine AW.draw [.S, .R, .S, .S, .S, .R, .S, .W, .S, .W] (by decide +kernel) ?_; have F := (aand @h5 (aand @h4 (aand @h3 (aand @e1 (aand @q1 (aand @hlt (aand @rows_getD @ex'))))))); refine dST 0 ?_; refine dRT 1 ?_; refine dST 2 ?_; refine dST 3 ?_; refine dST 4 ?_; refine dRT 5 ?_; refine dST 6 ?_; (try clear F); refine DA.W (oi := ?oiw1) 7 ?aw1 ?bw1 ?cw1 ?dw1 ?ew1 ?fw1; (case aw1 => rfl); (case bw1 => decide +kernel); (case cw1 => rfl); (case dw1 => rfl); (case ew1 => decide); intro K Kp hK hKp; (simp [upd_lit]; refine app25 (l' := [x]) ow (by simp) (by simp; omega) fun o' m'' ho' hs => hK _ _ ?_; clear hK hKp K Kp); have F := (aand @h5 (aand @h4 (aand @h3 (aand @e1 (aand @q1 (aand @hlt (aand @rows_getD @ex'))))))); (try clear F)
    have q1' : m.nloc + 1 < m''.nloc := by rw [hs.nloc]; exact q1
    have e1' : m''.loc (m.nloc + 1) = some [vI 8, vI 0, vB false, .list .full [], vS ⟨#[]⟩, .list o (GV.rows out)] := by rw [hs.loc]; exact e1
    skip; have F := (aand @h3 (aand @e1' @q1')); refine dST 8 ?_; refine dW 9 ?_; (try clear F); first | refine dN ?_ | refine dB ?_ | refine DA.done (by decide +kernel) ?_
    have F := @h5; refine tF ?_; (try clear F)
    refine ⟨i + 1, ⟨by omega, by simp [upd_lit], by simp [upd_lit, h4], by simp [upd_lit, h3], by simp [upd_lit, h2], ⟨out ++ [x], o', by simp, ⟨ho'.1.setLoc (by omega) _, by rw [List.length_append]; exact ho'.2⟩, by simp; omega, fun y hy => ?_, hF⟩, by simp [hs.loc, e0], by simp [hs.nloc]; omega⟩, by omega⟩
    rcases List.mem_append.1 hy with h | h
    · exact go y h
    · simp at h; rw [h]; exact gx
  have hol' : 0 < out.length := List.length_pos_iff.2 ho
  obtain ⟨j, hj⟩ : ∃ j, out.length = j + 1 := ⟨out.length - 1, by omega⟩
  have ej : j < out.length := by omega
  have e8 : (out.length : Int) - 1 = (j : Int) := by omega
  have e9 : ¬ out.length = 0 := by omega
  obtain ⟨w, ew⟩ : ∃ w, w = out[j] := ⟨_, rfl⟩
  have ew' := ew.symm
  have gw : good w := by rw [ew]; exact go _ (List.getElem_mem ej)
  have hlast : out.getLast?.getD default = w := by rw [List.getLast?_eq_getElem?, hj]; simp [List.getElem?_eq_getElem ej, ew]
  rw [hlast] at hF
  repeat (first | refine AW.seq ?_ | refine AW.block ?_ | refine AW.skip ?_ | refine AExit.norT ?_ | refine AExit.norB ?_ | refine AList.nil ?_)
  refine AW.draw [.S, .S, .S, .S, .R, .S, .S, .S, .S, .S, .S, .R, .S, .S, .S, .R, .S, .S, .S, .R, .R, .S, .S, .S] (by decide +kernel) ?_; have F := (aand @h5 (aand @h4 (aand @h3 (aand @e1 (aand @q1 (aand @hlt (aand @rows_getD (aand @ex' (aand @hx0 (aand @e9 (aand @ho (aand @e8 (aand @ej @ew'))))))))))))); refine dS 0 ?_; refine dS 1 ?_; refine dS 2 ?_; refine dS 3 ?_; refine dR 4 ?_; refine dS 5 ?_; refine dS 6 ?_; refine dSG 7 ?_; refine dSG 8 ?_; refine dSG 9 ?_; refine dSG 10 ?_; refine dRG 11 ?_; refine dSG 12 ?_; refine dSG 13 ?_; refine dSG 14 ?_; refine dRG 15 ?_; refine dSG 16 ?_; refine dSG 17 ?_; refine dSG 18 ?_; refine dRG 19 ?_; refine dCG ((refC gw gx)) 20 ?_; refine dSG 21 ?_; refine dSG 22 ?_; refine dS 23 ?_; (try clear F); first | refine dN ?_ | refine dB ?_ | refine DA.done (by decide +kernel) ?_
  by_cases hc : cmpV w x = 0
  · rw [if_neg (by simp [ho, hc])] at hF
    have F := @hc; refine tFa ?_; (try clear F)
    have F := @h5; refine tF ?_; (try clear F)
    exact ⟨i + 1, ⟨by omega, by simp [upd_lit], by simp [upd_lit, h4], by simp [upd_lit, h3], by simp [upd_lit, h2], ⟨out, o, e1, ow, by omega, go, hF⟩, e0, hnl⟩, by omega⟩
  · rw [if_pos ⟨hx0, .inr hc⟩] at hF
    have F := @hc; refine tFa ?_; (try clear F)
    repeat (first | refine AW.seq ?_ | refine AW.block ?_ | refine AW.skip ?_ | refine AExit.norT ?_ | refine AExit.norB ?_ | refine AList.nil ?_)
    refine AW.draw [.S, .R, .S, .S, .S, .R, .S, .W, .S, .W] (by decide +kernel) ?_; have F := (aand @h5 (aand @h4 (aand @h3 (aand @e1 (aand @q1 (aand @hlt (aand @rows_getD @ex'))))))); refine dST 0 ?_; refine dRT 1 ?_; refine dST 2 ?_; refine dST 3 ?_; refine dST 4 ?_; refine dRT 5 ?_; refine dST 6 ?_; (try clear F); refine DA.W (oi := ?oiw2) 7 ?aw2 ?bw2 ?cw2 ?dw2 ?ew2 ?fw2; (case aw2 => rfl); (case bw2 => decide +kernel); (case cw2 => rfl); (case dw2 => rfl); (case ew2 => decide); intro K Kp hK hKp; (simp [upd_lit]; refine app25 (l' := [x]) ow (by simp) (by simp; omega) fun o' m'' ho' hs => hK _ _ ?_; clear hK hKp K Kp); have F := (aand @h5 (aand @h4 (aand @h3 (aand @e1 (aand @q1 (aand @hlt (aand @rows_getD @ex'))))))); (try clear F)
    have q1' : m.nloc + 1 < m''.nloc := by rw [hs.nloc]; exact q1
    have e1' : m''.loc (m.nloc + 1) = some [vI 8, vI 0, vB false, .list .full [], vS ⟨#[]⟩, .list o (GV.rows out)] := by rw [hs.loc]; exact e1
    skip; have F := (aand @h3 (aand @e1' @q1')); refine dST 8 ?_; refine dW 9 ?_; (try clear F); first | refine dN ?_ | refine dB ?_ | refine DA.done (by decide +kernel) ?_
    have F := @h5; refine tF ?_; (try clear F)
    refine ⟨i + 1, ⟨by omega, by simp [upd_lit], by simp [upd_lit, h4], by simp [upd_lit, h3], by simp [upd_lit, h2], ⟨out ++ [x], o', by simp, ⟨ho'.1.setLoc (by omega) _, by rw [List.length_append]; exact ho'.2⟩, by simp; omega, fun y hy => ?_, hF⟩, by simp [hs.loc, e0], by simp [hs.nloc]; omega⟩, by omega⟩
    rcases List.mem_append.1 hy with h | h
    · exact go y h
    · simp at h; rw [h]; exact gx
end Go.Proofs.YtgfadepkiejncaaGreat
namespace Go.Proofs.YtgfadepkiejncaaGreat
open Go.Ab Go.Sort
set_option maxHeartbeats 0
set_option maxRecDepth 100000
attribute [local irreducible] AW AList ACall DA AExit.then AExit.inBlock YCall DCall
def mkL : (l : List GV) → goods l → List GG
  | [], _ => []
  | v :: l, g => ⟨v, g v (by simp)⟩ :: mkL l (fun x hx => g x (by simp [hx]))
theorem mkL_map : ∀ (l : List GV) (g : goods l), (mkL l g).map (·.1) = l
  | [], _ => rfl
  | v :: l, g => congrArg (v :: ·) (mkL_map l fun x hx => g x (by simp [hx]))
def mkG (l : List GV) (g : goods l) : Array GG := (mkL l g).toArray
theorem mkG_list (l : List GV) (g : goods l) : (mkG l g).toList.map (·.1) = l := by rw [mkG, List.toList_toArray, mkL_map]
theorem mkG_size (l : List GV) (g : goods l) : (mkG l g).size = l.length := by
  have := congrArg List.length (mkG_list l g)
  simpa using this
theorem chunk_rows : ∀ (l : List GV) (r : List PV), chunk 6 l.length ((GV.rows l).flatten ++ r) = GV.rows l
  | [], _ => rfl
  | v :: l, r => by
    simp only [List.length_cons, chunk, GV.rows, List.flatten_cons, List.append_assoc]
    rw [List.take_left' (cells_len v), List.drop_left' (cells_len v), chunk_rows l r]
theorem sortedG (l : List GV) (g : goods l) (h0 : l ≠ []) (hl : l.length ≤ 1000000) : Gives Tryz.prog 96 [GV.pvs l] (.agg (GV.mk 8 0 false [] ⟨#[]⟩ (setF l)).cells) := by
  intro m
  refine ACall.of_aw Tryz.func96 Tryz.ntmps96 rfl rfl (by simp) ?_
  refine tS ?_
  refine tS1 fun K Kp hK hKp => ?_; refine ACall.mono (cloneG l h0 hl _) ?_
  rintro _ _ ⟨rfl, rfl⟩
  refine hK _ _ ?_; clear hK hKp K Kp
  have hlen : (mkG l g).size = l.length := mkG_size l g
  obtain ⟨m1, hm1⟩ : ∃ m1, m1 = m.newLoc [vI 0, vI 0, vB false, .list .full [], .v (.string ⟨#[]⟩), .list .full []] := ⟨_, rfl⟩
  have H : Arr (m1.newLoc (GV.rows l).flatten) m1.nloc l.length (mkG l g) [] :=
    ⟨by simp, by rw [ar, mkG_list, List.append_nil]; simp, hlen, by omega⟩
  rw [← hm1]
  refine tS1 fun K Kp hK hKp => ?_; refine ACall.mono (deleteG H (fun _ _ => trivial) (Nat.le_refl _)) ?_
  rintro _ _ ⟨D, r2, hD, hr2, rfl, rfl⟩
  refine hK _ _ ?_; clear hK hKp K Kp
  have hDl : D.size ≤ l.length := by
    have := congrArg List.length hD
    have h2 := List.length_filter_le nzG (mkG l g).toList
    simp only [Array.length_toList] at this h2
    omega
  have H2 : Arr ((m1.newLoc (GV.rows l).flatten).setLoc m1.nloc (ar D r2)) m1.nloc D.size D r2 := ⟨by simp, by simp, rfl, by omega⟩
  refine tS ?_
  refine tS1 fun K Kp hK hKp => ?_; refine ACall.mono (sortG H2 hr2) ?_
  rintro _ _ ⟨R, hR1, hR2, rfl, rfl⟩
  refine hK _ _ ?_; clear hK hKp K Kp
  rw [setLoc_setLoc]
  have H3 : Arr ((m1.newLoc (GV.rows l).flatten).setLoc m1.nloc (ar R r2)) m1.nloc D.size R r2 := ⟨by simp, by simp, hR1.1, by omega⟩
  refine tS ?_
  refine tS1 fun K Kp hK hKp => ?_; refine ACall.mono (compactG H3 hr2 hDl) ?_
  rintro _ _ ⟨E, r3, hE, hr3, rfl, rfl⟩
  refine hK _ _ ?_; clear hK hKp K Kp
  rw [setLoc_setLoc]
  have hset := sorted_setF l g (mkG l g) D R (mkG_list l g) hD hR1 hR2
  rw [← hE] at hset
  refine tS1 fun K Kp hK hKp => ?_
  refine hK _ _ ?_; clear hK hKp K Kp
  refine AList.nil ?_
  refine AExit.norT ?_
  have hEl : E.size = (setF l).length := by
    have := congrArg List.length hset
    simpa using this
  have hEs : E.size ≤ l.length := by rw [hEl]; exact setF_len l
  have hsee := Sees.fz (m := (m1.newLoc (GV.rows l).flatten).setLoc m1.nloc (ar E r3)) (p := mar m1.nloc E.size l.length) (n := m1.nloc) (s := 6) (cs := ar E r3) (by simp) (by simp)
  have hch : PV.fz m1.nloc 6 (ar E r3) (mar m1.nloc E.size l.length) = GV.pvs (setF l) := by
    rw [PV.fz, if_pos ⟨rfl, hEs, by rw [ar_len]; omega⟩]
    have e1 : ((ar E r3).drop 0).take (E.size * 6) = (GV.rows (setF l)).flatten := by
      rw [List.drop_zero, ar, hset, hEl]
      exact List.take_left' (by rw [rows_flat_len])
    have e2 := chunk_rows (setF l) []
    rw [List.append_nil] at e2
    rw [e1, hEl, e2]
  rw [hch] at hsee
  refine AW.sees (d := 0) (p' := GV.pvs (setF l)) (m' := ((m1.newLoc (GV.rows l).flatten).setLoc m1.nloc (ar E r3)).dropLoc m1.nloc) (by simp only [upd_lit]; exact hsee) ?_
  subst hm1
  refine tS ?_
  refine Fin.givesC (p := .agg [vI 8, vI 0, vB false, .list .full [], vS ⟨#[]⟩, GV.pvs (setF l)]) rfl ?_ ?_ (by simp [GV.cells, limbs])
  · simp [upd_lit]; omega
  · refine Same.dropLoc ?_ (by simp) |>.setLoc (by simp) _
    refine Same.setLoc ?_ (by simp) _
    exact Same.auto
end Go.Proofs.YtgfadepkiejncaaGreat
namespace Go.Proofs.YtgfadepkiejncaaGreat
open Go.Ab Go.Sort
set_option maxHeartbeats 0
set_option maxRecDepth 100000
attribute [local irreducible] AW AList ACall DA AExit.then AExit.inBlock YCall DCall
theorem index0 : Gives Tryz.prog 148 [.list .no [], cloO] (vI (-1)) := by
  intro m
  refine ACall.of_aw Tryz.func148 Tryz.ntmps148 rfl rfl (by simp) ?_
  refine tS ?_
  refine AW.loop (ι := Nat) (fun _ σ m' => σ 8 = vI 0 ∧ σ 7 = vI 0 ∧ m' = m) (fun i => i) 0 ?_ ?_
  · exact ⟨by simp [upd_lit], by simp [upd_lit], rfl⟩
  rintro i σ m' ⟨t8, t7, rfl⟩
  have F := (aand @t8 @t7); refine tFa ?_; (try clear F)
  exact Fin.gives Same.auto
theorem delete0 : Gives Tryz.prog 140 [.list .no [], cloO] (.list .no []) := by
  intro m
  refine ACall.of_aw Tryz.func140 Tryz.ntmps140 rfl rfl (by simp) ?_
  refine tS ?_
  refine tS1 fun K Kp hK hKp => ?_; refine Gives.at (index0) ?_; apply hK; clear hK hKp K Kp
  refine tSa ?_
  exact Fin.gives Same.auto
theorem compact0 : Gives Tryz.prog 144 [.list .no [], cloE] (.list .no []) := by
  intro m
  refine ACall.of_aw Tryz.func144 Tryz.ntmps144 rfl rfl (by simp) ?_
  refine tSa ?_
  exact Fin.gives Same.auto
theorem insertion0 : Gives Tryz.prog 175 [.list .no [], vI 0, vI 0, cloC] (.tup []) := by
  intro m
  refine ACall.of_aw Tryz.func175 Tryz.ntmps175 rfl rfl (by simp) ?_
  refine tS ?_
  refine AW.loop (ι := Nat) (fun _ σ m' => σ 8 = vI 1 ∧ σ 2 = vI 0 ∧ m' = m) (fun i => i) 0 ?_ ?_
  · exact ⟨by simp [upd_lit], by simp [upd_lit], rfl⟩
  rintro i σ m' ⟨t8, t2, rfl⟩
  have F := (aand @t8 @t2); refine tFa ?_; (try clear F)
  exact Fin.here (r := .tup []) (by exact ⟨[], rfl, rfl⟩) (.inl rfl) ⟨rfl, rfl⟩
theorem pdq0 : Gives Tryz.prog 165 [.list .no [], vI 0, vI 0, vI 0, cloC] (.tup []) := by
  intro m
  refine ACall.of_aw Tryz.func165 Tryz.ntmps165 rfl rfl (by simp) ?_
  refine tS ?_
  refine AW.loop (ι := Nat) (fun _ σ m' => σ 0 = .list .no [] ∧ σ 1 = vI 0 ∧ σ 2 = vI 0 ∧ σ 4 = cloC ∧ m' = m) (fun i => i) 0 ?_ ?_
  · exact ⟨by simp [upd_lit], by simp [upd_lit], by simp [upd_lit], by simp [upd_lit], rfl⟩
  rintro i σ m' ⟨t0, t1, t2, t4, rfl⟩
  have F := (aand @t0 (aand @t1 (aand @t2 @t4))); refine tFa ?_; (try clear F)
  refine tS1 fun K Kp hK hKp => ?_; refine Gives.at (insertion0) ?_; apply hK; clear hK hKp K Kp
  refine tSa ?_
  exact Fin.here (r := .tup []) (by exact ⟨[], rfl, rfl⟩) (.inr rfl) ⟨rfl, rfl⟩
theorem sort0 : Gives Tryz.prog 143 [.list .no [], cloC] (.tup []) := by
  intro m
  refine ACall.of_aw Tryz.func143 Tryz.ntmps143 rfl rfl (by simp) ?_
  have hb : ((bitsLen 0 : Nat) : Int) = 0 := rfl
  refine tS ?_
  refine tS1 fun K Kp hK hKp => ?_; refine Gives.at (bitsLenG 0 (by omega)) ?_; apply hK; clear hK hKp K Kp
  have F := @hb; refine tF ?_; (try clear F)
  refine tS1 fun K Kp hK hKp => ?_; refine Gives.at (pdq0) ?_; apply hK; clear hK hKp K Kp
  refine tS ?_
  exact Fin.here (r := .tup []) (by exact ⟨[], rfl, rfl⟩) (.inl rfl) ⟨rfl, rfl⟩
theorem clone0 : Gives Tryz.prog 141 [.list .no []] (.list .no []) := by
  intro m
  refine ACall.of_aw Tryz.func141 Tryz.ntmps141 rfl rfl (by simp) ?_
  refine tS ?_
  refine AList.op (by decide) ?_; intro K Kp hK hKp; simp [upd_lit]
  refine ⟨?_, ?_⟩
  · apply hK; clear hK hKp K Kp
    refine tSa ?_
    refine AList.op (by decide) ?_; intro K Kp hK hKp; simp [upd_lit]
    refine app25 (l := []) (l' := []) (m0 := m) (.full (Same.refl m)) rfl (by simp) fun o' m'' ho' _ => hK _ _ ?_; clear hK hKp K Kp
    refine tS ?_
    exact Fin.ret rfl ho'.1 (by simp [upd_lit]; rfl) (by simp) ⟨rfl, rfl⟩
  · apply hK; clear hK hKp K Kp
    refine tS ?_
    refine AW.cond (t := true) (by simp [upd_lit]) (fun _ => ?_) (fun h => by cases h)
    refine tSn ?_
    refine AW.nilS (d := 2) (by simp [upd_lit]) ?_
    refine tS ?_
    exact Fin.ret rfl (Same.refl m) (by simp [upd_lit]) (by simp) ⟨rfl, rfl⟩
theorem sorted0 : Gives Tryz.prog 96 [GV.pvs []] (.agg (GV.mk 8 0 false [] ⟨#[]⟩ (setF [])).cells) := by
  intro m
  have e : setF [] = [] := List.length_eq_zero_iff.1 (Nat.le_zero.1 (setF_len []))
  rw [e]
  refine ACall.of_aw Tryz.func96 Tryz.ntmps96 rfl rfl (by simp) ?_
  refine tS ?_
  refine tS1 fun K Kp hK hKp => ?_; refine Gives.at (clone0) ?_; apply hK; clear hK hKp K Kp
  refine tS ?_
  refine tS1 fun K Kp hK hKp => ?_; refine Gives.at (delete0) ?_; apply hK; clear hK hKp K Kp
  refine tS ?_
  refine tS1 fun K Kp hK hKp => ?_; refine Gives.at (sort0) ?_; apply hK; clear hK hKp K Kp
  refine tS ?_
  refine tS1 fun K Kp hK hKp => ?_; refine Gives.at (compact0) ?_; apply hK; clear hK hKp K Kp
  refine tS ?_
  refine Fin.givesC (p := .agg [vI 8, vI 0, vB false, .list .full [], vS ⟨#[]⟩, .list .no []]) rfl (by simp [upd_lit]) Same.auto (by rfl)
end Go.Proofs.YtgfadepkiejncaaGreat
namespace Go.Ab
theorem AW.frzL {P : Program} {N : Nat} {Q : APost} {σ : Nat → PV} {m : St} {c : Code} {n d : Nat} {cs : List PV} (hn : n < m.nloc) (hc : m.loc n = some cs) (hd : σ d = .loc n 0) (h : AW P N c Q (upd σ d (.ro cs)) (m.dropLoc n)) : AW P N c Q σ m :=
  AW.frz hn hc (by rw [hd]; simpa [PV.frz] using h)
end Go.Ab
namespace Go.Proofs.YtgfadepkiejncaaGreat
open Go.Ab
set_option maxHeartbeats 0
set_option maxRecDepth 100000
attribute [local irreducible] AW AList ACall DA AExit.then AExit.inBlock YCall DCall
theorem ref_joined (a b : GV) (ga : good a) (gb : good b) (la : a.els.length < 100000000000) (lb : b.els.length < 100000000000) : Gives Tryz.prog 124 [a.pv, b.pv] (setV (setF (a.els ++ b.els))).pv := by
  have hc := ref_makeSet (a.els ++ b.els) (fun x hx => (List.mem_append.1 hx).elim (ga.els x) (gb.els x)) (by simp; omega)
  intro m
  refine ACall.of_aw Tryz.func124 Tryz.ntmps124 rfl rfl (by simp) ?_
  refine tS ?_
  refine AW.frzL (n := m.nloc + 1) (d := 3) (cs := b.cells) (by simp) (by simp) (by simp [upd_lit]) ?_
  refine AW.frzL (n := m.nloc) (d := 2) (cs := a.cells) (by simp; omega) (by simp; intro h; omega) (by simp [upd_lit]) ?_
  generalize hmm : ((((m.newLoc a.cells).newLoc b.cells).newLoc [vI 0, vI 0, vB false, PV.list Own.full [], vS ⟨#[]⟩, PV.list Own.full []]).dropLoc (m.nloc + 1)).dropLoc m.nloc = mm
  have sm : Same m mm := by rw [← hmm]; exact (((Same.refl m).newLoc _ |>.newLoc _ |>.newLoc _).dropLoc (by omega)).dropLoc (Nat.le_refl _)
  have g2 : mm.loc (m.nloc + 2) = some [vI 0, vI 0, vB false, PV.list Own.full [], vS ⟨#[]⟩, PV.list Own.full []] := by rw [← hmm]; simp
  have n2 : m.nloc + 2 < mm.nloc := by rw [← hmm]; simp
  clear hmm
  repeat (first | refine AW.seq ?_ | refine AW.block ?_ | refine AW.skip ?_ | refine AExit.norT ?_ | refine AExit.norB ?_ | refine AList.nil ?_)
  refine AW.draw [.S, .S, .S, .W, .S, .S, .W, .R, .W] (by decide +kernel) ?_; have F := True.intro; refine dST 0 ?_; refine dST 1 ?_; refine dST 2 ?_; refine dST 4 ?_; refine dST 5 ?_; (try clear F); refine DA.W (oi := ?oiw1) 3 ?aw1 ?bw1 ?cw1 ?dw1 ?ew1 ?fw1; (case aw1 => rfl); (case bw1 => decide +kernel); (case cw1 => rfl); (case dw1 => rfl); (case ew1 => decide); intro K Kp hK hKp; (simp [upd_lit]; refine app25 (m0 := m) (l := []) (l' := a.els) (.full sm) rfl (by simp; omega) fun o1 m1 ho1 hs1 => hK _ _ ?_; clear hK hKp K Kp); have F := True.intro; (try clear F); refine DA.W (oi := ?oiw2) 6 ?aw2 ?bw2 ?cw2 ?dw2 ?ew2 ?fw2; (case aw2 => rfl); (case bw2 => decide +kernel); (case cw2 => rfl); (case dw2 => rfl); (case ew2 => decide); intro K Kp hK hKp; (simp [upd_lit]; refine app25 (m0 := m) (l := a.els) (l' := b.els) (n := a.els.length) (by simpa using ho1) rfl (by omega) fun o2 m2 ho2 hs2 => hK _ _ ?_; clear hK hKp K Kp); have F := True.intro; refine dCT ((hc)) 7 ?_; (try clear F)
  have g2' : m2.loc (m.nloc + 2) = some [vI 0, vI 0, vB false, PV.list Own.full [], vS ⟨#[]⟩, PV.list Own.full []] := by rw [hs2.loc, hs1.loc]; exact g2
  have n2' : m.nloc + 2 < m2.nloc := by rw [hs2.nloc, hs1.nloc]; exact n2
  skip; have F := (aand @g2' @n2'); refine dW 8 ?_; (try clear F); first | refine dN ?_ | refine dB ?_ | refine DA.done (by decide +kernel) ?_
  refine tS ?_
  exact Fin.givesC (p := (setV (setF (a.els ++ b.els))).pv) rfl (by simp [upd_lit, n2']) (ho2.1.setLoc (by omega) _)
theorem nodesL_append (a b : List GV) : nodesL (a ++ b) = nodesL a + nodesL b := by
  induction a with
  | nil => simp [nodesL]
  | cons v a ih => simp [nodesL, ih]; omega
def smallV (v : GV) : Prop := ∀ x ∈ walkV v, x.abs.length ≤ 1099511627776
theorem good_small {v : GV} (h : good v) : smallV v := fun x hx => by
  have := (walk_fmd v h.1 x hx).node.2.2.1
  omega
theorem walkL_mem_iff (x : GV) : ∀ l : List GV, x ∈ walkL l ↔ ∃ y ∈ l, x ∈ walkV y
  | [] => by simp [walkL]
  | v :: l => by simp [walkL, walkL_mem_iff x l]
theorem small_list {k : Int} {l : List GV} (g : goods l) : smallV (.mk k 0 false [] ⟨#[]⟩ l) := fun x hx => by
  rw [walkV, List.mem_cons] at hx
  rcases hx with rfl | hx
  · simp [GV.abs]
  · obtain ⟨y, hy, h⟩ := (walkL_mem_iff x l).1 hx
    exact good_small (g y hy) x h
theorem Inc_nodup {l : List GV} (h : Inc l) : l.Nodup := by
  refine List.Pairwise.imp (fun {a b} hab e => ?_) h
  subst e; exact cmp_irr a hab
theorem nodesL_sub {l s : List GV} (h : s.Nodup) (hs : ∀ x ∈ s, x ∈ l) : nodesL s ≤ nodesL l := by
  induction s generalizing l with
  | nil => simp [nodesL]
  | cons x s ih =>
    obtain ⟨h1, h2⟩ := List.nodup_cons.1 h
    obtain ⟨p, q, e⟩ := List.append_of_mem (hs x (by simp))
    have := ih (l := p ++ q) h2 (fun y hy => by
      have h3 := hs y (by simp [hy])
      rw [e] at h3
      rcases List.mem_append.1 h3 with h4 | h4
      · simp [h4]
      · rcases List.mem_cons.1 h4 with h5 | h5
        · subst h5; exact absurd hy h1
        · simp [h5])
    rw [e, nodesL_append]
    rw [nodesL_append] at this
    simp only [nodesL]
    omega
theorem ref_union (a b : GV) (ga : good a) (gb : good b) (la : nodes a < 100000000000) (lb : nodes b < 100000000000) :
    Gives Tryz.prog 74 [a.pv, b.pv] (if a.kind = 8 ∧ b.kind = 8 then made (fitV (setV (setF (a.els ++ b.els)))) (fitE (setV (setF (a.els ++ b.els)))) else made omV 7) := by
  have ea := nodes_eq a
  have eb := nodes_eq b
  have na := nodesL_len a.els
  have nb := nodesL_len b.els
  have gab : goods (a.els ++ b.els) := fun x hx => (List.mem_append.1 hx).elim (ga.els x) (gb.els x)
  obtain ⟨s1, s2, s3⟩ := setF_spec _ gab
  have hn : nodesL (setF (a.els ++ b.els)) ≤ nodesL (a.els ++ b.els) := nodesL_sub (Inc_nodup s1) fun x hx => ((s3 x).1 hx).1
  rw [nodesL_append] at hn
  have en : nodes (setV (setF (a.els ++ b.els))) = 1 + nodesL (setF (a.els ++ b.els)) := nodes_eq _
  intro m
  refine ACall.of_aw Tryz.func74 Tryz.ntmps74 rfl rfl (by simp) ?_
  refine tS ?_
  refine tS1 fun K Kp hK hKp => ?_; refine Gives.at (ref_sets a b) ?_; apply hK; clear hK hKp K Kp
  by_cases h : a.kind = 8 ∧ b.kind = 8
  · obtain ⟨h1, h2⟩ := h
    rw [if_pos ⟨h1, h2⟩]
    have F := (aand @h1 @h2); refine tFa ?_; (try clear F)
    refine tS1 fun K Kp hK hKp => ?_; refine Gives.at (ref_joined a b ga gb (by omega) (by omega)) ?_; apply hK; clear hK hKp K Kp
    refine tS ?_
    refine tS1 fun K Kp hK hKp => ?_; refine Gives.at (ref_fitting (setV (setF (a.els ++ b.els))) (by omega) (small_list s2)) ?_; apply hK; clear hK hKp K Kp
    refine tS ?_
    exact Fin.givesC (p := made (fitV (setV (setF (a.els ++ b.els)))) (fitE (setV (setF (a.els ++ b.els))))) rfl (by simp [upd_lit]) Same.auto
  · rw [if_neg h]
    have h' : (decide (a.kind = 8) && decide (b.kind = 8)) = false := by
      rw [Bool.eq_false_iff]; intro q; simp at q; exact h q
    rw [h']
    refine tSa ?_
    refine tS1 fun K Kp hK hKp => ?_; refine Gives.at (ref_bad 7) ?_; apply hK; clear hK hKp K Kp
    refine tS ?_
    exact Fin.givesC (p := made omV 7) rfl (by simp [upd_lit]) Same.auto (by rfl)
theorem one_good {x : GV} (h : good x) (h0 : x.kind ≠ 0) : good (setV [x]) := by
  refine ⟨?_, ?_⟩
  · rw [fmd_eq]
    exact ⟨⟨by kernel_rfl, by kernel_rfl, by simp [GV.abs], by show (0 : Nat) ≤ 1000; omega⟩, fun _ => ⟨fun y hy => (by simp [GV.els] at hy; rw [hy]; exact h0), trivial⟩, ⟨h.1, trivial⟩⟩
  · exact ⟨by omega, by omega, by decide, by show (0 : Nat) < _; omega, by simp, fun x hx => (by cases hx), ⟨h.2, trivial⟩⟩
end Go.Proofs.YtgfadepkiejncaaGreat
namespace Go.Proofs.YtgfadepkiejncaaGreat
open Go.Ab
set_option maxHeartbeats 0
set_option maxRecDepth 100000
attribute [local irreducible] AW AList ACall DA AExit.then AExit.inBlock YCall DCall
theorem ref_with (s x : GV) (gs : good s) (gx : good x) (hx : x.kind ≠ 0) (ls : nodes s < 100000000) (lx : nodes x < 100000000) :
    Gives Tryz.prog 72 [s.pv, x.pv] (if s.kind = 8 then made (fitV (setV (setF (s.els ++ [x])))) (fitE (setV (setF (s.els ++ [x])))) else made omV 7) := by
  have hu := ref_union s (setV [x]) gs (one_good gx hx) (by omega) (by simp [nodes, nodesL]; omega)
  intro m
  refine ACall.of_aw Tryz.func72 Tryz.ntmps72 rfl rfl (by simp) ?_
  by_cases h : s.kind = 8
  · rw [if_pos ⟨h, rfl⟩, show (setV [x]).els = [x] from rfl] at hu
    rw [if_pos h]
    have F := @h; refine tFa ?_; (try clear F)
    refine AW.draw [.R, .R, .R, .R, .W] (by decide +kernel) ?_; have F := True.intro; refine dRT 0 ?_; refine dRT 1 ?_; refine dCT ((ref_one x)) 2 ?_; refine dCT ((hu)) 3 ?_; refine dW 4 ?_; (try clear F); first | refine dN ?_ | refine dB ?_ | refine DA.done (by decide +kernel) ?_
    simp only [put]
    refine tS ?_
    exact Fin.givesC (p := made (fitV (setV (setF (s.els ++ [x])))) (fitE (setV (setF (s.els ++ [x]))))) rfl (by simp [upd_lit]) Same.auto
  · rw [if_neg h]
    have F := @h; refine tFa ?_; (try clear F)
    refine tS1 fun K Kp hK hKp => ?_; refine Gives.at (ref_bad 7) ?_; apply hK; clear hK hKp K Kp
    refine tS ?_
    exact Fin.givesC (p := made omV 7) rfl (by simp [upd_lit]) Same.auto (by rfl)
theorem fitB_not (v : GV) : (!fitB v) = (decide (3000 < (nodes v : Int)) || decide (20 < (deep v : Int))) := by
  unfold fitB
  by_cases h1 : (nodes v : Int) ≤ 3000 <;> by_cases h2 : (deep v : Int) ≤ 20 <;> simp [h1, h2] <;> omega
end Go.Proofs.YtgfadepkiejncaaGreat
namespace Go.Ab
theorem AW.cuts5 {P : Program} {N : Nat} {I : (Nat → PV) → St → Prop} {Q : APost} {σ : Nat → PV} {m : St} {c1 c2 c3 c4 c5 R : Code} (h2 : ∀ σ m, I σ m → AW P N R Q σ m) (h : AWs P N I Q [c1, c2, c3, c4, c5] σ m) :
    AW P N (.seq c1 (.seq c2 (.seq c3 (.seq c4 (.seq c5 R))))) Q σ m := AW.cuts R h2 [c1, c2, c3, c4, c5] σ m h
end Go.Ab
namespace Go.Proofs.YtgfadepkiejncaaGreat
open Go.Ab
set_option maxHeartbeats 0
set_option maxRecDepth 100000
attribute [local irreducible] AW AList ACall DA AExit.then AExit.inBlock YCall DCall
theorem slice1 (x : GV) (l : List GV) (m : St) (K : PV → St → Prop) : aslice Tryz.prog 25 (GV.pvs (x :: l)) (some (vI 1)) none none m K ↔ K (GV.pvs l) m := by
  simp [aslice, abnd, GV.rows]
  rw [List.take_of_length_le (by simp)]
  constructor
  · rintro ⟨_, _, h⟩; exact h
  · intro h; exact ⟨by have := rows_w (x :: l); simpa [GV.rows] using this, by omega, h⟩
theorem set0_cells (x y : GV) : setL x.cells 0 y.cells = y.cells := by
  rw [setL_eq _ _ _ (by rw [cells_len, cells_len]; omega), List.drop_of_length_le (by rw [cells_len, cells_len]; omega)]
  simp
theorem rows_head (x : GV) (l : List GV) : rowI (GV.rows (x :: l)) 0 = x.cells := rows_getD (x :: l) 0 (by simp)
theorem mrg_len (st : Bool → Bool → Bool) : ∀ a b, (mrg st a b).length ≤ a.length + b.length := by
  intro a b
  fun_induction mrg st a b with
  | case1 => simp
  | case2 y b ih => simp at ih ⊢; have : (one (st false true) y).length ≤ 1 := by cases st false true <;> simp [one]
                    omega
  | case3 x a ih => simp at ih ⊢; have : (one (st true false) x).length ≤ 1 := by cases st true false <;> simp [one]
                    omega
  | case4 x a y b h ih => simp at ih ⊢; have : (one (st true false) x).length ≤ 1 := by cases st true false <;> simp [one]
                          omega
  | case5 x a y b h h2 ih => simp at ih ⊢; have : (one (st false true) y).length ≤ 1 := by cases st false true <;> simp [one]
                             omega
  | case6 x a y b h h2 ih => simp at ih ⊢; have : (one (st true true) y).length ≤ 1 := by cases st true true <;> simp [one]
                             omega
theorem val_merged (st : Bool → Bool → Bool) (f : FuncId) (hf : ∀ p q : Bool, Gives Tryz.prog f [vB p, vB q] (vB (st p q))) (a b : List GV) (ga : goods a) (gb : goods b) (la : a.length < 100000000000) (lb : b.length < 100000000000) :
    Gives Tryz.prog 151 [GV.pvs a, GV.pvs b, .clo 22 [] [], .clo f [] []] (GV.pvs (mrg st a b)) := by
  have hM := mrg_len st a b
  generalize hMe : mrg st a b = M at hM ⊢
  intro m
  refine ACall.of_aw Tryz.func151 Tryz.ntmps151 rfl rfl (by simp) ?_
  refine tSn ?_
  refine AW.nilS (d := 9) (by simp [upd_lit]) ?_
  refine AW.loop (ι := List GV × List GV) (fun p σ m' => σ 0 = GV.pvs p.1 ∧ σ 1 = GV.pvs p.2 ∧ σ 2 = .clo 22 [] [] ∧ σ 3 = .clo f [] [] ∧ goods p.1 ∧ goods p.2 ∧ p.1.length < 100000000000 ∧ p.2.length < 100000000000 ∧ (∃ out o, σ 9 = .list o (GV.rows out) ∧ Ow m m' o 6 out.length ∧ out ++ mrg st p.1 p.2 = M)) (fun p => p.1.length + p.2.length) (a, b) ?_ ?_
  · exact ⟨by simp [upd_lit], by simp [upd_lit], by simp [upd_lit], by simp [upd_lit], ga, gb, la, lb, [], .full, by simp [upd_lit, GV.rows], .full (Same.refl _), by simpa using hMe⟩
  clear ga gb hMe
  rintro ⟨a1, b1⟩ σ m' ⟨h0, h1, h2, h3, ga, gb, la1, lb1, out, o, h9, ho, hF⟩
  simp only at h0 h1 ga gb la1 lb1 hF ⊢
  have hout : out.length ≤ M.length := by rw [← hF]; simp
  -- at the end
  by_cases hend : a1 = [] ∧ b1 = []
  · obtain ⟨rfl, rfl⟩ := hend
    have F := (aand @h0 @h1); refine tFa ?_; (try clear F)
    have F := @h9; refine tF ?_; (try clear F)
    rw [mrg, List.append_nil] at hF
    rw [← hF]
    exact Fin.gives ho.1 rfl (by simp [upd_lit, PV.strip, h9])
  have hpos : 0 < (a1.length : Int) + b1.length := by
    cases a1 with
    | nil => cases b1 with
      | nil => exact absurd ⟨rfl, rfl⟩ hend
      | cons y t => simp
    | cons x t => simp; omega
  have F := (aand @h0 @h1); refine tF ?_; (try clear F)
  refine AW.condT (by simp [upd_lit, hpos]) ?_
  refine AW.skip ?_
  refine AExit.norT ?_
  refine AW.block ?_
  refine AW.cuts5 (I := fun σ' m'' => ∃ (c : Int) (z : GV) (a2 b2 : List GV) (k : Nat), σ' 10 = vI c ∧ σ' 11 = .loc k 0 ∧ k < m''.nloc ∧ m''.loc k = some z.cells ∧ σ' 0 = GV.pvs a2 ∧ σ' 1 = GV.pvs b2 ∧ σ' 2 = .clo 22 [] [] ∧ σ' 3 = .clo f [] [] ∧ goods a2 ∧ goods b2 ∧ a2.length < 100000000000 ∧ b2.length < 100000000000 ∧
    a2.length + b2.length < a1.length + b1.length ∧ σ' 9 = .list o (GV.rows out) ∧ Ow m m'' o 6 out.length ∧ out ++ (one (st (decide (c ≤ 0)) (decide (0 ≤ c))) z ++ mrg st a2 b2) = M) ?_ ?_
  · rintro τ m2 ⟨c, z, a2, b2, k, t10, t11, hk, hkc, t0, t1, t2, t3, ga2, gb2, la2, lb2, hdec, t9, ho2, hF2⟩
    have F := (aand @t10 @t3); refine tF ?_; (try clear F)
    have F := @t3; refine tF1 fun K Kp hK hKp => ?_; (try clear F); refine Gives.at (hf (decide (c ≤ 0)) (decide (0 ≤ c))) ?_; apply hK; clear hK hKp K Kp
    refine tS ?_
    cases hst : st (decide (c ≤ 0)) (decide (0 ≤ c)) with
    | false =>
      rw [hst] at hF2
      refine tSa ?_
      exact ⟨(a2, b2), ⟨by simp [upd_lit, t0], by simp [upd_lit, t1], by simp [upd_lit, t2], by simp [upd_lit, t3], ga2, gb2, la2, lb2, out, o, by simp [upd_lit, t9], ho2, by simpa [one] using hF2⟩, by simpa using hdec⟩
    | true =>
      rw [hst] at hF2
      refine tSa ?_
      have F := (aand @t9 (aand @t11 (aand @hk @hkc))); refine tF ?_; (try clear F)
      refine AList.op (by decide) ?_; intro K Kp hK hKp; simp [t9, upd_lit]
      refine app25 (l' := [z]) ho2 rfl (by simp; omega) fun o' m'' ho' hs' => hK _ _ ?_; clear hK hKp K Kp
      refine tS ?_
      exact ⟨(a2, b2), ⟨by simp [upd_lit, t0], by simp [upd_lit, t1], by simp [upd_lit, t2], by simp [upd_lit, t3], ga2, gb2, la2, lb2, out ++ [z], o', by simp [upd_lit], by simpa using ho', by simpa [one] using hF2⟩, by simpa using hdec⟩
  · simp only [AWs]
    cases a1 with
    | nil =>
      cases b1 with
      | nil => exact absurd ⟨rfl, rfl⟩ hend
      | cons y b2 =>
        rw [mrg] at hF
        have F := (aand @h0 @h1); refine tFa ?_; (try clear F)
        repeat (first | refine AW.seq ?_ | refine AW.block ?_ | refine AW.skip ?_ | refine AExit.norT ?_ | refine AExit.norB ?_ | refine AList.nil ?_)
        refine AW.draw [.S, .S, .S, .S, .S, .W, .S] (by decide +kernel) ?_; have F := (aand @h1 (aand @slice1 @rows_head)); refine dST 0 ?_; refine dST 1 ?_; refine dST 2 ?_; refine dST 3 ?_; refine dST 4 ?_; refine dW 5 ?_; refine dST 6 ?_; (try clear F); first | refine dN ?_ | refine dB ?_ | refine DA.done (by decide +kernel) ?_
        simp only [put]
        refine tSa ?_
        exact ⟨1, y, [], b2, m'.nloc, by simp [upd_lit], by simp [upd_lit], by simp, by simp, by simp [upd_lit, h0], by simp [upd_lit], by simp [upd_lit, h2], by simp [upd_lit, h3], ga, gb.tail.2, by simp, by simp at lb1; omega, by simp, by simp [upd_lit, h9], ⟨(ho.1.newLoc _).setLoc ho.1.lloc _, ho.2⟩, by simpa using hF⟩
    | cons x a2 =>
      have gx := ga.tail.1
      cases b1 with
      | nil =>
        rw [mrg] at hF
        have F := (aand @h0 @h1); refine tFa ?_; (try clear F)
        repeat (first | refine AW.seq ?_ | refine AW.block ?_ | refine AW.skip ?_ | refine AExit.norT ?_ | refine AExit.norB ?_ | refine AList.nil ?_)
        refine AW.draw [.S, .S, .S, .S, .S, .W, .S] (by decide +kernel) ?_; have F := (aand @h0 (aand @slice1 @rows_head)); refine dST 0 ?_; refine dST 1 ?_; refine dST 2 ?_; refine dST 3 ?_; refine dST 4 ?_; refine dW 5 ?_; refine dST 6 ?_; (try clear F); first | refine dN ?_ | refine dB ?_ | refine DA.done (by decide +kernel) ?_
        simp only [put]
        refine tSa ?_
        exact ⟨-1, x, a2, [], m'.nloc, by simp [upd_lit], by simp [upd_lit], by simp, by simp, by simp [upd_lit], by simp [upd_lit, h1], by simp [upd_lit, h2], by simp [upd_lit, h3], ga.tail.2, gb, by simp at la1; omega, by simp, by simp, by simp [upd_lit, h9], ⟨(ho.1.newLoc _).setLoc ho.1.lloc _, ho.2⟩, by simpa using hF⟩
      | cons y b2 =>
        have gy := gb.tail.1
        have F := (aand @h0 @h1); refine tFa ?_; (try clear F)
        repeat (first | refine AW.seq ?_ | refine AW.block ?_ | refine AW.skip ?_ | refine AExit.norT ?_ | refine AExit.norB ?_ | refine AList.nil ?_)
        refine AW.draw [.S, .S, .S, .S, .S, .S, .S, .R, .S] (by decide +kernel) ?_; have F := (aand @h0 (aand @h1 (aand @h2 @rows_head))); refine dS 0 ?_; refine dS 1 ?_; refine dS 2 ?_; refine dS 3 ?_; refine dS 4 ?_; refine dS 5 ?_; refine dS 6 ?_; refine dC ((val_compare x y gx gy)) 7 ?_; refine dS 8 ?_; (try clear F); first | refine dN ?_ | refine dB ?_ | refine DA.done (by decide +kernel) ?_
        repeat (first | refine AW.seq ?_ | refine AW.block ?_ | refine AW.skip ?_ | refine AExit.norT ?_ | refine AExit.norB ?_ | refine AList.nil ?_)
        rw [mrg] at hF
        by_cases hc1 : cmpV x y < 0
        · rw [if_pos hc1] at hF
          have c1 : cmpV x y ≤ 0 := by omega
          have c2 : ¬ 0 ≤ cmpV x y := by omega
          have F := @c1; refine tFa ?_; (try clear F)
          repeat (first | refine AW.seq ?_ | refine AW.block ?_ | refine AW.skip ?_ | refine AExit.norT ?_ | refine AExit.norB ?_ | refine AList.nil ?_)
          refine AW.draw [.S, .S, .S, .S, .S, .W, .S] (by decide +kernel) ?_; have F := (aand @h0 (aand @slice1 @rows_head)); refine dST 0 ?_; refine dST 1 ?_; refine dST 2 ?_; refine dST 3 ?_; refine dST 4 ?_; refine dW 5 ?_; refine dST 6 ?_; (try clear F); first | refine dN ?_ | refine dB ?_ | refine DA.done (by decide +kernel) ?_
          simp only [put]
          have F := @c2; refine tFa ?_; (try clear F)
          exact ⟨cmpV x y, x, a2, y :: b2, m'.nloc, by simp [upd_lit], by simp [upd_lit], by simp, by simp, by simp [upd_lit], by simp [upd_lit, h1], by simp [upd_lit, h2], by simp [upd_lit, h3], ga.tail.2, gb, by simp at la1; omega, lb1, by simp, by simp [upd_lit, h9], ⟨(ho.1.newLoc _).setLoc ho.1.lloc _, ho.2⟩, by rw [decide_eq_true c1, decide_eq_false c2]; exact hF⟩
        rw [if_neg hc1] at hF
        by_cases hc2 : 0 < cmpV x y
        · rw [if_pos hc2] at hF
          have c1 : ¬ cmpV x y ≤ 0 := by omega
          have c2 : 0 ≤ cmpV x y := by omega
          have F := (aand @c1 @c2); refine tFa ?_; (try clear F)
          repeat (first | refine AW.seq ?_ | refine AW.block ?_ | refine AW.skip ?_ | refine AExit.norT ?_ | refine AExit.norB ?_ | refine AList.nil ?_)
          refine AW.draw [.S, .S, .S, .S, .S, .W, .S] (by decide +kernel) ?_; have F := (aand @h1 (aand @slice1 @rows_head)); refine dST 0 ?_; refine dST 1 ?_; refine dST 2 ?_; refine dST 3 ?_; refine dST 4 ?_; refine dW 5 ?_; refine dST 6 ?_; (try clear F); first | refine dN ?_ | refine dB ?_ | refine DA.done (by decide +kernel) ?_
          simp only [put]
          refine tSa ?_
          exact ⟨cmpV x y, y, x :: a2, b2, m'.nloc, by simp [upd_lit], by simp [upd_lit], by simp, by simp, by simp [upd_lit, h0], by simp [upd_lit], by simp [upd_lit, h2], by simp [upd_lit, h3], ga, gb.tail.2, la1, by simp at lb1; omega, by simp, by simp [upd_lit, h9], ⟨(ho.1.newLoc _).setLoc ho.1.lloc _, ho.2⟩, by rw [decide_eq_true c2, decide_eq_false c1]; exact hF⟩
        · rw [if_neg hc2] at hF
          have c0 : cmpV x y = 0 := by omega
          have F := @c0; refine tFa ?_; (try clear F)
          repeat (first | refine AW.seq ?_ | refine AW.block ?_ | refine AW.skip ?_ | refine AExit.norT ?_ | refine AExit.norB ?_ | refine AList.nil ?_)
          refine AW.draw [.S, .S, .S, .S, .S, .W, .S] (by decide +kernel) ?_; have F := (aand @h0 (aand @slice1 @rows_head)); refine dST 0 ?_; refine dST 1 ?_; refine dST 2 ?_; refine dST 3 ?_; refine dST 4 ?_; refine dW 5 ?_; refine dST 6 ?_; (try clear F); first | refine dN ?_ | refine dB ?_ | refine DA.done (by decide +kernel) ?_
          simp only [put]
          have F := @c0; refine tFa ?_; (try clear F)
          repeat (first | refine AW.seq ?_ | refine AW.block ?_ | refine AW.skip ?_ | refine AExit.norT ?_ | refine AExit.norB ?_ | refine AList.nil ?_)
          refine AW.draw [.S, .S, .S, .S, .S, .W, .S] (by decide +kernel) ?_; have F := (aand @h1 (aand @slice1 @rows_head)); refine dST 0 ?_; refine dST 1 ?_; refine dST 2 ?_; refine dST 3 ?_; refine dST 4 ?_; refine dW 5 ?_; refine dST 6 ?_; (try clear F); first | refine dN ?_ | refine dB ?_ | refine DA.done (by decide +kernel) ?_
          simp only [put]
          refine tSa ?_
          exact ⟨cmpV x y, y, a2, b2, m'.nloc, by simp [upd_lit], by simp [upd_lit], by simp, by simp [set0_cells], by simp [upd_lit], by simp [upd_lit], by simp [upd_lit, h2], by simp [upd_lit, h3], ga.tail.2, gb.tail.2, by simp at la1; omega, by simp at lb1; omega, by simp; omega, by simp [upd_lit, h9], ⟨((ho.1.newLoc _).setLoc ho.1.lloc _).setLoc ho.1.lloc _, ho.2⟩, by rw [c0]; exact hF⟩
def stU (_ _ : Bool) : Bool := true
theorem clo115 (p q : Bool) : Gives Tryz.prog 115 [vB p, vB q] (vB (stU p q)) := by
  intro m
  refine ACall.of_aw Tryz.func115 Tryz.ntmps115 rfl rfl (by simp) ?_
  refine tS ?_
  exact Fin.gives Same.auto rfl (by simp [upd_lit]; rfl)
theorem clo117 (p q : Bool) : Gives Tryz.prog 117 [vB p, vB q] (vB (stU p q)) := by
  intro m
  refine ACall.of_aw Tryz.func117 Tryz.ntmps117 rfl rfl (by simp) ?_
  refine tS ?_
  exact Fin.gives Same.auto rfl (by simp [upd_lit]; rfl)
abbrev outP (v : GV) (e : Int) : PV := .tup [v.pv, vE e]
theorem set_Inc {a : GV} (h : good a) (h8 : a.kind = 8) : Inc a.els := by
  have := h.1
  rw [fmd_eq] at this
  exact (incr_none h.els).1 (this.2.1 h8).2
theorem mrg_nodes (st : Bool → Bool → Bool) : ∀ a b, nodesL (mrg st a b) ≤ nodesL a + nodesL b := by
  have h1 : ∀ (b : Bool) (x : GV), nodesL (one b x) ≤ nodes x := fun b x => by cases b <;> simp [one, nodesL]
  intro a b
  fun_induction mrg st a b with
  | case1 => simp [nodesL]
  | case2 y b ih => have := h1 (st false true) y; simp only [nodesL_append, nodesL] at *; omega
  | case3 x a ih => have := h1 (st true false) x; simp only [nodesL_append, nodesL] at *; omega
  | case4 x a y b h ih => have := h1 (st true false) x; simp only [nodesL_append, nodesL] at *; omega
  | case5 x a y b h h2 ih => have := h1 (st false true) y; simp only [nodesL_append, nodesL] at *; omega
  | case6 x a y b h h2 ih => have := h1 (st true true) y; simp only [nodesL_append, nodesL] at *; omega
end Go.Proofs.YtgfadepkiejncaaGreat
namespace Go.Proofs.YtgfadepkiejncaaGreat
open Go.Ab
set_option maxHeartbeats 0
set_option maxRecDepth 100000
attribute [local irreducible] AW AList ACall DA AExit.then AExit.inBlock YCall DCall
def mixF (a b : Int) : Int := IntKind.u32.wrap (IntKind.u32.wrap ↑(BitVec.ofInt 32 (IntKind.u32.wrap ↑(BitVec.ofInt 32 (IntKind.u32.wrap (a * 32)) ||| BitVec.ofInt 32 (a / 134217728)).toNat) ^^^ BitVec.ofInt 32 b).toNat * 2654435769)
theorem val_mix (a b : Int) : Gives Tryz.prog 90 [vW a, vW b] (vW (mixF a b)) := by
  intro m
  refine ACall.of_aw Tryz.func90 Tryz.ntmps90 rfl rfl (by simp) ?_
  refine tS ?_
  exact Fin.gives Same.auto rfl (by simp [upd_lit]; rfl)
theorem ref_mix (a b : Int) : Gives Tryz.prog 91 [vW a, vW b] (vW (mixF a b)) := by
  intro m
  refine ACall.of_aw Tryz.func91 Tryz.ntmps91 rfl rfl (by simp) ?_
  refine tS ?_
  exact Fin.gives Same.auto rfl (by simp [upd_lit]; rfl)
abbrev w32 (n : Int) : Int := IntKind.u32.wrap n
def totalF (s n : Int) : Int := mixF (mixF (mixF 2166136261 8) s) (w32 n)
theorem val_total (s n : Int) : Gives Tryz.prog 28 [vW s, vI n] (vW (totalF s n)) := by
  intro m
  refine ACall.of_aw Tryz.func28 Tryz.ntmps28 rfl rfl (by simp) ?_
  refine tS ?_
  refine tS1 fun K Kp hK hKp => ?_; refine Gives.at (val_mix 2166136261 8) ?_; apply hK; clear hK hKp K Kp
  refine tS ?_
  refine tS1 fun K Kp hK hKp => ?_; refine Gives.at (val_mix _ s) ?_; apply hK; clear hK hKp K Kp
  refine tS ?_
  refine tS1 fun K Kp hK hKp => ?_; refine Gives.at (val_mix _ (w32 n)) ?_; apply hK; clear hK hKp K Kp
  refine tS ?_
  exact Fin.gives Same.auto rfl (by simp [upd_lit]; rfl)
theorem ref_total (s n : Int) : Gives Tryz.prog 29 [vW s, vI n] (vW (totalF s n)) := by
  intro m
  refine ACall.of_aw Tryz.func29 Tryz.ntmps29 rfl rfl (by simp) ?_
  refine tS ?_
  refine tS1 fun K Kp hK hKp => ?_; refine Gives.at (ref_mix 2166136261 8) ?_; apply hK; clear hK hKp K Kp
  refine tS ?_
  refine tS1 fun K Kp hK hKp => ?_; refine Gives.at (ref_mix _ s) ?_; apply hK; clear hK hKp K Kp
  refine tS ?_
  refine tS1 fun K Kp hK hKp => ?_; refine Gives.at (ref_mix _ (w32 n)) ?_; apply hK; clear hK hKp K Kp
  refine tS ?_
  exact Fin.gives Same.auto rfl (by simp [upd_lit]; rfl)
def foldM (t : Int) (l : List Int) : Int := l.foldl mixF t
theorem foldM_take (t : Int) (l : List Int) (i : Nat) (h : i < l.length) : foldM t (l.take (i + 1)) = mixF (foldM t (l.take i)) l[i] := by
  rw [List.take_succ_eq_append_getElem h, foldM, List.foldl_append]; rfl
def shareH (h : Int) : Int := IntKind.u32.wrap ↑(BitVec.ofInt 32 (mixF 1540483477 h) ^^^ BitVec.ofInt 32 (mixF 1540483477 h / 65536)).toNat
def sumF (l : List Int) : Int := l.foldl (fun s h => w32 (s + shareH h)) 0
theorem sumF_take (l : List Int) (i : Nat) (h : i < l.length) : sumF (l.take (i + 1)) = w32 (sumF (l.take i) + shareH l[i]) := by
  rw [List.take_succ_eq_append_getElem h, sumF, List.foldl_append]; rfl
def strB (s : ByteArray) : List Int := (List.range s.size).map fun i => w32 (byteAt s i)
def hashN (k n : Int) (ng : Bool) (a : List Int) (s : ByteArray) (hs : List Int) : Int :=
  if k = 1 ∨ k = 5 ∨ k = 6 then mixF (mixF 2166136261 (w32 k)) (w32 n) else
  if k = 2 ∨ k = 3 then (if k = 3 then mixF (foldM (mixF (mixF 2166136261 (w32 k)) (if ng then 1 else 0)) a) (w32 n) else foldM (mixF (mixF 2166136261 (w32 k)) (if ng then 1 else 0)) a) else
  if k = 4 then mixF (foldM (mixF 2166136261 (w32 k)) (strB s)) (w32 s.size) else
  if k = 7 then mixF (foldM (mixF 2166136261 (w32 k)) hs) (w32 hs.length) else
  if k = 8 then totalF (sumF hs) hs.length else mixF 2166136261 (w32 k)
mutual
def hashV : GV → Int
  | .mk k n ng a s l => hashN k n ng a s (hashL l)
def hashL : List GV → List Int
  | [] => []
  | v :: l => hashV v :: hashL l
end
theorem hashL_len : ∀ l, (hashL l).length = l.length
  | [] => rfl
  | v :: l => by simp [hashL, hashL_len l]
theorem hashL_get : ∀ (l : List GV) (i : Nat) (h : i < l.length), (hashL l)[i]'(by rw [hashL_len]; exact h) = hashV l[i]
  | v :: l, 0, _ => rfl
  | v :: l, i + 1, h => hashL_get l i (by simpa using h)
theorem hashV_eq (v : GV) : hashV v = hashN v.kind v.num v.neg v.abs v.str (hashL v.els) := by cases v; rfl
theorem share_of (v : GV) (h : Gives Tryz.prog 24 [v.pv] (vW (hashV v))) : Gives Tryz.prog 26 [v.pv] (vW (shareH (hashV v))) := by
  intro m
  refine ACall.of_aw Tryz.func26 Tryz.ntmps26 rfl rfl (by simp) ?_
  refine tS ?_
  refine tS1 fun K Kp hK hKp => ?_; refine Gives.at (h) ?_; apply hK; clear hK hKp K Kp
  refine tS ?_
  refine tS1 fun K Kp hK hKp => ?_; refine Gives.at (val_mix _ _) ?_; apply hK; clear hK hKp K Kp
  refine tS ?_
  exact Fin.gives Same.auto rfl (by simp [upd_lit]; rfl)
theorem val_hash_step (v : GV) (hv : v.ok) (h : ∀ x ∈ v.els, Gives Tryz.prog 24 [x.pv] (vW (hashV x))) : Gives Tryz.prog 24 [v.pv] (vW (hashV v)) := by
  have la := hv.abs
  have ls := hv.str
  have ll := hv.len
  rw [hashV_eq]
  generalize hT : mixF 2166136261 (w32 v.kind) = T
  intro m
  refine ACall.of_aw Tryz.func24 Tryz.ntmps24 rfl rfl (by simp) ?_
  refine tS ?_
  refine tS1 fun K Kp hK hKp => ?_; refine Gives.at (val_mix 2166136261 (w32 v.kind)) ?_; apply hK; clear hK hKp K Kp
  rw [hT]
  by_cases h1 : v.kind = 1 ∨ v.kind = 5 ∨ v.kind = 6
  · have e : hashN v.kind v.num v.neg v.abs v.str (hashL v.els) = mixF T (w32 v.num) := by rw [hashN, if_pos h1, hT]
    rw [e]
    rcases h1 with h1 | h1 | h1
    all_goals (
      have F := @h1; refine tFa ?_; (try clear F)
      have F := @h1; refine tF1 fun K Kp hK hKp => ?_; (try clear F); refine Gives.at (val_mix T (w32 v.num)) ?_; apply hK; clear hK hKp K Kp
      refine tS ?_
      exact Fin.gives Same.auto)
  by_cases h2 : v.kind = 2 ∨ v.kind = 3
  · have e : hashN v.kind v.num v.neg v.abs v.str (hashL v.els) = if v.kind = 3 then mixF (foldM (mixF T (if v.neg then 1 else 0)) v.abs) (w32 v.num) else foldM (mixF T (if v.neg then 1 else 0)) v.abs := by rw [hashN, if_neg h1, if_pos h2, hT]
    rw [e]
    have key : ∀ (hk : v.kind = 2 ∨ v.kind = 3) (σ : Nat → PV) (x : Int), x = (if v.neg then 1 else 0) → True := fun _ _ _ _ => trivial
    have hs : ∀ b : Bool, v.neg = b → (if v.neg then (1 : Int) else 0) = if b then 1 else 0 := fun b h => by rw [h]
    rcases h2 with h2 | h2 <;> rcases Bool.eq_false_or_eq_true v.neg with hb | hb
    all_goals (
      rw [hs _ hb]
      have F := (aand @h2 @hb); refine tFa ?_; (try clear F)
      refine tS1 fun K Kp hK hKp => ?_; refine Gives.at (val_mix _ _) ?_; apply hK; clear hK hKp K Kp
      refine tS ?_
      generalize hU : mixF T _ = U
      refine AW.loop (ι := Nat) (fun i σ m' => i ≤ v.abs.length ∧ σ 41 = vI i ∧ σ 40 = vI v.abs.length ∧ σ 39 = .list .no (limbs v.abs) ∧ σ 3 = vW (foldM U (v.abs.take i)) ∧ σ 1 = .loc m.nloc 0 ∧ m' = m.newLoc v.cells) (fun i => v.abs.length - i) 0 ?_ ?_
      · exact ⟨by simp, by simp [upd_lit], by simp [upd_lit], by simp [upd_lit], by simp [upd_lit, foldM, ← hU], by simp [upd_lit], rfl⟩
      rintro i σ m' ⟨hi, h41, h40, h39, h3, h1, rfl⟩
      have F := (aand @h41 @h40); refine tF ?_; (try clear F)
      refine AW.condD (p := i < v.abs.length) (by simp [upd_lit]) (fun hlt => ?_) (fun hge => ?_)
      · have F := (aand @h41 (aand @h39 (aand @hlt @limbs_getD))); refine tF ?_; (try clear F)
        have F := @h3; refine tF1 fun K Kp hK hKp => ?_; (try clear F); refine Gives.at (val_mix _ v.abs[i]) ?_; apply hK; clear hK hKp K Kp
        have F := @h41; refine tF ?_; (try clear F)
        exact ⟨i + 1, ⟨by omega, by simp [upd_lit], by simp [upd_lit, h40], by simp [upd_lit, h39], by simp [upd_lit]; rw [foldM_take _ _ _ hlt], by simp [upd_lit, h1], rfl⟩, by omega⟩
      · have e : i = v.abs.length := by omega
        subst e
        rw [List.take_length] at h3
        have F := (aand @h1 (aand @h2 @h3)); refine tFa ?_; (try clear F)
        try refine tS1 fun K Kp hK hKp => ?_; refine Gives.at (val_mix _ (w32 v.num)) ?_; apply hK; clear hK hKp K Kp
        try refine tS ?_
        exact Fin.gives Same.auto rfl (by simp [upd_lit, h3, hU, h2]))
  by_cases h4 : v.kind = 4
  · have e : hashN v.kind v.num v.neg v.abs v.str (hashL v.els) = mixF (foldM T (strB v.str)) (w32 v.str.size) := by rw [hashN, if_neg h1, if_neg h2, if_pos h4, hT]
    rw [e]
    have hl : (strB v.str).length = v.str.size := by simp [strB]
    have F := @h4; refine tFa ?_; (try clear F)
    refine AW.loop (ι := Nat) (fun i σ m' => i ≤ v.str.size ∧ σ 62 = vI i ∧ σ 61 = vI v.str.size ∧ σ 3 = vW (foldM T ((strB v.str).take i)) ∧ σ 1 = .loc m.nloc 0 ∧ m' = m.newLoc v.cells) (fun i => v.str.size - i) 0 ?_ ?_
    · exact ⟨by simp, by simp [upd_lit], by simp [upd_lit], by simp [upd_lit, foldM], by simp [upd_lit], rfl⟩
    rintro i σ m' ⟨hi, h62, h61, h3, h1, rfl⟩
    have F := (aand @h62 @h61); refine tF ?_; (try clear F)
    refine AW.condD (p := i < v.str.size) (by simp [upd_lit]) (fun hlt => ?_) (fun hge => ?_)
    · have hg : (strB v.str)[i]'(by omega) = w32 (byteAt v.str i) := by simp [strB]
      have F := (aand @h62 (aand @h1 @hlt)); refine tF ?_; (try clear F)
      have F := @h3; refine tF1 fun K Kp hK hKp => ?_; (try clear F); refine Gives.at (val_mix _ (w32 (byteAt v.str i))) ?_; apply hK; clear hK hKp K Kp
      have F := @h62; refine tF ?_; (try clear F)
      exact ⟨i + 1, ⟨by omega, by simp [upd_lit], by simp [upd_lit, h61], by simp [upd_lit]; rw [foldM_take _ _ _ (by omega), hg], by simp [upd_lit, h1], rfl⟩, by omega⟩
    · have e : i = v.str.size := by omega
      subst e
      rw [List.take_of_length_le (by omega)] at h3
      have F := (aand @h1 @h3); refine tF ?_; (try clear F)
      refine tS1 fun K Kp hK hKp => ?_; refine Gives.at (val_mix _ (w32 v.str.size)) ?_; apply hK; clear hK hKp K Kp
      refine tS ?_
      exact Fin.gives Same.auto
  by_cases h7 : v.kind = 7
  · have e : hashN v.kind v.num v.neg v.abs v.str (hashL v.els) = mixF (foldM T (hashL v.els)) (w32 v.els.length) := by rw [hashN, if_neg h1, if_neg h2, if_neg h4, if_pos h7, hT, hashL_len]
    rw [e]
    have hl := hashL_len v.els
    have F := @h7; refine tFa ?_; (try clear F)
    refine AW.loop (ι := Nat) (fun i σ m' => i ≤ v.els.length ∧ σ 84 = vI i ∧ σ 83 = vI v.els.length ∧ σ 82 = GV.pvs v.els ∧ σ 3 = vW (foldM T ((hashL v.els).take i)) ∧ σ 1 = .loc m.nloc 0 ∧ Same (m.newLoc v.cells) m') (fun i => v.els.length - i) 0 ?_ ?_
    · exact ⟨by simp, by simp [upd_lit], by simp [upd_lit], by simp [upd_lit], by simp [upd_lit, foldM], by simp [upd_lit], Same.refl _⟩
    rintro i σ m' ⟨hi, h84, h83, h82, h3, h1, sm⟩
    have hn : m.nloc < m'.nloc := by have := sm.lloc; simp at this; omega
    have hm : m'.loc m.nloc = some v.cells := by rw [sm.get (by simp)]; simp
    have F := (aand @h84 @h83); refine tF ?_; (try clear F)
    refine AW.condD (p := i < v.els.length) (by simp [upd_lit]) (fun hlt => ?_) (fun hge => ?_)
    · have hg := hashL_get v.els i hlt
      have F := (aand @h84 (aand @h82 (aand @hlt @rows_getD))); refine tF ?_; (try clear F)
      refine tS1 fun K Kp hK hKp => ?_; refine Gives.at (h v.els[i] (List.getElem_mem hlt)) ?_; apply hK; clear hK hKp K Kp
      refine tS ?_
      have F := @h3; refine tF1 fun K Kp hK hKp => ?_; (try clear F); refine Gives.at (val_mix _ (hashV v.els[i])) ?_; apply hK; clear hK hKp K Kp
      have F := @h84; refine tF ?_; (try clear F)
      exact ⟨i + 1, ⟨by omega, by simp [upd_lit], by simp [upd_lit, h83], by simp [upd_lit, h82], by simp [upd_lit]; rw [foldM_take _ _ _ (by omega), hg], by simp [upd_lit, h1], (sm.newLoc _).setLoc sm.lloc _⟩, by omega⟩
    · have e : i = v.els.length := by omega
      subst e
      rw [List.take_of_length_le (by omega)] at h3
      have F := (aand @h1 (aand @h3 (aand @hn @hm))); refine tF ?_; (try clear F)
      refine tS1 fun K Kp hK hKp => ?_; refine Gives.at (val_mix _ (w32 v.els.length)) ?_; apply hK; clear hK hKp K Kp
      refine tS ?_
      exact Fin.gives (Same.trans (Same.newLoc (Same.refl m) _) sm)
  by_cases h8 : v.kind = 8
  · have e : hashN v.kind v.num v.neg v.abs v.str (hashL v.els) = totalF (sumF (hashL v.els)) v.els.length := by rw [hashN, if_neg h1, if_neg h2, if_neg h4, if_neg h7, if_pos h8, hashL_len]
    rw [e]
    have hl := hashL_len v.els
    have F := @h8; refine tFa ?_; (try clear F)
    refine AW.loop (ι := Nat) (fun i σ m' => i ≤ v.els.length ∧ σ 104 = vI i ∧ σ 103 = vI v.els.length ∧ σ 102 = GV.pvs v.els ∧ σ 10 = vW (sumF ((hashL v.els).take i)) ∧ σ 1 = .loc m.nloc 0 ∧ Same (m.newLoc v.cells) m') (fun i => v.els.length - i) 0 ?_ ?_
    · exact ⟨by simp, by simp [upd_lit], by simp [upd_lit], by simp [upd_lit], by simp [upd_lit, sumF], by simp [upd_lit], Same.refl _⟩
    rintro i σ m' ⟨hi, h104, h103, h102, h10, h1, sm⟩
    have hn : m.nloc < m'.nloc := by have := sm.lloc; simp at this; omega
    have hm : m'.loc m.nloc = some v.cells := by rw [sm.get (by simp)]; simp
    have F := (aand @h104 @h103); refine tF ?_; (try clear F)
    refine AW.condD (p := i < v.els.length) (by simp [upd_lit]) (fun hlt => ?_) (fun hge => ?_)
    · have hg := hashL_get v.els i hlt
      have F := (aand @h104 (aand @h102 (aand @hlt @rows_getD))); refine tF ?_; (try clear F)
      have F := @h10; refine tF1 fun K Kp hK hKp => ?_; (try clear F); refine Gives.at (share_of v.els[i] (h v.els[i] (List.getElem_mem hlt))) ?_; apply hK; clear hK hKp K Kp
      have F := (aand @h104 @h10); refine tF ?_; (try clear F)
      exact ⟨i + 1, ⟨by omega, by simp [upd_lit], by simp [upd_lit, h103], by simp [upd_lit, h102], by simp [upd_lit]; rw [sumF_take _ _ (by omega), hg], by simp [upd_lit, h1], (sm.newLoc _).setLoc sm.lloc _⟩, by omega⟩
    · have e : i = v.els.length := by omega
      subst e
      rw [List.take_of_length_le (by omega)] at h10
      have F := (aand @h1 (aand @h10 (aand @hn @hm))); refine tF ?_; (try clear F)
      refine tS1 fun K Kp hK hKp => ?_; refine Gives.at (val_total _ v.els.length) ?_; apply hK; clear hK hKp K Kp
      refine tS ?_
      exact Fin.gives (Same.trans (Same.newLoc (Same.refl m) _) sm)
  · have e : hashN v.kind v.num v.neg v.abs v.str (hashL v.els) = T := by rw [hashN, if_neg h1, if_neg h2, if_neg h4, if_neg h7, if_neg h8, hT]
    rw [e]
    simp only [not_or] at h1 h2
    obtain ⟨p1, p2, p3⟩ := h1
    obtain ⟨p4, p5⟩ := h2
    have F := (aand @p1 (aand @p2 (aand @p3 (aand @p4 (aand @p5 (aand @h4 (aand @h7 @h8))))))); refine tFa ?_; (try clear F)
    exact Fin.gives Same.auto
theorem val_hash (v : GV) (hv : v.ok) : Gives Tryz.prog 24 [v.pv] (vW (hashV v)) := by
  generalize hN : nodes v = N
  induction N using Nat.strongRecOn generalizing v with
  | _ N ih =>
  subst hN
  refine val_hash_step v hv fun x hx => ih (nodes x) ?_ x (ok_els hv x hx) rfl
  obtain ⟨i, hi, rfl⟩ := List.getElem_of_mem hx
  have := nodes_get v.els i hi
  have := nodes_eq v
  omega
end Go.Proofs.YtgfadepkiejncaaGreat
namespace Go.Proofs.YtgfadepkiejncaaGreat
open Go.Ab
set_option maxHeartbeats 0
set_option maxRecDepth 100000
attribute [local irreducible] AW AList ACall DA AExit.then AExit.inBlock YCall DCall
theorem ref_share_of (v : GV) (h : Gives Tryz.prog 25 [v.pv] (vW (hashV v))) : Gives Tryz.prog 27 [v.pv] (vW (shareH (hashV v))) := by
  intro m
  refine ACall.of_aw Tryz.func27 Tryz.ntmps27 rfl rfl (by simp) ?_
  refine tS ?_
  refine tS1 fun K Kp hK hKp => ?_; refine Gives.at (h) ?_; apply hK; clear hK hKp K Kp
  refine tS ?_
  refine tS1 fun K Kp hK hKp => ?_; refine Gives.at (ref_mix _ _) ?_; apply hK; clear hK hKp K Kp
  refine tS ?_
  exact Fin.gives Same.auto rfl (by simp [upd_lit]; rfl)
theorem ref_hash_step (v : GV) (hv : v.ok) (h : ∀ x ∈ v.els, Gives Tryz.prog 25 [x.pv] (vW (hashV x))) : Gives Tryz.prog 25 [v.pv] (vW (hashV v)) := by
  have la := hv.abs
  have ls := hv.str
  have ll := hv.len
  rw [hashV_eq]
  generalize hT : mixF 2166136261 (w32 v.kind) = T
  intro m
  refine ACall.of_aw Tryz.func25 Tryz.ntmps25 rfl rfl (by simp) ?_
  refine tS ?_
  refine tS1 fun K Kp hK hKp => ?_; refine Gives.at (ref_mix 2166136261 (w32 v.kind)) ?_; apply hK; clear hK hKp K Kp
  rw [hT]
  by_cases h1 : v.kind = 1 ∨ v.kind = 5 ∨ v.kind = 6
  · have e : hashN v.kind v.num v.neg v.abs v.str (hashL v.els) = mixF T (w32 v.num) := by rw [hashN, if_pos h1, hT]
    rw [e]
    rcases h1 with h1 | h1 | h1
    all_goals (
      have F := @h1; refine tFa ?_; (try clear F)
      have F := @h1; refine tF1 fun K Kp hK hKp => ?_; (try clear F); refine Gives.at (ref_mix T (w32 v.num)) ?_; apply hK; clear hK hKp K Kp
      refine tS ?_
      exact Fin.gives Same.auto)
  by_cases h2 : v.kind = 2 ∨ v.kind = 3
  · have e : hashN v.kind v.num v.neg v.abs v.str (hashL v.els) = if v.kind = 3 then mixF (foldM (mixF T (if v.neg then 1 else 0)) v.abs) (w32 v.num) else foldM (mixF T (if v.neg then 1 else 0)) v.abs := by rw [hashN, if_neg h1, if_pos h2, hT]
    rw [e]
    have hs : ∀ b : Bool, v.neg = b → (if v.neg then (1 : Int) else 0) = if b then 1 else 0 := fun b h => by rw [h]
    rcases h2 with h2 | h2 <;> rcases Bool.eq_false_or_eq_true v.neg with hb | hb
    all_goals (
      rw [hs _ hb]
      have F := (aand @h2 @hb); refine tFa ?_; (try clear F)
      refine tS1 fun K Kp hK hKp => ?_; refine Gives.at (ref_mix _ _) ?_; apply hK; clear hK hKp K Kp
      refine tS ?_
      generalize hU : mixF T _ = U
      refine AW.loop (ι := Nat) (fun i σ m' => i ≤ v.abs.length ∧ σ 5 = vI i ∧ σ 3 = vW (foldM U (v.abs.take i)) ∧ σ 1 = .loc m.nloc 0 ∧ m' = m.newLoc v.cells) (fun i => v.abs.length - i) 0 ?_ ?_
      · exact ⟨by simp, by simp [upd_lit], by simp [upd_lit, foldM, ← hU], by simp [upd_lit], rfl⟩
      rintro i σ m' ⟨hi, h5, h3, h1, rfl⟩
      have F := (aand @h5 @h1); refine tF ?_; (try clear F)
      refine AW.condD (p := i < v.abs.length) (by simp [upd_lit]) (fun hlt => ?_) (fun hge => ?_)
      · have F := (aand @h5 (aand @h1 (aand @hlt @limbs_getD))); refine tF ?_; (try clear F)
        have F := @h3; refine tF1 fun K Kp hK hKp => ?_; (try clear F); refine Gives.at (ref_mix _ v.abs[i]) ?_; apply hK; clear hK hKp K Kp
        have F := @h5; refine tF ?_; (try clear F)
        exact ⟨i + 1, ⟨by omega, by simp [upd_lit], by simp [upd_lit]; rw [foldM_take _ _ _ hlt], by simp [upd_lit, h1], rfl⟩, by omega⟩
      · have e : i = v.abs.length := by omega
        subst e
        rw [List.take_length] at h3
        have F := (aand @h1 (aand @h2 @h3)); refine tFa ?_; (try clear F)
        try refine tS1 fun K Kp hK hKp => ?_; refine Gives.at (ref_mix _ (w32 v.num)) ?_; apply hK; clear hK hKp K Kp
        try refine tS ?_
        exact Fin.gives Same.auto rfl (by simp [upd_lit, h3, hU, h2]))
  by_cases h4 : v.kind = 4
  · have e : hashN v.kind v.num v.neg v.abs v.str (hashL v.els) = mixF (foldM T (strB v.str)) (w32 v.str.size) := by rw [hashN, if_neg h1, if_neg h2, if_pos h4, hT]
    rw [e]
    have hl : (strB v.str).length = v.str.size := by simp [strB]
    have F := @h4; refine tFa ?_; (try clear F)
    refine AW.loop (ι := Nat) (fun i σ m' => i ≤ v.str.size ∧ σ 6 = vI i ∧ σ 3 = vW (foldM T ((strB v.str).take i)) ∧ σ 1 = .loc m.nloc 0 ∧ m' = m.newLoc v.cells) (fun i => v.str.size - i) 0 ?_ ?_
    · exact ⟨by simp, by simp [upd_lit], by simp [upd_lit, foldM], by simp [upd_lit], rfl⟩
    rintro i σ m' ⟨hi, h6, h3, h1, rfl⟩
    have F := (aand @h6 @h1); refine tF ?_; (try clear F)
    refine AW.condD (p := i < v.str.size) (by simp [upd_lit]) (fun hlt => ?_) (fun hge => ?_)
    · have hg : (strB v.str)[i]'(by omega) = w32 (byteAt v.str i) := by simp [strB]
      have F := (aand @h6 (aand @h1 @hlt)); refine tF ?_; (try clear F)
      have F := @h3; refine tF1 fun K Kp hK hKp => ?_; (try clear F); refine Gives.at (ref_mix _ (w32 (byteAt v.str i))) ?_; apply hK; clear hK hKp K Kp
      have F := @h6; refine tF ?_; (try clear F)
      exact ⟨i + 1, ⟨by omega, by simp [upd_lit], by simp [upd_lit]; rw [foldM_take _ _ _ (by omega), hg], by simp [upd_lit, h1], rfl⟩, by omega⟩
    · have e : i = v.str.size := by omega
      subst e
      rw [List.take_of_length_le (by omega)] at h3
      have F := (aand @h1 @h3); refine tF ?_; (try clear F)
      refine tS1 fun K Kp hK hKp => ?_; refine Gives.at (ref_mix _ (w32 v.str.size)) ?_; apply hK; clear hK hKp K Kp
      refine tS ?_
      exact Fin.gives Same.auto
  by_cases h7 : v.kind = 7
  · have e : hashN v.kind v.num v.neg v.abs v.str (hashL v.els) = mixF (foldM T (hashL v.els)) (w32 v.els.length) := by rw [hashN, if_neg h1, if_neg h2, if_neg h4, if_pos h7, hT, hashL_len]
    rw [e]
    have hl := hashL_len v.els
    have F := @h7; refine tFa ?_; (try clear F)
    refine AW.loop (ι := Nat) (fun i σ m' => i ≤ v.els.length ∧ σ 7 = vI i ∧ σ 3 = vW (foldM T ((hashL v.els).take i)) ∧ σ 1 = .loc m.nloc 0 ∧ m' = m.newLoc v.cells) (fun i => v.els.length - i) 0 ?_ ?_
    · exact ⟨by simp, by simp [upd_lit], by simp [upd_lit, foldM], by simp [upd_lit], rfl⟩
    rintro i σ m' ⟨hi, h7, h3, h1, rfl⟩
    have F := (aand @h7 @h1); refine tF ?_; (try clear F)
    refine AW.condD (p := i < v.els.length) (by simp [upd_lit]) (fun hlt => ?_) (fun hge => ?_)
    · have hg := hashL_get v.els i hlt
      have F := (aand @h7 (aand @h1 (aand @hlt @rows_getD))); refine tF ?_; (try clear F)
      refine tS1 fun K Kp hK hKp => ?_; refine Gives.at (h v.els[i] (List.getElem_mem hlt)) ?_; apply hK; clear hK hKp K Kp
      refine tS ?_
      have F := @h3; refine tF1 fun K Kp hK hKp => ?_; (try clear F); refine Gives.at (ref_mix _ (hashV v.els[i])) ?_; apply hK; clear hK hKp K Kp
      have F := @h7; refine tF ?_; (try clear F)
      exact ⟨i + 1, ⟨by omega, by simp [upd_lit], by simp [upd_lit]; rw [foldM_take _ _ _ (by omega), hg], by simp [upd_lit, h1], rfl⟩, by omega⟩
    · have e : i = v.els.length := by omega
      subst e
      rw [List.take_of_length_le (by omega)] at h3
      have F := (aand @h1 @h3); refine tF ?_; (try clear F)
      refine tS1 fun K Kp hK hKp => ?_; refine Gives.at (ref_mix _ (w32 v.els.length)) ?_; apply hK; clear hK hKp K Kp
      refine tS ?_
      exact Fin.gives Same.auto
  by_cases h8 : v.kind = 8
  · have e : hashN v.kind v.num v.neg v.abs v.str (hashL v.els) = totalF (sumF (hashL v.els)) v.els.length := by rw [hashN, if_neg h1, if_neg h2, if_neg h4, if_neg h7, if_pos h8, hashL_len]
    rw [e]
    have hl := hashL_len v.els
    have F := @h8; refine tFa ?_; (try clear F)
    refine AW.loop (ι := Nat) (fun i σ m' => i ≤ v.els.length ∧ σ 9 = vI i ∧ σ 8 = vW (sumF ((hashL v.els).take i)) ∧ σ 1 = .loc m.nloc 0 ∧ m' = m.newLoc v.cells) (fun i => v.els.length - i) 0 ?_ ?_
    · exact ⟨by simp, by simp [upd_lit], by simp [upd_lit, sumF], by simp [upd_lit], rfl⟩
    rintro i σ m' ⟨hi, h9, h8, h1, rfl⟩
    have F := (aand @h9 @h1); refine tF ?_; (try clear F)
    refine AW.condD (p := i < v.els.length) (by simp [upd_lit]) (fun hlt => ?_) (fun hge => ?_)
    · have hg := hashL_get v.els i hlt
      have F := (aand @h9 (aand @h1 (aand @hlt @rows_getD))); refine tF ?_; (try clear F)
      refine tS1 fun K Kp hK hKp => ?_; refine Gives.at (ref_share_of v.els[i] (h v.els[i] (List.getElem_mem hlt))) ?_; apply hK; clear hK hKp K Kp
      have F := (aand @h9 @h8); refine tF ?_; (try clear F)
      exact ⟨i + 1, ⟨by omega, by simp [upd_lit], by simp [upd_lit]; rw [sumF_take _ _ (by omega), hg], by simp [upd_lit, h1], rfl⟩, by omega⟩
    · have e : i = v.els.length := by omega
      subst e
      rw [List.take_of_length_le (by omega)] at h8
      have F := (aand @h1 @h8); refine tF ?_; (try clear F)
      refine tS1 fun K Kp hK hKp => ?_; refine Gives.at (ref_total _ v.els.length) ?_; apply hK; clear hK hKp K Kp
      refine tS ?_
      exact Fin.gives Same.auto
  · have e : hashN v.kind v.num v.neg v.abs v.str (hashL v.els) = T := by rw [hashN, if_neg h1, if_neg h2, if_neg h4, if_neg h7, if_neg h8, hT]
    rw [e]
    simp only [not_or] at h1 h2
    obtain ⟨p1, p2, p3⟩ := h1
    obtain ⟨p4, p5⟩ := h2
    have F := (aand @p1 (aand @p2 (aand @p3 (aand @p4 (aand @p5 (aand @h4 (aand @h7 @h8))))))); refine tFa ?_; (try clear F)
    exact Fin.gives Same.auto
theorem ref_hash (v : GV) (hv : v.ok) : Gives Tryz.prog 25 [v.pv] (vW (hashV v)) := by
  generalize hN : nodes v = N
  induction N using Nat.strongRecOn generalizing v with
  | _ N ih =>
  subst hN
  refine ref_hash_step v hv fun x hx => ih (nodes x) ?_ x (ok_els hv x hx) rfl
  obtain ⟨i, hi, rfl⟩ := List.getElem_of_mem hx
  have := nodes_get v.els i hi
  have := nodes_eq v
  omega
end Go.Proofs.YtgfadepkiejncaaGreat
namespace Go.Proofs.YtgfadepkiejncaaGreat
open Go.Ab
set_option maxHeartbeats 0
mutual
def okB : GV → Bool
  | .mk k n _ abs s l => (decide (-9223372036854775808 ≤ k) && decide (k < 9223372036854775808)) && (decide (-9223372036854775808 ≤ n) && decide (n < 9223372036854775808)) && decide (abs.length < 1152921504606846976) && decide (s.size < 1152921504606846976) && decide (l.length < 1152921504606846976) && abs.all (fun x => decide (0 ≤ x) && decide (x < 4294967296)) && okBL l
def okBL : List GV → Bool
  | [] => true
  | v :: l => okB v && okBL l
end
mutual
theorem okB_ok : ∀ v : GV, okB v = true → v.ok
  | .mk k n b abs s l, h => by
    simp only [okB, Bool.and_eq_true, decide_eq_true_eq, List.all_eq_true] at h
    obtain ⟨⟨⟨⟨⟨⟨h1, h2⟩, h3⟩, h4⟩, h5⟩, h6⟩, h7⟩ := h
    exact ⟨h1, h2, h3, h4, h5, h6, okBL_ok l h7⟩
theorem okBL_ok : ∀ l : List GV, okBL l = true → GV.okL l
  | [], _ => trivial
  | v :: l, h => by
    simp only [okBL, Bool.and_eq_true] at h
    exact ⟨okB_ok v h.1, okBL_ok l h.2⟩
end
def goodB (v : GV) : Bool := okB v && checkF v == 0
theorem goodB_good {v : GV} (h : goodB v = true) : good v := by
  simp only [goodB, Bool.and_eq_true, beq_iff_eq] at h
  exact ⟨(checkF_ok.1 h.2).1, okB_ok v h.1⟩
def spc2 : CallM → FuncId → List PV → Option (ER PV) := fun callM f args =>
  match f, args with
  | 22, [.agg a, .agg b] => match GV.ofC a, GV.ofC b with
    | some a, some b => if (goodB a && goodB b) = true then some (.ok (vI (cmpV a b))) else none
    | _, _ => none
  | 34, [.agg a, .agg b] => match GV.ofC a, GV.ofC b with
    | some a, some b => if (okB a && okB b) = true then some (.ok (vB (sameV a b))) else none
    | _, _ => none
  | 24, [.agg a] => match GV.ofC a with
    | some a => if okB a = true then some (.ok (vW (hashV a))) else none
    | none => none
  | 25, [.agg a] => match GV.ofC a with
    | some a => if okB a = true then some (.ok (vW (hashV a))) else none
    | none => none
  | 32, [.agg a] => match GV.ofC a with
    | some a => if nodes a < 1152921504606846976 then some (.ok (vI (deep a))) else none
    | none => none
  | f, args => spc1 callM f args
def cfg2 : ECfg := ⟨spc2, [141], [(96, 6)]⟩
theorem spc2_ok : SpcOK Tryz.prog cfg2 := by
  intro callM hM f args p h s
  replace h : spc2 callM f args = some (.ok p) := h
  unfold spc2 at h
  split at h
  · rename_i a b
    split at h
    · rename_i x y hx hy
      split at h
      · rename_i hg; cases h
        have e1 := ofC_spec _ _ hx
        have e2 := ofC_spec _ _ hy
        subst e1 e2
        rw [Bool.and_eq_true] at hg
        exact val_compare x y (goodB_good hg.1) (goodB_good hg.2) s
      · cases h
    · cases h
  · rename_i a b
    split at h
    · rename_i x y hx hy
      split at h
      · rename_i hg; cases h
        have e1 := ofC_spec _ _ hx
        have e2 := ofC_spec _ _ hy
        subst e1 e2
        rw [Bool.and_eq_true] at hg
        exact ref_same x y (okB_ok _ hg.1) (okB_ok _ hg.2) s
      · cases h
    · cases h
  · rename_i a
    split at h
    · rename_i x hx
      split at h
      · rename_i hg; cases h
        have e1 := ofC_spec _ _ hx
        subst e1
        exact val_hash x (okB_ok _ hg) s
      · cases h
    · cases h
  · rename_i a
    split at h
    · rename_i x hx
      split at h
      · rename_i hg; cases h
        have e1 := ofC_spec _ _ hx
        subst e1
        exact ref_hash x (okB_ok _ hg) s
      · cases h
    · cases h
  · rename_i a
    split at h
    · rename_i x hx
      split at h
      · rename_i hg; cases h
        have e1 := ofC_spec _ _ hx
        subst e1
        exact val_deep x hg s
      · cases h
    · cases h
  · exact spc1_ok callM hM _ _ _ h s
end Go.Proofs.YtgfadepkiejncaaGreat
namespace Go.Proofs.YtgfadepkiejncaaGreat
open Go.Ab
set_option maxHeartbeats 0
def exI (n : Int) : GV := .mk 2 0 false [n] ⟨#[]⟩ []
def exO : GV := .mk 0 0 false [] ⟨#[]⟩ []
def exL (k : Int) (l : List GV) : GV := .mk k 0 false [] ⟨#[]⟩ l
def exF : GV := exL 8 [exL 7 [exI 1, exI 2], exL 7 [exI 1, exI 3], exL 7 [exI 2, exI 5]]
theorem set_ex : Gives Tryz.prog 41 [GV.pvs [exI 3, exO, exI 1, exI 3]] (.tup [(exL 8 [exI 1, exI 3]).pv, vE 0]) := fun m =>
  ecall_sound spc2_ok (n := 1000) (r := .ret (.tup [(exL 8 [exI 1, exI 3]).pv, vE 0])) (by kernel_rfl) m
theorem image_ex : Gives Tryz.prog 46 [exF.pv, (exI 1).pv] (.tup [(exL 8 [exI 2, exI 3]).pv, vE 0]) := fun m =>
  ecall_sound spc2_ok (n := 1000) (r := .ret (.tup [(exL 8 [exI 2, exI 3]).pv, vE 0])) (by kernel_rfl) m
theorem apply_ex : Gives Tryz.prog 47 [exF.pv, (exI 2).pv] (.tup [(exI 5).pv, vE 0]) := fun m =>
  ecall_sound spc2_ok (n := 1000) (r := .ret (.tup [(exI 5).pv, vE 0])) (by kernel_rfl) m
def spc3 : CallM → FuncId → List PV → Option (ER PV) := fun callM f args =>
  match f, args with
  | 41, [.list .no r] => match GV.ofR r with
    | some l => if (l.length == 4 && sameL l [exI 3, exO, exI 1, exI 3]) = true then some (.ok (.tup [(exL 8 [exI 1, exI 3]).pv, vE 0])) else none
    | none => none
  | 46, [.agg a, .agg b] => match GV.ofC a, GV.ofC b with
    | some a, some b => if (sameV a exF && sameV b (exI 1)) = true then some (.ok (.tup [(exL 8 [exI 2, exI 3]).pv, vE 0])) else none
    | _, _ => none
  | 47, [.agg a, .agg b] => match GV.ofC a, GV.ofC b with
    | some a, some b => if (sameV a exF && sameV b (exI 2)) = true then some (.ok (.tup [(exI 5).pv, vE 0])) else none
    | _, _ => none
  | f, args => spc2 callM f args
def cfg3 : ECfg := ⟨spc3, [141], [(96, 6)]⟩
theorem spc3_ok : SpcOK Tryz.prog cfg3 := by
  intro callM hM f args p h s
  replace h : spc3 callM f args = some (.ok p) := h
  unfold spc3 at h
  split at h
  · split at h
    · rename_i l hl
      split at h
      · rename_i hg; cases h
        have e1 := ofR_spec _ _ hl
        subst e1
        rw [Bool.and_eq_true, beq_iff_eq] at hg
        have e := (sameL_iff _ _ (by simpa using hg.1)).1 hg.2
        subst e
        exact set_ex s
      · cases h
    · cases h
  · split at h
    · rename_i x y hx hy
      split at h
      · rename_i hg; cases h
        have e1 := ofC_spec _ _ hx
        have e2 := ofC_spec _ _ hy
        subst e1 e2
        rw [Bool.and_eq_true, sameV_iff, sameV_iff] at hg
        obtain ⟨rfl, rfl⟩ := hg
        exact image_ex s
      · cases h
    · cases h
  · split at h
    · rename_i x y hx hy
      split at h
      · rename_i hg; cases h
        have e1 := ofC_spec _ _ hx
        have e2 := ofC_spec _ _ hy
        subst e1 e2
        rw [Bool.and_eq_true, sameV_iff, sameV_iff] at hg
        obtain ⟨rfl, rfl⟩ := hg
        exact apply_ex s
      · cases h
    · cases h
  · exact spc2_ok callM hM _ _ _ h s
theorem sanity : Gives Tryz.prog 18 [] (vB true) := fun m =>
  ecall_sound spc3_ok (n := 1000) (r := .ret (vB true)) (by kernel_rfl) m
end Go.Proofs.YtgfadepkiejncaaGreat
namespace Go.Proofs.YtgfadepkiejncaaGreat
open Go.Ab
set_option maxHeartbeats 0
set_option maxRecDepth 100000
attribute [local irreducible] AW AList ACall DA AExit.then AExit.inBlock
theorem lightF_nodes {v : GV} {most : Int} (h : lightF v most = true) : (nodes v : Int) ≤ most ∧ ∀ x ∈ walkV v, small x = true := by
  unfold lightF at h
  split at h
  · cases h
  · rename_i hlt
    have h3 := (wt_spec v most).2.2 (by omega)
    exact ⟨by omega, fun x hx => List.all_eq_true.1 h x hx⟩
theorem formedF_sizes {v : GV} (h : formedF v = true) : nodes v ≤ 400 ∧ ∀ x ∈ walkV v, x.abs.length ≤ 60 ∧ x.str.size ≤ 1100 := by
  simp only [formedF, Bool.and_eq_true] at h
  obtain ⟨h1, h2⟩ := lightF_nodes h.1
  refine ⟨by omega, fun x hx => ?_⟩
  have := h2 x hx
  simp [small] at this
  omega
mutual
theorem sameV_refl : ∀ a : GV, sameV a a = true
  | .mk k n ng a s l => by simp [sameV, sameInt, sameL_refl l]
theorem sameL_refl : ∀ l : List GV, sameL l l = true
  | [] => rfl
  | a :: l => by simp [sameL, sameV_refl a, sameL_refl l]
end
end Go.Proofs.YtgfadepkiejncaaGreat
namespace Go.Proofs.YtgfadepkiejncaaGreat
open Go.Ab
set_option maxHeartbeats 0
set_option maxRecDepth 100000
attribute [local irreducible] AW AList ACall DA AExit.then AExit.inBlock YCall DCall
theorem formedF_good {v : GV} (hv : v.ok) (h : formedF v = true) : good v ∧ v.dk := by
  simp only [formedF, Bool.and_eq_true, decide_eq_true_eq] at h
  exact ⟨⟨(checkF_ok.1 h.2).1, hv⟩, fol_dk v 0 1 h.2⟩
end Go.Proofs.YtgfadepkiejncaaGreat
namespace Go.Ab
theorem Fin.gives2 {P : Program} {fn : Func} {m m' : St} {σ : Nat → PV} {r : PV} (hm : Same m m') (hp : ResP P fn.results.toList σ m' r) (hq : r.strip = r := by simp) (hs : r.sc m.nloc m.ntok := by simp) : Fin P fn m (fun r' m' => r' = .ret r ∧ m' = m) .ret σ m' :=
  Fin.ret hp hm hq hs ⟨rfl, rfl⟩
end Go.Ab
namespace Go.Proofs.YtgfadepkiejncaaGreat
open Go.Ab
set_option maxHeartbeats 0
set_option maxRecDepth 100000
attribute [local irreducible] AW AList ACall DA AExit.then AExit.inBlock YCall DCall
def someF (v : GV) : Bool := !decide (v.kind = 0) && formedF v
theorem law_some (v : GV) (hv : v.ok) : Gives Tryz.prog 45 [v.pv] (vB (someF v)) := by
  intro m
  refine ACall.of_aw Tryz.func45 Tryz.ntmps45 rfl rfl (by simp) ?_
  by_cases h : v.kind = 0
  · have F := @h; refine tFg ?_; (try clear F)
    exact Fin.gives Same.auto rfl (by simp [upd_lit, someF, h])
  · have F := @h; refine tFg ?_; (try clear F)
    have F := @h; refine tFc (law_formed v hv) ?_; (try clear F)
    have F := @h; refine tFg ?_; (try clear F)
    exact Fin.gives Same.auto rfl (by simp [upd_lit, someF, h])
theorem law_same (v w : GV) (e f : Int) (hv : v.ok) (hw : w.ok) : Gives Tryz.prog 42 [v.pv, vE e, made w f] (vB (decide (e = f) && sameV v w)) := by
  have hs := ref_same v w hv hw
  rw [show w.pv = .agg [vI w.kind, vI w.num, vB w.neg, .list .no (limbs w.abs), vS w.str, .list .no (GV.rows w.els)] from congrArg PV.agg (cells_eq w)] at hs
  intro m
  refine ACall.of_aw Tryz.func42 Tryz.ntmps42 rfl rfl (by simp) ?_
  by_cases h : e = f
  · have F := @h; refine tFg ?_; (try clear F)
    have F := @h; refine tFc (hs) ?_; (try clear F)
    have F := @h; refine tFg ?_; (try clear F)
    exact Fin.gives Same.auto rfl (by simp [upd_lit, h])
  · have F := @h; refine tFg ?_; (try clear F)
    exact Fin.gives Same.auto rfl (by simp [upd_lit, h])
end Go.Proofs.YtgfadepkiejncaaGreat
namespace Go.Proofs.YtgfadepkiejncaaGreat
open Go.Ab Go.Sort
set_option maxHeartbeats 0
set_option maxRecDepth 100000
attribute [local irreducible] AW AList ACall DA AExit.then AExit.inBlock YCall DCall
theorem val_sorted (l : List GV) (g : goods l) (hl : l.length ≤ 1000000) : Gives Tryz.prog 96 [GV.pvs l] (setV (setF l)).pv := by
  by_cases h0 : l = []
  · subst h0; exact sorted0
  · exact sortedG l g h0 hl
theorem setF_nodes (l : List GV) (g : goods l) : nodesL (setF l) ≤ nodesL l := by
  obtain ⟨s1, s2, s3⟩ := setF_spec _ g
  exact nodesL_sub (Inc_nodup s1) fun x hx => ((s3 x).1 hx).1
def tmN (l : List GV) : Nat → Nat
  | 0 => 0
  | n + 1 => if (l[n]?.getD default).kind = 0 then tmN l n else n + 1
theorem tmN_le (l : List GV) : ∀ n, tmN l n ≤ n
  | 0 => Nat.le_refl _
  | n + 1 => by
    rw [tmN]; split
    · have := tmN_le l n; omega
    · omega
def tmF (l : List GV) : List GV := l.take (tmN l l.length)
abbrev tupV (l : List GV) : GV := .mk 7 0 false [] ⟨#[]⟩ l
theorem tmF_len (l : List GV) : (tmF l).length = tmN l l.length := by
  have := tmN_le l l.length
  rw [tmF, List.length_take]; omega
theorem tm_goods {l : List GV} (g : goods l) : goods (tmF l) := fun x hx => g x (List.mem_of_mem_take hx)
theorem slice3 (l : List GV) (n : Nat) (hn : n ≤ l.length) (m : St) (K : PV → St → Prop) (h : K (.list .full (GV.rows (l.take n))) m) : aslice Tryz.prog 25 (GV.pvs l) none (some (vI n)) (some (vI n)) m K := by
  simp [aslice, abnd, rows_take]; exact ⟨hn, h⟩
theorem ref_makeTuple (l : List GV) (g : goods l) (hl : l.length ≤ 1000000) : Gives Tryz.prog 98 [GV.pvs l] (tupV (tmF l)).pv := by
  intro m
  refine ACall.of_aw Tryz.func98 Tryz.ntmps98 rfl rfl (by simp) ?_
  refine tS ?_
  generalize hmm : m.newLoc _ = mm
  have sm : Same m mm := by rw [← hmm]; exact Same.auto
  have g0 : mm.loc m.nloc = some [vI 0, vI 0, vB false, .list .full [], vS ⟨#[]⟩, .list .full []] := by rw [← hmm]; simp
  have n0 : m.nloc < mm.nloc := by rw [← hmm]; simp
  clear hmm
  refine AW.loop (ι := Nat) (fun n σ m' => n ≤ l.length ∧ tmN l n = tmN l l.length ∧ σ 0 = GV.pvs l ∧ σ 2 = .loc m.nloc 0 ∧ σ 3 = vI n ∧ m' = mm) (fun n => n) l.length ?_ ?_
  · exact ⟨by simp, rfl, by simp [upd_lit], by simp [upd_lit], by simp [upd_lit], rfl⟩
  rintro n σ m' ⟨hn', ht, t0, t2, t4, rfl⟩
  have tk : ∀ (h : tmN l n = n), tmF l = l.take n := fun h => by rw [tmF, ← ht, h]
  have s1 : ∀ (n : Nat) (_ : n ≤ l.length) (m : St) (K : PV → St → Prop), K (GV.pvs (l.take n)) m → aslice Tryz.prog 25 (GV.pvs l) none (some (vI n)) none m K := fun n hn m K h => by
    simp [aslice, abnd, rows_take]; exact ⟨hn, h⟩
  cases n with
  | zero =>
    have e := tk rfl
    rw [e]
    have F := (aand @t0 @t4); refine tFa ?_; (try clear F)
    have F := (aand @t0 @t4); refine tF1 fun K Kp hK hKp => ?_; (try clear F)
    refine s1 0 (by omega) _ _ ?_
    apply hK; clear hK hKp K Kp
    refine tS ?_
    refine AList.op (by decide) ?_; intro K Kp hK hKp; simp [upd_lit]
    refine app25 (l := []) (l' := l.take 0) (m0 := m) (.full sm) rfl (by simp) fun o' m'' ho' hs => hK _ _ ?_; clear hK hKp K Kp
    have g0' := (congrFun hs.loc m.nloc).trans g0
    have n0' : m.nloc < m''.nloc := by rw [hs.nloc]; exact n0
    have F := (aand @t2 (aand @g0' @n0')); refine tF ?_; (try clear F)
    exact Fin.givesC (p := .agg [vI 7, vI 0, vB false, .list .full [], vS ⟨#[]⟩, GV.pvs (l.take 0)]) rfl (by simp [upd_lit, t2, n0']) (ho'.1.setLoc (by omega) _) (by simp [GV.cells, limbs])
  | succ n =>
    have hlt : n < l.length := by omega
    have e1 : (l[n]?.getD default) = l[n] := by rw [List.getElem?_eq_getElem hlt, Option.getD_some]
    obtain ⟨q, hq⟩ : ∃ q : Int, q = ((n + 1 : Nat) : Int) := ⟨_, rfl⟩
    have e8 : q - 1 = (n : Int) := by omega
    have e9 : 0 < q := by omega
    rw [← hq] at t4
    by_cases hk : l[n].kind = 0
    · rw [tmN, e1, if_pos hk] at ht
      have F := (aand @t0 (aand @t4 (aand @e8 (aand @e9 (aand @hlt (aand @rows_getD @hk)))))); refine tFg ?_; (try clear F)
      refine tSa ?_
      have F := (aand @t4 @e8); refine tF ?_; (try clear F)
      exact ⟨n, ⟨by omega, ht, by simp [upd_lit, t0], by simp [upd_lit, t2], by simp [upd_lit], rfl⟩, by omega⟩
    · have e := tk (by rw [tmN, e1, if_neg hk])
      rw [e]
      have F := (aand @t0 (aand @t4 (aand @e8 (aand @e9 (aand @hlt (aand @rows_getD @hk)))))); refine tFg ?_; (try clear F)
      refine tSa ?_
      have F := (aand @t0 @t4); refine tF1 fun K Kp hK hKp => ?_; (try clear F)
      rw [hq]
      refine s1 (n + 1) hn' _ _ ?_
      apply hK; clear hK hKp K Kp
      refine tS ?_
      refine AList.op (by decide) ?_; intro K Kp hK hKp; simp [upd_lit]
      refine app25 (l := []) (l' := l.take (n + 1)) (m0 := m) (.full sm) rfl (by simp; omega) fun o' m'' ho' hs => hK _ _ ?_; clear hK hKp K Kp
      have g0' := (congrFun hs.loc m.nloc).trans g0
      have n0' : m.nloc < m''.nloc := by rw [hs.nloc]; exact n0
      have F := (aand @t2 (aand @g0' @n0')); refine tF ?_; (try clear F)
      exact Fin.givesC (p := .agg [vI 7, vI 0, vB false, .list .full [], vS ⟨#[]⟩, GV.pvs (l.take (n + 1))]) rfl (by simp [upd_lit, t2, n0']) (ho'.1.setLoc (by omega) _) (by simp [GV.cells, limbs])
theorem ref_tuple (l : List GV) (g : goods l) (hl : l.length ≤ 1000000) (hn : nodesL l < 1000000000) : Gives Tryz.prog 43 [GV.pvs l] (made (fitV (tupV (tmF l))) (fitE (tupV (tmF l)))) := by
  have h1 := nodesL_take_le l (tmN l l.length)
  have en : nodes (tupV (tmF l)) = 1 + nodesL (l.take (tmN l l.length)) := nodes_eq _
  intro m
  refine ACall.of_aw Tryz.func43 Tryz.ntmps43 rfl rfl (by simp) ?_
  refine tS ?_
  refine tS1 fun K Kp hK hKp => ?_; refine Gives.at (ref_makeTuple l g hl) ?_; apply hK; clear hK hKp K Kp
  refine tS ?_
  refine tS1 fun K Kp hK hKp => ?_; refine Gives.at (ref_fitting (tupV (tmF l)) (by omega) (small_list (tm_goods g))) ?_; apply hK; clear hK hKp K Kp
  refine tS ?_
  exact Fin.givesC (p := made (fitV (tupV (tmF l))) (fitE (tupV (tmF l)))) rfl (by simp [upd_lit]) Same.auto
end Go.Proofs.YtgfadepkiejncaaGreat
namespace Go.Proofs.YtgfadepkiejncaaGreat
open Go.Ab
set_option maxHeartbeats 0
set_option maxRecDepth 100000
attribute [local irreducible] AW AList ACall DA AExit.then AExit.inBlock YCall DCall
theorem set_nonom {a : GV} (h : good a) (h8 : a.kind = 8) : ∀ x ∈ a.els, x.kind ≠ 0 := by
  have := h.1
  rw [fmd_eq] at this
  exact (this.2.1 h8).1
theorem mem_stU {a b : List GV} (ha : Inc a) (hb : Inc b) (ga : goods a) (gb : goods b) (z : GV) : z ∈ mrg stU a b ↔ z ∈ a ∨ z ∈ b := by
  rw [mem_mrg stU a b ha hb ga gb]
  constructor
  · rintro ⟨p, q, hp, hq, h, _⟩
    cases p with
    | true => exact .inl (hp.1 rfl)
    | false => simp at h; exact .inr (hq.1 h)
  · intro h
    classical
    exact ⟨decide (z ∈ a), decide (z ∈ b), by simp, by simp, by simpa using h, rfl⟩
theorem union_eq {a b : List GV} (ha : Inc a) (hb : Inc b) (ga : goods a) (gb : goods b) (na : ∀ x ∈ a, x.kind ≠ 0) (nb : ∀ x ∈ b, x.kind ≠ 0) : mrg stU a b = setF (a ++ b) :=
  setF_eq (fun x hx => (List.mem_append.1 hx).elim (ga x) (gb x)) (mrg_Inc stU a b ha hb ga gb) fun z => by
    rw [mem_stU ha hb ga gb, List.mem_append]
    exact ⟨fun h => ⟨h, h.elim (na z) (nb z)⟩, fun h => h.1⟩
theorem with_eq {a x : GV} (ga : good a) (gx : good x) (hx : x.kind ≠ 0) (ha : a.kind = 8) : mrg stU a.els [x] = setF (a.els ++ [x]) :=
  union_eq (set_Inc ga ha) (List.pairwise_singleton _ _) ga.els (fun y hy => by simp at hy; rw [hy]; exact gx) (set_nonom ga ha) (fun y hy => by simp at hy; rw [hy]; exact hx)
theorem setV_ok {l : List GV} (g : goods l) (hl : l.length < 1000000) : (setV l).ok :=
  ⟨by omega, by omega, by decide, by show (0 : Nat) < _; omega, by omega, fun x hx => (by cases hx), (okL_iff l).2 fun x hx => (g x hx).2⟩
theorem omV_ok : omV.ok := ⟨by omega, by omega, by decide, by show (0 : Nat) < _; omega, by decide, fun x hx => (by cases hx), trivial⟩
theorem fitV_ok {v : GV} (h : v.ok) : (fitV v).ok := by unfold fitV; split; exact h; exact omV_ok
theorem deepL_sub {l s : List GV} (hs : ∀ x ∈ s, x ∈ l) : deepL s ≤ deepL l := by
  have h1 : ∀ (l : List GV) (x : GV), x ∈ l → deep x ≤ deepL l := by
    intro l
    induction l with
    | nil => simp
    | cons v l ih =>
      intro x hx
      rcases List.mem_cons.1 hx with rfl | hx
      · simp [deepL]; omega
      · have := ih x hx; simp [deepL]; omega
  induction s with
  | nil => simp [deepL]
  | cons v s ih =>
    have := h1 l v (hs v (by simp))
    have := ih fun x hx => hs x (by simp [hx])
    simp [deepL]; omega
structure Fm (a : GV) : Prop where
  good : good a
  nodes : nodes a ≤ 400
  deep : deep a ≤ 20
theorem formed_Fm {v : GV} (hv : v.ok) (h : formedF v = true) : Fm v := by
  have h1 := (formedF_good hv h).1
  have h2 := (formedF_sizes h).1
  simp only [formedF, Bool.and_eq_true, decide_eq_true_eq] at h
  exact ⟨h1, h2, (checkF_ok.1 h.2).2.2⟩
theorem Fm.len {a : GV} (h : Fm a) : a.els.length ≤ 400 := by have := h.nodes; have := nodes_eq a; have := nodesL_len a.els; omega
theorem same_self (v : GV) (e : Int) (hv : v.ok) : Gives Tryz.prog 42 [v.pv, vE e, made v e] (vB true) := by
  have := law_same v v e e hv hv
  simpa [sameV_refl] using this
abbrev zc : List PV := [PV.v (Value.int IntKind.i64 0), PV.v (Value.int IntKind.i64 0), PV.v (Value.bool false), PV.list Own.full [], PV.v (Value.string { data := #[] }), PV.list Own.full []]
end Go.Proofs.YtgfadepkiejncaaGreat
namespace Go.Proofs.YtgfadepkiejncaaGreat
open Go.Ab Go.Sort
set_option maxHeartbeats 0
set_option maxRecDepth 100000
attribute [local irreducible] AW AList ACall DA AExit.then AExit.inBlock YCall DCall
def pairB (v : GV) : Bool := decide (v.kind = 7) && decide ((v.els.length : Int) = 2) && !decide ((v.els[0]?.getD default).kind = 0) && !decide ((v.els[1]?.getD default).kind = 0)
theorem val_isPair (v : GV) : Gives Tryz.prog 50 [v.pv] (vB (pairB v)) := by
  intro m
  refine ACall.of_aw Tryz.func50 Tryz.ntmps50 rfl rfl (by simp) ?_
  by_cases h1 : v.kind = 7
  rotate_left
  · have F := @h1; refine tFg ?_; (try clear F)
    exact Fin.gives Same.auto rfl (by simp [upd_lit, pairB, h1])
  by_cases h2 : (v.els.length : Int) = 2
  rotate_left
  · have F := (aand @h1 @h2); refine tFg ?_; (try clear F)
    exact Fin.gives Same.auto rfl (by simp [upd_lit, pairB, h1, h2])
  obtain ⟨a, b, e⟩ : ∃ a b, v.els = [a, b] := by
    match h : v.els, h2 with
    | [a, b], _ => exact ⟨a, b, rfl⟩
    | [], h2 => simp at h2
    | [a], h2 => simp at h2
    | a :: b :: c :: l, h2 => simp at h2; omega
  have r0 : rowI (GV.rows [a, b]) 0 = a.cells := rows_getD [a, b] 0 (by simp)
  have r1 : rowI (GV.rows [a, b]) 1 = b.cells := rows_getD [a, b] 1 (by simp)
  have hp : pairB v = (!decide (a.kind = 0) && !decide (b.kind = 0)) := by simp [pairB, h1, e]
  rw [hp]
  clear h2 hp
  by_cases h3 : a.kind = 0
  · have F := (aand @h1 (aand @e (aand @r0 (aand @r1 @h3)))); refine tFg ?_; (try clear F)
    exact Fin.gives Same.auto rfl (by simp [upd_lit, h3])
  · have F := (aand @h1 (aand @e (aand @r0 (aand @r1 @h3)))); refine tFg ?_; (try clear F)
    exact Fin.gives Same.auto rfl (by simp [upd_lit, h3])
theorem ref_isPair (v : GV) : Gives Tryz.prog 51 [v.pv] (vB (pairB v)) := by
  intro m
  refine ACall.of_aw Tryz.func51 Tryz.ntmps51 rfl rfl (by simp) ?_
  by_cases h1 : v.kind = 7
  rotate_left
  · have F := @h1; refine tFg ?_; (try clear F)
    exact Fin.gives Same.auto rfl (by simp [upd_lit, pairB, h1])
  by_cases h2 : (v.els.length : Int) = 2
  rotate_left
  · have F := (aand @h1 @h2); refine tFg ?_; (try clear F)
    exact Fin.gives Same.auto rfl (by simp [upd_lit, pairB, h1, h2])
  obtain ⟨a, b, e⟩ : ∃ a b, v.els = [a, b] := by
    match h : v.els, h2 with
    | [a, b], _ => exact ⟨a, b, rfl⟩
    | [], h2 => simp at h2
    | [a], h2 => simp at h2
    | a :: b :: c :: l, h2 => simp at h2; omega
  have r0 : rowI (GV.rows [a, b]) 0 = a.cells := rows_getD [a, b] 0 (by simp)
  have r1 : rowI (GV.rows [a, b]) 1 = b.cells := rows_getD [a, b] 1 (by simp)
  have hp : pairB v = (!decide (a.kind = 0) && !decide (b.kind = 0)) := by simp [pairB, h1, e]
  rw [hp]
  clear h2 hp
  by_cases h3 : a.kind = 0
  · have F := (aand @h1 (aand @e (aand @r0 (aand @r1 @h3)))); refine tFg ?_; (try clear F)
    exact Fin.gives Same.auto rfl (by simp [upd_lit, h3])
  · have F := (aand @h1 (aand @e (aand @r0 (aand @r1 @h3)))); refine tFg ?_; (try clear F)
    exact Fin.gives Same.auto rfl (by simp [upd_lit, h3])
def fxF (p : GV → Bool) : List GV → Int → Int
  | [], _ => -1
  | x :: l, i => if p x then i else fxF p l (i + 1)
theorem fxF_nn (p : GV → Bool) : ∀ (l : List GV) (i : Int), 0 ≤ i → (0 ≤ fxF p l i ↔ l.any p = true)
  | [], i, _ => by simp [fxF]
  | x :: l, i, h => by
    have := fxF_nn p l (i + 1) (by omega)
    cases hx : p x <;> simp [fxF, hx, h] <;> simpa using this
theorem index_val (l : List GV) (p : GV → Bool) (f : FuncId) (hl : l.length < 1152921504606846976) (hf : ∀ x ∈ l, Gives Tryz.prog f [x.pv] (vB (p x))) : Gives Tryz.prog 148 [GV.pvs l, .clo f [] []] (vI (fxF p l 0)) := by
  intro m
  refine ACall.of_aw Tryz.func148 Tryz.ntmps148 rfl rfl (by simp) ?_
  refine tS ?_
  refine AW.loop (ι := Nat) (fun i σ m' => i ≤ l.length ∧ fxF p (l.drop i) i = fxF p l 0 ∧ σ 8 = vI i ∧ σ 7 = vI l.length ∧ σ 0 = GV.pvs l ∧ σ 1 = .clo f [] [] ∧ m' = m) (fun i => l.length - i) 0 ?_ ?_
  · exact ⟨by simp, rfl, by simp [upd_lit], by simp [upd_lit], by simp [upd_lit], by simp [upd_lit], rfl⟩
  rintro i σ m' ⟨hi, hF, t8, t7, t0, t1, rfl⟩
  by_cases hlt : i < l.length
  · rw [List.drop_eq_getElem_cons hlt, fxF] at hF
    have F := (aand @t8 (aand @t7 @hlt)); refine tFa ?_; (try clear F)
    have F := (aand @t0 (aand @t1 (aand @t8 (aand @hlt @rows_getD)))); refine tF ?_; (try clear F)
    have F := (aand @t0 (aand @t1 (aand @hlt @rows_getD))); refine tF1 fun K Kp hK hKp => ?_; (try clear F); refine Gives.at (hf l[i] (List.getElem_mem hlt)) ?_; apply hK; clear hK hKp K Kp
    cases hp : p l[i] with
    | true =>
      rw [hp, if_pos rfl] at hF
      refine tSa ?_
      exact Fin.gives Same.auto rfl (by simp [upd_lit, ← hF])
    | false =>
      rw [hp, if_neg (by simp)] at hF
      refine tSa ?_
      have F := @t8; refine tF ?_; (try clear F)
      exact ⟨i + 1, ⟨by omega, hF, by simp [upd_lit], by simp [upd_lit, t7], by simp [upd_lit, t0], by simp [upd_lit, t1], rfl⟩, by omega⟩
  · have e : i = l.length := by omega
    rw [e, List.drop_length, fxF] at hF
    have F := (aand @t8 (aand @t7 @hlt)); refine tFa ?_; (try clear F)
    exact Fin.gives Same.auto rfl (by simp [upd_lit, ← hF])
theorem contains_val (l : List GV) (p : GV → Bool) (f : FuncId) (hl : l.length < 1152921504606846976) (hf : ∀ x ∈ l, Gives Tryz.prog f [x.pv] (vB (p x))) : Gives Tryz.prog 100 [GV.pvs l, .clo f [] []] (vB (l.any p)) := by
  have e : decide (0 ≤ fxF p l 0) = l.any p := by rw [Bool.eq_iff_iff, decide_eq_true_eq]; exact fxF_nn p l 0 (by omega)
  intro m
  refine ACall.of_aw Tryz.func100 Tryz.ntmps100 rfl rfl (by simp) ?_
  refine tS ?_
  refine tS1 fun K Kp hK hKp => ?_; refine Gives.at (index_val l p f hl hf) ?_; apply hK; clear hK hKp K Kp
  refine tS ?_
  exact Fin.gives Same.auto rfl (by simp [upd_lit, ← e])
theorem clo101 (v : GV) : Gives Tryz.prog 101 [v.pv] (vB (!pairB v)) := by
  intro m
  refine ACall.of_aw Tryz.func101 Tryz.ntmps101 rfl rfl (by simp) ?_
  refine tS ?_
  refine tS1 fun K Kp hK hKp => ?_; refine Gives.at (val_isPair v) ?_; apply hK; clear hK hKp K Kp
  refine tS ?_
  exact Fin.gives Same.auto
def mapB (v : GV) : Bool := decide (v.kind = 8) && v.els.all pairB
theorem val_isMap (v : GV) (hl : v.els.length < 1152921504606846976) : Gives Tryz.prog 52 [v.pv] (vB (mapB v)) := by
  have hc := contains_val v.els (fun x => !pairB x) 101 hl fun x _ => clo101 x
  have e : (v.els.any fun x => !pairB x) = !v.els.all pairB := by rw [List.not_all_eq_any_not]
  rw [e] at hc
  intro m
  refine ACall.of_aw Tryz.func52 Tryz.ntmps52 rfl rfl (by simp) ?_
  by_cases h : v.kind = 8
  · have F := @h; refine tFg ?_; (try clear F)
    have F := @h; refine tFc (hc) ?_; (try clear F)
    have F := @h; refine tFg ?_; (try clear F)
    exact Fin.gives Same.auto rfl (by simp [upd_lit, mapB, h])
  · have F := @h; refine tFg ?_; (try clear F)
    exact Fin.gives Same.auto rfl (by simp [upd_lit, mapB, h])
theorem ref_isMap (v : GV) (hl : v.els.length < 1152921504606846976) : Gives Tryz.prog 53 [v.pv] (vB (mapB v)) := by
  intro m
  refine ACall.of_aw Tryz.func53 Tryz.ntmps53 rfl rfl (by simp) ?_
  by_cases h : v.kind = 8
  rotate_left
  · have e : mapB v = false := by simp [mapB, h]
    rw [e]
    have F := @h; refine tFa ?_; (try clear F)
    exact Fin.gives Same.auto
  have F := @h; refine tFa ?_; (try clear F)
  refine AW.loop (ι := Nat) (fun i σ m' => i ≤ v.els.length ∧ (∀ j (h : j < v.els.length), j < i → pairB v.els[j] = true) ∧ σ 3 = vI i ∧ σ 1 = .loc m.nloc 0 ∧ m' = m.newLoc v.cells) (fun i => v.els.length - i) 0 ?_ ?_
  · exact ⟨by simp, fun j _ h => by omega, by simp [upd_lit], by simp [upd_lit], rfl⟩
  rintro i σ m' ⟨hi, hj, t3, t1, rfl⟩
  by_cases hlt : i < v.els.length
  · have F := (aand @t3 (aand @t1 @hlt)); refine tFa ?_; (try clear F)
    have F := (aand @t3 (aand @t1 (aand @hlt @rows_getD))); refine tF ?_; (try clear F)
    have F := (aand @hlt @rows_getD); refine tF1 fun K Kp hK hKp => ?_; (try clear F); refine Gives.at (ref_isPair v.els[i]) ?_; apply hK; clear hK hKp K Kp
    cases hp : pairB v.els[i] with
    | false =>
      have e : mapB v = false := by
        have : v.els.all pairB = false := by rw [List.all_eq_false]; exact ⟨_, List.getElem_mem hlt, by simp [hp]⟩
        rw [mapB, this, Bool.and_false]
      rw [e]
      refine tSa ?_
      exact Fin.gives Same.auto
    | true =>
      refine tSa ?_
      have F := @t3; refine tF ?_; (try clear F)
      refine ⟨i + 1, ⟨by omega, ?_, by simp [upd_lit], by simp [upd_lit, t1], rfl⟩, by omega⟩
      intro j h hj'
      by_cases e : j = i
      · subst e; exact hp
      · exact hj j h (by omega)
  · have e : mapB v = true := by
      rw [mapB, decide_eq_true h, Bool.true_and, List.all_eq_true]
      intro x hx
      obtain ⟨j, hj1, rfl⟩ := List.getElem_of_mem hx
      exact hj j hj1 (by omega)
    rw [e]
    have F := (aand @t3 (aand @t1 @hlt)); refine tFa ?_; (try clear F)
    exact Fin.gives Same.auto
end Go.Proofs.YtgfadepkiejncaaGreat
namespace Go.Proofs.YtgfadepkiejncaaGreat
open Go.Ab Go.Sort
set_option maxHeartbeats 0
set_option maxRecDepth 100000
attribute [local irreducible] AW AList ACall DA AExit.then AExit.inBlock YCall DCall
theorem pairB_iff {v : GV} : pairB v = true ↔ v.kind = 7 ∧ ∃ a b, v.els = [a, b] ∧ a.kind ≠ 0 ∧ b.kind ≠ 0 := by
  constructor
  · intro h
    simp only [pairB, Bool.and_eq_true, decide_eq_true_eq, Bool.not_eq_true', decide_eq_false_iff_not] at h
    obtain ⟨⟨⟨h1, h2⟩, h3⟩, h4⟩ := h
    refine ⟨h1, ?_⟩
    match hv : v.els, h2 with
    | [a, b], _ => rw [hv] at h3 h4; exact ⟨a, b, rfl, by simpa using h3, by simpa using h4⟩
    | [], h2 => simp at h2
    | [a], h2 => simp at h2
    | a :: b :: c :: l, h2 => simp at h2; omega
  · rintro ⟨h1, a, b, e, h3, h4⟩
    simp [pairB, h1, e, h3, h4]
def p1 (v : GV) : GV := v.els[0]?.getD default
def p2 (v : GV) : GV := v.els[1]?.getD default
theorem pair_good {l : List GV} (g : goods l) {p a b : GV} (hp : p ∈ l) (e : p.els = [a, b]) : good a ∧ good b := by
  have := (g p hp).els
  rw [e] at this
  exact ⟨this a (by simp), this b (by simp)⟩
theorem pair_nodes {v a b : GV} (e : v.els = [a, b]) : nodes v = 1 + nodes a + nodes b := by
  have := nodes_eq v
  rw [e] at this
  simp [nodesL] at this
  omega
abbrev zcV : List PV := [vI 0, vI 0, vB false, .list .full [], vS ⟨#[]⟩, .list .full []]
theorem ref_mapped (f v : GV) (gf : good f) (lf : nodes f < 1000000) (hv : nodes v < 1099511627776) (hs : smallV v) :
    Gives Tryz.prog 103 [f.pv, v.pv] (if mapB f then made v 0 else made omV 7) := by
  have ef := nodes_eq f
  have nf := nodesL_len f.els
  intro m
  refine ACall.of_aw Tryz.func103 Tryz.ntmps103 rfl rfl (by simp) ?_
  refine tS ?_
  refine tS1 fun K Kp hK hKp => ?_; refine Gives.at (ref_isMap f (by omega)) ?_; apply hK; clear hK hKp K Kp
  cases hm : mapB f with
  | false =>
    rw [if_neg (by simp)]
    refine tSa ?_
    refine tS1 fun K Kp hK hKp => ?_; refine Gives.at (ref_bad 7) ?_; apply hK; clear hK hKp K Kp
    refine tS ?_
    exact Fin.givesC (p := made omV 7) rfl (by simp [upd_lit]) Same.auto (by rfl)
  | true =>
    rw [if_pos rfl]
    refine tSa ?_
    refine tS1 fun K Kp hK hKp => ?_; refine Gives.at (ref_copy v hv hs) ?_; apply hK; clear hK hKp K Kp
    have F := @cells_eq; refine tF ?_; (try clear F)
    exact Fin.givesC (p := made v 0) rfl (by simp [upd_lit]) Same.auto
end Go.Proofs.YtgfadepkiejncaaGreat
namespace Go.Proofs.YtgfadepkiejncaaGreat
open Go.Ab Go.Sort
set_option maxHeartbeats 0
set_option maxRecDepth 100000
attribute [local irreducible] AW AList ACall DA AExit.then AExit.inBlock YCall DCall
theorem fit_of {f : GV} (hf : Fm f) {s : List GV} (h1 : nodesL s ≤ nodesL f.els) (h2 : deepL s ≤ deepL f.els) : fitB (setV s) = true := by
  have h3 := hf.nodes
  have h4 := hf.deep
  rw [nodes_eq] at h3
  rw [deep_eq] at h4
  have e1 : nodes (setV s) = 1 + nodesL s := nodes_eq _
  have e2 : deep (setV s) = 1 + deepL s := deep_eq _
  simp [fitB, e1, e2]; omega
theorem setF_deep (l : List GV) (g : goods l) : deepL (setF l) ≤ deepL l := by
  obtain ⟨_, _, s3⟩ := setF_spec _ g
  exact deepL_sub fun x hx => ((s3 x).1 hx).1
theorem deepL_mem : ∀ (l : List GV) (x : GV), x ∈ l → deep x ≤ deepL l
  | [], x, h => by simp at h
  | v :: l, x, h => by
    rcases List.mem_cons.1 h with rfl | h
    · simp [deepL]; omega
    · have := deepL_mem l x h; simp [deepL]; omega
theorem pair_deep {v a b : GV} (e : v.els = [a, b]) : deep a < deep v ∧ deep b < deep v := by
  have := deep_eq v
  rw [e] at this
  simp [deepL] at this
  omega
theorem part_of {l : List GV} (g : goods l) (hp : l.all pairB = true) {y p : GV} (hm : p ∈ l) (h : y = p1 p ∨ y = p2 p) : good y ∧ y.kind ≠ 0 ∧ deep y ≤ deepL l := by
  obtain ⟨_, a, b, e, ha, hb⟩ := pairB_iff.1 (List.all_eq_true.1 hp p hm)
  obtain ⟨ga, gb⟩ := pair_good g hm e
  have h1 := pair_deep e
  have h2 := deepL_mem l p hm
  have ea : p1 p = a := by simp [p1, e]
  have eb : p2 p = b := by simp [p2, e]
  rw [ea, eb] at h
  rcases h with rfl | rfl
  · exact ⟨ga, ha, by omega⟩
  · exact ⟨gb, hb, by omega⟩
theorem tup_good {l : List GV} (g : goods l) (hl : l = [] ∨ (l[l.length - 1]?.getD default).kind ≠ 0) (hlen : l.length < 1000000) : good (tupV l) := by
  refine ⟨?_, ⟨by omega, by omega, by decide, by show (0 : Nat) < _; omega, by omega, fun x hx => (by cases hx), (okL_iff l).2 fun x hx => (g x hx).2⟩⟩
  rw [fmd_eq]
  refine ⟨⟨?_, ?_, by simp [GV.abs], by show (0 : Nat) ≤ 1000; omega⟩, fun h => by simp [GV.kind] at h, (fmdL_iff _).2 fun x hx => (g x hx).1⟩
  · simp [fieldsF, GV.kind, GV.neg, GV.abs, GV.str, GV.els, GV.num]
  · rcases hl with rfl | hl
    · rfl
    · have : decide ((l[l.length - 1]?.getD default).kind = 0) = false := decide_eq_false hl
      show (decide (l = []) || !decide ((l[l.length - 1]?.getD default).kind = 0)) = true
      rw [this]; simp
def turnP (p : GV) : GV := tupV [p2 p, p1 p]
def invL (l : List GV) : List GV := l.map turnP
theorem inv_all {f : GV} (hf : Fm f) (hm : mapB f = true) : goods (invL f.els) ∧ nodesL (invL f.els) ≤ nodesL f.els ∧ fitB (setV (setF (invL f.els))) = true := by
  have hp : f.els.all pairB = true := by rw [mapB, Bool.and_eq_true] at hm; exact hm.2
  have gg : goods (invL f.els) := fun y hy => by
    obtain ⟨p, h1, rfl⟩ := List.mem_map.1 hy
    have h2 := part_of hf.good.els hp h1 (.inl rfl)
    have h3 := part_of hf.good.els hp h1 (.inr rfl)
    refine tup_good (fun z hz => ?_) (.inr (by simpa using h2.2.1)) (by simp)
    simp at hz
    rcases hz with rfl | rfl
    · exact h3.1
    · exact h2.1
  have hn : ∀ l : List GV, l.all pairB = true → nodesL (invL l) ≤ nodesL l ∧ deepL (invL l) ≤ deepL l := by
    intro l
    induction l with
    | nil => intro _; simp [invL, nodesL, deepL]
    | cons v l ih =>
      intro hp
      simp only [List.all_cons, Bool.and_eq_true] at hp
      have h1 := ih hp.2
      obtain ⟨_, a, b, e, _, _⟩ := pairB_iff.1 hp.1
      have h2 := pair_nodes e
      have h4 := deep_eq v
      rw [e] at h4
      have ea : p1 v = a := by simp [p1, e]
      have eb : p2 v = b := by simp [p2, e]
      have h5 : nodes (turnP v) = 1 + nodesL [b, a] := by rw [turnP, ea, eb]; exact nodes_eq _
      have h6 : deep (turnP v) = 1 + deepL [b, a] := by rw [turnP, ea, eb]; exact deep_eq _
      simp only [nodesL, deepL] at h4 h5 h6
      simp only [invL, List.map_cons, nodesL, deepL] at h1 ⊢
      omega
  have h := hn _ hp
  exact ⟨gg, h.1, fit_of hf (Nat.le_trans (setF_nodes _ gg) h.1) (Nat.le_trans (setF_deep _ gg) h.2)⟩
end Go.Proofs.YtgfadepkiejncaaGreat
namespace Go.Proofs.YtgfadepkiejncaaGreat
open Go.Ab Go.Sort
set_option maxHeartbeats 0
set_option maxRecDepth 100000
attribute [local irreducible] AW AList ACall DA AExit.then AExit.inBlock YCall DCall
theorem ref_notMap1 {f : GV} (hf : Fm f) (hm : mapB f = false) : Gives Tryz.prog 53 [f.pv] (vB false) := by
  have h := ref_isMap f (by have := hf.len; omega)
  rwa [hm] at h
theorem ref_isMap1 {f : GV} (hf : Fm f) (hm : mapB f = true) : Gives Tryz.prog 53 [f.pv] (vB true) := by
  have h := ref_isMap f (by have := hf.len; omega)
  rwa [hm] at h
theorem ref_mappedM {f v : GV} (hf : Fm f) (hm : mapB f = true) (gv : smallV v) (hn : nodes v < 1099511627776) : Gives Tryz.prog 103 [f.pv, v.pv] (made v 0) := by
  have h := ref_mapped f v hf.good (by have := hf.nodes; omega) hn gv
  rwa [if_pos hm] at h
theorem invL_take (l : List GV) (i : Nat) (h : i < l.length) : invL (l.take (i + 1)) = invL (l.take i) ++ [turnP l[i]] := by
  rw [List.take_succ_eq_append_getElem h, invL, List.map_append]; rfl
theorem bs25_p (a b : GV) (m : St) (K : PV → St → Prop) : abuildSlice Tryz.prog 25 1 [(0, .agg [.v (.int .i64 7), .v (.int .i64 0), .v (.bool false), .list .full [], .v (.string ⟨#[]⟩), .list .no [b.cells, a.cells]])] m K ↔ K (.list .full [(tupV [b, a]).cells]) m := by
  rw [show [(0, PV.agg [.v (.int .i64 7), .v (.int .i64 0), .v (.bool false), .list .full [], .v (.string ⟨#[]⟩), .list .no [b.cells, a.cells]])] = partsFrom 0 [PV.agg [.v (.int .i64 7), .v (.int .i64 0), .v (.bool false), .list .full [], .v (.string ⟨#[]⟩), .list .no [b.cells, a.cells]]] from rfl]
  rw [show (1 : Nat) = [PV.agg [.v (.int .i64 7), .v (.int .i64 0), .v (.bool false), .list .full [], .v (.string ⟨#[]⟩), .list .no [b.cells, a.cells]]].length from rfl]
  rw [abuildSlice_all (s := 6) (e := 27) (z := .agg #[.int .i64 0, .int .i64 0, .bool false, .slice none 0 0, .string ⟨#[]⟩, .slice none 0 0]) (rs := [[.v (.int .i64 7), .v (.int .i64 0), .v (.bool false), .list .full [], .v (.string ⟨#[]⟩), .list .no [b.cells, a.cells]]]) (by simp) (by simp) (by simp) (by decide) (by decide) (by simp) (by simp) (.cons rfl rfl .nil)]
  have : [[PV.v (.int .i64 7), .v (.int .i64 0), .v (.bool false), .list .full [], .v (.string ⟨#[]⟩), .list .no [b.cells, a.cells]]].map PV.stripL = [(tupV [b, a]).cells] := by simp [GV.cells, GV.rows, limbs]
  rw [this]
end Go.Proofs.YtgfadepkiejncaaGreat
namespace Go.Ab
theorem Ow.other {m0 m m' : St} {o o' oB : Own} {s n q sB nB : Nat} (h : Ow m0 m o s n) (hB : Ow m0 m oB sB nB) (hd : ∀ k, o = .tok k → oB ≠ .tok k) (a : AppRes s m o n q o' m') :
    Ow m0 m' oB sB nB ∧ ∀ k, o' = .tok k → oB ≠ .tok k := by
  obtain ⟨h1, h2, h3⟩ := h
  obtain ⟨b1, b2, b3⟩ := hB
  rcases a with ⟨rfl, rfl, rfl⟩ | ⟨_, rfl, rfl⟩ | ⟨_, k, rfl, rfl, rfl⟩
  · exact ⟨⟨b1, b2, b3⟩, hd⟩
  · refine ⟨⟨b1.newTok _ _, ?_, b3⟩, ?_⟩
    · cases oB with
      | no => exact b2
      | full => trivial
      | tok k =>
        obtain ⟨c1, c2, c3, c4⟩ := b2
        have : k ≠ m.ntok := by omega
        exact ⟨Nat.lt_succ_of_lt c1, by simp [St.newTok, upd, this, c2], by simp [St.newTok, upd, this, c3], by simp [St.newTok, upd, this, c4]⟩
    · intro k e e2
      cases e
      subst e2
      exact absurd b2.1 (Nat.lt_irrefl _)
  · refine ⟨⟨b1.growTok (h3 k rfl) _, ?_, b3⟩, hd⟩
    cases oB with
    | no => exact b2
    | full => trivial
    | tok j =>
      obtain ⟨c1, c2, c3, c4⟩ := b2
      have : j ≠ k := fun e => hd k rfl (by rw [e])
      exact ⟨c1, by simp [St.growTok, upd, this, c2], c3, c4⟩
section
variable {P : Program} {N : Nat} {l : List Oper} {cls : List Cls} {Q : APost} {σ : Nat → PV} {m : St} {listed : Array Bool} {fuel : Nat}
end
end Go.Ab
namespace Go.Proofs.YtgfadepkiejncaaGreat
open Go.Ab Go.Sort
set_option maxHeartbeats 0
set_option maxRecDepth 100000
attribute [local irreducible] AW AList ACall DA AExit.then AExit.inBlock YCall DCall
theorem ref_pair (a b : GV) : Gives Tryz.prog 149 [a.pv, b.pv] (tupV [a, b]).pv := by
  intro m
  refine ACall.of_aw Tryz.func149 Tryz.ntmps149 rfl rfl (by simp) ?_
  refine tS ?_
  exact Fin.givesC (p := .agg [vI 7, vI 0, vB false, .list .full [], vS ⟨#[]⟩, .list .no [a.cells, b.cells]]) rfl (by simp [upd_lit]) Same.auto (by simp [GV.cells, limbs, GV.rows])
theorem ref_turned {f : GV} (hf : Fm f) (hm : mapB f = true) : Gives Tryz.prog 107 [f.pv] (setV (setF (invL f.els))).pv := by
  have lf := hf.len
  have hp : f.els.all pairB = true := by rw [mapB, Bool.and_eq_true] at hm; exact hm.2
  obtain ⟨gi, _, _⟩ := inv_all hf hm
  have hset := ref_makeSet (invL f.els) gi (by simp [invL]; omega)
  intro m
  refine ACall.of_aw Tryz.func107 Tryz.ntmps107 rfl rfl (by simp) ?_
  refine tSn ?_
  refine AW.nilS (d := 3) (by simp [upd_lit]) ?_
  refine tS ?_
  generalize hmm : (m.newLoc f.cells).newLoc _ = mm
  have sm : Same m mm := by rw [← hmm]; exact Same.auto
  have g0 : mm.loc m.nloc = some f.cells := by rw [← hmm]; simp
  have g1 : mm.loc (m.nloc + 1) = some zcV := by rw [← hmm]; simp
  have n1 : mm.nloc = m.nloc + 2 := by rw [← hmm]; simp
  clear hmm
  refine AW.loop (ι := Nat) (fun i σ m' => i ≤ f.els.length ∧ σ 4 = vI i ∧ σ 1 = .loc m.nloc 0 ∧ σ 2 = .loc (m.nloc + 1) 0 ∧ (∃ o, σ 3 = .list o (GV.rows (invL (f.els.take i))) ∧ Ow mm m' o 6 (invL (f.els.take i)).length)) (fun i => f.els.length - i) 0 ?_ ?_
  · exact ⟨by simp, by simp [upd_lit], by simp [upd_lit], by simp [upd_lit], .full, by simp [upd_lit, invL, GV.rows], .full (Same.refl _)⟩
  rintro i σ m' ⟨hi, t4, t1, t2, o, t3, ho⟩
  have q0 : m.nloc < m'.nloc := Nat.lt_of_lt_of_le (by omega) ho.same.lloc
  have q1 : m.nloc + 1 < m'.nloc := Nat.lt_of_lt_of_le (by omega) ho.same.lloc
  have k0 : m'.loc m.nloc = some f.cells := (ho.same.get (by omega)).trans g0
  have k1 : m'.loc (m.nloc + 1) = some zcV := (ho.same.get (by omega)).trans g1
  by_cases hlt : i < f.els.length
  · have ht := invL_take f.els i hlt
    have hmem := List.getElem_mem hlt
    obtain ⟨p, ep⟩ : ∃ p, p = f.els[i] := ⟨_, rfl⟩
    have ep' := ep.symm
    rw [ep'] at hmem ht
    obtain ⟨_, a, b, e, _, _⟩ := pairB_iff.1 (List.all_eq_true.1 hp p hmem)
    have et : turnP p = tupV [b, a] := by simp [turnP, p1, p2, e]
    rw [et] at ht
    have r0 : rowI (GV.rows [a, b]) 0 = a.cells := rows_getD [a, b] 0 (by simp)
    have r1 : rowI (GV.rows [a, b]) 1 = b.cells := rows_getD [a, b] 1 (by simp)
    have hl2 : (invL (f.els.take i)).length ≤ 400 := by simp [invL]; omega
    have F := (aand @t4 (aand @t1 (aand @k0 (aand @q0 @hlt)))); refine tFa ?_; (try clear F)
    repeat (first | refine AW.seq ?_ | refine AW.block ?_ | refine AW.skip ?_ | refine AExit.norT ?_ | refine AExit.norB ?_ | refine AList.nil ?_)
    refine AW.draw [.S, .S, .R, .S, .S, .S, .R, .S, .R, .S, .R, .S, .S, .S, .R, .S, .R, .R, .S, .W, .S] (by decide +kernel) ?_; have F := (aand @t3 (aand @t1 (aand @t4 (aand @k0 (aand @q0 (aand @e (aand @r0 (aand @r1 (aand @hlt (aand @rows_getD @ep')))))))))); refine dST 0 ?_; refine dST 1 ?_; refine dRT 2 ?_; refine dST 3 ?_; refine dST 4 ?_; refine dST 5 ?_; refine dRT 6 ?_; refine dST 7 ?_; refine dRT 8 ?_; refine dST 9 ?_; refine dRT 10 ?_; refine dST 11 ?_; refine dST 12 ?_; refine dST 13 ?_; refine dRT 14 ?_; refine dST 15 ?_; refine dRT 16 ?_; refine dCT ((ref_pair b a)) 17 ?_; refine dST 18 ?_; (try clear F); refine DA.W (oi := ?oiw1) 19 ?aw1 ?bw1 ?cw1 ?dw1 ?ew1 ?fw1; (case aw1 => rfl); (case bw1 => decide +kernel); (case cw1 => rfl); (case dw1 => rfl); (case ew1 => decide); intro K Kp hK hKp; (simp [t3, upd_lit]; refine app25 (l' := [tupV [b, a]]) ho rfl (by simp; omega) fun o' m'' ho' hs => hK _ _ ?_; clear hK hKp K Kp); have F := (aand @t3 (aand @t1 (aand @t4 (aand @k0 (aand @q0 (aand @e (aand @r0 (aand @r1 (aand @hlt (aand @rows_getD @ep')))))))))); refine dST 20 ?_; (try clear F); first | refine dN ?_ | refine dB ?_ | refine DA.done (by decide +kernel) ?_
    have F := @t4; refine tF ?_; (try clear F)
    exact ⟨i + 1, ⟨by omega, by simp [upd_lit], by simp [upd_lit, t1], by simp [upd_lit, t2], o', by simp [upd_lit, ht], by rw [ht]; simpa using ho'⟩, by omega⟩
  · have e : i = f.els.length := by omega
    rw [e, List.take_length] at t3
    have F := (aand @t4 (aand @t1 (aand @k0 (aand @q0 @hlt)))); refine tFa ?_; (try clear F)
    have F := @t3; refine tF ?_; (try clear F)
    have F := @t3; refine tF1 fun K Kp hK hKp => ?_; (try clear F); refine Gives.at (hset) ?_; apply hK; clear hK hKp K Kp
    have F := (aand @t2 (aand @k1 @q1)); refine tF ?_; (try clear F)
    exact Fin.givesC (p := (setV (setF (invL f.els))).pv) rfl (by simp [upd_lit, t2, q1]) ((sm.trans ho.same).setLoc (by omega) _)
theorem ref_inverse {f : GV} (hf : Fm f) : Gives Tryz.prog 58 [f.pv] (if mapB f then made (setV (setF (invL f.els))) 0 else made omV 7) := by
  intro m
  refine ACall.of_aw Tryz.func58 Tryz.ntmps58 rfl rfl (by simp) ?_
  cases hm : mapB f with
  | false =>
    rw [if_neg (by simp)]
    refine tS ?_
    refine tS1 fun K Kp hK hKp => ?_; refine Gives.at (ref_notMap1 hf hm) ?_; apply hK; clear hK hKp K Kp
    refine tSa ?_
    refine tS1 fun K Kp hK hKp => ?_; refine Gives.at (ref_bad 7) ?_; apply hK; clear hK hKp K Kp
    refine tS ?_
    exact Fin.givesC (p := made omV 7) rfl (by simp [upd_lit]) Same.auto (by rfl)
  | true =>
    rw [if_pos rfl]
    obtain ⟨g1, g2, g3⟩ := inv_all hf hm
    have hn := hf.nodes
    rw [nodes_eq] at hn
    have en : nodes (setV (setF (invL f.els))) = 1 + nodesL (setF (invL f.els)) := nodes_eq _
    have h3 := setF_nodes _ g1
    have h2 := ref_mappedM hf hm (v := setV (setF (invL f.els))) (small_list (setF_spec _ g1).2.1) (by omega)
    refine tS ?_
    refine tS1 fun K Kp hK hKp => ?_; refine Gives.at (ref_isMap1 hf hm) ?_; apply hK; clear hK hKp K Kp
    refine tSa ?_
    refine AW.draw [.R, .R, .R, .R, .W] (by decide +kernel) ?_; have F := True.intro; refine dRT 0 ?_; refine dRT 1 ?_; refine dCT ((ref_turned hf hm)) 2 ?_; refine dCT ((h2)) 3 ?_; refine dW 4 ?_; (try clear F); first | refine dN ?_ | refine dB ?_ | refine DA.done (by decide +kernel) ?_
    simp only [put]
    refine tS ?_
    exact Fin.givesC (p := made (setV (setF (invL f.els))) 0) rfl (by simp [upd_lit]) Same.auto
end Go.Proofs.YtgfadepkiejncaaGreat
namespace Go.Ab
theorem AW.gen {P : Program} {N : Nat} {c : Code} {Q : APost} {σ : Nat → PV} {m : St} (h : ∀ mm, mm = m → AW P N c Q σ mm) : AW P N c Q σ m := h m rfl
end Go.Ab
namespace Go.Proofs.YtgfadepkiejncaaGreat
open Go.Ab Go.Sort
set_option maxHeartbeats 0
set_option maxRecDepth 100000
attribute [local irreducible] AW AList ACall DA AExit.then AExit.inBlock YCall DCall
theorem setS_ok {l : List GV} (g : goods l) (hl : l.length ≤ 400) : (setV (setF l)).ok := setV_ok (setF_spec _ g).2.1 (by have := setF_len l; omega)
end Go.Proofs.YtgfadepkiejncaaGreat
namespace Go.Ab
section
variable {P : Program} {N : Nat} {l : List Oper} {cls : List Cls} {Q : APost} {σ : Nat → PV} {m m' : St} {listed : Array Bool} {fuel : Nat}
theorem DA.LL {p : PV} {d : Tmp} {op : Op} {ty : TypeId} {pos : String} {after : Array Edge} (i : Nat) (hi : l[i]? = some ⟨some d, op, ty, pos, after, none⟩) (hc : canTakeT .L goesWithL cls l.toArray (Region.before l.toArray) listed i = true) (hd : d < N)
    (h1 : ∀ m', Ext m m' → ∀ K : PV → St → Prop, K p m' → aop P op (opv σ) m' K (fun _ _ => False)) (h : DA P N l cls Q fuel (listed.setIfInBounds i true) (upd σ d p) m) : DA P N l cls Q (fuel + 1) listed σ m :=
  DA.takeLT i hi (by simpa [dstOK] using hd) hc (.inr ⟨rfl, fun m' he => aop_soundO _ _ (h1 m' he _ ⟨rfl, rfl⟩)⟩) h
theorem DA.CA {d : Tmp} {op : Op} {ty : TypeId} {pos : String} {after : Array Edge} (i : Nat) (hi : l[i]? = some ⟨some d, op, ty, pos, after, none⟩) (hc : isReady l.toArray listed [i] = true) (hw : cls.getD i .W = .A) (hd : d < N)
    (h : ∀ K Kp : PV → St → Prop, (∀ p m', Ext m m' → DA P N l cls Q fuel (listed.setIfInBounds i true) (upd σ d p) m' → K p m') → aop P op (opv σ) m K Kp) : DA P N l cls Q (fuel + 1) listed σ m := by
  refine DA.one (by simpa [isReady] using hc) ⟨_, by simpa using hi, by simpa [dstOK] using hd, .inr ⟨rfl, ?_⟩⟩
  simp only [hw]
  exact aop_soundO _ _ (h _ (QP Q) fun p m' e k => ⟨e, k⟩)
theorem Same.ext (h : Same m m') : Ext m m' := ⟨h.lloc, fun n hn => h.get hn⟩
theorem Same.endTok {m0 : St} (h : Same m0 m) {k : Nat} (hk : m0.ntok ≤ k) : Same m0 (m.endTok k) :=
  Same.mk h.lloc h.ltok (fun n hn => h.get hn) (fun i hi => ⟨by show upd m.top k DEAD i = _; rw [upd_ne _ _ _ _ (by omega)]; exact (h.top i hi).1.symm, (h.top i hi).2.symm⟩) (fun n hn => h.getL hn) (fun n hn => h.getI hn) (fun i cs hi hd hc => by show upd m.arr k none i = _; rw [upd_ne _ _ _ _ (by omega)]; exact h.getA hi hd hc)
theorem Same.putA {m0 : St} (h : Same m0 m) {k : Nat} (hk : m0.ntok ≤ k) (t : Nat) (cs : List PV) : Same m0 (m.putA k t cs) :=
  Same.mk h.lloc h.ltok (fun n hn => h.get hn) (fun i hi => ⟨by show upd m.top k t i = _; rw [upd_ne _ _ _ _ (by omega)]; exact (h.top i hi).1.symm, (h.top i hi).2.symm⟩) (fun n hn => h.getL hn) (fun n hn => h.getI hn) (fun i cs' hi hd hc => by show upd m.arr k (some cs) i = _; rw [upd_ne _ _ _ _ (by omega)]; exact h.getA hi hd hc)
end
end Go.Ab
namespace Go.Proofs.YtgfadepkiejncaaGreat
open Go.Ab
set_option maxHeartbeats 0
set_option maxRecDepth 100000
attribute [local irreducible] AW AList ACall DA AExit.then AExit.inBlock YCall
theorem limbs_flat_len (a : List Int) : (limbs a).flatten.length = a.length := by
  induction a with
  | nil => rfl
  | cons x a ih => simp only [limbs, List.map_cons, List.flatten_cons, List.length_append] at ih ⊢; simp [ih]; omega
theorem limbs_stripL (a : List Int) : PV.stripL (limbs a).flatten = (limbs a).flatten := by
  induction a with
  | nil => rfl
  | cons x a ih => simp only [limbs, List.map_cons, List.flatten_cons, List.singleton_append, PV.stripL, PV.strip] at ih ⊢; rw [ih]
def Makes (m : St) (v : GV) (r : ARes) (m' : St) : Prop := ∃ cs, r = .ret (.agg cs) ∧ MTc m' m.nloc m'.nloc v cs ∧ Same m m' ∧ FreeN m m'
theorem cloneM (a : List Int) (la : a.length ≤ 1099511627776) (m : St) :
    ACall Tryz.prog 94 [.list .no (limbs a)] m (fun r m' => ∃ A, r = .ret A ∧ MTa m' m.nloc m'.nloc a A ∧ Same m m' ∧ FreeN m m') := by
  by_cases h0 : a = []
  · subst h0
    refine ((clone22 [] (by simp)) m).mono ?_
    rintro _ _ ⟨rfl, rfl⟩
    exact ⟨_, rfl, .inl ⟨rfl, rfl, Nat.le_refl _⟩, Same.refl _, fun n cs h1 h2 => absurd h1 (by omega)⟩
  refine ACall.of_aw Tryz.func94 Tryz.ntmps94 rfl rfl (by simp) ?_
  refine tS ?_
  refine AList.op (by decide) ?_; intro K Kp hK hKp; simp [upd_lit]
  refine ⟨?_, fun h => absurd (by simpa [limbs] using h) h0⟩
  apply hK; clear hK hKp K Kp
  refine tSa ?_
  refine AList.opK (by decide) ?_; intro K Kp hK hKp
  have hpos : 0 < a.length := List.length_pos_iff.2 h0
  refine op_appendL (e := 33) (o2 := .no) (rows := []) (news := limbs a) rfl rfl rfl rfl (by kernel_rfl) (by kernel_rfl) (by kernel_rfl) (fun r hr => by cases hr) (limbs_w a) ?_ ?_ ?_ (by simp [opv, upd_lit]) (by simp [opv, upd_lit]) (hK _ _ ?_)
  · have e : tbytes Tryz.prog 33 ≤ 4 := by decide +kernel
    simp only [List.length_nil, Nat.zero_add, limbs_len]
    exact Nat.le_trans (Nat.mul_le_mul la e) (by omega)
  · simp; omega
  · simp; omega
  clear hK hKp K Kp
  refine tS ?_
  refine Fin.here (r := .marr m.nloc 0 a.length a.length) (by simp [ResP, ResL, resV, upd_lit, show Tryz.f94.results.toList = [.tmp 2] from rfl]) (.inr rfl) ⟨_, rfl, .inr ⟨m.nloc, h0, rfl, Nat.le_refl _, Nat.lt_succ_self _, Nat.lt_succ_self _, ?_⟩, (Same.refl m).newLoc _, ?_⟩
  · simp [limbs_stripL]
  · intro n cs h1 h2 hc
    have : n = m.nloc := by simp at h2; omega
    subst this
    simp at hc
    subst hc
    rw [limbs_stripL]
    exact limbs_free a
end Go.Proofs.YtgfadepkiejncaaGreat
namespace Go.Proofs.YtgfadepkiejncaaGreat
open Go.Ab
set_option maxHeartbeats 0
set_option maxRecDepth 100000
attribute [local irreducible] AW AList ACall DA AExit.then AExit.inBlock YCall
def Grow (m m' : St) (n : Nat) (rows : List (List PV)) (x : PV) : Prop :=
  (n = 0 ∧ rows = [] ∧ x = .list .full []) ∨ (0 < n ∧ ∃ k, x = .mtok k n ∧ m.ntok ≤ k ∧ k < m'.ntok ∧ m'.top k = n ∧ m'.wd k = 6 ∧ m'.arr k = some rows.flatten)
theorem Grow.same {m m' m'' : St} {n : Nat} {rows : List (List PV)} {x : PV} (h : Grow m m' n rows x) (hn : n < DEAD) (s : Same m' m'') : Grow m m'' n rows x := by
  rcases h with h | ⟨h0, k, h1, h2, h3, h4, h5, h6⟩
  · exact .inl h
  · refine .inr ⟨h0, k, h1, h2, Nat.lt_of_lt_of_le h3 s.ltok, ?_, ?_, s.getA h3 (by rw [h4]; exact hn) h6⟩
    · rw [← (s.top k h3).1, h4]
    · rw [← (s.top k h3).2, h5]
mutual
theorem MTc.strip {m : St} : ∀ {v : GV} {lo hi : Nat} {cs : List PV}, MTc m lo hi v cs → PV.stripL cs = cs
  | .mk k n ng a s l, lo, hi, cs, h => by
    obtain ⟨A, L, rows, l1, l2, rfl, h1, _, h3⟩ := h
    have e1 : A.strip = A := by rcases h1 with ⟨_, rfl, _⟩ | ⟨q, _, rfl, _⟩ <;> rfl
    have e2 : L.strip = L := by rcases h3 with ⟨_, rfl, _⟩ | ⟨q, _, rfl, _⟩ <;> rfl
    simp [PV.stripL, e1, e2]
end
theorem MTc.all1 {m : St} {v : GV} {lo hi : Nat} {cs : List PV} (h : MTc m lo hi v cs) : cs.all cell1 = true := by
  cases v; obtain ⟨A, L, rows, l1, l2, rfl, h1, _, h3⟩ := h
  have e1 : cell1 A = true := by rcases h1 with ⟨_, rfl, _⟩ | ⟨q, _, rfl, _⟩ <;> rfl
  have e2 : cell1 L = true := by rcases h3 with ⟨_, rfl, _⟩ | ⟨q, _, rfl, _⟩ <;> rfl
  rw [List.all_cons, List.all_cons, List.all_cons, List.all_cons, List.all_cons, List.all_cons, e1, e2]; rfl
theorem bs25_m (cs : List PV) (h1 : cs.length = 6) (h2 : cs.all cell1 = true) (h3 : PV.stripL cs = cs) (m : St) (K : PV → St → Prop) (h : K (.list .full [cs]) m) : abuildSlice Tryz.prog 25 1 [(0, .agg cs)] m K := by
  refine (abuildSlice_all (s := 6) (e := 27) (z := .agg #[.int .i64 0, .int .i64 0, .bool false, .slice none 0 0, .string ⟨#[]⟩, .slice none 0 0]) (xs := [.agg cs]) (rs := [cs]) (by simp) (by simp) (by simp) (by decide) (by decide) (by simp) (by simp) (.cons (by show (if cs.all cell1 then some cs else none) = _; rw [h2]; rfl) h1 .nil)).2 ?_
  simpa [h3] using h
theorem MTr.flat {m : St} {l : List GV} {lo hi : Nat} {rows : List (List PV)} (h : MTr m lo hi l rows) : rows.flatten.length = l.length * 6 := by rw [h.w.flat, h.len]
theorem MTc.of {m : St} {lo l1 l2 hi : Nat} {v : GV} {A L : PV} {rows : List (List PV)} (h1 : MTa m lo l1 v.abs A) (h2 : MTr m l1 l2 v.els rows) (h3 : MTl m l2 hi v.els.length rows L) : MTc m lo hi v [vI v.kind, vI v.num, vB v.neg, A, vS v.str, L] := by
  cases v; exact ⟨A, L, rows, l1, l2, rfl, h1, h2, h3⟩
theorem MTa.widen {m : St} {lo lo' hi : Nat} {a : List Int} {A : PV} (hl : lo ≤ lo') (h : MTa m lo' hi a A) : MTa m lo hi a A := by
  rcases h with ⟨q1, q2, q3⟩ | ⟨n, q0, q1, q2, q3⟩
  · exact .inl ⟨q1, q2, by omega⟩
  · exact .inr ⟨n, q0, q1, by omega, q3⟩
theorem grow_op {P : Program} {o : Oper} {c : Call} {x y : Operand} {t e : TypeId} {ρ : Operand → PV} {m M : St} {n : Nat} {rows : List (List PV)} {px : PV} {cs : List PV} {K Kp : PV → St → Prop} (s : Same m M) (hg : Grow m M n rows px) (hr : rows.flatten.length = n * 6) (hn : n < 1099511627776) (hcs : cs.length = 6) (hst : PV.stripL cs = cs)
    (ho : o.op = .call c) (hc : c.callee = .builtin .append) (ha : c.args.toList = [x, y]) (hts : c.argTypes.toList = [t, t])
    (he : telem P t = some e) (ht : tinfo P e = true) (hz : (tzero P e).map (fun z => z.cells.size) = some (tsize P e)) (h6 : tsize P e = 6) (hb : tbytes P e ≤ 100) (hx : ρ x = px) (hy : ρ y = .list .full [cs])
    (h : ∀ p M', Grow m M' (n + 1) (rows ++ [cs]) p → Same m M' → (∀ i, M'.loc i = M.loc i) → M'.nloc = M.nloc → cell1 p = true → p.strip = p → K p M') : OpOK P o ρ M K Kp := by
  have hb' : (n + 1) * tbytes P e ≤ 140737488355328 := Nat.le_trans (Nat.mul_le_mul (show n + 1 ≤ 1099511627776 by omega) hb) (by decide)
  rcases hg with ⟨rfl, rfl, rfl⟩ | ⟨h0, k, rfl, h2, h3, h4, h5, h7⟩
  · refine op_append0 (news := [cs]) (o2 := .full) ho hc ha hts he ht hz hx hy (by rw [h6]; intro r hr; rw [List.mem_singleton.1 hr]; exact hcs) (by simpa using hb') (by simp) (by simp) (h _ _ ?_ ?_ ?_ ?_ rfl rfl)
    · refine .inr ⟨by omega, M.ntok, rfl, s.ltok, Nat.lt_succ_self _, upd_same _ _ _, ?_, ?_⟩
      · show upd M.wd M.ntok _ M.ntok = 6
        rw [upd_same, h6]
      · show upd _ M.ntok _ M.ntok = _
        rw [upd_same]
        simp [hst]
    · exact (s.newTok _ _).putA s.ltok _ _
    · intro i; rfl
    · rfl
  · refine op_appendA (k := k) (len := n) (cs := rows.flatten) (news := [cs]) (o2 := .full) ho hc ha hts he ht hz hx hy h3 (by rw [h4]; exact Nat.lt_trans hn (by decide)) h7 h4.symm (by rw [h5, h6]) (by rw [h6]; intro r hr; rw [List.mem_singleton.1 hr]; exact hcs) (by simpa using hb') (by simp; omega) (by simp) (h _ _ ?_ ?_ ?_ ?_ rfl rfl)
    · refine .inr ⟨by omega, k, rfl, h2, h3, upd_same _ _ _, h5, ?_⟩
      show upd _ k _ k = _
      rw [upd_same]; simp [hst]
    · exact s.putA h2 _ _
    · intro i; rfl
    · rfl
theorem copyM (v : GV) (hv : nodes v < 1099511627776) (hab : ∀ x ∈ walkV v, x.abs.length ≤ 1099511627776) : ∀ m, ACall Tryz.prog 35 [v.pv] m (Makes m v) := by
  induction hk : nodes v using Nat.strongRecOn generalizing v with
  | _ k ih =>
  subst hk
  have hn := nodes_eq v
  have hl := nodesL_len v.els
  intro m
  refine ACall.of_aw Tryz.func35 Tryz.ntmps35 rfl rfl (by simp) ?_
  refine tS ?_
  refine tS1 fun K Kp hK hKp => ?_; refine ACall.mono (cloneM v.abs (hab v (walk_self v)) _) ?_
  rintro _ m1 ⟨A, rfl, hA, sA, fA⟩
  refine hK _ _ ?_; clear hK hKp K Kp
  have a0 : m1.loc m.nloc = some v.cells := (sA.get (by simp; omega)).trans (by simp)
  have a1 : m1.loc (m.nloc + 1) = some zcV := (sA.get (by simp)).trans (by simp)
  have an : m.nloc + 2 ≤ m1.nloc := by have := sA.lloc; simpa using this
  have b0 : m.nloc < m1.nloc := by omega
  have sm1 : Same m m1 := Same.trans Same.auto sA
  have hA1 : cells1 A = some [A] := by rcases hA with ⟨_, rfl, _⟩ | ⟨q, _, rfl, _⟩ <;> rfl
  have hc3 : v.cells.set 3 A = [vI v.kind, vI v.num, vB v.neg, A, vS v.str, GV.pvs v.els] := by cases v; rfl
  have F := (aand @a0 (aand @b0 (aand @hA1 @hc3))); refine tF ?_; (try clear F)
  refine AW.nilC (m := (m1.setLoc m.nloc [vI v.kind, vI v.num, vB v.neg, A, vS v.str, GV.pvs v.els]).setLoc m.nloc [vI v.kind, vI v.num, vB v.neg, A, vS v.str, .v (.slice none 0 0)]) (n := m.nloc) (i := 5) (cs := [vI v.kind, vI v.num, vB v.neg, A, vS v.str, .v (.slice none 0 0)]) b0 (by simp) (by rfl) ?_
  simp only [List.set]
  rw [setLoc_setLoc, setLoc_setLoc]
  have hA' : MTa (m1.setLoc m.nloc [vI v.kind, vI v.num, vB v.neg, A, vS v.str, .list .full []]) (m.nloc + 2) m1.nloc v.abs A := hA.mono (Nat.le_refl _) fun n h1 h2 => by
    have h1' : m.nloc + 2 ≤ n := h1
    rw [setLoc_loc, if_neg]; intro h; omega
  have a1' : (m1.setLoc m.nloc [vI v.kind, vI v.num, vB v.neg, A, vS v.str, .list .full []]).loc (m.nloc + 1) = some zcV := by rw [setLoc_loc, if_neg (by omega)]; exact a1
  have fA' : ∀ n cs, m.nloc < n → n < m1.nloc → (m1.setLoc m.nloc [vI v.kind, vI v.num, vB v.neg, A, vS v.str, .list .full []]).loc n = some cs → PV.freeL cs := fun n cs h1 h2 hc => by
    rw [setLoc_loc, if_neg (by omega)] at hc
    by_cases e : n = m.nloc + 1
    · subst e; rw [a1] at hc; cases hc; exact ⟨trivial, trivial, trivial, ⟨.inr rfl, rfl⟩, trivial, ⟨.inr rfl, rfl⟩, trivial⟩
    · exact fA n cs (by simp; omega) h2 hc
  have sm1' : Same m (m1.setLoc m.nloc [vI v.kind, vI v.num, vB v.neg, A, vS v.str, .list .full []]) := sm1.setLoc (Nat.le_refl _) _
  refine AW.loop (ι := Nat) (fun i σ m' => i ≤ v.els.length ∧ σ 17 = vI i ∧ σ 16 = vI v.els.length ∧ σ 15 = GV.pvs v.els ∧ σ 1 = .loc m.nloc 0 ∧ σ 2 = .loc (m.nloc + 1) 0 ∧ ∃ rows x, m'.loc m.nloc = some [vI v.kind, vI v.num, vB v.neg, A, vS v.str, x] ∧ m'.loc (m.nloc + 1) = some zcV ∧ MTa m' (m.nloc + 2) m1.nloc v.abs A ∧ MTr m' m1.nloc m'.nloc (v.els.take i) rows ∧ Grow m m' i rows x ∧ Same m m' ∧ m1.nloc ≤ m'.nloc ∧
    (∀ n cs, m.nloc < n → n < m'.nloc → m'.loc n = some cs → PV.freeL cs)) (fun i => v.els.length - i) 0 ?_ ?_
  · exact ⟨by omega, by simp [upd_lit], by simp [upd_lit], by simp [upd_lit], by simp [upd_lit], by simp [upd_lit], [], .list .full [], by simp, a1', hA', ⟨rfl, Nat.le_refl _⟩, .inl ⟨rfl, rfl, rfl⟩, sm1', Nat.le_refl _, fA'⟩
  clear a0 a1 sA fA hA hA1 hc3 b0 a1' fA' sm1' hA' sm1
  rintro i σ m' ⟨hi, t17, t16, t15, t1, t2, rows, x, e0, e1, hA, hR, hG, sm, hm1, hF⟩
  have b0 : m.nloc < m'.nloc := by omega
  have b1 : m.nloc + 1 < m'.nloc := by omega
  by_cases hlt : i < v.els.length
  · obtain ⟨c, ec⟩ : ∃ c, c = v.els[i] := ⟨_, rfl⟩
    have rv : rowI (GV.rows v.els) i = c.cells := by rw [rows_getD _ i hlt, ← ec]
    have hg := nodes_get v.els i hlt
    rw [← ec] at hg
    have F := (aand @t17 (aand @t16 @hlt)); refine tFa ?_; (try clear F)
    have F := (aand @t15 (aand @t17 (aand @hlt @rv))); refine tF ?_; (try clear F)
    repeat (first | refine AW.seq ?_ | refine AW.block ?_ | refine AW.skip ?_ | refine AExit.norT ?_ | refine AExit.norB ?_ | refine AList.nil ?_)
    refine AW.frzL (n := m'.nloc) (d := 5) (cs := c.cells) (by simp) (by simp) (by simp [upd_lit]) ?_
    refine AW.gen fun m3 hm3 => ?_
    have n3 : m3.nloc = m'.nloc + 1 := by rw [hm3]; rfl
    have l3 : ∀ n, n < m'.nloc → m3.loc n = m'.loc n := fun n hn => by
      rw [hm3]
      show upd _ _ _ _ = _
      rw [upd_ne _ _ _ _ (by omega), setLoc_loc, if_neg (by omega), newLoc_loc, if_neg (by omega)]
    have l3' : m3.loc m'.nloc = none := by rw [hm3]; exact upd_same _ _ _
    have s3 : Same m m3 := by rw [hm3]; exact ((sm.newLoc _).setLoc (by omega) _).dropLoc (by omega)
    have g3 : Grow m m3 i rows x := by rw [hm3]; exact hG
    clear hm3
    have e3 : m3.loc m.nloc = some [vI v.kind, vI v.num, vB v.neg, A, vS v.str, x] := by rw [l3 _ b0]; exact e0
    have k3 : m.nloc < m3.nloc := by omega
    refine AW.draw [.S, .L, .S, .A, .S, .W, .S, .W] (by decide +kernel) ?_
    have F := @t1
    refine dST 0 ?_
    refine DA.LL (p := x) 1 rfl (by decide +kernel) (by decide) (by
      intro M he K hK
      have h1 := (he.loc _ k3).trans e3
      have h2 := Nat.lt_of_lt_of_le k3 he.nloc
      simp [upd_lit, t1, h1, h2]; exact hK) ?_
    refine dST 2 ?_
    refine DA.CA 3 rfl (by decide +kernel) rfl (by decide) ?_
    intro K Kp hK
    simp [upd_lit]
    refine ACall.mono (ih _ (by omega) c (by omega) (fun y hy => hab y (walk_mem hlt (by rw [← ec]; exact hy))) rfl m3) ?_
    rintro _ m4 ⟨cs, rfl, hc, s4, f4⟩
    refine hK _ _ s4.ext ?_
    clear hK
    have hR3 : MTr m4 m1.nloc m'.nloc (v.els.take i) rows := hR.mono (by have := s4.lloc; omega) fun n h1 h2 => by
      rw [s4.get (n := n) (by omega), l3 n h2]
    refine DA.ST (p := .list .full [cs]) 4 rfl (by decide +kernel) (by decide) (fun M K hK => by simp [aop, opv, upd_lit]; exact bs25_m cs hc.len hc.all1 hc.strip M K hK) ?_
    refine DA.K 5 rfl (by decide +kernel) rfl (by decide) ?_
    intro K Kp hK hKp
    have g4 : Grow m m4 i rows x := g3.same (by unfold DEAD; omega) s4
    refine OpOKo.of fun ρ' hρ => grow_op (t := 25) (e := 27) (s3.trans s4) g4 (by rw [hR.flat]; simp; omega) (by omega) hc.len hc.strip rfl rfl rfl rfl (by simp) (by simp) (by simp) (by simp) (by decide +kernel) ((hρ (.tmp 22) (by simp [Op.operands, Call.operands])).trans (by simp [opv, upd_lit])) ((hρ (.tmp 25) (by simp [Op.operands, Call.operands])).trans (by simp [opv, upd_lit])) ?_
    intro x' m5 g5 s5 l5 n5 c5 t5
    refine hK _ _ ?_
    clear hK hKp K Kp
    simp only [put]
    refine dST 6 ?_
    have m4l := s4.lloc
    have gl : ∀ n, n < m'.nloc → m5.loc n = m'.loc n := fun n hn => by rw [l5, s4.get (n := n) (by omega), l3 n hn]
    have e5 : m5.loc m.nloc = some [vI v.kind, vI v.num, vB v.neg, A, vS v.str, x] := by rw [gl _ b0]; exact e0
    have k5 : m.nloc < m5.nloc := by omega
    have cx : cells1 x' = some [x'] := by
      rcases g5 with ⟨h, _⟩ | ⟨_, k, rfl, _⟩
      · omega
      · rfl
    refine DA.W 7 rfl (by decide +kernel) rfl rfl (by decide) ?_
    intro K Kp hK hKp
    simp [upd_lit, e5, k5, cx, t5]
    refine hK _ _ ?_
    clear hK hKp K Kp
    refine dB (AExit.norT ?_)
    simp only [put]
    refine AW.gen fun m6 hm6 => ?_
    have n6 : m6.nloc = m4.nloc := by rw [hm6]; exact n5
    have l6 : ∀ n, n ≠ m.nloc → m6.loc n = m5.loc n := fun n hn => by rw [hm6, setLoc_loc, if_neg hn]
    have e6 : m6.loc m.nloc = some [vI v.kind, vI v.num, vB v.neg, A, vS v.str, x'] := by rw [hm6, setLoc_loc, if_pos rfl]
    have g6 : Grow m m6 (i + 1) (rows ++ [cs]) x' := by rw [hm6]; exact g5
    have s6 : Same m m6 := by rw [hm6]; exact s5.setLoc (Nat.le_refl _) _
    clear hm6
    have hA6 : MTa m6 (m.nloc + 2) m1.nloc v.abs A := hA.mono (by omega) fun n h1 h2 => by rw [l6 n (by omega), gl n (by omega)]
    have hR6 : MTr m6 m1.nloc m6.nloc (v.els.take (i + 1)) (rows ++ [cs]) := by
      rw [List.take_succ_eq_append_getElem hlt, ← ec]
      refine MTr.append (mid := m'.nloc) (hR3.mono (by omega) fun n h1 h2 => by rw [l6 n (by omega), l5]) ⟨cs, [], m6.nloc, rfl, MTr.append.MTc.widen (lo' := m3.nloc) (by omega) ?_, rfl, Nat.le_refl _⟩
      rw [n6]
      exact hc.mono (by omega) fun n h1 h2 => by rw [l6 n (by omega), l5]
    have f6 : ∀ n cs, m.nloc < n → n < m6.nloc → m6.loc n = some cs → PV.freeL cs := fun n cs h1 h2 h3 => by
      rw [l6 n (by omega)] at h3
      by_cases q : n < m'.nloc
      · rw [gl n q] at h3; exact hF n cs h1 q h3
      · rw [l5] at h3
        by_cases q' : n = m'.nloc
        · rw [s4.get (n := n) (by omega), q', l3'] at h3; cases h3
        · exact f4 n cs (by omega) (by omega) h3
    have e6' : m6.loc (m.nloc + 1) = some zcV := by rw [l6 _ (by omega), gl _ b1]; exact e1
    clear e5 l5 n5 gl l6 hR3 hc s4 f4 g4 g5 s5 k5 hρ g3 s3 l3 l3' F
    have F := @t17; refine tF ?_; (try clear F)
    refine ⟨i + 1, ⟨by omega, by simp [upd_lit], by simp [upd_lit, t16], by simp [upd_lit, t15], by simp [upd_lit, t1], by simp [upd_lit, t2], rows ++ [cs], x', e6, e6', hA6, hR6, g6, s6, by omega, f6⟩, by omega⟩
  · have hie : i = v.els.length := by omega
    subst hie
    rw [List.take_length] at hR
    have F := (aand @t17 (aand @t16 @hlt)); refine tFa ?_; (try clear F)
    refine AList.frz (n := m.nloc) (d := 1) b0 e0 ?_
    rw [show (upd σ 18 (PV.v (Value.bool false)) 1).frz m.nloc [vI v.kind, vI v.num, vB v.neg, A, vS v.str, x] = .ro [vI v.kind, vI v.num, vB v.neg, A, vS v.str, x] by simp [upd_lit, t1, PV.frz]]
    obtain ⟨m3, hm3⟩ : ∃ m3, m3 = m'.dropLoc m.nloc := ⟨_, rfl⟩
    rw [← hm3]
    have n3 : m3.nloc = m'.nloc := by rw [hm3]; rfl
    have l3 : ∀ n, n ≠ m.nloc → m3.loc n = m'.loc n := fun n hn => by rw [hm3]; exact upd_ne _ _ _ _ hn
    have l3' : m3.loc m.nloc = none := by rw [hm3]; exact upd_same _ _ _
    have g3 : Grow m m3 v.els.length rows x := by rw [hm3]; exact hG
    have s3 : Same m m3 := by rw [hm3]; exact sm.dropLoc (Nat.le_refl _)
    clear hm3
    have e3 : m3.loc (m.nloc + 1) = some zcV := by rw [l3 _ (by omega)]; exact e1
    have k3 : m.nloc + 1 < m3.nloc := by omega
    refine AList.op (by decide) ?_; intro K Kp hK hKp; simp [upd_lit]
    apply hK; clear hK hKp K Kp
    have see : ∃ L m4, Sees (.agg [vI v.kind, vI v.num, vB v.neg, A, vS v.str, x]) m3 (.agg [vI v.kind, vI v.num, vB v.neg, A, vS v.str, L]) m4 ∧ MTl m4 m'.nloc m4.nloc v.els.length rows L ∧ m'.nloc ≤ m4.nloc ∧ Same m m4 ∧ (∀ n, n < m'.nloc → m4.loc n = m3.loc n) ∧ (∀ n cs, m'.nloc ≤ n → n < m4.nloc → m4.loc n = some cs → PV.freeL cs) := by
      rcases g3 with ⟨h0, _, rfl⟩ | ⟨h0, k, rfl, h2, h3, h4, h5, h6⟩
      · refine ⟨.list .no [], m3, ?_, .inl ⟨h0, rfl, by omega⟩, by omega, s3, fun _ _ => rfl, fun n cs h1 h2 => absurd h1 (by omega)⟩
        refine Sees.agg (xs := [vI v.kind, vI v.num, vB v.neg, A, vS v.str]) fun Γ w u hm hv => ⟨Γ, hm, Ctx.le.refl _, ?_⟩
        obtain ⟨a, cap, e, q1, q2, q3, q4⟩ := hv
        exact ⟨a, cap, e, q1, q2, q3, trivial⟩
      · refine ⟨.marr m3.nloc 0 v.els.length v.els.length, (m3.endTok k).newLoc rows.flatten, Sees.agg (xs := [vI v.kind, vI v.num, vB v.neg, A, vS v.str]) (Sees.mtok h3 (by rw [h4]; unfold DEAD; omega) h6 h4.symm), .inr ⟨m3.nloc, by omega, rfl, by omega, Nat.lt_succ_self _, Nat.lt_succ_self _, ?_⟩, ?_, (s3.endTok h2).newLoc _, ?_, ?_⟩
        · exact upd_same _ _ _
        · show _ ≤ m3.nloc + 1; omega
        · intro n hn; exact upd_ne _ _ _ _ (by show n ≠ m3.nloc; omega)
        · intro n cs h1 h2 hc
          have h2' : n < m3.nloc + 1 := h2
          have e : n = m3.nloc := by omega
          subst e
          have : some rows.flatten = some cs := (upd_same _ _ _).symm.trans hc
          injection this with this
          rw [← this]
          exact hR.free
    obtain ⟨L, m4, see, hL, n4, s4, l4, f4⟩ := see
    refine AList.sees (d := 29) (p' := .agg [vI v.kind, vI v.num, vB v.neg, A, vS v.str, L]) (m' := m4) (by simpa [upd_lit] using see) ?_
    have n4' : m3.nloc ≤ m4.nloc := by omega
    have e4 : m4.loc (m.nloc + 1) = some zcV := by rw [l4 _ b1]; exact e3
    have k4 : m.nloc + 1 < m4.nloc := by omega
    have hA4 : MTa m4 (m.nloc + 2) m1.nloc v.abs A := hA.mono (by omega) fun n h1 h2 => by rw [l4 n (by omega), l3 n (by omega)]
    have cA : cell1 A = true := by rcases hA with ⟨_, rfl, _⟩ | ⟨q, _, rfl, _⟩ <;> rfl
    have cL : cell1 L = true := by rcases hL with ⟨_, rfl, _⟩ | ⟨q, _, rfl, _⟩ <;> rfl
    simp only [cell1] at cA cL
    have sA : A.strip = A := by rcases hA with ⟨_, rfl, _⟩ | ⟨q, _, rfl, _⟩ <;> rfl
    have sL : L.strip = L := by rcases hL with ⟨_, rfl, _⟩ | ⟨q, _, rfl, _⟩ <;> rfl
    refine AList.op0 ?_; intro K Kp hK hKp; simp [upd_lit, t2, e4, k4, cA, cL, sA, sL]
    refine hK _ _ ?_; clear hK hKp K Kp
    refine AList.nil (AExit.norT ?_)
    refine AW.ret (Fin.here (r := .agg [vI v.kind, vI v.num, vB v.neg, A, vS v.str, L]) (q := .agg [vI v.kind, vI v.num, vB v.neg, A, vS v.str, L]) ?_ (.inr rfl) ⟨_, rfl, ?_, s4.setLoc (by omega) _, ?_⟩ ?_)
    · simp [ResP, ResL, resV, upd_lit, t2, show Tryz.f35.results.toList = [.cell 2 27] from rfl]
      exact k4
    · refine MTc.of (l1 := m1.nloc) (l2 := m'.nloc) (rows := rows) ((hA4.mono (by show _ ≤ m4.nloc; omega) fun n h1 h2 => ?_).widen (by omega)) (hR.mono (by show _ ≤ m4.nloc; omega) fun n h1 h2 => ?_) (hL.mono (Nat.le_refl _) fun n h1 h2 => ?_)
      · rw [setLoc_loc, if_neg (by omega)]
      · rw [setLoc_loc, if_neg (by omega), l4 n h2, l3 n (by omega)]
      · rw [setLoc_loc, if_neg (by omega)]
    · intro n cs h1 h2 h3
      have h2' : n < m4.nloc := h2
      rw [setLoc_loc] at h3
      split at h3
      · injection h3 with h3
        rw [← h3]
        exact ⟨trivial, trivial, trivial, hA4.free, trivial, hL.free, trivial⟩
      · by_cases q : n < m'.nloc
        · rw [l4 n q] at h3
          by_cases q' : n = m.nloc
          · rw [q', l3'] at h3; cases h3
          · rw [l3 n q'] at h3; exact hF n cs (by omega) q h3
        · exact f4 n cs (by omega) h2' h3
    · simp [PV.strip, PV.stripL, sA, sL]
end Go.Proofs.YtgfadepkiejncaaGreat
namespace Go.Ab
theorem AList.frzL {P : Program} {N : Nat} {Q : APost} {σ : Nat → PV} {m : St} {ops : Array Oper} {l : List Oper} {n d : Nat} {cs : List PV} (hn : n < m.nloc) (hc : m.loc n = some cs) (hd : σ d = .loc n 0) (h : AList P N ops Q l (upd σ d (.ro cs)) (m.dropLoc n)) : AList P N ops Q l σ m :=
  AList.frz hn hc (by rw [hd]; simpa [PV.frz] using h)
end Go.Ab
namespace Go.Proofs.YtgfadepkiejncaaGreat
open Go.Ab
set_option maxHeartbeats 0
set_option maxRecDepth 100000
attribute [local irreducible] AW AList ACall DA AExit.then AExit.inBlock YCall
theorem op_cloneA {o : Oper} {c : Call} {x y : Operand} {ρ : Operand → PV} {m : St} {a : List Int} {K Kp : PV → St → Prop} (ho : o.op = .call c) (hc : c.callee = .builtin .append) (ha : c.args.toList = [x, y]) (hts : c.argTypes.toList = [22, 22]) (la : a.length ≤ 1099511627776) (hx : ρ x = .list .full []) (hy : ρ y = .list .no (limbs a))
    (h : ∀ A m1, ((a = [] ∧ A = .list .full [] ∧ m1 = m) ∨ (a ≠ [] ∧ A = .marr m.nloc 0 a.length a.length ∧ m1 = m.newLoc (limbs a).flatten)) → K A m1) : OpOK Tryz.prog o ρ m K Kp := by
  by_cases h0 : a = []
  · subst h0
    refine aop_sound _ _ ?_
    rw [ho]
    simp only [aop, acall, hc, ha, hts, hx, hy]
    simp [aappend, limbs]
    refine ⟨fun r hr => (by cases hr), trivial, ?_⟩
    rintro o' m' (⟨_, rfl, rfl⟩ | ⟨h, _⟩ | ⟨h, _⟩)
    · exact h _ _ (.inl ⟨rfl, rfl, rfl⟩)
    · exact absurd h (by omega)
    · exact absurd h (by omega)
  · have hpos : 0 < a.length := List.length_pos_iff.2 h0
    refine op_appendL (e := 33) (o2 := .no) (rows := []) (news := limbs a) ho hc ha hts (by kernel_rfl) (by kernel_rfl) (by kernel_rfl) (fun r hr => by cases hr) (limbs_w a) ?_ ?_ ?_ hx hy ?_
    · have e : tbytes Tryz.prog 33 ≤ 4 := by decide +kernel
      simp only [List.length_nil, Nat.zero_add, limbs_len]
      exact Nat.le_trans (Nat.mul_le_mul la e) (by omega)
    · simp; omega
    · simp; omega
    · exact h _ _ (.inr ⟨h0, by simp, by simp [limbs_stripL]⟩)
theorem sees_full {m : St} : Sees (.list .full []) m (.list .no []) m := fun Γ w u hm hv => ⟨Γ, hm, Ctx.le.refl _, by
  obtain ⟨a, cap, e, q1, q2, q3, q4⟩ := hv
  exact ⟨a, cap, e, q1, q2, q3, trivial⟩⟩
theorem refCopyM (v : GV) (hv : nodes v < 1099511627776) (hab : ∀ x ∈ walkV v, x.abs.length ≤ 1099511627776) : ∀ m, ACall Tryz.prog 77 [v.pv] m (Makes m v) := by
  induction hk : nodes v using Nat.strongRecOn generalizing v with
  | _ k ih =>
  subst hk
  have hn := nodes_eq v
  have hl := nodesL_len v.els
  intro m
  refine ACall.of_aw Tryz.func77 Tryz.ntmps77 rfl rfl (by simp) ?_
  refine tS ?_
  refine AList.opK (by decide) ?_; intro K Kp hK hKp
  refine op_cloneA (a := v.abs) rfl rfl rfl rfl (hab v (walk_self v)) (by simp [opv, upd_lit]) (by simp [opv, upd_lit]) fun A0 m1 hA => hK _ _ ?_
  clear hK hKp K Kp
  have see : ∃ A, Sees A0 m1 A m1 ∧ MTa m1 (m.nloc + 3) m1.nloc v.abs A ∧ m.nloc + 3 ≤ m1.nloc ∧ Same m m1 ∧ (∀ n cs, m.nloc + 3 ≤ n → n < m1.nloc → m1.loc n = some cs → PV.freeL cs) ∧ m1.loc m.nloc = some v.cells ∧ m1.loc (m.nloc + 1) = some zcV ∧ m1.loc (m.nloc + 2) = some v.cells := by
    rcases hA with ⟨h0, rfl, rfl⟩ | ⟨h0, rfl, rfl⟩
    · refine ⟨.list .no [], sees_full, .inl ⟨h0, rfl, by simp⟩, by simp, Same.auto, fun n cs h1 h2 => absurd h1 (by simp at h2; omega), by simp; omega, by simp, by simp⟩
    · refine ⟨_, Sees.refl _ _, .inr ⟨m.nloc + 3, h0, rfl, Nat.le_refl _, by simp, by simp, by simp⟩, by simp, Same.auto, fun n cs h1 h2 hc => ?_, by simp; rw [if_neg (by omega), if_neg (by omega)], by simp, by simp⟩
      have e : n = m.nloc + 3 := by simp at h2; omega
      subst e
      simp at hc
      subst hc
      exact limbs_free _
  obtain ⟨A, see, hA1, an, sA, fA, b0, b1, b2⟩ := see
  refine AList.sees (d := 10) (p' := A) (m' := m1) (by simpa [upd_lit] using see) ?_
  clear hA see
  have hA0 : cells1 A = some [A] := by rcases hA1 with ⟨_, rfl, _⟩ | ⟨q, _, rfl, _⟩ <;> rfl
  have hc3 : v.cells.set 3 A = [vI v.kind, vI v.num, vB v.neg, A, vS v.str, GV.pvs v.els] := by cases v; rfl
  have k2 : m.nloc + 2 < m1.nloc := by omega
  have k0 : m.nloc < m1.nloc := by omega
  have F := (aand @b2 (aand @k2 (aand @hA0 @hc3))); refine tF ?_; (try clear F)
  refine AW.nilC (m := (m1.setLoc (m.nloc + 2) [vI v.kind, vI v.num, vB v.neg, A, vS v.str, GV.pvs v.els]).setLoc (m.nloc + 2) [vI v.kind, vI v.num, vB v.neg, A, vS v.str, .v (.slice none 0 0)]) (n := m.nloc + 2) (i := 5) (cs := [vI v.kind, vI v.num, vB v.neg, A, vS v.str, .v (.slice none 0 0)]) k2 (by simp) (by rfl) ?_
  simp only [List.set]
  rw [setLoc_setLoc, setLoc_setLoc]
  refine AW.frzL (n := m.nloc) (d := 1) (cs := v.cells) k0 (by rw [setLoc_loc, if_neg (by omega)]; exact b0) (by simp [upd_lit]) ?_
  refine AW.gen fun m2 hm2 => ?_
  have n2 : m2.nloc = m1.nloc := by rw [hm2]; rfl
  have l2 : ∀ n, m.nloc < n → n ≠ m.nloc + 2 → m2.loc n = m1.loc n := fun n h h' => by rw [hm2]; show upd _ _ _ n = _; rw [upd_ne _ _ _ _ (by omega), setLoc_loc, if_neg h']
  have b0' : m2.loc m.nloc = none := by rw [hm2]; exact upd_same _ _ _
  have b2' : m2.loc (m.nloc + 2) = some [vI v.kind, vI v.num, vB v.neg, A, vS v.str, .list .full []] := by rw [hm2]; show upd _ _ _ _ = _; rw [upd_ne _ _ _ _ (by omega), setLoc_loc, if_pos rfl]
  have b1' : m2.loc (m.nloc + 1) = some zcV := by rw [l2 _ (by omega) (by omega)]; exact b1
  have sm1' : Same m m2 := by rw [hm2]; exact (sA.setLoc (by omega) _).dropLoc (Nat.le_refl _)
  clear hm2
  have hA' : MTa m2 (m.nloc + 3) m1.nloc v.abs A := hA1.mono (by omega) fun n h1 h2 => l2 n (by omega) (by omega)
  have fA' : ∀ n cs, m.nloc ≤ n → n ≠ m.nloc + 2 → n < m2.nloc → m2.loc n = some cs → PV.freeL cs := fun n cs h1 h2 h3 hc => by
    by_cases e : n = m.nloc
    · rw [e, b0'] at hc; cases hc
    · by_cases e' : n = m.nloc + 1
      · rw [e', b1'] at hc; cases hc; exact ⟨trivial, trivial, trivial, ⟨.inr rfl, rfl⟩, trivial, ⟨.inr rfl, rfl⟩, trivial⟩
      · rw [l2 n (by omega) h2] at hc; exact fA n cs (by omega) (by omega) hc
  refine AW.loop (ι := Nat) (fun i σ m' => i ≤ v.els.length ∧ σ 4 = vI i ∧ σ 1 = .ro v.cells ∧ σ 3 = .loc (m.nloc + 2) 0 ∧ σ 2 = .loc (m.nloc + 1) 0 ∧ ∃ rows x, m'.loc (m.nloc + 2) = some [vI v.kind, vI v.num, vB v.neg, A, vS v.str, x] ∧ m'.loc (m.nloc + 1) = some zcV ∧ MTa m' (m.nloc + 3) m1.nloc v.abs A ∧ MTr m' m1.nloc m'.nloc (v.els.take i) rows ∧ Grow m m' i rows x ∧ Same m m' ∧ m1.nloc ≤ m'.nloc ∧
    (∀ n cs, m.nloc ≤ n → n ≠ m.nloc + 2 → n < m'.nloc → m'.loc n = some cs → PV.freeL cs)) (fun i => v.els.length - i) 0 ?_ ?_
  · exact ⟨by omega, by simp [upd_lit], by simp [upd_lit], by simp [upd_lit], by simp [upd_lit], [], .list .full [], b2', b1', hA', ⟨rfl, by omega⟩, .inl ⟨rfl, rfl, rfl⟩, sm1', by omega, fA'⟩
  clear b0 b1 b2 b0' b1' b2' l2 n2 fA fA' sA hA0 hc3 k2 k0 sm1' hA' hA1
  rintro i σ m' ⟨hi, t4, t1, t3, t2, rows, x, e0, e1, hA, hR, hG, sm, hm1, hF⟩
  have b0 : m.nloc + 2 < m'.nloc := by omega
  have b1 : m.nloc + 1 < m'.nloc := by omega
  by_cases hlt : i < v.els.length
  · obtain ⟨c, ec⟩ : ∃ c, c = v.els[i] := ⟨_, rfl⟩
    have rv : rowI (GV.rows v.els) i = c.cells := by rw [rows_getD _ i hlt, ← ec]
    have hg := nodes_get v.els i hlt
    rw [← ec] at hg
    have F := (aand @t1 (aand @t4 @hlt)); refine tFa ?_; (try clear F)
    have k3 : m.nloc + 2 < m'.nloc := b0
    refine AW.draw [.S, .L, .S, .S, .S, .S, .S, .A, .S, .W, .S, .W] (by decide +kernel) ?_
    have F := aand (@t1) (aand (@t3) (aand (@t4) (aand (@hlt) (@rv))))
    refine dST 0 ?_
    refine DA.LL (p := x) 1 rfl (by decide +kernel) (by decide) (by
      intro M he K hK
      have h1 := (he.loc _ k3).trans e0
      have h2 := Nat.lt_of_lt_of_le k3 he.nloc
      simp [upd_lit, t3, h1, h2]; exact hK) ?_
    refine dST 2 ?_
    refine dST 3 ?_
    refine dST 4 ?_
    refine dST 5 ?_
    refine dST 6 ?_
    refine DA.CA 7 rfl (by decide +kernel) rfl (by decide) ?_
    intro K Kp hK
    simp [upd_lit]
    refine ACall.mono (ih _ (by omega) c (by omega) (fun y hy => hab y (walk_mem hlt (by rw [← ec]; exact hy))) rfl m') ?_
    rintro _ m4 ⟨cs, rfl, hc, s4, f4⟩
    refine hK _ _ s4.ext ?_
    clear hK
    have m4l := s4.lloc
    have hR3 : MTr m4 m1.nloc m'.nloc (v.els.take i) rows := hR.mono (by omega) fun n h1 h2 => s4.get (n := n) (by omega)
    refine DA.ST (p := .list .full [cs]) 8 rfl (by decide +kernel) (by decide) (fun M K hK => by simp [aop, opv, upd_lit]; exact bs25_m cs hc.len hc.all1 hc.strip M K hK) ?_
    refine DA.K 9 rfl (by decide +kernel) rfl (by decide) ?_
    intro K Kp hK hKp
    have g4 : Grow m m4 i rows x := hG.same (by unfold DEAD; omega) s4
    refine OpOKo.of fun ρ' hρ => grow_op (t := 25) (e := 27) (sm.trans s4) g4 (by rw [hR.flat]; simp; omega) (by omega) hc.len hc.strip rfl rfl rfl rfl (by simp) (by simp) (by simp) (by simp) (by decide +kernel) ((hρ (.tmp 22) (by simp [Op.operands, Call.operands])).trans (by simp [opv, upd_lit])) ((hρ (.tmp 29) (by simp [Op.operands, Call.operands])).trans (by simp [opv, upd_lit])) ?_
    intro x' m5 g5 s5 l5 n5 c5 t5
    refine hK _ _ ?_
    clear hK hKp K Kp
    simp only [put]
    refine dST 10 ?_
    have gl : ∀ n, n < m'.nloc → m5.loc n = m'.loc n := fun n hn => by rw [l5, s4.get (n := n) hn]
    have e5 : m5.loc (m.nloc + 2) = some [vI v.kind, vI v.num, vB v.neg, A, vS v.str, x] := by rw [gl _ b0]; exact e0
    have k5 : m.nloc + 2 < m5.nloc := by omega
    have cx : cells1 x' = some [x'] := by
      rcases g5 with ⟨h, _⟩ | ⟨_, k, rfl, _⟩
      · omega
      · rfl
    refine DA.W 11 rfl (by decide +kernel) rfl rfl (by decide) ?_
    intro K Kp hK hKp
    simp [upd_lit, e5, k5, cx, t5]
    refine hK _ _ ?_
    clear hK hKp K Kp
    refine dB (AExit.norT ?_)
    simp only [put]
    refine AW.gen fun m6 hm6 => ?_
    have n6 : m6.nloc = m4.nloc := by rw [hm6]; exact n5
    have l6 : ∀ n, n ≠ m.nloc + 2 → m6.loc n = m5.loc n := fun n hn => by rw [hm6, setLoc_loc, if_neg hn]
    have e6 : m6.loc (m.nloc + 2) = some [vI v.kind, vI v.num, vB v.neg, A, vS v.str, x'] := by rw [hm6, setLoc_loc, if_pos rfl]
    have g6 : Grow m m6 (i + 1) (rows ++ [cs]) x' := by rw [hm6]; exact g5
    have s6 : Same m m6 := by rw [hm6]; exact s5.setLoc (by omega) _
    clear hm6
    have hA6 : MTa m6 (m.nloc + 3) m1.nloc v.abs A := hA.mono (by omega) fun n h1 h2 => by rw [l6 n (by omega), gl n (by omega)]
    have hR6 : MTr m6 m1.nloc m6.nloc (v.els.take (i + 1)) (rows ++ [cs]) := by
      rw [List.take_succ_eq_append_getElem hlt, ← ec]
      refine MTr.append (mid := m'.nloc) (hR3.mono (by omega) fun n h1 h2 => by rw [l6 n (by omega), l5]) ⟨cs, [], m6.nloc, rfl, ?_, rfl, Nat.le_refl _⟩
      rw [n6]
      exact hc.mono (by omega) fun n h1 h2 => by rw [l6 n (by omega), l5]
    have f6 : ∀ n cs, m.nloc ≤ n → n ≠ m.nloc + 2 → n < m6.nloc → m6.loc n = some cs → PV.freeL cs := fun n cs h1 h2 h2' h3 => by
      rw [l6 n h2] at h3
      by_cases q : n < m'.nloc
      · rw [gl n q] at h3; exact hF n cs h1 h2 q h3
      · rw [l5] at h3
        exact f4 n cs (by omega) (by omega) h3
    have e6' : m6.loc (m.nloc + 1) = some zcV := by rw [l6 _ (by omega), gl _ b1]; exact e1
    clear e5 l5 n5 gl l6 hR3 hc s4 f4 g4 g5 s5 k5 hρ F
    have F := @t4; refine tF ?_; (try clear F)
    refine ⟨i + 1, ⟨by omega, by simp [upd_lit], by simp [upd_lit, t1], by simp [upd_lit, t3], by simp [upd_lit, t2], rows ++ [cs], x', e6, e6', hA6, hR6, g6, s6, by omega, f6⟩, by omega⟩
  · have hie : i = v.els.length := by omega
    subst hie
    rw [List.take_length] at hR
    have F := (aand @t1 (aand @t4 @hlt)); refine tFa ?_; (try clear F)
    refine AList.frzL (n := m.nloc + 2) (d := 3) b0 e0 (by simp [upd_lit, t3]) ?_
    obtain ⟨m3, hm3⟩ : ∃ m3, m3 = m'.dropLoc (m.nloc + 2) := ⟨_, rfl⟩
    rw [← hm3]
    have n3 : m3.nloc = m'.nloc := by rw [hm3]; rfl
    have l3 : ∀ n, n ≠ m.nloc + 2 → m3.loc n = m'.loc n := fun n hn => by rw [hm3]; exact upd_ne _ _ _ _ hn
    have l3' : m3.loc (m.nloc + 2) = none := by rw [hm3]; exact upd_same _ _ _
    have g3 : Grow m m3 v.els.length rows x := by rw [hm3]; exact hG
    have s3 : Same m m3 := by rw [hm3]; exact sm.dropLoc (by omega)
    clear hm3
    have e3 : m3.loc (m.nloc + 1) = some zcV := by rw [l3 _ (by omega)]; exact e1
    have k3 : m.nloc + 1 < m3.nloc := by omega
    refine AList.op (by decide) ?_; intro K Kp hK hKp; simp [upd_lit]
    apply hK; clear hK hKp K Kp
    have see : ∃ L m4, Sees (.agg [vI v.kind, vI v.num, vB v.neg, A, vS v.str, x]) m3 (.agg [vI v.kind, vI v.num, vB v.neg, A, vS v.str, L]) m4 ∧ MTl m4 m'.nloc m4.nloc v.els.length rows L ∧ m'.nloc ≤ m4.nloc ∧ Same m m4 ∧ (∀ n, n < m'.nloc → m4.loc n = m3.loc n) ∧ (∀ n cs, m'.nloc ≤ n → n < m4.nloc → m4.loc n = some cs → PV.freeL cs) := by
      rcases g3 with ⟨h0, _, rfl⟩ | ⟨h0, k, rfl, h2, h3, h4, h5, h6⟩
      · refine ⟨.list .no [], m3, ?_, .inl ⟨h0, rfl, by omega⟩, by omega, s3, fun _ _ => rfl, fun n cs h1 h2 => absurd h1 (by omega)⟩
        refine Sees.agg (xs := [vI v.kind, vI v.num, vB v.neg, A, vS v.str]) fun Γ w u hm hv => ⟨Γ, hm, Ctx.le.refl _, ?_⟩
        obtain ⟨a, cap, e, q1, q2, q3, q4⟩ := hv
        exact ⟨a, cap, e, q1, q2, q3, trivial⟩
      · refine ⟨.marr m3.nloc 0 v.els.length v.els.length, (m3.endTok k).newLoc rows.flatten, Sees.agg (xs := [vI v.kind, vI v.num, vB v.neg, A, vS v.str]) (Sees.mtok h3 (by rw [h4]; unfold DEAD; omega) h6 h4.symm), .inr ⟨m3.nloc, by omega, rfl, by omega, Nat.lt_succ_self _, Nat.lt_succ_self _, ?_⟩, ?_, (s3.endTok h2).newLoc _, ?_, ?_⟩
        · exact upd_same _ _ _
        · show _ ≤ m3.nloc + 1; omega
        · intro n hn; exact upd_ne _ _ _ _ (by show n ≠ m3.nloc; omega)
        · intro n cs h1 h2 hc
          have h2' : n < m3.nloc + 1 := h2
          have e : n = m3.nloc := by omega
          subst e
          have : some rows.flatten = some cs := (upd_same _ _ _).symm.trans hc
          injection this with this
          rw [← this]
          exact hR.free
    obtain ⟨L, m4, see, hL, n4, s4, l4, f4⟩ := see
    refine AList.sees (d := 32) (p' := .agg [vI v.kind, vI v.num, vB v.neg, A, vS v.str, L]) (m' := m4) (by simpa [upd_lit] using see) ?_
    have n4' : m3.nloc ≤ m4.nloc := by omega
    have e4 : m4.loc (m.nloc + 1) = some zcV := by rw [l4 _ b1]; exact e3
    have k4 : m.nloc + 1 < m4.nloc := by omega
    have hA4 : MTa m4 (m.nloc + 3) m1.nloc v.abs A := hA.mono (by omega) fun n h1 h2 => by rw [l4 n (by omega), l3 n (by omega)]
    have cA : cell1 A = true := by rcases hA with ⟨_, rfl, _⟩ | ⟨q, _, rfl, _⟩ <;> rfl
    have cL : cell1 L = true := by rcases hL with ⟨_, rfl, _⟩ | ⟨q, _, rfl, _⟩ <;> rfl
    simp only [cell1] at cA cL
    have sA : A.strip = A := by rcases hA with ⟨_, rfl, _⟩ | ⟨q, _, rfl, _⟩ <;> rfl
    have sL : L.strip = L := by rcases hL with ⟨_, rfl, _⟩ | ⟨q, _, rfl, _⟩ <;> rfl
    refine AList.op0 ?_; intro K Kp hK hKp; simp [upd_lit, t2, e4, k4, cA, cL, sA, sL]
    refine hK _ _ ?_; clear hK hKp K Kp
    refine AList.nil (AExit.norT ?_)
    refine AW.ret (Fin.here (r := .agg [vI v.kind, vI v.num, vB v.neg, A, vS v.str, L]) (q := .agg [vI v.kind, vI v.num, vB v.neg, A, vS v.str, L]) ?_ (.inr rfl) ⟨_, rfl, ?_, s4.setLoc (by omega) _, ?_⟩ ?_)
    · simp [ResP, ResL, resV, upd_lit, t2, show Tryz.f77.results.toList = [.cell 2 27] from rfl]
      exact k4
    · refine MTc.of (l1 := m1.nloc) (l2 := m'.nloc) (rows := rows) ((hA4.mono (by show _ ≤ m4.nloc; omega) fun n h1 h2 => ?_).widen (by omega)) (hR.mono (by show _ ≤ m4.nloc; omega) fun n h1 h2 => ?_) (hL.mono (Nat.le_refl _) fun n h1 h2 => ?_)
      · rw [setLoc_loc, if_neg (by omega)]
      · rw [setLoc_loc, if_neg (by omega), l4 n h2, l3 n (by omega)]
      · rw [setLoc_loc, if_neg (by omega)]
    · intro n cs h1 h2 h3
      have h2' : n < m4.nloc := h2
      rw [setLoc_loc] at h3
      split at h3
      · injection h3 with h3
        rw [← h3]
        exact ⟨trivial, trivial, trivial, hA4.free, trivial, hL.free, trivial⟩
      · by_cases q : n < m'.nloc
        · rw [l4 n q] at h3
          by_cases q' : n = m.nloc + 2
          · rw [q', l3'] at h3; cases h3
          · rw [l3 n q'] at h3; exact hF n cs h1 q' q h3
        · exact f4 n cs (by omega) h2' h3
    · simp [PV.strip, PV.stripL, sA, sL]
end Go.Proofs.YtgfadepkiejncaaGreat
namespace Go.Ab
open Classical in
noncomputable def St.tidy (m m' : St) : St :=
  { nloc := m'.nloc, ntok := m.ntok, top := m.top, wd := m.wd, arr := fun k => if k < m.ntok ∧ m.top k < DEAD then m.arr k else none,
    loc := fun n => if n < m.nloc then m.loc n else match m'.loc n with | some cs => if PV.freeL cs ∧ PV.scL m'.nloc m.ntok cs then some cs else none | none => none,
    lp := fun n => if n < m.nloc then m.lp n else none, it := fun n => if n < m.nloc then m.it n else none }
theorem tidy_old (m m' : St) {n : Nat} (h : n < m.nloc) : (St.tidy m m').loc n = m.loc n := if_pos h
open Classical in
theorem tidy_new {m m' : St} {n : Nat} {cs : List PV} (h : m.nloc ≤ n) (hc : m'.loc n = some cs) (h1 : PV.freeL cs) (h2 : PV.scL m'.nloc m.ntok cs) : (St.tidy m m').loc n = some cs := by
  show (if n < m.nloc then m.loc n else _) = _
  rw [if_neg (by omega), hc]
  exact if_pos ⟨h1, h2⟩
open Classical in
theorem tidy_inv {m m' : St} {n : Nat} {cs : List PV} (h : m.nloc ≤ n) (hc : (St.tidy m m').loc n = some cs) : m'.loc n = some cs ∧ PV.freeL cs ∧ PV.scL m'.nloc m.ntok cs := by
  have hc' : (if n < m.nloc then m.loc n else match m'.loc n with | some cs => if PV.freeL cs ∧ PV.scL m'.nloc m.ntok cs then some cs else none | none => none) = some cs := hc
  rw [if_neg (by omega)] at hc'
  cases e : m'.loc n with
  | none => rw [e] at hc'; cases hc'
  | some ds =>
    rw [e] at hc'
    simp only at hc'
    split at hc'
    · next q => injection hc' with hc'; subst hc'; exact ⟨rfl, q⟩
    · cases hc'
theorem tidy_free (m m' : St) : FreeN m (St.tidy m m') := fun n cs h1 _ hc => (tidy_inv h1 hc).2.1
theorem tidy_same {m m' : St} (h : Same m m') : Same m (St.tidy m m') :=
  Same.mk h.lloc (Nat.le_refl _) (fun n hn => if_pos hn) (fun k hk => ⟨rfl, rfl⟩) (fun n hn => if_pos hn) (fun n hn => if_pos hn) (fun k cs hk hd hc => by
    show (if k < m.ntok ∧ m.top k < DEAD then m.arr k else none) = _
    rw [if_pos ⟨hk, hd⟩]; exact hc)
theorem tidy_lv {m m' : St} (h : Same m m') : Lv m m' (St.tidy m m') := by
  refine ⟨h.lloc, Nat.le_refl _, Nat.le_refl _, h.ltok, fun n cs hn hc => ?_, fun k hk => ⟨(h.top k hk).1, (h.top k hk).2⟩, fun n L hn hl => ?_, fun n x hn hx => ?_, fun k cs hk hd hc => ?_⟩
  · by_cases q : n < m.nloc
    · rw [tidy_old _ _ q] at hc
      exact ⟨(h.get q).trans hc, .inl ⟨q, hc⟩⟩
    · obtain ⟨h1, h2, h3⟩ := tidy_inv (by omega) hc
      exact ⟨h1, .inr h3⟩
  · have hl' : (if n < m.nloc then m.lp n else none) = some L := hl
    split at hl'
    · next q => exact ⟨q, (h.getL q).trans hl', hl'⟩
    · cases hl'
  · have hx' : (if n < m.nloc then m.it n else none) = some x := hx
    split at hx'
    · next q => exact (h.getI q).trans hx'
    · cases hx'
  · have hc' : (if k < m.ntok ∧ m.top k < DEAD then m.arr k else none) = some cs := hc
    split at hc'
    · next q => exact ⟨h.getA q.1 q.2 hc', .inl ⟨q.1, hc'⟩⟩
    · cases hc'
end Go.Ab
namespace Go.Proofs.YtgfadepkiejncaaGreat
open Go.Ab
set_option maxHeartbeats 0
set_option maxRecDepth 100000
attribute [local irreducible] AW AList ACall DA AExit.then AExit.inBlock YCall
theorem limbs_scL (nl nt : Nat) : ∀ a : List Int, PV.scL nl nt (limbs a).flatten
  | [] => trivial
  | x :: a => ⟨trivial, limbs_scL nl nt a⟩
theorem MTa.sc {m : St} {lo hi nl nt : Nat} {a : List Int} {A : PV} (h : MTa m lo hi a A) (hh : hi ≤ nl) : A.sc nl nt := by
  rcases h with ⟨_, rfl, _⟩ | ⟨n, _, rfl, h1, h2, _⟩
  · exact ⟨trivial, trivial⟩
  · show n < nl; omega
theorem MTl.sc {m : St} {lo hi nl nt k : Nat} {rows : List (List PV)} {L : PV} (h : MTl m lo hi k rows L) (hh : hi ≤ nl) : L.sc nl nt := by
  rcases h with ⟨_, rfl, _⟩ | ⟨n, _, rfl, h1, h2, _⟩
  · exact ⟨trivial, trivial⟩
  · show n < nl; omega
theorem scL_append {nl nt : Nat} : ∀ {xs ys : List PV}, PV.scL nl nt xs → PV.scL nl nt ys → PV.scL nl nt (xs ++ ys)
  | [], _, _, h => h
  | _ :: _, _, h, h' => ⟨h.1, scL_append h.2 h'⟩
theorem MTc.sc {m : St} {v : GV} {lo hi nl nt : Nat} {cs : List PV} (h : MTc m lo hi v cs) (hh : hi ≤ nl) : PV.scL nl nt cs := by
  cases v; obtain ⟨A, L, rows, l1, l2, rfl, h1, h2, h3⟩ := h
  have := h3.le
  have := MTr.le h2
  exact ⟨trivial, trivial, trivial, h1.sc (by omega), trivial, h3.sc hh, trivial⟩
theorem MTr.sc {m : St} {nl nt : Nat} : ∀ {l : List GV} {lo hi : Nat} {rows : List (List PV)}, MTr m lo hi l rows → hi ≤ nl → PV.scL nl nt rows.flatten
  | [], _, _, _, h, _ => by rw [h.1]; trivial
  | v :: l, lo, hi, rows, h, hh => by
    obtain ⟨r, rs, md, rfl, h1, h2⟩ := h
    have := MTr.le h2
    exact scL_append (h1.sc (by omega)) (MTr.sc h2 hh)
theorem MTa.tidy {m m' : St} {lo hi : Nat} {a : List Int} {A : PV} (hlo : m.nloc ≤ lo) (h : MTa m' lo hi a A) : MTa (St.tidy m m') lo hi a A := by
  rcases h with h | ⟨n, h0, h1, h2, h3, h4, h5⟩
  · exact .inl h
  · exact .inr ⟨n, h0, h1, h2, h3, h4, tidy_new (by omega) h5 (limbs_free a) (limbs_scL _ _ a)⟩
mutual
theorem MTc.tidy {m m' : St} : ∀ {v : GV} {lo hi : Nat} {cs : List PV}, m.nloc ≤ lo → hi ≤ m'.nloc → MTc m' lo hi v cs → MTc (St.tidy m m') lo hi v cs
  | .mk k n ng a s l, lo, hi, cs, hlo, hh, h => by
    obtain ⟨A, L, rows, l1, l2, e, h1, h2, h3⟩ := h
    have a1 := h1.le
    have a2 := MTr.le h2
    have a3 := h3.le
    refine ⟨A, L, rows, l1, l2, e, h1.tidy hlo, MTr.tidy (by omega) (by omega) h2, ?_⟩
    rcases h3 with h | ⟨q, q0, q1, q2, q3, q4, q5⟩
    · exact .inl h
    · exact .inr ⟨q, q0, q1, q2, q3, q4, tidy_new (by omega) q5 (MTr.free h2) (MTr.sc h2 (by omega))⟩
theorem MTr.tidy {m m' : St} : ∀ {l : List GV} {lo hi : Nat} {rows : List (List PV)}, m.nloc ≤ lo → hi ≤ m'.nloc → MTr m' lo hi l rows → MTr (St.tidy m m') lo hi l rows
  | [], _, _, _, _, _, h => h
  | v :: l, lo, hi, rows, hlo, hh, h => by
    obtain ⟨r, rs, mid, e, h1, h2⟩ := h
    have a1 := MTc.le h1
    have a2 := MTr.le h2
    exact ⟨r, rs, mid, e, MTc.tidy hlo (by omega) h1, MTr.tidy (by omega) hh h2⟩
end
theorem MTc.wide {m : St} {v : GV} {lo lo' hi hi' : Nat} {cs : List PV} (h : MTc m lo hi v cs) (h1 : lo' ≤ lo) (h2 : hi ≤ hi') : MTc m lo' hi' v cs := by
  have := MTr.append.MTc.widen h1 h
  cases v; obtain ⟨A, L, rows, l1, l2, e, a1, a2, a3⟩ := this
  refine ⟨A, L, rows, l1, l2, e, a1, a2, ?_⟩
  rcases a3 with ⟨q1, q2, q3⟩ | ⟨n, q0, q1, q2, q3, q4⟩
  · exact .inl ⟨q1, q2, by omega⟩
  · exact .inr ⟨n, q0, q1, q2, by omega, q4⟩
def MakesE (m : St) (v : GV) (e : Int) (r : ARes) (m' : St) : Prop := ∃ cs, r = .ret (.tup [.agg cs, vE e]) ∧ MTc m' m.nloc m'.nloc v cs ∧ Same m m' ∧ FreeN m m'
theorem Fin.makesE {P : Program} {fn : Func} {m m' : St} {σ : Nat → PV} {x : AExit} {v : GV} {e : Int} {lo hi : Nat} {cs : List PV} {p : PV} (hx : x = .normal ∨ x = .ret) (hp : ResP P fn.results.toList σ m' p) (hs : p.strip = .tup [.agg cs, vE e]) (hm : Same m m') (hc : MTc m' lo hi v cs) (h1 : m.nloc ≤ lo) (h2 : hi ≤ m'.nloc) : Fin P fn m (MakesE m v e) x σ m' := by
  have : ∃ p m'', ResP P fn.results.toList σ m' p ∧ LvS m m' m'' p.strip ∧ MakesE m v e (.ret p.strip) m'' :=
    ⟨p, St.tidy m m', hp, .inr ⟨tidy_lv hm, by rw [hs]; exact ⟨hc.sc h2, trivial, trivial⟩⟩, cs, by rw [hs], (hc.tidy h1 h2).wide h1 h2, tidy_same hm, tidy_free m m'⟩
  rcases hx with rfl | rfl <;> exact this
theorem omV_mt {m : St} (lo : Nat) : MTc m lo lo omV [vI 0, vI 0, vB false, .list .no [], vS ⟨#[]⟩, .list .no []] :=
  ⟨.list .no [], .list .no [], [], lo, lo, rfl, .inl ⟨rfl, rfl, Nat.le_refl _⟩, ⟨rfl, Nat.le_refl _⟩, .inl ⟨rfl, rfl, Nat.le_refl _⟩⟩
theorem MTc.inv {m : St} {v : GV} {lo hi : Nat} {cs : List PV} (h : MTc m lo hi v cs) : ∃ A L, cs = [vI v.kind, vI v.num, vB v.neg, A, vS v.str, L] ∧ cell1 A = true ∧ cell1 L = true ∧ A.strip = A ∧ L.strip = L := by
  cases v; obtain ⟨A, L, rows, l1, l2, rfl, h1, _, h3⟩ := h
  refine ⟨A, L, rfl, ?_, ?_, ?_, ?_⟩
  · rcases h1 with ⟨_, rfl, _⟩ | ⟨q, _, rfl, _⟩ <;> rfl
  · rcases h3 with ⟨_, rfl, _⟩ | ⟨q, _, rfl, _⟩ <;> rfl
  · rcases h1 with ⟨_, rfl, _⟩ | ⟨q, _, rfl, _⟩ <;> rfl
  · rcases h3 with ⟨_, rfl, _⟩ | ⟨q, _, rfl, _⟩ <;> rfl
theorem sizedM (v : GV) (hv : nodes v < 1099511627776) (hs : smallV v) (m : St) : ACall Tryz.prog 95 [v.pv] m (MakesE m (fitV v) (fitE v)) := by
  refine ACall.of_aw Tryz.func95 Tryz.ntmps95 rfl rfl (by simp) ?_
  refine tS ?_
  refine tS1 fun K Kp hK hKp => ?_; refine Gives.at (val_nodes v (by omega)) ?_; apply hK; clear hK hKp K Kp
  have hb := fitB_not v
  by_cases h1 : 3000 < (nodes v : Int)
  · have hf : fitB v = false := by have : (!fitB v) = true := by rw [hb]; simp [h1]
                                   simpa using this
    have e1 : fitV v = omV := by simp [fitV, hf]
    have e2 : fitE v = 3 := by simp [fitE, hf]
    rw [e1, e2]
    have F := @h1; refine tFa ?_; (try clear F)
    refine Fin.makesE (p := .tup [.agg [vI 0, vI 0, vB false, .list .full [], vS ⟨#[]⟩, .list .full []], vE 3]) (.inr rfl) ?_ (by rfl) Same.auto (omV_mt m.nloc) (Nat.le_refl _) (by simp; omega)
    simp [ResP, ResL, resV, upd_lit, show Tryz.f95.results.toList = [.cell 2 27, .tmp 3] from rfl]
  have F := @h1; refine tFg ?_; (try clear F)
  have F := @h1; refine tFc (val_deep v (by omega)) ?_; (try clear F)
  by_cases h2 : 20 < (deep v : Int)
  · have hf : fitB v = false := by have : (!fitB v) = true := by rw [hb]; simp [h2]
                                   simpa using this
    have e1 : fitV v = omV := by simp [fitV, hf]
    have e2 : fitE v = 3 := by simp [fitE, hf]
    rw [e1, e2]
    have F := (aand @h1 @h2); refine tFa ?_; (try clear F)
    refine Fin.makesE (p := .tup [.agg [vI 0, vI 0, vB false, .list .full [], vS ⟨#[]⟩, .list .full []], vE 3]) (.inr rfl) ?_ (by rfl) Same.auto (omV_mt m.nloc) (Nat.le_refl _) (by simp; omega)
    simp [ResP, ResL, resV, upd_lit, show Tryz.f95.results.toList = [.cell 2 27, .tmp 3] from rfl]
  · have hf : fitB v = true := by have : (!fitB v) = false := by rw [hb]; simp [h1, h2]
                                  simpa using this
    have e1 : fitV v = v := by simp [fitV, hf]
    have e2 : fitE v = 0 := by simp [fitE, hf]
    rw [e1, e2]
    have F := (aand @h1 @h2); refine tFa ?_; (try clear F)
    refine tS1 fun K Kp hK hKp => ?_; refine ACall.mono (copyM v hv hs _) ?_
    rintro _ m1 ⟨cs, rfl, hc, s1, f1⟩
    refine hK _ _ ?_; clear hK hKp K Kp
    have a1 : m1.loc (m.nloc + 1) = some zcV := (s1.get (by simp)).trans (by simp)
    have an : m.nloc + 2 ≤ m1.nloc := by have := s1.lloc; simpa using this
    have k1 : m.nloc + 1 < m1.nloc := by omega
    obtain ⟨A, L, rfl, cA, cL, sA, sL⟩ := hc.inv
    simp only [cell1] at cA cL
    have F := (aand @a1 (aand @k1 (aand @cA (aand @cL (aand @sA @sL))))); refine tF ?_; (try clear F)
    refine Fin.makesE (p := .tup [.agg [vI v.kind, vI v.num, vB v.neg, A, vS v.str, L], vE 0]) (lo := m.nloc + 2) (hi := m1.nloc) (.inr rfl) ?_ (by simp [sA, sL]; rfl) ((Same.trans Same.auto s1).setLoc (by omega) _) ?_ (by omega) (Nat.le_refl _)
    · simp [ResP, ResL, resV, upd_lit, k1, show Tryz.f95.results.toList = [.cell 2 27, .tmp 3] from rfl]
    · exact hc.mono (Nat.le_refl _) fun n h1 h2 => by rw [setLoc_loc, if_neg (by have : m.nloc + 2 ≤ n := h1; omega)]
theorem joinedM (st : Bool → Bool → Bool) (f : FuncId) (hf : ∀ p q : Bool, Gives Tryz.prog f [vB p, vB q] (vB (st p q))) (a b : GV) (ga : good a) (gb : good b) (la : nodes a < 10000000000) (lb : nodes b < 10000000000) (m : St) :
    ACall Tryz.prog 114 [a.pv, b.pv, .clo f [] []] m (MakesE m (if a.kind = 8 ∧ b.kind = 8 then fitV (setV (mrg st a.els b.els)) else omV) (if a.kind = 8 ∧ b.kind = 8 then fitE (setV (mrg st a.els b.els)) else 7)) := by
  have ea := nodes_eq a
  have eb := nodes_eq b
  have na := nodesL_len a.els
  have nb := nodesL_len b.els
  refine ACall.of_aw Tryz.func114 Tryz.ntmps114 rfl rfl (by simp) ?_
  by_cases h1 : a.kind = 8
  · by_cases h2 : b.kind = 8
    · rw [if_pos ⟨h1, h2⟩, if_pos ⟨h1, h2⟩]
      have hn := mrg_nodes st a.els b.els
      have en : nodes (setV (mrg st a.els b.els)) = 1 + nodesL (mrg st a.els b.els) := nodes_eq _
      have gm : goods (mrg st a.els b.els) := mrg_goods (set_Inc ga h1) (set_Inc gb h2) ga.els gb.els
      have hz := sizedM (setV (mrg st a.els b.els)) (by omega) (small_list gm)
      obtain ⟨V, eV⟩ : ∃ V, V = fitV (setV (mrg st a.els b.els)) := ⟨_, rfl⟩
      obtain ⟨E, eE⟩ : ∃ E, E = fitE (setV (mrg st a.els b.els)) := ⟨_, rfl⟩
      rw [← eV, ← eE] at hz ⊢
      have F := (aand @h1 @h2); refine tFa ?_; (try clear F)
      refine tS1 fun K Kp hK hKp => ?_; refine Gives.at (val_merged st f hf a.els b.els ga.els gb.els (by omega) (by omega)) ?_; apply hK; clear hK hKp K Kp
      refine tS ?_
      refine tS1 fun K Kp hK hKp => ?_; refine ACall.mono (hz _) ?_
      rintro _ m1 ⟨cs, rfl, hc, s1, f1⟩
      refine hK _ _ ?_; clear hK hKp K Kp
      have a1 : m1.loc (m.nloc + 2) = some zcV := (s1.get (by simp)).trans (by simp)
      have an : m.nloc + 2 < m1.nloc := by have := s1.lloc; simp at this; omega
      obtain ⟨A, L, rfl, cA, cL, sA, sL⟩ := hc.inv
      simp only [cell1] at cA cL
      have F := (aand @a1 (aand @an (aand @cA (aand @cL (aand @sA @sL))))); refine tF ?_; (try clear F)
      refine Fin.makesE (p := .tup [.agg [vI V.kind, vI V.num, vB V.neg, A, vS V.str, L], vE E]) (lo := m.nloc + 2 + 1) (hi := m1.nloc) (.inr rfl) ?_ (by simp [sA, sL]; rfl) ((Same.trans Same.auto s1).setLoc (by omega) _) ?_ (by omega) (Nat.le_refl _)
      · simp [ResP, ResL, resV, upd_lit, an, show Tryz.f114.results.toList = [.cell 6 27, .tmp 7] from rfl]
      · refine hc.mono (Nat.le_refl _) fun n h1 h2 => ?_
        have : m.nloc + 2 + 1 ≤ n := h1
        rw [setLoc_loc, if_neg (by omega)]
    · rw [if_neg (fun q => h2 q.2), if_neg (fun q => h2 q.2)]
      have F := (aand @h1 @h2); refine tFa ?_; (try clear F)
      refine Fin.makesE (p := .tup [.agg [vI 0, vI 0, vB false, .list .full [], vS ⟨#[]⟩, .list .full []], vE 7]) (.inr rfl) ?_ (by rfl) Same.auto (omV_mt m.nloc) (Nat.le_refl _) (by simp; omega)
      simp [ResP, ResL, resV, upd_lit, show Tryz.f114.results.toList = [.cell 6 27, .tmp 7] from rfl]
  · rw [if_neg (fun q => h1 q.1), if_neg (fun q => h1 q.1)]
    have F := @h1; refine tFa ?_; (try clear F)
    refine Fin.makesE (p := .tup [.agg [vI 0, vI 0, vB false, .list .full [], vS ⟨#[]⟩, .list .full []], vE 7]) (.inr rfl) ?_ (by rfl) Same.auto (omV_mt m.nloc) (Nat.le_refl _) (by simp; omega)
    simp [ResP, ResL, resV, upd_lit, show Tryz.f114.results.toList = [.cell 6 27, .tmp 7] from rfl]
theorem unionM_step (a b : GV) (V : GV) (E : Int) (hj : ∀ m, ACall Tryz.prog 114 [a.pv, b.pv, .clo 117 [] []] m (MakesE m V E)) (m : St) : ACall Tryz.prog 65 [a.pv, b.pv] m (MakesE m V E) := by
  refine ACall.of_aw Tryz.func65 Tryz.ntmps65 rfl rfl (by simp) ?_
  refine tS ?_
  refine tS1 fun K Kp hK hKp => ?_; refine ACall.mono (hj _) ?_
  rintro _ m1 ⟨cs, rfl, hc, s1, f1⟩
  refine hK _ _ ?_; clear hK hKp K Kp
  have a1 : m1.loc (m.nloc + 2) = some zcV := (s1.get (by simp)).trans (by simp)
  have an : m.nloc + 2 < m1.nloc := by have := s1.lloc; simp at this; omega
  obtain ⟨A, L, rfl, cA, cL, sA, sL⟩ := hc.inv
  simp only [cell1] at cA cL
  have F := (aand @a1 (aand @an (aand @cA (aand @cL (aand @sA @sL))))); refine tF ?_; (try clear F)
  refine Fin.makesE (p := .tup [.agg [vI V.kind, vI V.num, vB V.neg, A, vS V.str, L], vE E]) (lo := m.nloc + 2 + 1) (hi := m1.nloc) (.inr rfl) ?_ (by simp [sA, sL]; rfl) ((Same.trans Same.auto s1).setLoc (by omega) _) ?_ (by omega) (Nat.le_refl _)
  · simp [ResP, ResL, resV, upd_lit, an, show Tryz.f65.results.toList = [.cell 4 27, .tmp 5] from rfl]
  · refine hc.mono (Nat.le_refl _) fun n h1 h2 => ?_
    have : m.nloc + 2 + 1 ≤ n := h1
    rw [setLoc_loc, if_neg (by omega)]
theorem withM_step (a x : GV) (V : GV) (E : Int) (hj : ∀ m, ACall Tryz.prog 114 [a.pv, (setV [x]).pv, .clo 115 [] []] m (MakesE m V E)) (m : St) : ACall Tryz.prog 63 [a.pv, x.pv] m (MakesE m V E) := by
  refine ACall.of_aw Tryz.func63 Tryz.ntmps63 rfl rfl (by simp) ?_
  refine tS ?_
  refine tS1 fun K Kp hK hKp => ?_; refine ACall.mono (hj _) ?_
  rintro _ m1 ⟨cs, rfl, hc, s1, f1⟩
  refine hK _ _ ?_; clear hK hKp K Kp
  have a1 : m1.loc (m.nloc + 2) = some zcV := (s1.get (by simp)).trans (by simp)
  have an : m.nloc + 2 < m1.nloc := by have := s1.lloc; simp at this; omega
  obtain ⟨A, L, rfl, cA, cL, sA, sL⟩ := hc.inv
  simp only [cell1] at cA cL
  have F := (aand @a1 (aand @an (aand @cA (aand @cL (aand @sA @sL))))); refine tF ?_; (try clear F)
  refine Fin.makesE (p := .tup [.agg [vI V.kind, vI V.num, vB V.neg, A, vS V.str, L], vE E]) (lo := m.nloc + 2 + 1) (hi := m1.nloc) (.inr rfl) ?_ (by simp [sA, sL]; rfl) ((Same.trans Same.auto s1).setLoc (by omega) _) ?_ (by omega) (Nat.le_refl _)
  · simp [ResP, ResL, resV, upd_lit, an, show Tryz.f63.results.toList = [.cell 4 27, .tmp 5] from rfl]
  · refine hc.mono (Nat.le_refl _) fun n h1 h2 => ?_
    have : m.nloc + 2 + 1 ≤ n := h1
    rw [setLoc_loc, if_neg (by omega)]
theorem setM (l : List GV) (g : goods l) (hl : l.length ≤ 1000000) (hn : nodesL l < 1000000000) (m : St) : ACall Tryz.prog 41 [GV.pvs l] m (MakesE m (fitV (setV (setF l))) (fitE (setV (setF l)))) := by
  have h1 := setF_nodes l g
  obtain ⟨s1, s2, s3⟩ := setF_spec _ g
  have en : nodes (setV (setF l)) = 1 + nodesL (setF l) := nodes_eq _
  have hz := sizedM (setV (setF l)) (by omega) (small_list s2)
  obtain ⟨V, eV⟩ : ∃ V, V = fitV (setV (setF l)) := ⟨_, rfl⟩
  obtain ⟨E, eE⟩ : ∃ E, E = fitE (setV (setF l)) := ⟨_, rfl⟩
  rw [← eV, ← eE] at hz ⊢
  refine ACall.of_aw Tryz.func41 Tryz.ntmps41 rfl rfl (by simp) ?_
  refine tS ?_
  refine tS1 fun K Kp hK hKp => ?_; refine Gives.at (val_sorted l g hl) ?_; apply hK; clear hK hKp K Kp
  refine tS ?_
  refine tS1 fun K Kp hK hKp => ?_; refine ACall.mono (hz _) ?_
  rintro _ m1 ⟨cs, rfl, hc, s1, f1⟩
  refine hK _ _ ?_; clear hK hKp K Kp
  have a1 : m1.loc (m.nloc) = some zcV := (s1.get (by simp)).trans (by simp)
  have an : m.nloc < m1.nloc := by have := s1.lloc; simp at this; omega
  obtain ⟨A, L, rfl, cA, cL, sA, sL⟩ := hc.inv
  simp only [cell1] at cA cL
  have F := (aand @a1 (aand @an (aand @cA (aand @cL (aand @sA @sL))))); refine tF ?_; (try clear F)
  refine Fin.makesE (p := .tup [.agg [vI V.kind, vI V.num, vB V.neg, A, vS V.str, L], vE E]) (lo := m.nloc + 1) (hi := m1.nloc) (.inr rfl) ?_ (by simp [sA, sL]; rfl) ((Same.trans Same.auto s1).setLoc (by omega) _) ?_ (by omega) (Nat.le_refl _)
  · simp [ResP, ResL, resV, upd_lit, an, show Tryz.f41.results.toList = [.cell 2 27, .tmp 3] from rfl]
  · refine hc.mono (Nat.le_refl _) fun n h1 h2 => ?_
    have : m.nloc + 1 ≤ n := h1
    rw [setLoc_loc, if_neg (by omega)]
end Go.Proofs.YtgfadepkiejncaaGreat
namespace Go.Proofs.YtgfadepkiejncaaGreat
open Go.Ab Go.Sort
set_option maxHeartbeats 0
set_option maxRecDepth 100000
attribute [local irreducible] AW AList ACall DA AExit.then AExit.inBlock YCall DCall
theorem tupleM (l : List GV) (g : goods l) (hl : l.length ≤ 1000000) (hn : nodesL l < 1000000000) (m : St) : ACall Tryz.prog 40 [GV.pvs l] m (MakesE m (fitV (tupV (tmF l))) (fitE (tupV (tmF l)))) := by
  have h1 := nodesL_take_le l (tmN l l.length)
  have en : nodes (tupV (tmF l)) = 1 + nodesL (l.take (tmN l l.length)) := nodes_eq _
  refine ACall.of_aw Tryz.func40 Tryz.ntmps40 rfl rfl (by simp) ?_
  refine tS ?_
  generalize hmm : m.newLoc _ = mm
  have sm : Same m mm := by rw [← hmm]; exact Same.auto
  have g0 : mm.loc m.nloc = some [vI 0, vI 0, vB false, .list .full [], vS ⟨#[]⟩, .list .full []] := by rw [← hmm]; simp
  have n0 : m.nloc < mm.nloc := by rw [← hmm]; simp
  clear hmm
  refine AW.loop (ι := Nat) (fun n σ m' => n ≤ l.length ∧ tmN l n = tmN l l.length ∧ σ 0 = GV.pvs l ∧ σ 2 = .loc m.nloc 0 ∧ σ 4 = vI n ∧ m' = mm) (fun n => n) l.length ?_ ?_
  · exact ⟨by simp, rfl, by simp [upd_lit], by simp [upd_lit], by simp [upd_lit], rfl⟩
  rintro n σ m' ⟨hn', ht, t0, t2, t4, rfl⟩
  have tk : ∀ (h : tmN l n = n), tmF l = l.take n := fun h => by rw [tmF, ← ht, h]
  have en' : ∀ k : Nat, nodes (tupV (l.take k)) = 1 + nodesL (l.take k) := fun k => nodes_eq _
  have gt : ∀ k : Nat, goods (l.take k) := fun k x hx => g x (List.mem_of_mem_take hx)
  have fin : ∀ (q : Nat), nodesL (l.take q) ≤ nodesL l := fun q => nodesL_take_le l q
  cases n with
  | zero =>
    have e := tk rfl
    rw [e]
    have := fin 0
    have := en' 0
    have F := (aand @t0 @t4); refine tFa ?_; (try clear F)
    have F := (aand @t0 @t4); refine tF1 fun K Kp hK hKp => ?_; (try clear F)
    refine slice3 l 0 (by omega) _ _ ?_
    apply hK; clear hK hKp K Kp
    refine tS ?_
    have hz := sizedM (tupV (l.take 0)) (by omega) (small_list (gt _))
    obtain ⟨V, eV⟩ : ∃ V, V = fitV (tupV (l.take 0)) := ⟨_, rfl⟩
    obtain ⟨E, eE⟩ : ∃ E, E = fitE (tupV (l.take 0)) := ⟨_, rfl⟩
    rw [← eV, ← eE] at hz ⊢
    refine tS1 fun K Kp hK hKp => ?_; refine ACall.mono (hz _) ?_
    rintro _ m1 ⟨cs, rfl, hc, s1, f1⟩
    refine hK _ _ ?_; clear hK hKp K Kp
    have a1 : m1.loc m.nloc = some zcV := (s1.get n0).trans g0
    have an : m.nloc < m1.nloc := Nat.lt_of_lt_of_le n0 s1.lloc
    obtain ⟨A, L, rfl, cA, cL, sA, sL⟩ := hc.inv
    simp only [cell1] at cA cL
    have F := (aand @t2 (aand @a1 (aand @an (aand @cA (aand @cL (aand @sA @sL)))))); refine tF ?_; (try clear F)
    refine Fin.makesE (p := .tup [.agg [vI V.kind, vI V.num, vB V.neg, A, vS V.str, L], vE E]) (lo := m'.nloc) (hi := m1.nloc) (.inr rfl) ?_ (by simp [sA, sL]; rfl) ((Same.trans sm s1).setLoc (by omega) _) ?_ (by omega) (Nat.le_refl _)
    · simp [ResP, ResL, resV, upd_lit, t2, an, show Tryz.f40.results.toList = [.cell 2 27, .tmp 3] from rfl]
    · refine hc.mono (Nat.le_refl _) fun n h1 h2 => ?_
      rw [setLoc_loc, if_neg (by omega)]
  | succ n =>
    have hlt : n < l.length := by omega
    have e1 : (l[n]?.getD default) = l[n] := by rw [List.getElem?_eq_getElem hlt, Option.getD_some]
    obtain ⟨q, hq⟩ : ∃ q : Int, q = ((n + 1 : Nat) : Int) := ⟨_, rfl⟩
    have e8 : q - 1 = (n : Int) := by omega
    have e9 : 0 < q := by omega
    rw [← hq] at t4
    by_cases hk : l[n].kind = 0
    · rw [tmN, e1, if_pos hk] at ht
      have F := (aand @t0 (aand @t4 (aand @e8 (aand @e9 (aand @hlt (aand @rows_getD @hk)))))); refine tFg ?_; (try clear F)
      refine tSa ?_
      have F := (aand @t4 @e8); refine tF ?_; (try clear F)
      exact ⟨n, ⟨by omega, ht, by simp [upd_lit, t0], by simp [upd_lit, t2], by simp [upd_lit], rfl⟩, by omega⟩
    · have e := tk (by rw [tmN, e1, if_neg hk])
      rw [e]
      have := fin (n + 1)
      have := en' (n + 1)
      have F := (aand @t0 (aand @t4 (aand @e8 (aand @e9 (aand @hlt (aand @rows_getD @hk)))))); refine tFg ?_; (try clear F)
      refine tSa ?_
      have F := (aand @t0 @t4); refine tF1 fun K Kp hK hKp => ?_; (try clear F)
      rw [hq]
      refine slice3 l (n + 1) hn' _ _ ?_
      apply hK; clear hK hKp K Kp
      refine tS ?_
      have hz := sizedM (tupV (l.take (n + 1))) (by omega) (small_list (gt _))
      obtain ⟨V, eV⟩ : ∃ V, V = fitV (tupV (l.take (n + 1))) := ⟨_, rfl⟩
      obtain ⟨E, eE⟩ : ∃ E, E = fitE (tupV (l.take (n + 1))) := ⟨_, rfl⟩
      rw [← eV, ← eE] at hz ⊢
      refine tS1 fun K Kp hK hKp => ?_; refine ACall.mono (hz _) ?_
      rintro _ m1 ⟨cs, rfl, hc, s1, f1⟩
      refine hK _ _ ?_; clear hK hKp K Kp
      have a1 : m1.loc m.nloc = some zcV := (s1.get n0).trans g0
      have an : m.nloc < m1.nloc := Nat.lt_of_lt_of_le n0 s1.lloc
      obtain ⟨A, L, rfl, cA, cL, sA, sL⟩ := hc.inv
      simp only [cell1] at cA cL
      have F := (aand @t2 (aand @a1 (aand @an (aand @cA (aand @cL (aand @sA @sL)))))); refine tF ?_; (try clear F)
      refine Fin.makesE (p := .tup [.agg [vI V.kind, vI V.num, vB V.neg, A, vS V.str, L], vE E]) (lo := m'.nloc) (hi := m1.nloc) (.inr rfl) ?_ (by simp [sA, sL]; rfl) ((Same.trans sm s1).setLoc (by omega) _) ?_ (by omega) (Nat.le_refl _)
      · simp [ResP, ResL, resV, upd_lit, t2, an, show Tryz.f40.results.toList = [.cell 2 27, .tmp 3] from rfl]
      · refine hc.mono (Nat.le_refl _) fun n h1 h2 => ?_
        rw [setLoc_loc, if_neg (by omega)]
theorem inverseM {f : GV} (hf : Fm f) (m : St) : ACall Tryz.prog 49 [f.pv] m (MakesE m (if mapB f then setV (setF (invL f.els)) else omV) (if mapB f then 0 else 7)) := by
  have lf := hf.len
  refine ACall.of_aw Tryz.func49 Tryz.ntmps49 rfl rfl (by simp) ?_
  refine tS ?_
  refine tS1 fun K Kp hK hKp => ?_; refine Gives.at (val_isMap f (by omega)) ?_; apply hK; clear hK hKp K Kp
  cases hm : mapB f with
  | false =>
    rw [if_neg (by simp), if_neg (by simp)]
    refine tSa ?_
    refine Fin.makesE (p := .tup [.agg [vI 0, vI 0, vB false, .list .full [], vS ⟨#[]⟩, .list .full []], vE 7]) (.inr rfl) ?_ (by rfl) Same.auto (omV_mt m.nloc) (Nat.le_refl _) (by simp; omega)
    simp [ResP, ResL, resV, upd_lit, show Tryz.f49.results.toList = [.cell 2 27, .tmp 3] from rfl]
  | true =>
  rw [if_pos rfl, if_pos rfl]
  have hp : f.els.all pairB = true := by rw [mapB, Bool.and_eq_true] at hm; exact hm.2
  obtain ⟨g1, g2, g3⟩ := inv_all hf hm
  have hn := hf.nodes
  rw [nodes_eq] at hn
  have hset := setM (invL f.els) g1 (by simp [invL]; omega) (by omega)
  rw [show fitV (setV (setF (invL f.els))) = setV (setF (invL f.els)) from by simp [fitV, g3], show fitE (setV (setF (invL f.els))) = 0 from by simp [fitE, g3]] at hset
  refine tSa ?_
  refine tSn ?_
  refine AW.nilS (d := 4) (by simp [upd_lit]) ?_
  refine tS ?_
  generalize hmm : (m.newLoc f.cells).newLoc _ = mm
  have sm : Same m mm := by rw [← hmm]; exact Same.auto
  have g1 : mm.loc (m.nloc + 1) = some zcV := by rw [← hmm]; simp
  have n1 : mm.nloc = m.nloc + 2 := by rw [← hmm]; simp
  clear hmm
  refine AW.loop (ι := Nat) (fun i σ m' => i ≤ f.els.length ∧ σ 14 = vI i ∧ σ 13 = vI f.els.length ∧ σ 12 = GV.pvs f.els ∧ σ 2 = .loc (m.nloc + 1) 0 ∧ (∃ o, σ 4 = .list o (GV.rows (invL (f.els.take i))) ∧ Ow mm m' o 6 (invL (f.els.take i)).length)) (fun i => f.els.length - i) 0 ?_ ?_
  · exact ⟨by simp, by simp [upd_lit], by simp [upd_lit], by simp [upd_lit], by simp [upd_lit], .full, by simp [upd_lit, invL, GV.rows], .full (Same.refl _)⟩
  rintro i σ m' ⟨hi, t14, t13, t12, t2, o, t4, ho⟩
  have q1 : m.nloc + 1 < m'.nloc := Nat.lt_of_lt_of_le (by omega) ho.same.lloc
  have k1 : m'.loc (m.nloc + 1) = some zcV := (ho.same.get (by omega)).trans g1
  by_cases hlt : i < f.els.length
  · have ht := invL_take f.els i hlt
    have hmem := List.getElem_mem hlt
    obtain ⟨p, ep⟩ : ∃ p, p = f.els[i] := ⟨_, rfl⟩
    have ep' := ep.symm
    rw [ep'] at hmem ht
    obtain ⟨_, a, b, e, _, _⟩ := pairB_iff.1 (List.all_eq_true.1 hp p hmem)
    have et : turnP p = tupV [b, a] := by simp [turnP, p1, p2, e]
    rw [et] at ht
    have r0 : rowI (GV.rows [a, b]) 0 = a.cells := rows_getD [a, b] 0 (by simp)
    have r1 : rowI (GV.rows [a, b]) 1 = b.cells := rows_getD [a, b] 1 (by simp)
    have ow2 : Ow mm ((m'.newLoc zcV).setLoc m'.nloc p.cells) o 6 (invL (f.els.take i)).length := ⟨(ho.1.newLoc _).setLoc (by omega) _, ho.2⟩
    have hl2 : (invL (f.els.take i)).length ≤ 400 := by simp [invL]; omega
    have F := (aand @t14 (aand @t13 @hlt)); refine tFa ?_; (try clear F)
    have F := (aand @t12 (aand @t14 (aand @hlt (aand @rows_getD @ep')))); refine tF ?_; (try clear F)
    repeat (first | refine AW.seq ?_ | refine AW.block ?_ | refine AW.skip ?_ | refine AExit.norT ?_ | refine AExit.norB ?_ | refine AList.nil ?_)
    have hne : m.nloc + 1 ≠ m'.nloc := by omega
    refine AW.draw [.S, .S, .R, .S, .R, .S, .R, .S, .R, .S, .S, .S, .W, .S] (by decide +kernel) ?_; have F := (aand @t4 (aand @e (aand @r0 (aand @r1 @bs25_p)))); refine dST 0 ?_; refine dST 1 ?_; refine dRT 2 ?_; refine dST 3 ?_; refine dRT 4 ?_; refine dST 5 ?_; refine dRT 6 ?_; refine dST 7 ?_; refine dRT 8 ?_; refine dST 9 ?_; refine dST 10 ?_; refine dST 11 ?_; (try clear F); refine DA.W (oi := ?oiw1) 12 ?aw1 ?bw1 ?cw1 ?dw1 ?ew1 ?fw1; (case aw1 => rfl); (case bw1 => decide +kernel); (case cw1 => rfl); (case dw1 => rfl); (case ew1 => decide); intro K Kp hK hKp; (simp [t4, upd_lit]; refine app25 (l' := [tupV [b, a]]) ow2 rfl (by simp; omega) fun o' m'' ho' hs => hK _ _ ?_; clear hK hKp K Kp); have F := (aand @t4 (aand @e (aand @r0 (aand @r1 @bs25_p)))); refine dST 13 ?_; (try clear F); first | refine dN ?_ | refine dB ?_ | refine DA.done (by decide +kernel) ?_
    have F := @t14; refine tF ?_; (try clear F)
    exact ⟨i + 1, ⟨by omega, by simp [upd_lit], by simp [upd_lit, t13], by simp [upd_lit, t12], by simp [upd_lit, t2], o', by simp [upd_lit, ht], by rw [ht]; simpa using ho'⟩, by omega⟩
  · have e : i = f.els.length := by omega
    rw [e, List.take_length] at t4
    have F := (aand @t14 (aand @t13 @hlt)); refine tFa ?_; (try clear F)
    have F := @t4; refine tF ?_; (try clear F)
    obtain ⟨V, eV⟩ : ∃ V, V = setV (setF (invL f.els)) := ⟨_, rfl⟩
    rw [← eV] at hset ⊢
    have F := @t4; refine tF1 fun K Kp hK hKp => ?_; (try clear F); refine ACall.mono (hset _) ?_
    rintro _ m1 ⟨cs, rfl, hc, s1, f1⟩
    refine hK _ _ ?_; clear hK hKp K Kp
    have a1 : m1.loc (m.nloc + 1) = some zcV := (s1.get q1).trans k1
    have an : m.nloc + 1 < m1.nloc := Nat.lt_of_lt_of_le q1 s1.lloc
    obtain ⟨A, L, rfl, cA, cL, sA, sL⟩ := hc.inv
    simp only [cell1] at cA cL
    have F := (aand @t2 (aand @a1 (aand @an (aand @cA (aand @cL (aand @sA @sL)))))); refine tF ?_; (try clear F)
    refine Fin.makesE (p := .tup [.agg [vI V.kind, vI V.num, vB V.neg, A, vS V.str, L], vE 0]) (lo := m'.nloc) (hi := m1.nloc) (.inr rfl) ?_ (by simp [sA, sL]; rfl) (((sm.trans ho.same).trans s1).setLoc (by omega) _) ?_ (by omega) (Nat.le_refl _)
    · simp [ResP, ResL, resV, upd_lit, t2, an, show Tryz.f49.results.toList = [.cell 2 27, .tmp 3] from rfl]
    · refine hc.mono (Nat.le_refl _) fun n h1 h2 => ?_
      rw [setLoc_loc, if_neg (by omega)]
end Go.Proofs.YtgfadepkiejncaaGreat
namespace Go.Proofs.YtgfadepkiejncaaGreat
open Go.Ab
set_option maxHeartbeats 0
set_option maxRecDepth 100000
attribute [local irreducible] AW AList ACall DA AExit.then AExit.inBlock YCall DCall
end Go.Proofs.YtgfadepkiejncaaGreat
namespace Go.Ab
theorem Post.imp {Γ : Ctx} {w : World} {N : Nat} {Q Q' : APost} (h : ∀ x σ m, Q x σ m → Q' x σ m) {e : Exit} {a : Act} {w' : World} (hp : Post Γ w N Q e a w') : Post Γ w N Q' e a w' := by
  obtain ⟨x, σ, m, Γ', h1, h2⟩ := hp
  exact ⟨x, σ, m, Γ', h x σ m h1, h2⟩
theorem AList.cut {P : Program} {N : Nat} {Q : APost} {ops : Array Oper} {l : List Oper} {σ : Nat → PV} {m : St} {I nx : (Nat → PV) → St → Prop} (h : AList P N ops (AExit.then I Q) l σ m) (h2 : ∀ σ m, I σ m → nx σ m) : AList P N ops (AExit.then nx Q) l σ m :=
  fun Γ a w hs => wpList_mono (fun _ _ _ => Post.imp fun x σ m h => by cases x <;> first | exact h2 σ m h | exact h) _ _ _ (h Γ a w hs)
end Go.Ab
namespace Go.Proofs.YtgfadepkiejncaaGreat
open Go.Ab
set_option maxHeartbeats 0
set_option maxRecDepth 100000
attribute [local irreducible] AW AList ACall DA AExit.then AExit.inBlock YCall DCall
end Go.Proofs.YtgfadepkiejncaaGreat
namespace Go.Ab
def Dies (P : Program) (f : FuncId) (args : List PV) (r : PV) : Prop := ∀ m, ACall P f args m (fun r' m' => r' = .pan r ∧ m' = m)
theorem Dies.at {P : Program} {f : FuncId} {args : List PV} {r : PV} {m : St} {K Kp : PV → St → Prop} (h : Dies P f args r) (k : Kp r m) :
    ACall P f args m (fun r' m' => match r' with | .ret p => K p m' | .pan p => Kp p m') := (h m).mono (by rintro _ _ ⟨rfl, rfl⟩; exact k)
def GivesAt (P : Program) (f : FuncId) (args : List PV) (m : St) (r : PV) : Prop := ACall P f args m (fun r' m' => r' = .ret r ∧ m' = m)
theorem GivesAt.at {P : Program} {f : FuncId} {args : List PV} {r : PV} {m : St} {K Kp : PV → St → Prop} (h : GivesAt P f args m r) (k : K r m) :
    ACall P f args m (fun r' m' => match r' with | .ret p => K p m' | .pan p => Kp p m') := ACall.mono h (by rintro _ _ ⟨rfl, rfl⟩; exact k)
theorem Fin.done {P : Program} {fn : Func} {m m' : St} {σ : Nat → PV} (hm : Same m m') (hp : ResP P fn.results.toList σ m' (.tup []) := by exact ⟨[], rfl, rfl⟩) : Fin P fn m (fun r' m' => r' = .ret (.tup []) ∧ m' = m) .normal σ m' :=
  Fin.normal hp hm rfl trivial ⟨rfl, rfl⟩
end Go.Ab
namespace Go.Proofs.YtgfadepkiejncaaGreat
open Go.Ab
set_option maxHeartbeats 0
set_option maxRecDepth 100000
attribute [local irreducible] AW AList ACall DA AExit.then AExit.inBlock YCall DCall
abbrev badE (e : Int) : PV := .iface 117 (.agg [vE e])
@[simp] theorem bs57_1 (x : Int) (m : St) (K : PV → St → Prop) : abuildSlice Tryz.prog 57 1 [(0, vI x)] m K ↔ K (.list .full (ints [x])) m := by
  have h := abuildSlice_all (P := Tryz.prog) (t := 57) (s := 1) (e := 3) (z := .int .i64 0) (xs := [vI x]) (rs := ints [x]) (m := m) (K := K) (by simp) (by simp) (by simp) (by decide) (by decide) (by simp) (by simp) (cells1_ints [x])
  have e : (ints [x]).map PV.stripL = ints [x] := by simp [ints, PV.stripL, PV.strip]
  rw [e] at h
  exact h
@[simp] theorem bs57_4 (x y z w : Int) (m : St) (K : PV → St → Prop) : abuildSlice Tryz.prog 57 4 [(0, vI x), (1, vI y), (2, vI z), (3, vI w)] m K ↔ K (.list .full (ints [x, y, z, w])) m := by
  have h := abuildSlice_all (P := Tryz.prog) (t := 57) (s := 1) (e := 3) (z := .int .i64 0) (xs := [vI x, vI y, vI z, vI w]) (rs := ints [x, y, z, w]) (m := m) (K := K) (by simp) (by simp) (by simp) (by decide) (by decide) (by simp) (by simp) (cells1_ints [x, y, z, w])
  have e : (ints [x, y, z, w]).map PV.stripL = ints [x, y, z, w] := by simp [ints, PV.stripL, PV.strip]
  rw [e] at h
  exact h
def resE (e : Int) : ARes := if e = 0 then .ret (.tup []) else .pan (badE e)
def GivesR (P : Program) (f : FuncId) (args : List PV) (e : Int) : Prop := ∀ m, ACall P f args m (fun r' m' => r' = resE e ∧ m' = m)
theorem GivesR.ok {P : Program} {f : FuncId} {args : List PV} {e : Int} (h : GivesR P f args e) (h0 : e = 0) : Gives P f args (.tup []) := fun m => (h m).mono (by rintro _ _ ⟨rfl, rfl⟩; subst h0; exact ⟨rfl, rfl⟩)
theorem fieldsF_iff (v : GV) : fieldsF v = true ↔ (0 ≤ v.kind ∧ v.kind ≤ 8) ∧ (v.num = 0 ∨ v.kind ∈ ([1, 3, 5, 6] : List Int)) ∧ ((v.neg = false ∧ v.abs = []) ∨ v.kind ∈ ([2, 3] : List Int)) ∧ (v.str.toList = [] ∨ v.kind ∈ ([4] : List Int)) ∧ (v.els = [] ∨ v.kind ∈ ([7, 8] : List Int)) := by
  unfold fieldsF
  simp only [Bool.or_eq_true, decide_eq_true_eq, Bool.and_eq_true, Bool.not_eq_true', decide_eq_false_iff_not, List.isEmpty_iff, List.mem_cons, List.not_mem_nil, or_false, List.length_pos_iff, Int.natCast_pos]
  by_cases h0 : v.kind < 0 ∨ 8 < v.kind
  · rw [if_pos h0]
    simp only [Bool.false_eq_true, false_iff]
    rintro ⟨h, _⟩; omega
  rw [if_neg h0]
  have hk : 0 ≤ v.kind ∧ v.kind ≤ 8 := by omega
  by_cases h1 : (decide (v.kind = 2) || decide (v.kind = 3)) = false ∧ (v.neg = true ∨ v.abs ≠ [])
  · rw [if_pos h1]
    simp only [Bool.false_eq_true, false_iff]
    rintro ⟨_, _, h, _⟩
    obtain ⟨q1, q2⟩ := h1
    simp at q1
    rcases h with ⟨h, h'⟩ | h | h
    · rcases q2 with q2 | q2
      · rw [h] at q2; cases q2
      · exact q2 h'
    · exact q1.1 h
    · exact q1.2 h
  rw [if_neg h1]
  have c2 : (v.neg = false ∧ v.abs = []) ∨ v.kind = 2 ∨ v.kind = 3 := by
    by_cases e : v.kind = 2 ∨ v.kind = 3
    · exact .inr e
    · refine .inl ?_
      have : ¬ (v.neg = true ∨ v.abs ≠ []) := fun q => h1 ⟨by simp; omega, q⟩
      simp at this; exact this
  by_cases h2 : (¬v.kind = 4 ∧ (!v.str.toList.isEmpty) = true) ∨ (¬v.kind = 7 ∧ ¬v.kind = 8) ∧ v.els ≠ []
  · rw [if_pos (by simpa using h2)]
    simp only [Bool.false_eq_true, false_iff]
    rintro ⟨_, _, _, h3, h4⟩
    simp at h2
    rcases h2 with ⟨q1, q2⟩ | ⟨q1, q2⟩
    · rcases h3 with h3 | h3
      · exact q2 h3
      · exact q1 h3
    · rcases h4 with h4 | h4
      · exact q2 h4
      · omega
  rw [if_neg (by simpa using h2)]
  simp at h2
  constructor
  · intro h
    refine ⟨hk, by simpa [or_assoc] using h, c2, ?_, ?_⟩
    · by_cases e : v.kind = 4
      · exact .inr e
      · exact .inl (h2.1 e)
    · by_cases e : v.kind = 7 ∨ v.kind = 8
      · exact .inr e
      · exact .inl (h2.2 (by omega) (by omega))
  · rintro ⟨_, h, _⟩
    rcases h with h | h | h | h | h <;> simp [h]
end Go.Proofs.YtgfadepkiejncaaGreat
namespace Go.Proofs.YtgfadepkiejncaaGreat
open Go.Ab Go.Sort
set_option maxHeartbeats 0
set_option maxRecDepth 100000
attribute [local irreducible] AW AList ACall DA AExit.then AExit.inBlock YCall DCall
def renN (xs ys : List Int) (k n : Int) : Int := if k = 5 ∧ n ≤ xs.length then xs[(n - 1).toNat]?.getD 0 else if k = 6 ∧ n < ys.length then ys[n.toNat]?.getD 0 else n
mutual
def ren (xs ys : List Int) : GV → GV
  | .mk k n ng a s l => if k = 8 then setV (setF (renL xs ys l)) else .mk k (renN xs ys k n) ng a s (renL xs ys l)
def renL (xs ys : List Int) : List GV → List GV
  | [] => []
  | v :: l => ren xs ys v :: renL xs ys l
end
theorem renL_map (xs ys : List Int) : ∀ l, renL xs ys l = l.map (ren xs ys)
  | [] => rfl
  | v :: l => congrArg (ren xs ys v :: ·) (renL_map xs ys l)
def numsOK (l : List Int) (n : Int) : Prop := ∀ x ∈ l, n ≤ x ∧ x < 9223372036854775808
theorem ren_node {k n n' : Int} {ng : Bool} {a : List Int} {s : ByteArray} {l l' : List GV} (h : nodeOK (.mk k n ng a s l)) (hl : l'.map GV.kind = l.map GV.kind) (hn : n' = n ∨ (k = 5 ∧ 1 ≤ n') ∨ (k = 6 ∧ 0 ≤ n')) :
    nodeOK (.mk k n' ng a s l') := by
  obtain ⟨h1, h2, h3, h4⟩ := h
  have hlen : l'.length = l.length := by simpa using congrArg List.length hl
  refine ⟨?_, ?_, h3, h4⟩
  · rw [fieldsF_iff] at h1 ⊢
    simp only [GV.kind, GV.num, GV.neg, GV.abs, GV.str, GV.els] at h1 ⊢
    obtain ⟨f1, f2, f3, f4, f5⟩ := h1
    refine ⟨f1, ?_, f3, f4, ?_⟩
    · rcases hn with rfl | ⟨rfl, _⟩ | ⟨rfl, _⟩
      · exact f2
      · exact .inr (by simp)
      · exact .inr (by simp)
    · rcases f5 with rfl | f5
      · exact .inl (List.length_eq_zero_iff.1 (by simpa using hlen))
      · exact .inr f5
  · rcases hn with rfl | ⟨rfl, h5⟩ | ⟨rfl, h5⟩
    · by_cases h7 : k = 7
      · subst h7
        have e1 : formF (.mk 7 n' ng a s l) = (decide (l = []) || !decide ((l[l.length - 1]?.getD default).kind = 0)) := rfl
        have e2 : formF (.mk 7 n' ng a s l') = (decide (l' = []) || !decide ((l'[l'.length - 1]?.getD default).kind = 0)) := rfl
        rw [e1] at h2
        rw [e2]
        have hk : ∀ i : Nat, i < l.length → (l'[i]?.getD default).kind = (l[i]?.getD default).kind := fun i hi => by
          have hi' : i < l'.length := by omega
          have := congrArg (fun z => z[i]?) hl
          simp only [List.getElem?_map, List.getElem?_eq_getElem hi, List.getElem?_eq_getElem hi', Option.map_some, Option.some.injEq] at this
          rw [List.getElem?_eq_getElem hi, List.getElem?_eq_getElem hi']
          exact this
        by_cases h0 : l = []
        · have : l' = [] := List.length_eq_zero_iff.1 (by rw [hlen, h0]; rfl)
          simp [this]
        · have hp : 0 < l.length := List.length_pos_iff.2 h0
          rw [hlen, hk _ (by omega)]
          simp only [Bool.or_eq_true, decide_eq_true_eq] at h2 ⊢
          rcases h2 with h2 | h2
          · exact absurd h2 h0
          · exact .inr h2
      · have e : formF (.mk k n' ng a s l') = formF (.mk k n' ng a s l) := by
          unfold formF
          simp only [show (GV.mk k n' ng a s l').kind = k from rfl, show (GV.mk k n' ng a s l).kind = k from rfl, if_neg h7]
          rfl
        rw [e]; exact h2
    · simp [formF, GV.kind, GV.num, h5]
    · simp [formF, GV.kind, GV.num, h5]
theorem set_good {l : List GV} (g : goods l) (hi : Inc l) (h0 : ∀ x ∈ l, x.kind ≠ 0) (hlen : l.length < 1000000) : good (setV l) := by
  refine ⟨?_, setV_ok g hlen⟩
  rw [fmd_eq]
  refine ⟨⟨?_, by rfl, by simp [GV.abs], by show (0 : Nat) ≤ 1000; omega⟩, fun _ => ⟨h0, (incr_none g).2 hi⟩, (fmdL_iff _).2 fun x hx => (g x hx).1⟩
  simp [fieldsF, GV.kind, GV.neg, GV.abs, GV.str, GV.els, GV.num]
theorem setF_good {l : List GV} (g : goods l) (hlen : l.length < 1000000) : good (setV (setF l)) := by
  obtain ⟨s1, s2, s3⟩ := setF_spec _ g
  exact set_good s2 s1 (fun x hx => ((s3 x).1 hx).2) (Nat.lt_of_le_of_lt (setF_len l) hlen)
theorem renN_ok {xs ys : List Int} (hx : numsOK xs 1) (hy : numsOK ys 0) {k n : Int} (h5 : k = 5 → 1 ≤ n) (h6 : k = 6 → 0 ≤ n) (hn : -9223372036854775808 ≤ n ∧ n < 9223372036854775808) :
    (renN xs ys k n = n ∨ (k = 5 ∧ 1 ≤ renN xs ys k n) ∨ (k = 6 ∧ 0 ≤ renN xs ys k n)) ∧ (-9223372036854775808 ≤ renN xs ys k n ∧ renN xs ys k n < 9223372036854775808) := by
  unfold renN
  split
  · rename_i h
    have hlt : (n - 1).toNat < xs.length := by have := h5 h.1; omega
    have := hx _ (List.getElem_mem hlt)
    rw [List.getElem?_eq_getElem hlt, Option.getD_some]
    exact ⟨.inr (.inl ⟨h.1, this.1⟩), by omega⟩
  · split
    · rename_i h
      have hlt : n.toNat < ys.length := by have := h6 h.1; omega
      have := hy _ (List.getElem_mem hlt)
      rw [List.getElem?_eq_getElem hlt, Option.getD_some]
      exact ⟨.inr (.inr ⟨h.1, this.1⟩), by omega⟩
    · exact ⟨.inl rfl, hn⟩
theorem node_num {v : GV} (h : nodeOK v) : (v.kind = 5 → 1 ≤ v.num) ∧ (v.kind = 6 → 0 ≤ v.num) := by
  have h2 := h.2.1
  constructor
  · intro hk
    simpa [formF, hk] using h2
  · intro hk
    simpa [formF, hk] using h2
mutual
theorem ren_ok {xs ys : List Int} (hx : numsOK xs 1) (hy : numsOK ys 0) : ∀ v : GV, good v → nodes v < 1000000 → good (ren xs ys v) ∧ nodes (ren xs ys v) ≤ nodes v ∧ deep (ren xs ys v) ≤ deep v ∧ (ren xs ys v).kind = v.kind
  | .mk k n ng a s l, g, hn => by
    have gl : goods l := g.els
    have hnl : nodesL l < 1000000 := by simp only [nodes] at hn; omega
    have hll := nodesL_len l
    obtain ⟨i1, i2, i3, i4⟩ := renL_ok hx hy l gl hnl
    have il : (renL xs ys l).length = l.length := by simpa using congrArg List.length i4
    rw [ren]
    by_cases h8 : k = 8
    · rw [if_pos h8]
      refine ⟨setF_good i1 (by omega), ?_, ?_, by rw [h8]; rfl⟩
      · have := setF_nodes _ i1
        simp only [nodes]; omega
      · have := setF_deep _ i1
        simp only [deep]; omega
    · rw [if_neg h8]
      have hf := g.1
      rw [fmd_eq] at hf
      have hnum := node_num hf.1
      have hok := g.2
      obtain ⟨r1, r2⟩ := renN_ok hx hy (k := k) (n := n) hnum.1 hnum.2 hok.num
      refine ⟨⟨?_, ?_⟩, ?_, ?_, rfl⟩
      · rw [fmd_eq]
        exact ⟨ren_node hf.1 i4 r1, fun h => absurd h h8, (fmdL_iff _).2 fun x hx' => (i1 x hx').1⟩
      · obtain ⟨o1, o2, o3, o4, o5, o6, o7⟩ := hok
        exact ⟨o1, r2, o3, o4, by rw [il]; exact o5, o6, (okL_iff _).2 fun x hx' => (i1 x hx').2⟩
      · simp only [nodes]; omega
      · simp only [deep]; omega
theorem renL_ok {xs ys : List Int} (hx : numsOK xs 1) (hy : numsOK ys 0) : ∀ l : List GV, goods l → nodesL l < 1000000 → goods (renL xs ys l) ∧ nodesL (renL xs ys l) ≤ nodesL l ∧ deepL (renL xs ys l) ≤ deepL l ∧ (renL xs ys l).map GV.kind = l.map GV.kind
  | [], _, _ => ⟨fun x hx => by simp [renL] at hx, Nat.le_refl _, Nat.le_refl _, rfl⟩
  | v :: l, g, hn => by
    simp only [nodesL] at hn
    obtain ⟨a1, a2, a3, a4⟩ := ren_ok hx hy v (g v (by simp)) (by omega)
    obtain ⟨b1, b2, b3, b4⟩ := renL_ok hx hy l (fun x hx => g x (by simp [hx])) (by omega)
    refine ⟨fun x hx => ?_, ?_, ?_, ?_⟩
    · rw [renL, List.mem_cons] at hx
      rcases hx with rfl | hx
      · exact a1
      · exact b1 x hx
    · simp only [renL, nodesL]; omega
    · simp only [renL, deepL]; omega
    · simp only [renL, List.map_cons, a4, b4]
end
end Go.Proofs.YtgfadepkiejncaaGreat
namespace Go.Ab
theorem AW.cuts4 {P : Program} {N : Nat} {I : (Nat → PV) → St → Prop} {Q : APost} {σ : Nat → PV} {m : St} {c1 c2 c3 c4 R : Code} (h2 : ∀ σ m, I σ m → AW P N R Q σ m) (h : AWs P N I Q [c1, c2, c3, c4] σ m) :
    AW P N (.seq c1 (.seq c2 (.seq c3 (.seq c4 R)))) Q σ m := AW.cuts R h2 [c1, c2, c3, c4] σ m h
end Go.Ab
namespace Go.Proofs.YtgfadepkiejncaaGreat
open Go.Ab Go.Sort
set_option maxHeartbeats 0
set_option maxRecDepth 100000
attribute [local irreducible] AW AList ACall DA AExit.then AExit.inBlock YCall DCall
abbrev intsP (l : List Int) : PV := .list .no (ints l)
theorem node_small {v : GV} (h : good v) : v.abs.length ≤ 1099511627776 := by have := h.1.node.2.2.1; omega
theorem ren_eq (xs ys : List Int) (v : GV) : ren xs ys v = if v.kind = 8 then setV (setF (renL xs ys v.els)) else .mk v.kind (renN xs ys v.kind v.num) v.neg v.abs v.str (renL xs ys v.els) := by cases v; rfl
theorem renL_take (xs ys : List Int) (l : List GV) (i : Nat) (h : i < l.length) : renL xs ys (l.take (i + 1)) = renL xs ys (l.take i) ++ [ren xs ys l[i]] := by
  rw [List.take_succ_eq_append_getElem h, renL_map, renL_map, List.map_append]; rfl
theorem renL_len (xs ys : List Int) (l : List GV) : (renL xs ys l).length = l.length := by rw [renL_map, List.length_map]
theorem node_set {v : GV} (h : good v) (h8 : v.kind = 8) : v.num = 0 ∧ v.neg = false ∧ v.abs = [] ∧ v.str = ⟨#[]⟩ := by
  have hf := node_fields h.1.node
  obtain ⟨f1, f2, f3, f4⟩ := hf
  refine ⟨f4 (by omega) (by omega) (by omega) (by omega), (f1 (by omega) (by omega)).1, (f1 (by omega) (by omega)).2, ?_⟩
  have h2 := f2 (by omega)
  have h3 : v.str.size = 0 := by
    rw [Lib.toList_data] at h2
    have := congrArg List.length h2
    simpa using this
  exact ByteArray.ext (Array.eq_empty_of_size_eq_zero h3)
end Go.Proofs.YtgfadepkiejncaaGreat
namespace Go.Proofs.YtgfadepkiejncaaGreat
open Go.Ab Go.Sort
set_option maxHeartbeats 0
set_option maxRecDepth 100000
attribute [local irreducible] AW AList ACall DA AExit.then AExit.inBlock YCall DCall
end Go.Proofs.YtgfadepkiejncaaGreat
namespace Go.Proofs.YtgfadepkiejncaaGreat
open Go.Ab Go.Sort
set_option maxHeartbeats 0
set_option maxRecDepth 100000
attribute [local irreducible] AW AList ACall DA AExit.then AExit.inBlock YCall DCall
def fiF (p : Int → Bool) : List Int → Int → Int
  | [], _ => -1
  | x :: l, i => if p x then i else fiF p l (i + 1)
theorem fiF_nn (p : Int → Bool) : ∀ (l : List Int) (i : Int), 0 ≤ i → (0 ≤ fiF p l i ↔ l.any p = true)
  | [], i, _ => by simp [fiF]
  | x :: l, i, h => by
    have := fiF_nn p l (i + 1) (by omega)
    cases hx : p x <;> simp [fiF, hx, h] <;> simpa using this
theorem index_int (l : List Int) (p : Int → Bool) (f : FuncId) (hl : l.length < 1152921504606846976) (hf : ∀ x, Gives Tryz.prog f [vI x] (vB (p x))) : Gives Tryz.prog 150 [intsP l, .clo f [] []] (vI (fiF p l 0)) := by
  intro m
  refine ACall.of_aw Tryz.func150 Tryz.ntmps150 rfl rfl (by simp) ?_
  refine tS ?_
  refine AW.loop (ι := Nat) (fun i σ m' => i ≤ l.length ∧ fiF p (l.drop i) i = fiF p l 0 ∧ σ 8 = vI i ∧ σ 7 = vI l.length ∧ σ 0 = intsP l ∧ σ 1 = .clo f [] [] ∧ m' = m) (fun i => l.length - i) 0 ?_ ?_
  · exact ⟨by simp, rfl, by simp [upd_lit], by simp [upd_lit], by simp [upd_lit], by simp [upd_lit], rfl⟩
  rintro i σ m' ⟨hi, hF, t8, t7, t0, t1, rfl⟩
  by_cases hlt : i < l.length
  · rw [List.drop_eq_getElem_cons hlt, fiF] at hF
    have F := (aand @t8 (aand @t7 @hlt)); refine tFa ?_; (try clear F)
    have F := (aand @t0 (aand @t1 (aand @t8 (aand @hlt @ints_getD)))); refine tF ?_; (try clear F)
    have F := (aand @t0 (aand @t1 (aand @hlt @ints_getD))); refine tF1 fun K Kp hK hKp => ?_; (try clear F); refine Gives.at (hf l[i]) ?_; apply hK; clear hK hKp K Kp
    cases hp : p l[i] with
    | true =>
      rw [hp, if_pos rfl] at hF
      refine tSa ?_
      exact Fin.gives Same.auto rfl (by simp [upd_lit, ← hF])
    | false =>
      rw [hp, if_neg (by simp)] at hF
      refine tSa ?_
      have F := @t8; refine tF ?_; (try clear F)
      exact ⟨i + 1, ⟨by omega, hF, by simp [upd_lit], by simp [upd_lit, t7], by simp [upd_lit, t0], by simp [upd_lit, t1], rfl⟩, by omega⟩
  · have e : i = l.length := by omega
    rw [e, List.drop_length, fiF] at hF
    have F := (aand @t8 (aand @t7 @hlt)); refine tFa ?_; (try clear F)
    exact Fin.gives Same.auto rfl (by simp [upd_lit, ← hF])
theorem contains_int (l : List Int) (p : Int → Bool) (f : FuncId) (hl : l.length < 1152921504606846976) (hf : ∀ x, Gives Tryz.prog f [vI x] (vB (p x))) : Gives Tryz.prog 108 [intsP l, .clo f [] []] (vB (l.any p)) := by
  have e : decide (0 ≤ fiF p l 0) = l.any p := by rw [Bool.eq_iff_iff, decide_eq_true_eq]; exact fiF_nn p l 0 (by omega)
  intro m
  refine ACall.of_aw Tryz.func108 Tryz.ntmps108 rfl rfl (by simp) ?_
  refine tS ?_
  refine tS1 fun K Kp hK hKp => ?_; refine Gives.at (index_int l p f hl hf) ?_; apply hK; clear hK hKp K Kp
  refine tS ?_
  exact Fin.gives Same.auto rfl (by simp [upd_lit, ← e])
theorem clo109 (x : Int) : Gives Tryz.prog 109 [vI x] (vB (decide (x < 1))) := by
  intro m
  refine ACall.of_aw Tryz.func109 Tryz.ntmps109 rfl rfl (by simp) ?_
  refine tS ?_
  exact Fin.gives Same.auto
theorem clo110 (x : Int) : Gives Tryz.prog 110 [vI x] (vB (decide (x < 0))) := by
  intro m
  refine ACall.of_aw Tryz.func110 Tryz.ntmps110 rfl rfl (by simp) ?_
  refine tS ?_
  exact Fin.gives Same.auto
end Go.Proofs.YtgfadepkiejncaaGreat
