/- Texts of the proof, part Le: they prove nothing by themselves that is claimed. -/
import Derived.Test.YtgfadepkiejncaaGreatLc
import Derived.Test.YtgfadepkiejncaaGreatLd
import Derived.Test.YtgfadepkiejncaaGreatLb
set_option linter.unusedVariables false
set_option linter.unusedSimpArgs false
namespace Go.Proofs.YtgfadepkiejncaaGreat
open Go.Ab Go.Sort
set_option maxHeartbeats 0
set_option maxRecDepth 100000
attribute [local irreducible] AW AList ACall DA AExit.then AExit.inBlock YCall DCall

/-! slices.CompactFunc -/
/-- Of the first a elements those that differ from the one before. -/
def keepTo (d : Array GG) : Nat → List GG
  | 0 => []
  | a + 1 => keepTo d a ++ (if a = 0 ∨ cmpV (gt d a).1 (gt d (a - 1)).1 ≠ 0 then [gt d a] else [])
abbrev cloE : PV := .clo 145 [] []
theorem take_succ_gt (d : Array GG) (i : Nat) (h : i < d.size) : d.toList.take (i + 1) = d.toList.take i ++ [gt d i] := by
  rw [List.take_add_one, List.getElem?_eq_getElem (by simpa using h), gt_toList d i h]; rfl
theorem compactG {m : St} {n L cap : Nat} {d : Array GG} {r : List PV} (H : Arr m n L d r) (hr : ∀ k t, PV.scL k t r) (hLc : L ≤ cap) :
    ACall Tryz.prog 144 [mar n L cap, cloE] m (fun r' m' => ∃ (D : Array GG) (r2 : List PV), D.toList = keepTo d L ∧ (∀ k t, PV.scL k t r2) ∧ r' = .ret (mar n D.size cap) ∧ m' = m.setLoc n (ar D r2)) := by
  have hn := H.lt
  have hm := H.loc
  have hS := H.small
  have hL := H.size
  refine ACall.of_aw Tryz.func144 Tryz.ntmps144 rfl rfl (by simp) ?_
  have hend : d.toList = keepTo d L → d.toList = keepTo d L := id
  refine tS ?_
  by_cases h2 : (L : Int) < 2
  · have F := @h2; refine tFa ?_; (try clear F)
    refine Fin.here (r := mar n L cap) (by rfl) (.inr rfl) ⟨d, r, ?_, hr, by rw [hL], (setLoc_self hm).symm⟩
    rw [← List.take_of_length_le (l := d.toList) (i := L) (by simp; omega)]
    rcases (by omega : L = 0 ∨ L = 1) with rfl | rfl
    · rfl
    · rw [take_succ_gt d 0 (by omega)]; rfl
  have F := @h2; refine tFa ?_; (try clear F)
  refine AW.loop (ι := Nat) (fun k σ m' => 1 ≤ k ∧ k ≤ L ∧ σ 5 = vI k ∧ σ 0 = mar n L cap ∧ σ 1 = cloE ∧ keepTo d k = d.toList.take k ∧ m = m') (fun k => L - k) 1 ?_ ?_
  · refine ⟨Nat.le_refl _, by omega, by simp [upd_lit], by simp [upd_lit], by simp [upd_lit], ?_, rfl⟩
    rw [take_succ_gt d 0 (by omega)]; rfl
  rintro k σ m' ⟨hk1, hk2, t5, t0, t1, hkeep, rfl⟩
  by_cases hkl : k < L
  rotate_left
  · have hkL : k = L := by omega
    subst hkL
    have F := (aand @t5 (aand @t0 @hkl)); refine tFa ?_; (try clear F)
    refine Fin.here (r := mar n k cap) (by simp [ResP, ResL, resV, upd_lit, t0, show Tryz.f144.results.toList = [.tmp 4] from rfl]) (.inr rfl) ⟨d, r, ?_, hr, by rw [hL], (setLoc_self hm).symm⟩
    rw [hkeep, List.take_of_length_le (by simp; omega)]
  obtain ⟨p, hp⟩ : ∃ p, p + 1 = k := ⟨k - 1, by omega⟩
  have ep : (k : Int) - 1 = (p : Int) := by omega
  have k1 : k < d.size := by omega
  have k2 : (k : Int) < L := by omega
  have p1 : p < d.size := by omega
  have p2 : (p : Int) < L := by omega
  have heq := eqG (gt d k).1 (gt d p).1 (gt d k).2 (gt d p).2
  have F := (aand @t5 (aand @t0 @hkl)); refine tFa ?_; (try clear F)
  repeat (first | refine AW.seq ?_ | refine AW.block ?_ | refine AW.skip ?_ | refine AExit.norT ?_ | refine AExit.norB ?_ | refine AList.nil ?_)
  refine AW.draw [.S, .S, .S, .S, .R, .S, .S, .S, .S, .R, .R] (by decide +kernel) ?_; have F := (aand @t5 (aand @t0 (aand @t1 (aand @ep (aand @k1 (aand @k2 (aand @p1 (aand @p2 (aand @hn (aand @hm (aand @ar_get @ar_fit))))))))))); refine dS 0 ?_; refine dS 1 ?_; refine dS 2 ?_; refine dS 3 ?_; refine dR 4 ?_; refine dS 5 ?_; refine dS 6 ?_; refine dS 7 ?_; refine dS 8 ?_; refine dR 9 ?_; refine dC ((heq)) 10 ?_; (try clear F); first | refine dN ?_ | refine dB ?_ | refine DA.done (by decide +kernel) ?_
  have hks : keepTo d (k + 1) = keepTo d k ++ (if cmpV (gt d k).1 (gt d p).1 ≠ 0 then [gt d k] else []) := by
    rw [keepTo, show k - 1 = p from by omega]; simp [show k ≠ 0 from by omega]
  by_cases hc : cmpV (gt d k).1 (gt d p).1 = 0
  rotate_left
  · have F := (aand @hc @t5); refine tFa ?_; (try clear F)
    refine ⟨k + 1, ⟨by omega, by omega, by simp [upd_lit], by simp [upd_lit, t0], by simp [upd_lit, t1], ?_, rfl⟩, by omega⟩
    rw [hks, if_pos hc, take_succ_gt d k k1, hkeep]
  rw [if_neg (by simp [hc]), List.append_nil, hkeep] at hks
  have sl := sliceLo n L k cap (by omega) hLc (by omega)
  have F := (aand @hc (aand @t5 (aand @t0 @sl))); refine tFa ?_; (try clear F)
  obtain ⟨l2, hl2⟩ : ∃ l2, l2 = L - k := ⟨_, rfl⟩
  rw [← hl2]
  refine AW.loop (ι := Nat) (fun q σ m' => 1 ≤ q ∧ q ≤ l2 ∧ ∃ (i : Nat) (d1 : Array GG), i < k + q ∧ σ 7 = vI q ∧ σ 5 = vI i ∧ σ 6 = .marr n (k * 6) l2 (cap - k) ∧ σ 0 = mar n L cap ∧ σ 1 = cloE ∧ d1.size = L ∧ d1.toList.take i = keepTo d (k + q) ∧ (∀ x, k + q - 1 ≤ x → gt d1 x = gt d x) ∧ m' = m.setLoc n (ar d1 r)) (fun q => l2 - q) 1 ?_ ?_
  · exact ⟨Nat.le_refl _, by omega, k, d, by omega, by simp [upd_lit], by simp [upd_lit, t5], by simp [upd_lit, hl2], by simp [upd_lit, t0], by simp [upd_lit, t1], hL, hks.symm, fun _ _ => rfl, (setLoc_self hm).symm⟩
  clear t5 t0 t1 sl
  rintro q τ m2 ⟨hq1, hq2, i, d1, hi, t7, t5, t6, t0, t1, hs, hpre, hrest, rfl⟩
  by_cases hql : q < l2
  rotate_left
  · have hql2 : k + q = L := by omega
    rw [hql2] at hpre
    have F := (aand @t7 (aand @t6 @hql)); refine tFa ?_; (try clear F)
    have sl := sliceLo n L i cap (by omega) hLc (by omega)
    have sh := sliceHi n L i cap (by omega) hLc (by omega)
    have F := (aand @t5 (aand @t0 @sl)); refine tF ?_; (try clear F)
    refine AList.step rfl rfl ?_
    obtain ⟨z, hz1⟩ : ∃ z, tzero Tryz.prog 27 = some z := ⟨_, rfl⟩
    have hz6 : zcells z = [vI 0, vI 0, vB false, .list .full [], .v (.string ⟨#[]⟩), .list .full []] := by
      have : (tzero Tryz.prog 27).map zcells = some [vI 0, vI 0, vB false, .list .full [], .v (.string ⟨#[]⟩), .list .full []] := by kernel_rfl
      rw [hz1] at this
      simpa using this
    have hzl : (zcells z).length = 6 := by rw [hz6]; rfl
    have hzo : zOK z = true := by
      have : (tzero Tryz.prog 27).map zOK = some true := by kernel_rfl
      rw [hz1] at this; simpa using this
    refine op_clear (e := 27) (z := z) (n := n) (off := i * 6) (len := L - i) (cap := cap - i) (cs := ar d1 r) rfl rfl rfl rfl rfl hz1 hzo (by omega) (by simp [opv, upd_lit]) (by exact hn) (by simp) (by rw [ar_len, hzl]; omega) ?_
    have hzs : ∀ x ∈ zcells z, ∀ k t, PV.sc k t x := by
      rw [hz6]
      intro x hx k t
      simp at hx
      rcases hx with rfl | rfl | rfl | rfl | rfl <;> trivial
    simp only [put]
    rw [hzl, clear_ar d1 r _ i (by omega) (by rw [zrow_len, hs]), setLoc_setLoc]
    have hr2 : ∀ k t, PV.scL k t (zrow (zcells z) ((L - i) * 6) ++ r) := fun k t => scL_app _ _ _ _ (zrow_scL _ _ hzs k t) (hr k t)
    generalize zrow (zcells z) ((L - i) * 6) ++ r = r2 at *
    have hDs : (d1.toList.take i).toArray.size = i := by simp; omega
    have hDl : (d1.toList.take i).toArray.toList = keepTo d L := by rw [List.toList_toArray, hpre]
    generalize (d1.toList.take i).toArray = D at *
    have F := (aand @t0 (aand @t5 @sh)); refine tF ?_; (try clear F)
    exact Fin.here (r := mar n i cap) (by simp [ResP, ResL, resV, upd_lit, show Tryz.f144.results.toList = [.tmp 4] from rfl]) (.inr rfl) ⟨D, r2, hDl, hr2, by rw [hDs], rfl⟩
  obtain ⟨a, ha⟩ : ∃ a, a = k + q := ⟨_, rfl⟩
  obtain ⟨q0, hq0⟩ : ∃ q0, q0 + 1 = q := ⟨q - 1, by omega⟩
  obtain ⟨b, hb⟩ : ∃ b, b = k + q0 := ⟨_, rfl⟩
  have eq0 : (q : Int) - 1 = (q0 : Int) := by omega
  have a1 : a < d1.size := by omega
  have b1 : b < d1.size := by omega
  have i1 : i < d1.size := by omega
  have i2 : (i : Int) < L := by omega
  have q2 : (q : Int) < l2 := by omega
  have q3 : (q0 : Int) < l2 := by omega
  have oa : k * 6 + q * 6 = a * 6 := by omega
  have ob : k * 6 + q0 * 6 = b * 6 := by omega
  have heq := eqG (gt d1 a).1 (gt d1 b).1 (gt d1 a).2 (gt d1 b).2
  have F := (aand @t7 (aand @t6 @hql)); refine tFa ?_; (try clear F)
  repeat (first | refine AW.seq ?_ | refine AW.block ?_ | refine AW.skip ?_ | refine AExit.norT ?_ | refine AExit.norB ?_ | refine AList.nil ?_)
  refine AW.draw [.S, .S, .S, .S, .R, .S, .S, .S, .S, .R, .R, .S] (by decide +kernel) ?_; have F := (aand @t7 (aand @t6 (aand @t1 (aand @eq0 (aand @q2 (aand @q3 (aand @oa (aand @ob (aand @a1 (aand @b1 (aand @hn (aand @ar_get @ar_fit)))))))))))); refine dS 0 ?_; refine dS 1 ?_; refine dS 2 ?_; refine dS 3 ?_; refine dR 4 ?_; refine dS 5 ?_; refine dS 6 ?_; refine dS 7 ?_; refine dS 8 ?_; refine dR 9 ?_; refine dC ((heq)) 10 ?_; refine dS 11 ?_; (try clear F); first | refine dN ?_ | refine dB ?_ | refine DA.done (by decide +kernel) ?_
  have hga := hrest a (by omega)
  have hgb := hrest b (by omega)
  have hka : keepTo d (a + 1) = keepTo d a ++ (if cmpV (gt d a).1 (gt d b).1 ≠ 0 then [gt d a] else []) := by
    rw [keepTo, show a - 1 = b from by omega]; simp [show a ≠ 0 from by omega]
  rw [← ha] at hpre
  by_cases hc2 : cmpV (gt d1 a).1 (gt d1 b).1 = 0
  · have F := (aand @hc2 @t7); refine tFa ?_; (try clear F)
    refine ⟨q + 1, ⟨by omega, by omega, i, d1, by omega, by simp [upd_lit], by simp [upd_lit, t5], by simp [upd_lit, t6], by simp [upd_lit, t0], by simp [upd_lit, t1], hs, ?_, fun x hx => hrest x (by omega), rfl⟩, by omega⟩
    rw [show k + (q + 1) = a + 1 from by omega, hka, if_neg (by rw [← hga, ← hgb]; simp [hc2]), List.append_nil]; exact hpre
  · have F := (aand @hc2 (aand @t7 (aand @t5 (aand @t6 (aand @t0 (aand @q2 (aand @oa (aand @a1 (aand @i1 (aand @i2 (aand @hn (aand @ar_get (aand @ar_fit (aand @ar_set @setLoc_setLoc)))))))))))))); refine tFa ?_; (try clear F)
    refine ⟨q + 1, ⟨by omega, by omega, i + 1, d1.setIfInBounds i (gt d1 a), by omega, by simp [upd_lit], by simp [upd_lit], by simp [upd_lit, t6], by simp [upd_lit, t0], by simp [upd_lit, t1], by simp [hs], ?_, fun x hx => by rw [gt_set_ne _ _ _ _ (by omega)]; exact hrest x (by omega), rfl⟩, by omega⟩
    rw [show k + (q + 1) = a + 1 from by omega, hka, if_pos (by rw [← hga, ← hgb]; exact hc2), take_set d1 i _ i1, hpre, hga]
end Go.Proofs.YtgfadepkiejncaaGreat
/- Sets as lists that increase: what merging, filtering and making a set come to. -/
namespace Go.Proofs.YtgfadepkiejncaaGreat
open Go.Ab
set_option maxHeartbeats 0

def Inc (l : List GV) : Prop := l.Pairwise (fun x y => cmpV x y < 0)
def goods (l : List GV) : Prop := ∀ x ∈ l, good x
theorem goods.tail {x : GV} {l : List GV} (h : goods (x :: l)) : good x ∧ goods l := ⟨h x (by simp), fun y hy => h y (by simp [hy])⟩
theorem cmp_irr (a : GV) : ¬ cmpV a a < 0 := by rw [cmp_self]; omega
theorem cmp_asym {a b : GV} (h : cmpV a b < 0) : ¬ cmpV b a < 0 := by have := cmp_neg a b; omega
theorem incr_some : ∀ (p : GV) (l : List GV), good p → goods l → (incr (some p) l ↔ Inc (p :: l))
  | p, [], _, _ => by simp [incr, Inc]
  | p, v :: l, hp, hl => by
    obtain ⟨hv, hl'⟩ := hl.tail
    have ih := incr_some v l hv hl'
    simp only [incr]
    rw [ih]
    constructor
    · rintro ⟨h1, h2⟩
      refine List.pairwise_cons.2 ⟨fun y hy => ?_, h2⟩
      rcases List.mem_cons.1 hy with rfl | hy
      · exact h1
      · exact cmp_trans p v y hp hv (hl' y hy) h1 ((List.pairwise_cons.1 h2).1 y hy)
    · intro h
      exact ⟨(List.pairwise_cons.1 h).1 v (by simp), (List.pairwise_cons.1 h).2⟩
theorem incr_none {l : List GV} (hl : goods l) : incr none l ↔ Inc l := by
  cases l with
  | nil => simp [incr, Inc]
  | cons v l => simp only [incr]; exact incr_some v l hl.tail.1 hl.tail.2
theorem Inc.tail {x : GV} {l : List GV} (h : Inc (x :: l)) : (∀ y ∈ l, cmpV x y < 0) ∧ Inc l := List.pairwise_cons.1 h
theorem Inc_unique : ∀ (l l' : List GV), Inc l → Inc l' → (∀ x, x ∈ l ↔ x ∈ l') → l = l'
  | [], [], _, _, _ => rfl
  | [], y :: t, _, _, h => by have := (h y).2 (by simp); simp at this
  | x :: l, [], _, _, h => by have := (h x).1 (by simp); simp at this
  | x :: l, y :: t, h1, h2, h => by
    obtain ⟨a1, a2⟩ := h1.tail
    obtain ⟨b1, b2⟩ := h2.tail
    have e : x = y := by
      rcases List.mem_cons.1 ((h x).1 (by simp)) with e | hx
      · exact e
      rcases List.mem_cons.1 ((h y).2 (by simp)) with e | hy
      · exact e.symm
      · exact absurd (b1 x hx) (cmp_asym (a1 y hy))
    subst e
    rw [Inc_unique l t a2 b2 fun z => ?_]
    constructor
    · intro hz
      rcases List.mem_cons.1 ((h z).1 (by simp [hz])) with e | hz'
      · subst e; exact absurd (a1 z hz) (cmp_irr z)
      · exact hz'
    · intro hz
      rcases List.mem_cons.1 ((h z).2 (by simp [hz])) with e | hz'
      · subst e; exact absurd (b1 z hz) (cmp_irr z)
      · exact hz'

/-! merging -/
def one (b : Bool) (x : GV) : List GV := if b then [x] else []
def mrg (st : Bool → Bool → Bool) : List GV → List GV → List GV
  | [], [] => []
  | [], y :: b => one (st false true) y ++ mrg st [] b
  | x :: a, [] => one (st true false) x ++ mrg st a []
  | x :: a, y :: b => if cmpV x y < 0 then one (st true false) x ++ mrg st a (y :: b) else if 0 < cmpV x y then one (st false true) y ++ mrg st (x :: a) b else one (st true true) y ++ mrg st a b
termination_by a b => a.length + b.length
theorem mem_one {b : Bool} {x z : GV} : z ∈ one b x ↔ z = x ∧ b = true := by cases b <;> simp [one]
theorem mem_mrg (st : Bool → Bool → Bool) : ∀ (a b : List GV), Inc a → Inc b → goods a → goods b → ∀ z, z ∈ mrg st a b ↔ ∃ p q : Bool, (p = true ↔ z ∈ a) ∧ (q = true ↔ z ∈ b) ∧ (p || q) = true ∧ st p q = true := by
  intro a b
  fun_induction mrg st a b with
  | case1 =>
    intro _ _ _ _ z
    simp only [List.not_mem_nil, iff_false, false_iff, Bool.not_eq_true]
    rintro ⟨p, q, rfl, rfl, h, _⟩
    cases h
  | case2 y b ih =>
    intro ha hb ga gb z
    obtain ⟨b1, b2⟩ := hb.tail
    rw [List.mem_append, mem_one, ih ha b2 ga gb.tail.2]
    constructor
    · rintro (⟨rfl, h⟩ | ⟨p, q, hp, hq, h1, h2⟩)
      · exact ⟨false, true, by simp, by simp, rfl, h⟩
      · have hp' : p = false := by cases p with | false => rfl | true => have := hp.1 rfl; simp at this
        subst hp'
        simp at h1
        subst h1
        exact ⟨false, true, by simp, by simp [hq.1 rfl], rfl, h2⟩
    · rintro ⟨p, q, hp, hq, h1, h2⟩
      have hp' : p = false := by cases p with | false => rfl | true => have := hp.1 rfl; simp at this
      subst hp'
      simp at h1
      subst h1
      rcases List.mem_cons.1 (hq.1 rfl) with rfl | hz
      · exact .inl ⟨rfl, h2⟩
      · exact .inr ⟨false, true, by simp, by simp [hz], rfl, h2⟩
  | case3 x a ih =>
    intro ha hb ga gb z
    obtain ⟨a1, a2⟩ := ha.tail
    rw [List.mem_append, mem_one, ih a2 hb ga.tail.2 gb]
    constructor
    · rintro (⟨rfl, h⟩ | ⟨p, q, hp, hq, h1, h2⟩)
      · exact ⟨true, false, by simp, by simp, rfl, h⟩
      · have hq' : q = false := by cases q with | false => rfl | true => have := hq.1 rfl; simp at this
        subst hq'
        simp at h1
        subst h1
        exact ⟨true, false, by simp [hp.1 rfl], by simp, rfl, h2⟩
    · rintro ⟨p, q, hp, hq, h1, h2⟩
      have hq' : q = false := by cases q with | false => rfl | true => have := hq.1 rfl; simp at this
      subst hq'
      simp at h1
      subst h1
      rcases List.mem_cons.1 (hp.1 rfl) with rfl | hz
      · exact .inl ⟨rfl, h2⟩
      · exact .inr ⟨true, false, by simp [hz], by simp, rfl, h2⟩
  | case4 x a y b hlt ih =>
    intro ha hb ga gb z
    obtain ⟨a1, a2⟩ := ha.tail
    obtain ⟨b1, b2⟩ := hb.tail
    have gx := ga.tail.1
    have hy : ∀ w ∈ y :: b, cmpV x w < 0 := fun w hw => by
      rcases List.mem_cons.1 hw with rfl | hw'
      · exact hlt
      · exact cmp_trans x y w gx gb.tail.1 (gb w hw) hlt (b1 w hw')
    have hxb : x ∉ y :: b := fun h => cmp_irr x (hy x h)
    rw [List.mem_append, mem_one, ih a2 hb ga.tail.2 gb]
    constructor
    · rintro (⟨rfl, h⟩ | ⟨p, q, hp, hq, h1, h2⟩)
      · exact ⟨true, false, by simp, by simpa using hxb, rfl, h⟩
      · have hzx : z ≠ x := by
          rintro rfl
          cases p with
          | true => exact cmp_irr z (a1 z (hp.1 rfl))
          | false => simp at h1; exact hxb (hq.1 h1)
        exact ⟨p, q, by simp [hp, hzx], hq, h1, h2⟩
    · rintro ⟨p, q, hp, hq, h1, h2⟩
      by_cases hzx : z = x
      · subst hzx
        have hp' : p = true := hp.2 (by simp)
        have hq' : q = false := by cases q with | false => rfl | true => exact absurd (hq.1 rfl) hxb
        subst hp' hq'
        exact .inl ⟨rfl, h2⟩
      · exact .inr ⟨p, q, by rw [hp]; simp [hzx], hq, h1, h2⟩
  | case5 x a y b hnl hgt ih =>
    intro ha hb ga gb z
    obtain ⟨a1, a2⟩ := ha.tail
    obtain ⟨b1, b2⟩ := hb.tail
    have hyx : cmpV y x < 0 := by have := cmp_neg x y; omega
    have hx : ∀ w ∈ x :: a, cmpV y w < 0 := fun w hw => by
      rcases List.mem_cons.1 hw with rfl | hw'
      · exact hyx
      · exact cmp_trans y x w gb.tail.1 ga.tail.1 (ga w hw) hyx (a1 w hw')
    have hya : y ∉ x :: a := fun h => cmp_irr y (hx y h)
    rw [List.mem_append, mem_one, ih ha b2 ga gb.tail.2]
    constructor
    · rintro (⟨rfl, h⟩ | ⟨p, q, hp, hq, h1, h2⟩)
      · exact ⟨false, true, by simpa using hya, by simp, rfl, h⟩
      · have hzy : z ≠ y := by
          rintro rfl
          cases q with
          | true => exact cmp_irr z (b1 z (hq.1 rfl))
          | false => simp at h1; exact hya (hp.1 h1)
        exact ⟨p, q, hp, by simp [hq, hzy], h1, h2⟩
    · rintro ⟨p, q, hp, hq, h1, h2⟩
      by_cases hzy : z = y
      · subst hzy
        have hq' : q = true := hq.2 (by simp)
        have hp' : p = false := by cases p with | false => rfl | true => exact absurd (hp.1 rfl) hya
        subst hp' hq'
        exact .inl ⟨rfl, h2⟩
      · exact .inr ⟨p, q, hp, by rw [hq]; simp [hzy], h1, h2⟩
  | case6 x a y b hnl hng ih =>
    intro ha hb ga gb z
    obtain ⟨a1, a2⟩ := ha.tail
    obtain ⟨b1, b2⟩ := hb.tail
    have e := cmp_zero x y ga.tail.1 gb.tail.1 (by omega)
    subst e
    rw [List.mem_append, mem_one, ih a2 b2 ga.tail.2 gb.tail.2]
    constructor
    · rintro (⟨rfl, h⟩ | ⟨p, q, hp, hq, h1, h2⟩)
      · exact ⟨true, true, by simp, by simp, rfl, h⟩
      · have hzx : z ≠ x := by
          rintro rfl
          cases p with
          | true => exact cmp_irr z (a1 z (hp.1 rfl))
          | false => simp at h1; exact cmp_irr z (b1 z (hq.1 h1))
        exact ⟨p, q, by simp [hp, hzx], by simp [hq, hzx], h1, h2⟩
    · rintro ⟨p, q, hp, hq, h1, h2⟩
      by_cases hzx : z = x
      · subst hzx
        have hp' : p = true := hp.2 (by simp)
        have hq' : q = true := hq.2 (by simp)
        subst hp' hq'
        exact .inl ⟨rfl, h2⟩
      · exact .inr ⟨p, q, by rw [hp]; simp [hzx], by rw [hq]; simp [hzx], h1, h2⟩
theorem mrg_sub {st : Bool → Bool → Bool} {a b : List GV} (ha : Inc a) (hb : Inc b) (ga : goods a) (gb : goods b) {z : GV} (h : z ∈ mrg st a b) : z ∈ a ∨ z ∈ b := by
  obtain ⟨p, q, hp, hq, h1, _⟩ := (mem_mrg st a b ha hb ga gb z).1 h
  cases p with
  | true => exact .inl (hp.1 rfl)
  | false => simp at h1; exact .inr (hq.1 h1)
theorem mrg_goods {st : Bool → Bool → Bool} {a b : List GV} (ha : Inc a) (hb : Inc b) (ga : goods a) (gb : goods b) : goods (mrg st a b) := fun z hz => (mrg_sub ha hb ga gb hz).elim (ga z) (gb z)
theorem one_Inc {b : Bool} {x : GV} {l : List GV} (h : ∀ z ∈ l, cmpV x z < 0) (hl : Inc l) : Inc (one b x ++ l) := by
  cases b with
  | false => exact hl
  | true => exact List.pairwise_cons.2 ⟨h, hl⟩
theorem mrg_Inc (st : Bool → Bool → Bool) : ∀ (a b : List GV), Inc a → Inc b → goods a → goods b → Inc (mrg st a b) := by
  intro a b
  fun_induction mrg st a b with
  | case1 => intro _ _ _ _; exact List.Pairwise.nil
  | case2 y b ih =>
    intro ha hb ga gb
    obtain ⟨b1, b2⟩ := hb.tail
    refine one_Inc (fun z hz => ?_) (ih ha b2 ga gb.tail.2)
    rcases mrg_sub ha b2 ga gb.tail.2 hz with h | h
    · simp at h
    · exact b1 z h
  | case3 x a ih =>
    intro ha hb ga gb
    obtain ⟨a1, a2⟩ := ha.tail
    refine one_Inc (fun z hz => ?_) (ih a2 hb ga.tail.2 gb)
    rcases mrg_sub a2 hb ga.tail.2 gb hz with h | h
    · exact a1 z h
    · simp at h
  | case4 x a y b hlt ih =>
    intro ha hb ga gb
    obtain ⟨a1, a2⟩ := ha.tail
    obtain ⟨b1, b2⟩ := hb.tail
    refine one_Inc (fun z hz => ?_) (ih a2 hb ga.tail.2 gb)
    rcases mrg_sub a2 hb ga.tail.2 gb hz with h | h
    · exact a1 z h
    · rcases List.mem_cons.1 h with rfl | h'
      · exact hlt
      · exact cmp_trans x y z ga.tail.1 gb.tail.1 (gb z h) hlt (b1 z h')
  | case5 x a y b hnl hgt ih =>
    intro ha hb ga gb
    obtain ⟨a1, a2⟩ := ha.tail
    obtain ⟨b1, b2⟩ := hb.tail
    have hyx : cmpV y x < 0 := by have := cmp_neg x y; omega
    refine one_Inc (fun z hz => ?_) (ih ha b2 ga gb.tail.2)
    rcases mrg_sub ha b2 ga gb.tail.2 hz with h | h
    · rcases List.mem_cons.1 h with rfl | h'
      · exact hyx
      · exact cmp_trans y x z gb.tail.1 ga.tail.1 (ga z h) hyx (a1 z h')
    · exact b1 z h
  | case6 x a y b hnl hng ih =>
    intro ha hb ga gb
    obtain ⟨a1, a2⟩ := ha.tail
    obtain ⟨b1, b2⟩ := hb.tail
    have e := cmp_zero x y ga.tail.1 gb.tail.1 (by omega)
    subst e
    refine one_Inc (fun z hz => ?_) (ih a2 b2 ga.tail.2 gb.tail.2)
    rcases mrg_sub a2 b2 ga.tail.2 gb.tail.2 hz with h | h
    · exact a1 z h
    · exact b1 z h

/-! sorting by merging halves; making a set -/
def mrgS : List GV → List GV → List GV
  | a, [] => a
  | [], b => b
  | x :: a, y :: b => if cmpV x y ≤ 0 then x :: mrgS a (y :: b) else y :: mrgS (x :: a) b
termination_by a b => a.length + b.length
def srtF (l : List GV) : List GV :=
  if h : l.length < 2 then l else mrgS (srtF (l.take (l.length / 2))) (srtF (l.drop (l.length / 2)))
termination_by l.length
decreasing_by
  · simp; omega
  · simp; omega
def Srt (l : List GV) : Prop := l.Pairwise (fun x y => cmpV x y ≤ 0)
theorem mem_mrgS : ∀ (a b : List GV) (z : GV), z ∈ mrgS a b ↔ z ∈ a ∨ z ∈ b := by
  intro a b
  fun_induction mrgS a b with
  | case1 a => simp
  | case2 b h => simp
  | case3 x a y b h ih => intro z; simp only [List.mem_cons, ih]; grind
  | case4 x a y b h ih => intro z; simp only [List.mem_cons, ih]; grind
theorem cmp_le_trans {a b c : GV} (ha : good a) (hb : good b) (hc : good c) (h1 : cmpV a b ≤ 0) (h2 : cmpV b c ≤ 0) : cmpV a c ≤ 0 := by
  rcases Int.lt_or_eq_of_le h1 with h1 | h1
  · rcases Int.lt_or_eq_of_le h2 with h2 | h2
    · have := cmp_trans a b c ha hb hc h1 h2; omega
    · have := cmp_zero b c hb hc h2; subst this; omega
  · have := cmp_zero a b ha hb h1; subst this; exact h2
theorem mrgS_Srt : ∀ (a b : List GV), Srt a → Srt b → goods a → goods b → Srt (mrgS a b) := by
  intro a b
  fun_induction mrgS a b with
  | case1 a => intro h _ _ _; exact h
  | case2 b h => intro _ h _ _; exact h
  | case3 x a y b h ih =>
    intro ha hb ga gb
    obtain ⟨a1, a2⟩ := List.pairwise_cons.1 ha
    obtain ⟨b1, b2⟩ := List.pairwise_cons.1 hb
    refine List.pairwise_cons.2 ⟨fun z hz => ?_, ih a2 hb ga.tail.2 gb⟩
    rcases (mem_mrgS _ _ z).1 hz with hz | hz
    · exact a1 z hz
    · rcases List.mem_cons.1 hz with rfl | hz'
      · exact h
      · exact cmp_le_trans ga.tail.1 gb.tail.1 (gb z hz) h (b1 z hz')
  | case4 x a y b h ih =>
    intro ha hb ga gb
    obtain ⟨a1, a2⟩ := List.pairwise_cons.1 ha
    obtain ⟨b1, b2⟩ := List.pairwise_cons.1 hb
    have hyx : cmpV y x ≤ 0 := by have := cmp_neg x y; omega
    refine List.pairwise_cons.2 ⟨fun z hz => ?_, ih ha b2 ga gb.tail.2⟩
    rcases (mem_mrgS _ _ z).1 hz with hz | hz
    · rcases List.mem_cons.1 hz with rfl | hz'
      · exact hyx
      · exact cmp_le_trans gb.tail.1 ga.tail.1 (ga z hz) hyx (a1 z hz')
    · exact b1 z hz
theorem mem_srtF : ∀ (l : List GV) (z : GV), z ∈ srtF l ↔ z ∈ l := by
  intro l
  fun_induction srtF l with
  | case1 l h => intro z; rfl
  | case2 l h ih1 ih2 =>
    intro z
    rw [mem_mrgS, ih1, ih2, ← List.mem_append, List.take_append_drop]
theorem srtF_Srt : ∀ (l : List GV), goods l → Srt (srtF l) := by
  intro l
  fun_induction srtF l with
  | case1 l h =>
    intro _
    match l, h with
    | [], _ => exact List.Pairwise.nil
    | [x], _ => exact List.pairwise_singleton _ _
  | case2 l h ih1 ih2 =>
    intro g
    have g1 : goods (l.take (l.length / 2)) := fun x hx => g x (List.mem_of_mem_take hx)
    have g2 : goods (l.drop (l.length / 2)) := fun x hx => g x (List.mem_of_mem_drop hx)
    exact mrgS_Srt _ _ (ih1 g1) (ih2 g2) (fun x hx => g1 x ((mem_srtF _ x).1 hx)) (fun x hx => g2 x ((mem_srtF _ x).1 hx))
theorem mrgS_len : ∀ a b, (mrgS a b).length = a.length + b.length := by
  intro a b
  fun_induction mrgS a b with
  | case1 a => simp
  | case2 b h => simp
  | case3 x a y b h ih => simp [ih]; omega
  | case4 x a y b h ih => simp [ih]; omega
theorem srtF_len : ∀ l : List GV, (srtF l).length = l.length := by
  intro l
  fun_induction srtF l with
  | case1 l h => rfl
  | case2 l h ih1 ih2 => rw [mrgS_len, ih1, ih2]; simp; omega
/-- The set out of a sorted list, behind what is there. -/
def dd : List GV → List GV → List GV
  | out, [] => out
  | out, x :: l => dd (if x.kind ≠ 0 ∧ (out = [] ∨ cmpV (out.getLast?.getD default) x ≠ 0) then out ++ [x] else out) l
def setF (l : List GV) : List GV := dd [] (srtF l)
theorem dd_spec : ∀ (l out : List GV), Srt l → goods l → goods out → Inc out → (∀ x ∈ out, ∀ y ∈ l, cmpV x y ≤ 0) → Inc (dd out l) ∧ ∀ z, z ∈ dd out l ↔ z ∈ out ∨ (z ∈ l ∧ z.kind ≠ 0)
  | [], out, _, _, _, ho, _ => ⟨ho, by simp [dd]⟩
  | x :: l, out, hs, gl, go, ho, hle => by
    obtain ⟨s1, s2⟩ := List.pairwise_cons.1 hs
    obtain ⟨gx, gl'⟩ := gl.tail
    simp only [dd]
    by_cases hc : x.kind ≠ 0 ∧ (out = [] ∨ cmpV (out.getLast?.getD default) x ≠ 0)
    · rw [if_pos hc]
      have hlt : ∀ y ∈ out, cmpV y x < 0 := by
        intro y hy
        have h1 := hle y hy x (by simp)
        rcases Int.lt_or_eq_of_le h1 with h | h
        · exact h
        exfalso
        have e := cmp_zero y x (go y hy) gx h
        subst e
        obtain ⟨i, hi, e⟩ := List.getElem_of_mem hy
        have hne : out ≠ [] := List.ne_nil_of_mem hy
        rcases hc.2 with hc | hc
        · exact hne hc
        obtain ⟨w, hw⟩ : ∃ w, out.getLast? = some w := by
          cases h : out.getLast? with
          | none => simp at h; exact absurd h hne
          | some w => exact ⟨w, rfl⟩
        rw [hw] at hc
        simp only [Option.getD_some] at hc
        have hwm : w ∈ out := List.mem_of_getLast? hw
        have hwl := hle w hwm y (by simp)
        have hwlt : cmpV w y < 0 := by omega
        -- w is the last of out, and y is in out
        rw [List.getLast?_eq_getElem?] at hw
        obtain ⟨hk, ew⟩ := List.getElem?_eq_some_iff.1 hw
        rcases Nat.lt_or_ge i (out.length - 1) with hlt | hge
        · have := List.pairwise_iff_getElem.1 ho i (out.length - 1) hi hk hlt
          rw [e, ew] at this
          exact cmp_asym this hwlt
        · have : i = out.length - 1 := by omega
          subst this
          rw [e] at ew
          rw [ew] at hwlt
          exact cmp_irr _ hwlt
      have ho' : Inc (out ++ [x]) := List.pairwise_append.2 ⟨ho, List.pairwise_singleton _ _, fun y hy z hz => by simp at hz; subst hz; exact hlt y hy⟩
      obtain ⟨r1, r2⟩ := dd_spec l (out ++ [x]) s2 gl' (fun y hy => by
        rcases List.mem_append.1 hy with h | h
        · exact go y h
        · simp at h; subst h; exact gx) ho' (fun y hy z hz => by
        rcases List.mem_append.1 hy with h | h
        · exact hle y h z (by simp [hz])
        · simp at h; subst h; exact s1 z hz)
      refine ⟨r1, fun z => ?_⟩
      rw [r2, List.mem_append]
      simp only [List.mem_cons, List.not_mem_nil, or_false]
      constructor
      · rintro ((h | rfl) | ⟨h, h'⟩)
        · exact .inl h
        · exact .inr ⟨.inl rfl, hc.1⟩
        · exact .inr ⟨.inr h, h'⟩
      · rintro (h | ⟨rfl | h, h'⟩)
        · exact .inl (.inl h)
        · exact .inl (.inr rfl)
        · exact .inr ⟨h, h'⟩
    · rw [if_neg hc]
      obtain ⟨r1, r2⟩ := dd_spec l out s2 gl' go ho (fun y hy z hz => hle y hy z (by simp [hz]))
      refine ⟨r1, fun z => ?_⟩
      rw [r2]
      simp only [List.mem_cons]
      constructor
      · rintro (h | ⟨h, h'⟩)
        · exact .inl h
        · exact .inr ⟨.inr h, h'⟩
      · rintro (h | ⟨rfl | h, h'⟩)
        · exact .inl h
        · by_cases hx : out = []
          · exact absurd ⟨h', .inl hx⟩ hc
          · have hz : cmpV (out.getLast?.getD default) z = 0 := by
              by_cases q : cmpV (out.getLast?.getD default) z = 0
              · exact q
              · exact absurd ⟨h', .inr q⟩ hc
            obtain ⟨w, hw⟩ : ∃ w, out.getLast? = some w := by
              cases h : out.getLast? with
              | none => simp at h; exact absurd h hx
              | some w => exact ⟨w, rfl⟩
            rw [hw] at hz
            simp only [Option.getD_some] at hz
            have hwm : w ∈ out := List.mem_of_getLast? hw
            have := cmp_zero w z (go w hwm) gx hz
            subst this
            exact .inl hwm
        · exact .inr ⟨h, h'⟩
theorem setF_spec (l : List GV) (g : goods l) : Inc (setF l) ∧ goods (setF l) ∧ ∀ z, z ∈ setF l ↔ z ∈ l ∧ z.kind ≠ 0 := by
  obtain ⟨h1, h2⟩ := dd_spec (srtF l) [] (srtF_Srt l g) (fun x hx => g x ((mem_srtF _ x).1 hx)) (fun x hx => by simp at hx) List.Pairwise.nil (fun x hx => by simp at hx)
  have h3 : ∀ z, z ∈ setF l ↔ z ∈ l ∧ z.kind ≠ 0 := fun z => by
    rw [setF, h2]; simp [mem_srtF]
  exact ⟨h1, fun z hz => g z ((h3 z).1 hz).1, h3⟩
/-- The one set of a list. -/
theorem setF_eq {l s : List GV} (g : goods l) (hs : Inc s) (h : ∀ z, z ∈ s ↔ z ∈ l ∧ z.kind ≠ 0) : s = setF l := by
  obtain ⟨h1, _, h3⟩ := setF_spec l g
  exact Inc_unique s _ hs h1 fun z => by rw [h, h3]
/-! nodes of formed values -/
theorem incr_get : ∀ (p : Option GV) (l : List GV) (k : Nat) (h : k + 1 < l.length), incr p l → cmpV (l[k]'(by omega)) l[k + 1] < 0
  | p, [], k, h, _ => by simp at h
  | p, [a], k, h, _ => by simp at h
  | p, a :: b :: l, 0, h, hi => by
    have : incr (some a) (b :: l) := by cases p with | none => exact hi | some q => exact hi.2
    exact this.1
  | p, a :: b :: l, k + 1, h, hi => by
    have : incr (some a) (b :: l) := by cases p with | none => exact hi | some q => exact hi.2
    exact incr_get (some a) (b :: l) k (by simpa using h) this
mutual
theorem walk_fmd : ∀ v : GV, fmd v → ∀ x ∈ walkV v, fmd x
  | .mk k n ng a s l, h, x, hx => by
    rw [walkV, List.mem_cons] at hx
    rcases hx with rfl | hx
    · exact h
    · exact walkL_fmd l h.2.2 x hx
theorem walkL_fmd : ∀ l : List GV, fmdL l → ∀ x ∈ walkL l, fmd x
  | [], _, x, hx => by simp [walkL] at hx
  | v :: l, h, x, hx => by
    rw [walkL, List.mem_append] at hx
    rcases hx with hx | hx
    · exact walk_fmd v h.1 x hx
    · exact walkL_fmd l h.2 x hx
end
theorem walk_good {v : GV} (h : good v) : ∀ x ∈ walkV v, good x := fun x hx => ⟨walk_fmd v h.1 x hx, (okL_iff _).1 (walk_ok v h.2) x hx⟩
end Go.Proofs.YtgfadepkiejncaaGreat
namespace Go.Proofs.YtgfadepkiejncaaGreat
open Go.Ab Go.Sort
set_option maxHeartbeats 0
set_option maxRecDepth 100000

/-! what sorting and compacting come to -/
theorem keepTo_spec (R : Array GG) (L : Nat) (hL : R.size = L) (hs : SortedIn ltG 0 L R) : ∀ a, a ≤ L →
    Inc ((keepTo R a).map (·.1)) ∧ (∀ z : GG, z ∈ keepTo R a ↔ ∃ k, k < a ∧ gt R k = z)
  | 0, _ => ⟨List.Pairwise.nil, fun z => by simp [keepTo]⟩
  | a + 1, h => by
    obtain ⟨h1, h2⟩ := keepTo_spec R L hL hs a (by omega)
    have mono : ∀ i j, i ≤ j → j < L → cmpV (gt R i).1 (gt R j).1 ≤ 0 := by
      intro i j hij hj
      by_cases e : i = j
      · subst e; rw [cmp_self]; omega
      · have := hs i j (by omega) (by omega) hj
        have h3 : ¬ cmpV (gt R j).1 (gt R i).1 < 0 := by
          intro q; have : ltG R[j]! R[i]! = true := by simp [gt_eq, ltG, q]
          simp_all
        have := cmp_neg (gt R i).1 (gt R j).1
        omega
    rw [keepTo]
    by_cases hc : a = 0 ∨ cmpV (gt R a).1 (gt R (a - 1)).1 ≠ 0
    · rw [if_pos hc]
      refine ⟨?_, fun z => ?_⟩
      · rw [List.map_append]
        refine List.pairwise_append.2 ⟨h1, List.pairwise_singleton _ _, ?_⟩
        intro x hx y hy
        simp at hy
        subst hy
        obtain ⟨w, hw, rfl⟩ := List.mem_map.1 hx
        obtain ⟨k, hk, rfl⟩ := (h2 w).1 hw
        have ha : a ≠ 0 := by omega
        have hc2 : cmpV (gt R a).1 (gt R (a - 1)).1 ≠ 0 := hc.resolve_left ha
        have m1 := mono k (a - 1) (by omega) (by omega)
        have m2 := mono (a - 1) a (by omega) (by omega)
        have m3 := cmp_neg (gt R (a - 1)).1 (gt R a).1
        have m4 : cmpV (gt R (a - 1)).1 (gt R a).1 < 0 := by omega
        by_cases e : cmpV (gt R k).1 (gt R (a - 1)).1 = 0
        · rw [cmp_zero _ _ (gt R k).2 (gt R (a - 1)).2 e]; exact m4
        · exact cmp_trans _ _ _ (gt R k).2 (gt R (a - 1)).2 (gt R a).2 (by omega) m4
      · rw [List.mem_append, h2]
        constructor
        · rintro (⟨k, hk, e⟩ | e)
          · exact ⟨k, by omega, e⟩
          · simp at e; exact ⟨a, by omega, e.symm⟩
        · rintro ⟨k, hk, e⟩
          by_cases hka : k = a
          · subst hka; exact .inr (by simp [e])
          · exact .inl ⟨k, by omega, e⟩
    · rw [if_neg hc, List.append_nil]
      refine ⟨h1, fun z => ?_⟩
      rw [h2]
      have ha : a ≠ 0 := fun e => hc (.inl e)
      have hc2 : cmpV (gt R a).1 (gt R (a - 1)).1 = 0 := by
        by_cases e : cmpV (gt R a).1 (gt R (a - 1)).1 = 0
        · exact e
        · exact absurd (.inr e) hc
      have he : gt R a = gt R (a - 1) := Subtype.ext (cmp_zero _ _ (gt R a).2 (gt R (a - 1)).2 hc2)
      constructor
      · rintro ⟨k, hk, e⟩; exact ⟨k, by omega, e⟩
      · rintro ⟨k, hk, e⟩
        by_cases hka : k = a
        · subst hka; exact ⟨k - 1, by omega, by rw [← he]; exact e⟩
        · exact ⟨k, by omega, e⟩
theorem perm_mem {d R : Array GG} (h : PermIn 0 d.size d R) (z : GG) : z ∈ R.toList ↔ z ∈ d.toList := by
  have h3 := h.2.2
  have e1 : (d.extract 0 d.size).toList = d.toList := by simp
  have e2 : (R.extract 0 d.size).toList = R.toList := by rw [← h.1]; simp
  rw [e1, e2] at h3
  exact h3.mem_iff
theorem mem_gt (R : Array GG) (z : GG) : z ∈ R.toList ↔ ∃ k, k < R.size ∧ gt R k = z := by
  rw [List.mem_iff_getElem]
  constructor
  · rintro ⟨k, hk, e⟩; exact ⟨k, by simpa using hk, by rw [← gt_toList R k (by simpa using hk)]; exact e⟩
  · rintro ⟨k, hk, e⟩; exact ⟨k, by simpa using hk, by rw [gt_toList R k hk]; exact e⟩
/-- Sorted, compacted, the omegas gone: the set of the list. -/
theorem sorted_setF (l : List GV) (g : goods l) (d D R : Array GG) (hd : d.toList.map (·.1) = l) (hD : D.toList = d.toList.filter nzG) (hR : PermIn 0 D.size D R) (hs : SortedIn ltG 0 D.size R) :
    (keepTo R D.size).map (·.1) = setF l := by
  obtain ⟨h1, h2⟩ := keepTo_spec R D.size hR.1 hs D.size (Nat.le_refl _)
  refine setF_eq g h1 fun z => ?_
  subst hd
  constructor
  · intro hz
    obtain ⟨w, hw, rfl⟩ := List.mem_map.1 hz
    have : w ∈ R.toList := (mem_gt R w).2 (by rw [hR.1]; exact (h2 w).1 hw)
    rw [perm_mem hR, hD, List.mem_filter] at this
    exact ⟨List.mem_map.2 ⟨w, this.1, rfl⟩, by simpa [nzG] using this.2⟩
  · rintro ⟨hz, hk⟩
    obtain ⟨w, hw, rfl⟩ := List.mem_map.1 hz
    have : w ∈ R.toList := by rw [perm_mem hR, hD, List.mem_filter]; exact ⟨hw, by simpa [nzG] using hk⟩
    exact List.mem_map.2 ⟨w, (h2 w).2 (by rw [← hR.1]; exact (mem_gt R w).1 this), rfl⟩
end Go.Proofs.YtgfadepkiejncaaGreat
namespace Go.Proofs.YtgfadepkiejncaaGreat
open Go.Ab
attribute [local irreducible] AW AList ACall
theorem ref_nodes (v : GV) (hv : nodes v < 1152921504606846976) : Gives Tryz.prog 31 [v.pv] (vI (nodes v)) := by
  induction hk : nodes v using Nat.strongRecOn generalizing v with
  | _ k ih =>
  subst hk
  have hn := nodes_eq v
  have hl := nodesL_len v.els
  intro m
  refine ACall.of_aw Tryz.func31 Tryz.ntmps31 rfl rfl (by simp) ?_
  repeat (first | (refine AList.op (by decide) ?_; intro K Kp hK hKp; simp [upd_lit]; apply hK; clear hK hKp K Kp) | (refine AList.op0 ?_; intro K Kp hK hKp; simp [upd_lit]; apply hK; clear hK hKp K Kp) | refine AList.nil ?_ | refine AW.seq ?_ | refine AW.regionL ?_ | refine AW.block ?_ | refine AW.skip ?_ | refine AW.exit ?_ | refine AW.ret ?_)
  refine AW.loop (ι := Nat) (fun i σ m' => i ≤ v.els.length ∧ σ 3 = vI (1 + nodesL (v.els.take i)) ∧ σ 4 = vI i ∧ σ 1 = .loc m.nloc 0 ∧ m' = m.newLoc v.cells) (fun i => v.els.length - i) 0 ?_ ?_
  · simp [upd_lit, nodesL]
  rintro i σ m' ⟨hi, h3, h4, h1, rfl⟩
  have hnb := nodesL_take_le v.els i
  repeat (first | (refine AList.op (by decide) ?_; intro K Kp hK hKp; simp [upd_lit, h1, h3, h4]; apply hK; clear hK hKp K Kp) | (refine AList.op0 ?_; intro K Kp hK hKp; simp [upd_lit, h1, h3, h4]; apply hK; clear hK hKp K Kp) | refine AList.nil ?_ | refine AW.seq ?_ | refine AW.regionL ?_ | refine AW.block ?_ | refine AW.skip ?_ | refine AW.exit ?_ | refine AW.ret ?_)
  refine AW.cond (t := decide (i < v.els.length)) ?_ ?_ ?_
  · simp [upd_lit]
  · intro hlt
    have hlt : i < v.els.length := by simpa using hlt
    have hg := nodes_get v.els i hlt
    have ht := nodesL_take v.els i hlt
    repeat (first | (refine AList.op (by decide) ?_; intro K Kp hK hKp; simp [upd_lit, h1, h3, h4, hlt, rows_getD]; apply hK; clear hK hKp K Kp) | (refine AList.op0 ?_; intro K Kp hK hKp; simp [upd_lit, h1, h3, h4, hlt, rows_getD]; apply hK; clear hK hKp K Kp) | refine AList.nil ?_ | refine AW.seq ?_ | refine AW.regionL ?_ | refine AW.block ?_ | refine AW.skip ?_ | refine AW.exit ?_ | refine AW.ret ?_)
    refine AList.op (by decide) ?_; intro K Kp hK hKp; simp [upd_lit, h1, h3, h4, hlt, rows_getD]
    refine Gives.at (ih _ (by omega) v.els[i] (by omega) rfl) ?_
    apply hK; clear hK hKp K Kp
    repeat (first | (refine AList.op (by decide) ?_; intro K Kp hK hKp; simp (disch := omega) [upd_lit, wrap_i64, h1, h3, h4]; apply hK; clear hK hKp K Kp) | (refine AList.op0 ?_; intro K Kp hK hKp; simp (disch := omega) [upd_lit, wrap_i64, h1, h3, h4]; apply hK; clear hK hKp K Kp) | refine AList.nil ?_ | refine AW.seq ?_ | refine AW.regionL ?_ | refine AW.block ?_ | refine AW.skip ?_ | refine AW.exit ?_ | refine AW.ret ?_)
    refine ⟨i + 1, ⟨by omega, ?_, ?_, ?_, rfl⟩, by omega⟩
    · simp [upd_lit, ht]; omega
    · simp [upd_lit]
    · simp [upd_lit, h1]
  · intro hge
    have hge : i = v.els.length := by simp at hge; omega
    subst hge
    repeat (first | (refine AList.op (by decide) ?_; intro K Kp hK hKp; simp (disch := omega) [upd_lit, wrap_i64, h1, h3, h4]; apply hK; clear hK hKp K Kp) | (refine AList.op0 ?_; intro K Kp hK hKp; simp (disch := omega) [upd_lit, wrap_i64, h1, h3, h4]; apply hK; clear hK hKp K Kp) | refine AList.nil ?_ | refine AW.seq ?_ | refine AW.regionL ?_ | refine AW.block ?_ | refine AW.skip ?_ | refine AW.exit ?_ | refine AW.ret ?_)
    exact Fin.ret rfl ((Same.refl m).newLoc _) (by simp [upd_lit, hn]) (by simp) ⟨rfl, rfl⟩
end Go.Proofs.YtgfadepkiejncaaGreat
namespace Go.Ab
theorem Fin.givesC {P : Program} {fn : Func} {m m' : St} {σ : Nat → PV} {p r : PV} {a : Tmp} {t : TypeId} (hr : fn.results.toList = [.cell a t]) (hp : aload P t (σ a) m' (fun q m'' => q = p ∧ m'' = m')) (hm : Same m m') (hq : p.strip = r := by simp) (hs : r.sc m.nloc m.ntok := by simp) :
    Fin P fn m (fun r' m' => r' = .ret r ∧ m' = m) .ret σ m' := Fin.retC hr hp hm hq hs ⟨rfl, rfl⟩
end Go.Ab
namespace Go.Proofs.YtgfadepkiejncaaGreat
open Go.Ab
set_option maxHeartbeats 0
set_option maxRecDepth 100000
attribute [local irreducible] AW AList ACall DA AExit.then AExit.inBlock YCall DCall

abbrev omV : GV := .mk 0 0 false [] ⟨#[]⟩ []
abbrev setV (l : List GV) : GV := .mk 8 0 false [] ⟨#[]⟩ l
abbrev made (v : GV) (e : Int) : PV := .agg [vI v.kind, vI v.num, vB v.neg, .list .no (limbs v.abs), vS v.str, .list .no (GV.rows v.els), vE e]

/-! ref.Copy -/
theorem ref_copy (v : GV) (hv : nodes v < 1099511627776) (hab : ∀ x ∈ walkV v, x.abs.length ≤ 1099511627776) : Gives Tryz.prog 77 [v.pv] v.pv := by
  induction hk : nodes v using Nat.strongRecOn generalizing v with
  | _ k ih =>
  subst hk
  have hn := nodes_eq v
  have hl := nodesL_len v.els
  have ha := hab v (walk_self v)
  intro m
  refine ACall.of_aw Tryz.func77 Tryz.ntmps77 rfl rfl (by simp) ?_
  refine tS ?_
  refine AList.opK (by decide) ?_; intro K Kp hK hKp
  refine op_appendS rfl (by simp) (by simp) ?_
  simp only [opv, upd_lit, cv]
  refine app22 (l := []) (m0 := m) (.full Same.auto) rfl (by simp; omega) fun oA m'' ho' hs => hK _ _ ?_; clear hK hKp K Kp
  have hl0 : m''.loc m.nloc = some v.cells := by rw [hs.loc]; simp; intro h; omega
  have hl1 : m''.loc (m.nloc + 1) = some [vI 0, vI 0, vB false, .list .full [], vS ⟨#[]⟩, .list .full []] := by rw [hs.loc]; simp
  have hl2 : m''.loc (m.nloc + 2) = some v.cells := by rw [hs.loc]; simp
  have hnl : m''.nloc = m.nloc + 3 := by rw [hs.nloc]; simp
  have q0 : m.nloc < m''.nloc := by omega
  have q1 : m.nloc + 1 < m''.nloc := by omega
  have q2 : m.nloc + 2 < m''.nloc := by omega
  have F := (aand @hl2 @q2); refine tF ?_; (try clear F)
  refine AW.nilC (n := m.nloc + 2) (i := 5) (cs := (v.cells.set 3 (.list oA (limbs v.abs))).set 5 (.v (.slice none 0 0))) (by simp; omega) (by simp) (by simp) ?_
  have hcell : ((v.cells.set 3 (.list oA (limbs v.abs))).set 5 (.v (.slice none 0 0))).set 5 (.list .full []) = [vI v.kind, vI v.num, vB v.neg, .list oA (limbs v.abs), vS v.str, .list .full []] := by cases v; rfl
  rw [hcell]
  refine AW.loop (ι := Nat) (fun i σ m' => i ≤ v.els.length ∧ (∃ o, m'.loc (m.nloc + 2) = some [vI v.kind, vI v.num, vB v.neg, .list oA (limbs v.abs), vS v.str, .list o (GV.rows (v.els.take i))] ∧ Ow m m' o 6 i) ∧ m'.loc m.nloc = some v.cells ∧ m'.loc (m.nloc + 1) = some [vI 0, vI 0, vB false, .list .full [], vS ⟨#[]⟩, .list .full []] ∧ m.nloc + 3 ≤ m'.nloc ∧ σ 4 = vI i ∧ σ 1 = .loc m.nloc 0 ∧ σ 2 = .loc (m.nloc + 1) 0 ∧ σ 3 = .loc (m.nloc + 2) 0) (fun i => v.els.length - i) 0 ?_ ?_
  · exact ⟨by simp, ⟨.full, by simp [GV.rows], .full (((ho'.1.setLoc (by omega) _).setLoc (by omega) _).setLoc (by omega) _)⟩, by simp [hl0], by simp [hl1], by simp; omega, by simp [upd_lit], by simp [upd_lit], by simp [upd_lit], by simp [upd_lit]⟩
  clear hl0 hl1 hl2 hnl q0 q1 q2 hcell hs ho'
  rintro i σ m' ⟨hi, ⟨o, e2, ow⟩, e0, e1, hnl, h4, h1, h2, h3⟩
  have q0 : m.nloc < m'.nloc := by omega
  have q1 : m.nloc + 1 < m'.nloc := by omega
  have q2 : m.nloc + 2 < m'.nloc := by omega
  have F := (aand @h4 (aand @h1 (aand @e0 @q0))); refine tF ?_; (try clear F)
  refine AW.condD (p := i < v.els.length) (by simp [upd_lit]) (fun hlt => ?_) (fun hge => ?_)
  · have hg := nodes_get v.els i hlt
    repeat (first | refine AW.seq ?_ | refine AW.block ?_ | refine AW.skip ?_ | refine AExit.norT ?_ | refine AExit.norB ?_ | refine AList.nil ?_)
    refine AW.draw [.S, .R, .S, .R, .S, .S, .R, .R, .S, .W, .S, .W] (by decide +kernel) ?_; have F := (aand @h4 (aand @h1 (aand @h3 (aand @e0 (aand @e2 (aand @q0 (aand @q2 (aand @hlt @rows_getD)))))))); refine dST 0 ?_; refine dRT 1 ?_; refine dST 2 ?_; refine dRT 3 ?_; refine dST 4 ?_; refine dST 5 ?_; refine dRT 6 ?_; refine dCT ((ih _ (by omega) v.els[i] (by omega) (fun x hx => hab x (walk_mem hlt hx)) rfl)) 7 ?_; refine dST 8 ?_; (try clear F); refine DA.W (oi := ?oiw1) 9 ?aw1 ?bw1 ?cw1 ?dw1 ?ew1 ?fw1; (case aw1 => rfl); (case bw1 => decide +kernel); (case cw1 => rfl); (case dw1 => rfl); (case ew1 => decide); intro K Kp hK hKp; (simp [upd_lit]; refine app25 (l' := [v.els[i]]) ow (by simp; omega) (by simp; omega) fun o' m'' ho' hs => hK _ _ ?_; clear hK hKp K Kp); have F := (aand @h4 (aand @h1 (aand @h3 (aand @e0 (aand @e2 (aand @q0 (aand @q2 (aand @hlt @rows_getD)))))))); (try clear F)
    have q2' : m.nloc + 2 < m''.nloc := by rw [hs.nloc]; exact q2
    have e2' : m''.loc (m.nloc + 2) = some [vI v.kind, vI v.num, vB v.neg, .list oA (limbs v.abs), vS v.str, .list o (GV.rows (v.els.take i))] := by rw [hs.loc]; exact e2
    skip; have F := (aand @h3 (aand @e2' @q2')); refine dST 10 ?_; refine dW 11 ?_; (try clear F); first | refine dN ?_ | refine dB ?_ | refine DA.done (by decide +kernel) ?_
    have F := @h4; refine tF ?_; (try clear F)
    refine ⟨i + 1, ⟨by omega, ⟨o', by simp, ⟨ho'.1.setLoc (by omega) _, ho'.2⟩⟩, ?_, ?_, by simp [hs.nloc]; omega, by simp [upd_lit], by simp [upd_lit, h1], by simp [upd_lit, h2], by simp [upd_lit, h3]⟩, by omega⟩
    · simp [hs.loc, e0]
    · simp [hs.loc, e1]
  · have e : i = v.els.length := by omega
    subst e
    rw [List.take_length] at e2
    have F := (aand @h2 (aand @h3 (aand @e1 (aand @e2 (aand @q1 @q2))))); refine tF ?_; (try clear F)
    exact Fin.retC (p := .agg [vI v.kind, vI v.num, vB v.neg, .list oA (limbs v.abs), vS v.str, .list o (GV.rows v.els)]) (q := v.pv) rfl (by simp [upd_lit, h2, q1]) (ow.1.setLoc (by omega) _) (by simp [cells_eq]) (by simp) ⟨rfl, rfl⟩
/-! ref.Fits, ref.bad, ref.fitting -/
def fitB (v : GV) : Bool := decide ((nodes v : Int) ≤ 3000) && decide ((deep v : Int) ≤ 20)
theorem ref_fits (v : GV) (hv : nodes v < 1152921504606846976) : Gives Tryz.prog 146 [v.pv] (vB (fitB v)) := by
  intro m
  refine ACall.of_aw Tryz.func146 Tryz.ntmps146 rfl rfl (by simp) ?_
  refine tS ?_
  refine tS1 fun K Kp hK hKp => ?_; refine Gives.at (ref_nodes v hv) ?_; apply hK; clear hK hKp K Kp
  by_cases h : (nodes v : Int) ≤ 3000
  · have F := @h; refine tFg ?_; (try clear F)
    have F := @h; refine tFc (ref_deep v hv) ?_; (try clear F)
    have F := @h; refine tFg ?_; (try clear F)
    exact Fin.gives Same.auto rfl (by simp [upd_lit, fitB, h])
  · have F := @h; refine tFg ?_; (try clear F)
    exact Fin.gives Same.auto rfl (by simp [upd_lit, fitB, h])
theorem ref_bad (e : Int) : Gives Tryz.prog 102 [vE e] (made omV e) := by
  intro m
  refine ACall.of_aw Tryz.func102 Tryz.ntmps102 rfl rfl (by simp) ?_
  refine tS ?_
  exact Fin.givesC (p := .agg [vI 0, vI 0, vB false, .list .full [], vS ⟨#[]⟩, .list .full [], vE e]) rfl (by simp [upd_lit]) Same.auto (by rfl)
def fitV (v : GV) : GV := if fitB v then v else omV
def fitE (v : GV) : Int := if fitB v then 0 else 3
theorem ref_fitting (v : GV) (hv : nodes v < 1099511627776) (hab : ∀ x ∈ walkV v, x.abs.length ≤ 1099511627776) : Gives Tryz.prog 97 [v.pv] (made (fitV v) (fitE v)) := by
  intro m
  refine ACall.of_aw Tryz.func97 Tryz.ntmps97 rfl rfl (by simp) ?_
  refine tS ?_
  refine tS1 fun K Kp hK hKp => ?_; refine Gives.at (ref_fits v (by omega)) ?_; apply hK; clear hK hKp K Kp
  cases h : fitB v with
  | false =>
    have e1 : fitV v = omV := by simp [fitV, h]
    have e2 : fitE v = 3 := by simp [fitE, h]
    rw [e1, e2]
    have F := @h; refine tFa ?_; (try clear F)
    refine tS1 fun K Kp hK hKp => ?_; refine Gives.at (ref_bad 3) ?_; apply hK; clear hK hKp K Kp
    refine tS ?_
    exact Fin.givesC (p := made omV 3) rfl (by simp [upd_lit]) Same.auto (by rfl)
  | true =>
    have e1 : fitV v = v := by simp [fitV, h]
    have e2 : fitE v = 0 := by simp [fitE, h]
    rw [e1, e2]
    have F := @h; refine tFa ?_; (try clear F)
    refine tS1 fun K Kp hK hKp => ?_; refine Gives.at (ref_copy v hv hab) ?_; apply hK; clear hK hKp K Kp
    have F := @cells_eq; refine tF ?_; (try clear F)
    exact Fin.givesC (p := made v 0) rfl (by simp [upd_lit]) Same.auto
/-! ref.sets, ref.one -/
theorem ref_sets (a b : GV) : Gives Tryz.prog 121 [a.pv, b.pv] (vB (decide (a.kind = 8) && decide (b.kind = 8))) := by
  intro m
  refine ACall.of_aw Tryz.func121 Tryz.ntmps121 rfl rfl (by simp) ?_
  by_cases h : a.kind = 8
  · have F := @h; refine tFg ?_; (try clear F)
    exact Fin.gives Same.auto rfl (by simp [upd_lit, h])
  · have F := @h; refine tFg ?_; (try clear F)
    exact Fin.gives Same.auto rfl (by simp [upd_lit, h])
theorem ref_one (x : GV) : Gives Tryz.prog 123 [x.pv] (setV [x]).pv := by
  intro m
  refine ACall.of_aw Tryz.func123 Tryz.ntmps123 rfl rfl (by simp) ?_
  refine tS ?_
  exact Fin.givesC (p := .agg [vI 8, vI 0, vB false, .list .full [], vS ⟨#[]⟩, .list .no (GV.rows [x])]) rfl (by simp [upd_lit, GV.rows]) Same.auto (by simp [GV.cells, limbs])
/-! ref.Find, ref.Has -/
theorem fmd_dk : ∀ v : GV, fmd v → v.dk := by
  intro v
  refine @GV.rec (fun v => fmd v → v.dk) (fun l => fmdL l → GV.dkL l) ?_ ?_ ?_ v
  · intro k n ng a s l ih h
    refine ⟨fun hk => ?_, ih h.2.2⟩
    have h1 := h.1
    have h2 := node_dec h1 hk
    have h3 := h1.2.2.1
    exact ⟨by simp only [GV.abs] at h3 ⊢; omega, by omega, by omega⟩
  · intro _; trivial
  · intro v l h1 h2 h
    exact ⟨h1 h.1, h2 h.2⟩
theorem refC {x y : GV} (hx : good x) (hy : good y) : Gives Tryz.prog 23 [x.pv, y.pv] (vI (cmpV x y)) := ref_compare x y hx.2 hy.2 (fmd_dk x hx.1) (fmd_dk y hy.1)
def bsF (l : List GV) (x : GV) (lo hi : Nat) : Nat :=
  if h : lo < hi then (if cmpV (l[(lo + hi) / 2]?.getD default) x < 0 then bsF l x ((lo + hi) / 2 + 1) hi else bsF l x lo ((lo + hi) / 2)) else lo
termination_by hi - lo
theorem bsF_spec (l : List GV) (x : GV) (hx : good x) (g : goods l) (hl : Inc l) : ∀ lo hi, lo ≤ hi → hi ≤ l.length → (∀ i (h : i < l.length), i < lo → cmpV l[i] x < 0) → (∀ i (h : i < l.length), hi ≤ i → ¬ cmpV l[i] x < 0) →
    bsF l x lo hi ≤ l.length ∧ (∀ i (h : i < l.length), i < bsF l x lo hi → cmpV l[i] x < 0) ∧ (∀ i (h : i < l.length), bsF l x lo hi ≤ i → ¬ cmpV l[i] x < 0) := by
  intro lo hi
  fun_induction bsF l x lo hi with
  | case1 lo hi h hc ih =>
    intro h1 h2 h3 h4
    have hm : (lo + hi) / 2 < l.length := by omega
    rw [List.getElem?_eq_getElem hm, Option.getD_some] at hc
    refine ih (by omega) h2 (fun i hi' hlt => ?_) h4
    by_cases e : i = (lo + hi) / 2
    · subst e; exact hc
    · exact cmp_trans _ _ _ (g _ (List.getElem_mem hi')) (g _ (List.getElem_mem hm)) hx (List.pairwise_iff_getElem.1 hl i _ hi' hm (by omega)) hc
  | case2 lo hi h hc ih =>
    intro h1 h2 h3 h4
    have hm : (lo + hi) / 2 < l.length := by omega
    rw [List.getElem?_eq_getElem hm, Option.getD_some] at hc
    refine ih (by omega) (by omega) h3 fun i hi' hge hlt => ?_
    by_cases e : i = (lo + hi) / 2
    · subst e; exact hc hlt
    · exact hc (cmp_trans _ _ _ (g _ (List.getElem_mem hm)) (g _ (List.getElem_mem hi')) hx (List.pairwise_iff_getElem.1 hl _ i hm hi' (by omega)) hlt)
  | case3 lo hi h =>
    intro h1 h2 h3 h4
    have : lo = hi := by omega
    subst this
    exact ⟨h2, h3, h4⟩
def atF (l : List GV) (x : GV) : Nat := bsF l x 0 l.length
def isF (l : List GV) (x : GV) : Bool := decide (atF l x < l.length) && decide (cmpV (l[atF l x]?.getD default) x = 0)
theorem isF_mem (l : List GV) (x : GV) (hx : good x) (g : goods l) (hl : Inc l) : isF l x = true ↔ x ∈ l := by
  obtain ⟨h1, h2, h3⟩ := bsF_spec l x hx g hl 0 l.length (by omega) (by omega) (fun i _ h => by omega) (fun i h h' => by omega)
  unfold isF
  rw [Bool.and_eq_true, decide_eq_true_eq, decide_eq_true_eq]
  constructor
  · rintro ⟨q1, q2⟩
    rw [List.getElem?_eq_getElem q1, Option.getD_some] at q2
    rw [← cmp_zero _ x (g _ (List.getElem_mem q1)) hx q2]
    exact List.getElem_mem q1
  · intro hm
    obtain ⟨i, hi, e⟩ := List.getElem_of_mem hm
    have e1 : ¬ i < atF l x := fun q => cmp_irr x (by have := h2 i hi q; rw [e] at this; exact this)
    have e2 : atF l x < l.length := Nat.lt_of_le_of_lt (Nat.not_lt.1 e1) hi
    refine ⟨e2, ?_⟩
    rw [List.getElem?_eq_getElem e2, Option.getD_some]
    by_cases q : i = atF l x
    · subst q; rw [e]; exact cmp_self x
    · have := List.pairwise_iff_getElem.1 hl (atF l x) i e2 hi (by omega)
      rw [e] at this
      exact absurd this (h3 _ e2 (Nat.le_refl _))
abbrev placeP (i : Int) (b : Bool) : PV := .agg [vI i, vB b]
theorem ref_find (s x : GV) (hs : good s) (hx : good x) : Gives Tryz.prog 67 [s.pv, x.pv] (if s.kind = 8 then placeP (atF s.els x) (isF s.els x) else placeP 0 false) := by
  have ll := hs.2.len
  intro m
  refine ACall.of_aw Tryz.func67 Tryz.ntmps67 rfl rfl (by simp) ?_
  by_cases h8 : s.kind = 8
  rotate_left
  · rw [if_neg h8]
    have F := @h8; refine tFa ?_; (try clear F)
    exact Fin.givesC (p := placeP 0 false) rfl (by simp [upd_lit]) Same.auto
  rw [if_pos h8]
  have F := @h8; refine tFa ?_; (try clear F)
  generalize hmm : ((m.newLoc s.cells).newLoc x.cells).newLoc [vI 0, vB false] = mm
  have sm : Same m mm := by rw [← hmm]; exact Same.auto
  have g0 : mm.loc m.nloc = some s.cells := by rw [← hmm]; simp; intro h; omega
  have g1 : mm.loc (m.nloc + 1) = some x.cells := by rw [← hmm]; simp
  have g2 : mm.loc (m.nloc + 2) = some [vI 0, vB false] := by rw [← hmm]; simp
  have n0 : m.nloc < mm.nloc := by rw [← hmm]; simp; omega
  have n1 : m.nloc + 1 < mm.nloc := by rw [← hmm]; simp
  have n2 : m.nloc + 2 < mm.nloc := by rw [← hmm]; simp
  clear hmm
  refine AW.loop (ι := Nat × Nat) (fun p σ m' => p.1 ≤ p.2 ∧ p.2 ≤ s.els.length ∧ bsF s.els x p.1 p.2 = atF s.els x ∧ σ 5 = vI p.1 ∧ σ 6 = vI p.2 ∧ σ 2 = .loc m.nloc 0 ∧ σ 3 = .loc (m.nloc + 1) 0 ∧ σ 4 = .loc (m.nloc + 2) 0 ∧ m' = mm) (fun p => p.2 - p.1) (0, s.els.length) ?_ ?_
  · exact ⟨by simp, by simp, rfl, by simp [upd_lit], by simp [upd_lit], by simp [upd_lit], by simp [upd_lit], by simp [upd_lit], rfl⟩
  rintro ⟨lo, hi⟩ σ m' ⟨h1, h2, hb, h5, h6, t2, t3, t4, rfl⟩
  simp only at h1 h2 hb h5 h6 ⊢
  have F := (aand @h5 @h6); refine tF ?_; (try clear F)
  refine AW.condD (p := lo < hi) (by simp [upd_lit]) (fun hlt => ?_) (fun hge => ?_)
  · rw [bsF, dif_pos hlt] at hb
    obtain ⟨q, eq⟩ : ∃ q, q = (lo + hi) / 2 := ⟨_, rfl⟩
    rw [← eq] at hb
    have hm : q < s.els.length := by omega
    rw [List.getElem?_eq_getElem hm, Option.getD_some] at hb
    have e1 : ((lo : Int) + hi).tdiv 2 = (q : Int) := by rw [Int.tdiv_eq_ediv_of_nonneg (by omega)]; omega
    have F := (aand @h5 (aand @h6 @e1)); refine tF ?_; (try clear F)
    repeat (first | refine AW.seq ?_ | refine AW.block ?_ | refine AW.skip ?_ | refine AExit.norT ?_ | refine AExit.norB ?_ | refine AList.nil ?_)
    refine AW.draw [.S, .R, .S, .S, .R, .R, .R, .S] (by decide +kernel) ?_; have F := (aand @t2 (aand @t3 (aand @g0 (aand @g1 (aand @n0 (aand @n1 (aand @hm @rows_getD))))))); refine dS 0 ?_; refine dR 1 ?_; refine dS 2 ?_; refine dS 3 ?_; refine dR 4 ?_; refine dR 5 ?_; refine dC ((refC (hs.els _ (List.getElem_mem hm)) hx)) 6 ?_; refine dS 7 ?_; (try clear F); first | refine dN ?_ | refine dB ?_ | refine DA.done (by decide +kernel) ?_
    refine AW.condD (p := cmpV s.els[q] x < 0) (by simp [upd_lit]) (fun hc => ?_) (fun hc => ?_)
    · refine tS ?_
      rw [if_pos hc] at hb
      exact ⟨(q + 1, hi), ⟨by simp; omega, h2, hb, by simp [upd_lit], by simp [upd_lit, h6], by simp [upd_lit, t2], by simp [upd_lit, t3], by simp [upd_lit, t4], rfl⟩, by simp; omega⟩
    · refine tS ?_
      rw [if_neg hc] at hb
      exact ⟨(lo, q), ⟨by simp; omega, by simp; omega, hb, by simp [upd_lit, h5], by simp [upd_lit], by simp [upd_lit, t2], by simp [upd_lit, t3], by simp [upd_lit, t4], rfl⟩, by simp; omega⟩
  · rw [bsF, dif_neg hge] at hb
    subst hb
    refine tS ?_
    by_cases hlt : atF s.els x < s.els.length
    · have hi' : isF s.els x = decide (cmpV s.els[atF s.els x] x = 0) := by simp [isF, hlt]
      rw [hi']
      refine AW.draw [.S, .S, .S, .R, .S, .S, .S, .S, .R, .S, .S, .R, .R, .R, .S, .S, .S, .W] (by decide +kernel) ?_; have F := (aand @h5 (aand @t2 (aand @t3 (aand @t4 (aand @g0 (aand @g1 (aand @g2 (aand @n0 (aand @n1 (aand @n2 (aand @hlt @rows_getD))))))))))); refine dS 0 ?_; refine dS 1 ?_; refine dS 2 ?_; refine dR 3 ?_; refine dS 4 ?_; refine dS 5 ?_; refine dS 6 ?_; refine dSG 7 ?_; refine dRG 8 ?_; refine dSG 9 ?_; refine dSG 10 ?_; refine dRG 11 ?_; refine dRG 12 ?_; refine dCG ((refC (hs.els _ (List.getElem_mem hlt)) hx)) 13 ?_; refine dSG 14 ?_; refine dS 15 ?_; refine dS 16 ?_; refine dW 17 ?_; (try clear F); first | refine dN ?_ | refine dB ?_ | refine DA.done (by decide +kernel) ?_
      refine tS ?_
      exact Fin.givesC (p := placeP (atF s.els x) (decide (cmpV s.els[atF s.els x] x = 0))) rfl (by simp [upd_lit, t4, n2]) (sm.setLoc (by omega) _)
    · have hi' : isF s.els x = false := by simp [isF, hlt]
      rw [hi']
      refine AW.draw [.S, .S, .S, .R, .S, .S, .S, .S, .R, .S, .S, .R, .R, .R, .S, .S, .S, .W] (by decide +kernel) ?_; have F := (aand @h5 (aand @t2 (aand @t3 (aand @t4 (aand @g0 (aand @g1 (aand @g2 (aand @n0 (aand @n1 (aand @n2 @hlt)))))))))); refine dS 0 ?_; refine dS 1 ?_; refine dS 2 ?_; refine dR 3 ?_; refine dS 4 ?_; refine dS 5 ?_; refine dS 6 ?_; refine dXx 7 ?_; refine dXX 8 ?_; refine dXx 9 ?_; refine dXx 10 ?_; refine dXX 11 ?_; refine dXX 12 ?_; refine dXX 13 ?_; refine dXx 14 ?_; refine dS 15 ?_; refine dS 16 ?_; refine dW 17 ?_; (try clear F); first | refine dN ?_ | refine dB ?_ | refine DA.done (by decide +kernel) ?_
      refine tS ?_
      exact Fin.givesC (p := placeP (atF s.els x) false) rfl (by simp [upd_lit, t4, n2]) (sm.setLoc (by omega) _)
theorem ref_has (s x : GV) (hs : good s) (hx : good x) (h8 : s.kind = 8) : Gives Tryz.prog 152 [s.pv, x.pv] (vB (isF s.els x)) := by
  have hf := ref_find s x hs hx
  rw [if_pos h8] at hf
  intro m
  refine ACall.of_aw Tryz.func152 Tryz.ntmps152 rfl rfl (by simp) ?_
  refine tS ?_
  refine tS1 fun K Kp hK hKp => ?_; refine Gives.at (hf) ?_; apply hK; clear hK hKp K Kp
  refine tS ?_
  exact Fin.gives Same.auto
end Go.Proofs.YtgfadepkiejncaaGreat
namespace Go.Proofs.YtgfadepkiejncaaGreat
open Go.Ab
set_option maxHeartbeats 0
set_option maxRecDepth 100000
attribute [local irreducible] AW AList ACall DA AExit.then AExit.inBlock YCall DCall

/-! ref.kept -/
theorem filter_take (f : GV → Bool) (l : List GV) (i : Nat) (h : i < l.length) : (l.take (i + 1)).filter f = (l.take i).filter f ++ if f l[i] then [l[i]] else [] := by
  rw [List.take_succ_eq_append_getElem h, List.filter_append]
  congr 1
  cases hf : f l[i] <;> simp [hf]
theorem filter_take_len (f : GV → Bool) (l : List GV) (i : Nat) : ((l.take i).filter f).length ≤ l.length := Nat.le_trans (List.length_filter_le _ _) (by simp; omega)
/-- The elements that a set has, or has not. -/
def keptL (l : List GV) (s : GV) (has : Bool) : List GV := l.filter fun x => isF s.els x == has
theorem ref_kept (l : List GV) (s : GV) (has : Bool) (gl : goods l) (hs : good s) (h8 : s.kind = 8) (hl : l.length < 549755813888) : Gives Tryz.prog 122 [GV.pvs l, s.pv, vB has] (GV.pvs (keptL l s has)) := by
  unfold keptL
  intro m
  refine ACall.of_aw Tryz.func122 Tryz.ntmps122 rfl rfl (by simp) ?_
  refine tSn ?_
  refine AW.nilS (d := 7) (by simp [upd_lit]) ?_
  refine tS ?_
  refine AW.loop (ι := Nat) (fun i σ m' => i ≤ l.length ∧ (∃ o, σ 7 = .list o (GV.rows ((l.take i).filter fun x => isF s.els x == has)) ∧ Ow (m.newLoc s.cells) m' o 6 ((l.take i).filter fun x => isF s.els x == has).length) ∧ σ 8 = vI i ∧ σ 0 = GV.pvs l ∧ σ 4 = .loc m.nloc 0 ∧ σ 2 = vB has) (fun i => l.length - i) 0 ?_ ?_
  · exact ⟨by simp, ⟨.full, by simp [upd_lit, GV.rows], .full (Same.refl _)⟩, by simp [upd_lit], by simp [upd_lit], by simp [upd_lit], by simp [upd_lit]⟩
  rintro i σ m' ⟨hi, ⟨o, h7, ho⟩, h8', h0, h4, h2⟩
  have hm1 : m'.loc m.nloc = some s.cells := (ho.same.get (by simp)).trans (by simp)
  have hm2 : m.nloc < m'.nloc := Nat.lt_of_lt_of_le (by simp) ho.same.lloc
  have F := (aand @h8' @h0); refine tF ?_; (try clear F)
  refine AW.condD (p := i < l.length) (by simp [upd_lit]) (fun hlt => ?_) (fun hge => ?_)
  · have hf := filter_take (fun x => isF s.els x == has) l i hlt
    have hfl := filter_take_len (fun x => isF s.els x == has) l i
    obtain ⟨x, ex⟩ : ∃ x, x = l[i] := ⟨_, rfl⟩
    have ex' := ex.symm
    rw [← ex] at hf
    have gx : good x := by rw [ex]; exact gl _ (List.getElem_mem hlt)
    repeat (first | refine AW.seq ?_ | refine AW.block ?_ | refine AW.skip ?_ | refine AExit.norT ?_ | refine AExit.norB ?_ | refine AList.nil ?_)
    refine AW.draw [.R, .S, .S, .S, .R, .R, .S, .S] (by decide +kernel) ?_; have F := (aand @h8' (aand @h0 (aand @h4 (aand @h2 (aand @hm1 (aand @hm2 (aand @hlt (aand @rows_getD @ex')))))))); refine dR 0 ?_; refine dS 1 ?_; refine dS 2 ?_; refine dS 3 ?_; refine dR 4 ?_; refine dC ((ref_has s x hs gx h8)) 5 ?_; refine dS 6 ?_; refine dS 7 ?_; (try clear F); first | refine dN ?_ | refine dB ?_ | refine DA.done (by decide +kernel) ?_
    by_cases hc : isF s.els x = has
    · have F := @hc; refine tFa ?_; (try clear F)
      rw [if_pos (by simp [hc])] at hf
      have F := (aand @h7 (aand @h8' (aand @h0 (aand @hlt (aand @rows_getD @ex'))))); refine tF ?_; (try clear F)
      refine AList.op (by decide) ?_; intro K Kp hK hKp; simp [h7, upd_lit]
      refine app25 (l' := [x]) ho rfl (by simp; omega) fun o' m'' ho' hs' => hK _ _ ?_; clear hK hKp K Kp
      have F := @h8'; refine tF ?_; (try clear F)
      refine ⟨i + 1, ⟨by omega, ⟨o', by simp [upd_lit, hf], ?_⟩, by simp [upd_lit], by simp [upd_lit, h0], by simp [upd_lit, h4], by simp [upd_lit, h2]⟩, by omega⟩
      rw [hf]; simpa using ho'
    · have hc' : ¬ (isF s.els x == has) = true := by simpa using hc
      rw [if_neg hc', List.append_nil] at hf
      have hc2 : (isF s.els x == has) = false := Bool.eq_false_iff.2 hc'
      have F := (aand @hc @hc2); refine tFa ?_; (try clear F)
      have F := @h8'; refine tF ?_; (try clear F)
      exact ⟨i + 1, ⟨by omega, ⟨o, by simp [upd_lit, hf, h7], by rw [hf]; exact ho⟩, by simp [upd_lit], by simp [upd_lit, h0], by simp [upd_lit, h4], by simp [upd_lit, h2]⟩, by omega⟩
  · have e : i = l.length := by omega
    subst e
    rw [List.take_length] at h7
    have F := @h7; refine tF ?_; (try clear F)
    exact Fin.gives (((Same.refl m).newLoc _).trans ho.same) rfl (by simp [upd_lit, PV.strip])
/-! ref.sorted -/
theorem rows_take (l : List GV) (n : Nat) : (GV.rows l).take n = GV.rows (l.take n) := by simp [GV.rows_eq, List.map_take]
theorem rows_drop (l : List GV) (n : Nat) : (GV.rows l).drop n = GV.rows (l.drop n) := by simp [GV.rows_eq, List.map_drop]
theorem ref_sorted (l : List GV) (gl : goods l) (hl : l.length < 549755813888) : Gives Tryz.prog 147 [GV.pvs l] (GV.pvs (srtF l)) := by
  generalize hN : l.length = N
  induction N using Nat.strongRecOn generalizing l with
  | _ N ih =>
  subst hN
  rw [srtF]
  intro m
  refine ACall.of_aw Tryz.func147 Tryz.ntmps147 rfl rfl (by simp) ?_
  by_cases h2 : l.length < 2
  · rw [dif_pos h2]
    have h2' : (l.length : Int) < 2 := by omega
    have F := @h2'; refine tFa ?_; (try clear F)
    exact Fin.gives Same.auto
  rw [dif_neg h2]
  have h2' : ¬ (l.length : Int) < 2 := by omega
  obtain ⟨q, eq⟩ : ∃ q, q = l.length / 2 := ⟨_, rfl⟩
  have e1 : (l.length : Int) / 2 = (q : Int) := by omega
  rw [← eq]
  have hq : q ≤ l.length := by omega
  have hq0 : q ≠ 0 := by omega
  have hql : ¬ l.length = q := by omega
  have c1 := ih q (by omega) (l.take q) (fun x hx => gl x (List.mem_of_mem_take hx)) (by simp; omega) (by simp; omega)
  have c2 := ih (l.length - q) (by omega) (l.drop q) (fun x hx => gl x (List.mem_of_mem_drop hx)) (by simp; omega) (by simp)
  have ga : goods (srtF (l.take q)) := fun x hx => gl x (List.mem_of_mem_take ((mem_srtF _ x).1 hx))
  have gb : goods (srtF (l.drop q)) := fun x hx => gl x (List.mem_of_mem_drop ((mem_srtF _ x).1 hx))
  have la := srtF_len (l.take q)
  have lb := srtF_len (l.drop q)
  simp at la lb
  have s1 : ∀ (m : St) (K : PV → St → Prop), K (GV.pvs (l.take q)) m → aslice Tryz.prog 25 (GV.pvs l) none (some (vI q)) none m K := fun m K h => by
    simp [aslice, abnd, rows_take]; exact ⟨hq, h⟩
  have s2 : ∀ (m : St) (K : PV → St → Prop), K (GV.pvs (l.drop q)) m → aslice Tryz.prog 25 (GV.pvs l) (some (vI q)) none none m K := fun m K h => by
    simp [aslice, abnd]; rw [List.take_of_length_le (by simp), rows_drop]; exact ⟨hq, h⟩
  have F := @h2'; refine tFa ?_; (try clear F)
  have F := @e1; refine tF1 fun K Kp hK hKp => ?_; (try clear F)
  refine s1 _ _ ?_
  apply hK; clear hK hKp K Kp
  refine tS ?_
  refine tS1 fun K Kp hK hKp => ?_; refine Gives.at (c1) ?_; apply hK; clear hK hKp K Kp
  refine tS ?_
  have F := @e1; refine tF1 fun K Kp hK hKp => ?_; (try clear F)
  refine s2 _ _ ?_
  apply hK; clear hK hKp K Kp
  refine tS ?_
  refine tS1 fun K Kp hK hKp => ?_; refine Gives.at (c2) ?_; apply hK; clear hK hKp K Kp
  refine tSn ?_
  refine AW.nilS (d := 5) (by simp [upd_lit]) ?_
  generalize hA : srtF (l.take q) = A at *
  generalize hB : srtF (l.drop q) = B at *
  refine AW.loop (ι := Nat × Nat) (fun p σ m' => p.1 ≤ A.length ∧ p.2 ≤ B.length ∧ σ 6 = vI p.1 ∧ σ 7 = vI p.2 ∧ σ 3 = GV.pvs A ∧ σ 4 = GV.pvs B ∧ (∃ out o, σ 5 = .list o (GV.rows out) ∧ Ow m m' o 6 out.length ∧ out.length = p.1 + p.2 ∧ out ++ mrgS (A.drop p.1) (B.drop p.2) = mrgS A B)) (fun p => A.length + B.length - p.1 - p.2) (0, 0) ?_ ?_
  · exact ⟨by simp, by simp, by simp [upd_lit], by simp [upd_lit], by simp [upd_lit], by simp [upd_lit], [], .full, by simp [upd_lit, GV.rows], .full (Same.refl _), rfl, by simp⟩
  rintro ⟨i, k⟩ σ m' ⟨hi, hk, h6, h7, h3, h4, out, o, h5, ho, hlen, hF⟩
  simp only at hi hk h6 h7 hlen hF ⊢
  have hle : (mrgS A B).length < 549755813888 := by rw [mrgS_len]; omega
  by_cases hiA : i < A.length
  rotate_left
  · have ei : i = A.length := by omega
    have hiA' : ¬ (i : Int) < A.length := by omega
    by_cases hkB : k < B.length
    rotate_left
    · -- both at their ends
      have ek : k = B.length := by omega
      have F := (aand @h6 (aand @h7 (aand @h3 (aand @h4 (aand @hiA @hkB))))); refine tFg ?_; (try clear F)
      refine tSa ?_
      have F := @h5; refine tF ?_; (try clear F)
      have : mrgS (A.drop i) (B.drop k) = [] := by rw [ei, ek, List.drop_length, List.drop_length, mrgS]
      rw [this, List.append_nil] at hF
      rw [← hF]
      exact Fin.gives ho.1 rfl (by simp [upd_lit, PV.strip, h5])
    · have F := (aand @h6 (aand @h7 (aand @h3 (aand @h4 (aand @hiA @hkB))))); refine tFg ?_; (try clear F)
      refine tSa ?_
      repeat (first | refine AW.seq ?_ | refine AW.block ?_ | refine AW.skip ?_ | refine AExit.norT ?_ | refine AExit.norB ?_ | refine AList.nil ?_)
      have hkB' : ¬ B.length ≤ k := by omega
      refine AW.draw [.S, .S, .S, .S, .S, .S, .S, .S, .S, .S, .S, .S, .S, .R, .S, .S, .S, .R, .R, .S, .S, .S] (by decide +kernel) ?_; have F := (aand @h6 (aand @h7 (aand @h3 (aand @h4 (aand @hiA @hkB'))))); refine dS 0 ?_; refine dS 1 ?_; refine dS 2 ?_; refine dS 3 ?_; refine dS 4 ?_; refine dSG 5 ?_; refine dSG 6 ?_; refine dSG 7 ?_; refine dSG 8 ?_; refine dSG 9 ?_; refine dXx 10 ?_; refine dXx 11 ?_; refine dXx 12 ?_; refine dXX 13 ?_; refine dXx 14 ?_; refine dXx 15 ?_; refine dXx 16 ?_; refine dXX 17 ?_; refine dXX 18 ?_; refine dXx 19 ?_; refine dSG 20 ?_; refine dS 21 ?_; (try clear F); first | refine dN ?_ | refine dB ?_ | refine DA.done (by decide +kernel) ?_
      refine tSa ?_
      have F := (aand @h5 (aand @h7 (aand @h4 (aand @hkB @rows_getD)))); refine tF ?_; (try clear F)
      refine AList.op (by decide) ?_; intro K Kp hK hKp; simp [h5, upd_lit]
      refine app25 (l' := [B[k]]) ho rfl (by simp; omega) fun o' m'' ho' hs' => hK _ _ ?_; clear hK hKp K Kp
      have F := @h7; refine tF ?_; (try clear F)
      refine ⟨(i, k + 1), ⟨hi, by simp; omega, by simp [upd_lit, h6], by simp [upd_lit], by simp [upd_lit, h3], by simp [upd_lit, h4], out ++ [B[k]], o', by simp [upd_lit], by simpa using ho', by simp [hlen]; omega, ?_⟩, by simp; omega⟩
      rw [← hF, List.append_assoc]
      congr 1
      rw [ei, List.drop_length, List.drop_eq_getElem_cons hkB]
      cases hd : B.drop (k + 1) <;> simp [mrgS]
  have gx := ga A[i] (List.getElem_mem hiA)
  by_cases hkB : k < B.length
  rotate_left
  · have ek : k = B.length := by omega
    have hkB' : B.length ≤ k := by omega
    have F := (aand @h6 (aand @h7 (aand @h3 (aand @h4 (aand @hiA @hkB))))); refine tFg ?_; (try clear F)
    refine tSa ?_
    repeat (first | refine AW.seq ?_ | refine AW.block ?_ | refine AW.skip ?_ | refine AExit.norT ?_ | refine AExit.norB ?_ | refine AList.nil ?_)
    refine AW.draw [.S, .S, .S, .S, .S, .S, .S, .S, .S, .S, .S, .S, .S, .R, .S, .S, .S, .R, .R, .S, .S, .S] (by decide +kernel) ?_; have F := (aand @h6 (aand @h7 (aand @h3 (aand @h4 (aand @hiA @hkB'))))); refine dS 0 ?_; refine dS 1 ?_; refine dS 2 ?_; refine dS 3 ?_; refine dS 4 ?_; refine dXx 5 ?_; refine dXx 6 ?_; refine dXx 7 ?_; refine dXx 8 ?_; refine dXx 9 ?_; refine dXx 10 ?_; refine dXx 11 ?_; refine dXx 12 ?_; refine dXX 13 ?_; refine dXx 14 ?_; refine dXx 15 ?_; refine dXx 16 ?_; refine dXX 17 ?_; refine dXX 18 ?_; refine dXx 19 ?_; refine dXx 20 ?_; refine dS 21 ?_; (try clear F); first | refine dN ?_ | refine dB ?_ | refine DA.done (by decide +kernel) ?_
    refine tSa ?_
    have F := (aand @h5 (aand @h6 (aand @h3 (aand @hiA @rows_getD)))); refine tF ?_; (try clear F)
    refine AList.op (by decide) ?_; intro K Kp hK hKp; simp [h5, upd_lit]
    refine app25 (l' := [A[i]]) ho rfl (by simp; omega) fun o' m'' ho' hs' => hK _ _ ?_; clear hK hKp K Kp
    have F := @h6; refine tF ?_; (try clear F)
    refine ⟨(i + 1, k), ⟨by simp; omega, hk, by simp [upd_lit], by simp [upd_lit, h7], by simp [upd_lit, h3], by simp [upd_lit, h4], out ++ [A[i]], o', by simp [upd_lit], by simpa using ho', by simp [hlen]; omega, ?_⟩, by simp; omega⟩
    rw [← hF, List.append_assoc]
    congr 1
    rw [ek, List.drop_length, List.drop_eq_getElem_cons hiA]
    simp [mrgS]
  have hkB' : ¬ B.length ≤ k := by omega
  have gy := gb B[k] (List.getElem_mem hkB)
  have F := (aand @h6 (aand @h7 (aand @h3 (aand @h4 (aand @hiA @hkB))))); refine tFg ?_; (try clear F)
  refine tSa ?_
  repeat (first | refine AW.seq ?_ | refine AW.block ?_ | refine AW.skip ?_ | refine AExit.norT ?_ | refine AExit.norB ?_ | refine AList.nil ?_)
  refine AW.draw [.S, .S, .S, .S, .S, .S, .S, .S, .S, .S, .S, .S, .S, .R, .S, .S, .S, .R, .R, .S, .S, .S] (by decide +kernel) ?_; have F := (aand @h6 (aand @h7 (aand @h3 (aand @h4 (aand @hiA (aand @hkB (aand @hkB' @rows_getD))))))); refine dS 0 ?_; refine dS 1 ?_; refine dS 2 ?_; refine dS 3 ?_; refine dS 4 ?_; refine dSG 5 ?_; refine dSG 6 ?_; refine dSG 7 ?_; refine dSG 8 ?_; refine dSG 9 ?_; refine dSG 10 ?_; refine dSG 11 ?_; refine dSG 12 ?_; refine dRG 13 ?_; refine dSG 14 ?_; refine dSG 15 ?_; refine dSG 16 ?_; refine dRG 17 ?_; refine dCG ((refC gx gy)) 18 ?_; refine dSG 19 ?_; refine dSG 20 ?_; refine dS 21 ?_; (try clear F); first | refine dN ?_ | refine dB ?_ | refine DA.done (by decide +kernel) ?_
  by_cases hc : cmpV A[i] B[k] ≤ 0
  · have F := @hc; refine tFa ?_; (try clear F)
    have F := (aand @h5 (aand @h6 (aand @h3 (aand @hiA @rows_getD)))); refine tF ?_; (try clear F)
    refine AList.op (by decide) ?_; intro K Kp hK hKp; simp [h5, upd_lit]
    refine app25 (l' := [A[i]]) ho rfl (by simp; omega) fun o' m'' ho' hs' => hK _ _ ?_; clear hK hKp K Kp
    have F := @h6; refine tF ?_; (try clear F)
    refine ⟨(i + 1, k), ⟨by simp; omega, hk, by simp [upd_lit], by simp [upd_lit, h7], by simp [upd_lit, h3], by simp [upd_lit, h4], out ++ [A[i]], o', by simp [upd_lit], by simpa using ho', by simp [hlen]; omega, ?_⟩, by simp; omega⟩
    rw [← hF, List.append_assoc]
    congr 1
    rw [List.drop_eq_getElem_cons hiA, List.drop_eq_getElem_cons hkB, mrgS, if_pos hc]
    rfl
  · have F := @hc; refine tFa ?_; (try clear F)
    have F := (aand @h5 (aand @h7 (aand @h4 (aand @hkB @rows_getD)))); refine tF ?_; (try clear F)
    refine AList.op (by decide) ?_; intro K Kp hK hKp; simp [h5, upd_lit]
    refine app25 (l' := [B[k]]) ho rfl (by simp; omega) fun o' m'' ho' hs' => hK _ _ ?_; clear hK hKp K Kp
    have F := @h7; refine tF ?_; (try clear F)
    refine ⟨(i, k + 1), ⟨hi, by simp; omega, by simp [upd_lit, h6], by simp [upd_lit], by simp [upd_lit, h3], by simp [upd_lit, h4], out ++ [B[k]], o', by simp [upd_lit], by simpa using ho', by simp [hlen]; omega, ?_⟩, by simp; omega⟩
    rw [← hF, List.append_assoc]
    congr 1
    rw [List.drop_eq_getElem_cons hiA, List.drop_eq_getElem_cons hkB, mrgS, if_neg hc]
    rfl
end Go.Proofs.YtgfadepkiejncaaGreat
namespace Go.Proofs.YtgfadepkiejncaaGreat
open Go.Ab
set_option maxHeartbeats 0
set_option maxRecDepth 100000
attribute [local irreducible] AW AList ACall DA AExit.then AExit.inBlock YCall DCall

/-! ref.MakeSet -/
theorem dd_len : ∀ (l out : List GV), (dd out l).length ≤ out.length + l.length
  | [], out => by simp [dd]
  | x :: l, out => by
    have := dd_len l
    simp only [dd]
    split
    · have := this (out ++ [x]); simp at this ⊢; omega
    · have := this out; simp; omega
theorem setF_len (l : List GV) : (setF l).length ≤ l.length := by
  have := dd_len (srtF l) []
  rw [srtF_len] at this
  simpa [setF] using this
theorem dd_sub : ∀ (l out : List GV) (z : GV), z ∈ dd out l → z ∈ out ∨ z ∈ l
  | [], out, z, h => by simp [dd] at h; exact .inl h
  | x :: l, out, z, h => by
    simp only [dd] at h
    rcases dd_sub l _ z h with h | h
    · split at h
      · rcases List.mem_append.1 h with h | h
        · exact .inl h
        · simp at h; exact .inr (by simp [h])
      · exact .inl h
    · exact .inr (by simp [h])
theorem ref_makeSet (l : List GV) (gl : goods l) (hl : l.length < 549755813888) : Gives Tryz.prog 99 [GV.pvs l] (setV (setF l)).pv := by
  intro m
  refine ACall.of_aw Tryz.func99 Tryz.ntmps99 rfl rfl (by simp) ?_
  refine tS ?_
  refine tS1 fun K Kp hK hKp => ?_; refine Gives.at (ref_sorted l gl hl) ?_; apply hK; clear hK hKp K Kp
  refine tS ?_
  have hS := srtF_len l
  have gS : goods (srtF l) := fun x hx => gl x ((mem_srtF l x).1 hx)
  unfold setF
  generalize srtF l = S at *
  refine AW.loop (ι := Nat) (fun i σ m' => i ≤ S.length ∧ σ 5 = vI i ∧ σ 4 = GV.pvs S ∧ σ 3 = .loc (m.nloc + 1) 0 ∧ σ 2 = .loc m.nloc 0 ∧ (∃ out o, m'.loc (m.nloc + 1) = some [vI 8, vI 0, vB false, .list .full [], vS ⟨#[]⟩, .list o (GV.rows out)] ∧ Ow m m' o 6 out.length ∧ out.length ≤ i ∧ goods out ∧ dd out (S.drop i) = dd [] S) ∧ m'.loc m.nloc = some [vI 0, vI 0, vB false, .list .full [], vS ⟨#[]⟩, .list .full []] ∧ m.nloc + 2 ≤ m'.nloc) (fun i => S.length - i) 0 ?_ ?_
  · exact ⟨by simp, by simp [upd_lit], by simp [upd_lit], by simp [upd_lit], by simp [upd_lit], ⟨[], .full, by simp [GV.rows], .full Same.auto, by simp, fun x hx => (by cases hx), rfl⟩, by simp, by simp⟩
  rintro i σ m' ⟨hi, h5, h4, h3, h2, ⟨out, o, e1, ow, hol, go, hF⟩, e0, hnl⟩
  have q0 : m.nloc < m'.nloc := by omega
  have q1 : m.nloc + 1 < m'.nloc := by omega
  have F := (aand @h5 @h4); refine tF ?_; (try clear F)
  refine AW.condD (p := i < S.length) (by simp [upd_lit]) (fun hlt => ?_) (fun hge => ?_)
  rotate_left
  · have e : i = S.length := by omega
    subst e
    rw [List.drop_length, dd] at hF
    have F := (aand @h3 (aand @h2 (aand @e0 (aand @e1 (aand @q0 @q1))))); refine tF ?_; (try clear F)
    rw [← hF]
    exact Fin.givesC (p := .agg [vI 8, vI 0, vB false, .list .full [], vS ⟨#[]⟩, .list o (GV.rows out)]) rfl (by simp [upd_lit, h2, q0]) (ow.1.setLoc (by omega) _) (by simp [GV.cells, limbs])
  obtain ⟨x, ex⟩ : ∃ x, x = S[i] := ⟨_, rfl⟩
  have ex' := ex.symm
  have gx : good x := by rw [ex]; exact gS _ (List.getElem_mem hlt)
  rw [List.drop_eq_getElem_cons hlt, dd, ← ex] at hF
  have F := (aand @h3 (aand @e1 @q1)); refine tF ?_; (try clear F)
  by_cases hx0 : x.kind = 0
  · rw [if_neg (by simp [hx0])] at hF
    repeat (first | refine AW.seq ?_ | refine AW.block ?_ | refine AW.skip ?_ | refine AExit.norT ?_ | refine AExit.norB ?_ | refine AList.nil ?_)
    refine AW.draw [.S, .S, .S, .S, .R, .S, .S, .S, .S, .S, .S, .R, .S, .S, .S, .R, .S, .S, .S, .R, .R, .S, .S, .S] (by decide +kernel) ?_; have F := (aand @h5 (aand @h4 (aand @hlt (aand @rows_getD (aand @ex' @hx0))))); refine dS 0 ?_; refine dS 1 ?_; refine dS 2 ?_; refine dS 3 ?_; refine dR 4 ?_; refine dS 5 ?_; refine dS 6 ?_; refine dXx 7 ?_; refine dXx 8 ?_; refine dXx 9 ?_; refine dXx 10 ?_; refine dXX 11 ?_; refine dXx 12 ?_; refine dXx 13 ?_; refine dXx 14 ?_; refine dXX 15 ?_; refine dXx 16 ?_; refine dXx 17 ?_; refine dXx 18 ?_; refine dXX 19 ?_; refine dXX 20 ?_; refine dXx 21 ?_; refine dXx 22 ?_; refine dS 23 ?_; (try clear F); first | refine dN ?_ | refine dB ?_ | refine DA.done (by decide +kernel) ?_
    refine tSa ?_
    have F := @h5; refine tF ?_; (try clear F)
    exact ⟨i + 1, ⟨by omega, by simp [upd_lit], by simp [upd_lit, h4], by simp [upd_lit, h3], by simp [upd_lit, h2], ⟨out, o, e1, ow, by omega, go, hF⟩, e0, hnl⟩, by omega⟩
  by_cases ho : out = []
  · rw [if_pos ⟨hx0, .inl ho⟩] at hF
    have hol0 : out.length = 0 := by rw [ho]; rfl
    repeat (first | refine AW.seq ?_ | refine AW.block ?_ | refine AW.skip ?_ | refine AExit.norT ?_ | refine AExit.norB ?_ | refine AList.nil ?_)
    refine AW.draw [.S, .S, .S, .S, .R, .S, .S, .S, .S, .S, .S, .R, .S, .S, .S, .R, .S, .S, .S, .R, .R, .S, .S, .S] (by decide +kernel) ?_; have F := (aand @h5 (aand @h4 (aand @hlt (aand @rows_getD (aand @ex' (aand @hx0 (aand @hol0 @ho))))))); refine dS 0 ?_; refine dS 1 ?_; refine dS 2 ?_; refine dS 3 ?_; refine dR 4 ?_; refine dS 5 ?_; refine dS 6 ?_; refine dSG 7 ?_; refine dSG 8 ?_; refine dSG 9 ?_; refine dXx 10 ?_; refine dXX 11 ?_; refine dXx 12 ?_; refine dXx 13 ?_; refine dXx 14 ?_; refine dXX 15 ?_; refine dXx 16 ?_; refine dXx 17 ?_; refine dXx 18 ?_; refine dXX 19 ?_; refine dXX 20 ?_; refine dXx 21 ?_; refine dSG 22 ?_; refine dS 23 ?_; (try clear F); first | refine dN ?_ | refine dB ?_ | refine DA.done (by decide +kernel) ?_
    refine tSa ?_
    repeat (first | refine AW.seq ?_ | refine AW.block ?_ | refine AW.skip ?_ | refine AExit.norT ?_ | refine AExit.norB ?_ | refine AList.nil ?_)
    refine AW.draw [.S, .R, .S, .S, .S, .R, .S, .W, .S, .W] (by decide +kernel) ?_; have F := (aand @h5 (aand @h4 (aand @h3 (aand @e1 (aand @q1 (aand @hlt (aand @rows_getD @ex'))))))); refine dST 0 ?_; refine dRT 1 ?_; refine dST 2 ?_; refine dST 3 ?_; refine dST 4 ?_; refine dRT 5 ?_; refine dST 6 ?_; (try clear F); refine DA.W (oi := ?oiw1) 7 ?aw1 ?bw1 ?cw1 ?dw1 ?ew1 ?fw1; (case aw1 => rfl); (case bw1 => decide +kernel); (case cw1 => rfl); (case dw1 => rfl); (case ew1 => decide); intro K Kp hK hKp; (simp [upd_lit]; refine app25 (l' := [x]) ow (by simp) (by simp; omega) fun o' m'' ho' hs => hK _ _ ?_; clear hK hKp K Kp); have F := (aand @h5 (aand @h4 (aand @h3 (aand @e1 (aand @q1 (aand @hlt (aand @rows_getD @ex'))))))); (try clear F)
    have q1' : m.nloc + 1 < m''.nloc := by rw [hs.nloc]; exact q1
    have e1' : m''.loc (m.nloc + 1) = some [vI 8, vI 0, vB false, .list .full [], vS ⟨#[]⟩, .list o (GV.rows out)] := by rw [hs.loc]; exact e1
    skip; have F := (aand @h3 (aand @e1' @q1')); refine dST 8 ?_; refine dW 9 ?_; (try clear F); first | refine dN ?_ | refine dB ?_ | refine DA.done (by decide +kernel) ?_
    have F := @h5; refine tF ?_; (try clear F)
    refine ⟨i + 1, ⟨by omega, by simp [upd_lit], by simp [upd_lit, h4], by simp [upd_lit, h3], by simp [upd_lit, h2], ⟨out ++ [x], o', by simp, ⟨ho'.1.setLoc (by omega) _, by rw [List.length_append]; exact ho'.2⟩, by simp; omega, fun y hy => ?_, hF⟩, by simp [hs.loc, e0], by simp [hs.nloc]; omega⟩, by omega⟩
    rcases List.mem_append.1 hy with h | h
    · exact go y h
    · simp at h; rw [h]; exact gx
  have hol' : 0 < out.length := List.length_pos_iff.2 ho
  obtain ⟨j, hj⟩ : ∃ j, out.length = j + 1 := ⟨out.length - 1, by omega⟩
  have ej : j < out.length := by omega
  have e8 : (out.length : Int) - 1 = (j : Int) := by omega
  have e9 : ¬ out.length = 0 := by omega
  obtain ⟨w, ew⟩ : ∃ w, w = out[j] := ⟨_, rfl⟩
  have ew' := ew.symm
  have gw : good w := by rw [ew]; exact go _ (List.getElem_mem ej)
  have hlast : out.getLast?.getD default = w := by rw [List.getLast?_eq_getElem?, hj]; simp [List.getElem?_eq_getElem ej, ew]
  rw [hlast] at hF
  repeat (first | refine AW.seq ?_ | refine AW.block ?_ | refine AW.skip ?_ | refine AExit.norT ?_ | refine AExit.norB ?_ | refine AList.nil ?_)
  refine AW.draw [.S, .S, .S, .S, .R, .S, .S, .S, .S, .S, .S, .R, .S, .S, .S, .R, .S, .S, .S, .R, .R, .S, .S, .S] (by decide +kernel) ?_; have F := (aand @h5 (aand @h4 (aand @h3 (aand @e1 (aand @q1 (aand @hlt (aand @rows_getD (aand @ex' (aand @hx0 (aand @e9 (aand @ho (aand @e8 (aand @ej @ew'))))))))))))); refine dS 0 ?_; refine dS 1 ?_; refine dS 2 ?_; refine dS 3 ?_; refine dR 4 ?_; refine dS 5 ?_; refine dS 6 ?_; refine dSG 7 ?_; refine dSG 8 ?_; refine dSG 9 ?_; refine dSG 10 ?_; refine dRG 11 ?_; refine dSG 12 ?_; refine dSG 13 ?_; refine dSG 14 ?_; refine dRG 15 ?_; refine dSG 16 ?_; refine dSG 17 ?_; refine dSG 18 ?_; refine dRG 19 ?_; refine dCG ((refC gw gx)) 20 ?_; refine dSG 21 ?_; refine dSG 22 ?_; refine dS 23 ?_; (try clear F); first | refine dN ?_ | refine dB ?_ | refine DA.done (by decide +kernel) ?_
  by_cases hc : cmpV w x = 0
  · rw [if_neg (by simp [ho, hc])] at hF
    have F := @hc; refine tFa ?_; (try clear F)
    have F := @h5; refine tF ?_; (try clear F)
    exact ⟨i + 1, ⟨by omega, by simp [upd_lit], by simp [upd_lit, h4], by simp [upd_lit, h3], by simp [upd_lit, h2], ⟨out, o, e1, ow, by omega, go, hF⟩, e0, hnl⟩, by omega⟩
  · rw [if_pos ⟨hx0, .inr hc⟩] at hF
    have F := @hc; refine tFa ?_; (try clear F)
    repeat (first | refine AW.seq ?_ | refine AW.block ?_ | refine AW.skip ?_ | refine AExit.norT ?_ | refine AExit.norB ?_ | refine AList.nil ?_)
    refine AW.draw [.S, .R, .S, .S, .S, .R, .S, .W, .S, .W] (by decide +kernel) ?_; have F := (aand @h5 (aand @h4 (aand @h3 (aand @e1 (aand @q1 (aand @hlt (aand @rows_getD @ex'))))))); refine dST 0 ?_; refine dRT 1 ?_; refine dST 2 ?_; refine dST 3 ?_; refine dST 4 ?_; refine dRT 5 ?_; refine dST 6 ?_; (try clear F); refine DA.W (oi := ?oiw2) 7 ?aw2 ?bw2 ?cw2 ?dw2 ?ew2 ?fw2; (case aw2 => rfl); (case bw2 => decide +kernel); (case cw2 => rfl); (case dw2 => rfl); (case ew2 => decide); intro K Kp hK hKp; (simp [upd_lit]; refine app25 (l' := [x]) ow (by simp) (by simp; omega) fun o' m'' ho' hs => hK _ _ ?_; clear hK hKp K Kp); have F := (aand @h5 (aand @h4 (aand @h3 (aand @e1 (aand @q1 (aand @hlt (aand @rows_getD @ex'))))))); (try clear F)
    have q1' : m.nloc + 1 < m''.nloc := by rw [hs.nloc]; exact q1
    have e1' : m''.loc (m.nloc + 1) = some [vI 8, vI 0, vB false, .list .full [], vS ⟨#[]⟩, .list o (GV.rows out)] := by rw [hs.loc]; exact e1
    skip; have F := (aand @h3 (aand @e1' @q1')); refine dST 8 ?_; refine dW 9 ?_; (try clear F); first | refine dN ?_ | refine dB ?_ | refine DA.done (by decide +kernel) ?_
    have F := @h5; refine tF ?_; (try clear F)
    refine ⟨i + 1, ⟨by omega, by simp [upd_lit], by simp [upd_lit, h4], by simp [upd_lit, h3], by simp [upd_lit, h2], ⟨out ++ [x], o', by simp, ⟨ho'.1.setLoc (by omega) _, by rw [List.length_append]; exact ho'.2⟩, by simp; omega, fun y hy => ?_, hF⟩, by simp [hs.loc, e0], by simp [hs.nloc]; omega⟩, by omega⟩
    rcases List.mem_append.1 hy with h | h
    · exact go y h
    · simp at h; rw [h]; exact gx
end Go.Proofs.YtgfadepkiejncaaGreat
namespace Go.Proofs.YtgfadepkiejncaaGreat
open Go.Ab Go.Sort
set_option maxHeartbeats 0
set_option maxRecDepth 100000
attribute [local irreducible] AW AList ACall DA AExit.then AExit.inBlock YCall DCall

/-! val.sorted -/
def mkL : (l : List GV) → goods l → List GG
  | [], _ => []
  | v :: l, g => ⟨v, g v (by simp)⟩ :: mkL l (fun x hx => g x (by simp [hx]))
theorem mkL_map : ∀ (l : List GV) (g : goods l), (mkL l g).map (·.1) = l
  | [], _ => rfl
  | v :: l, g => congrArg (v :: ·) (mkL_map l fun x hx => g x (by simp [hx]))
def mkG (l : List GV) (g : goods l) : Array GG := (mkL l g).toArray
theorem mkG_list (l : List GV) (g : goods l) : (mkG l g).toList.map (·.1) = l := by rw [mkG, List.toList_toArray, mkL_map]
theorem mkG_size (l : List GV) (g : goods l) : (mkG l g).size = l.length := by
  have := congrArg List.length (mkG_list l g)
  simpa using this
theorem chunk_rows : ∀ (l : List GV) (r : List PV), chunk 6 l.length ((GV.rows l).flatten ++ r) = GV.rows l
  | [], _ => rfl
  | v :: l, r => by
    simp only [List.length_cons, chunk, GV.rows, List.flatten_cons, List.append_assoc]
    rw [List.take_left' (cells_len v), List.drop_left' (cells_len v), chunk_rows l r]
theorem sortedG (l : List GV) (g : goods l) (h0 : l ≠ []) (hl : l.length ≤ 1000000) : Gives Tryz.prog 96 [GV.pvs l] (.agg (GV.mk 8 0 false [] ⟨#[]⟩ (setF l)).cells) := by
  intro m
  refine ACall.of_aw Tryz.func96 Tryz.ntmps96 rfl rfl (by simp) ?_
  refine tS ?_
  refine tS1 fun K Kp hK hKp => ?_; refine ACall.mono (cloneG l h0 hl _) ?_
  rintro _ _ ⟨rfl, rfl⟩
  refine hK _ _ ?_; clear hK hKp K Kp
  have hlen : (mkG l g).size = l.length := mkG_size l g
  obtain ⟨m1, hm1⟩ : ∃ m1, m1 = m.newLoc [vI 0, vI 0, vB false, .list .full [], .v (.string ⟨#[]⟩), .list .full []] := ⟨_, rfl⟩
  have H : Arr (m1.newLoc (GV.rows l).flatten) m1.nloc l.length (mkG l g) [] :=
    ⟨by simp, by rw [ar, mkG_list, List.append_nil]; simp, hlen, by omega⟩
  rw [← hm1]
  refine tS1 fun K Kp hK hKp => ?_; refine ACall.mono (deleteG H (fun _ _ => trivial) (Nat.le_refl _)) ?_
  rintro _ _ ⟨D, r2, hD, hr2, rfl, rfl⟩
  refine hK _ _ ?_; clear hK hKp K Kp
  have hDl : D.size ≤ l.length := by
    have := congrArg List.length hD
    have h2 := List.length_filter_le nzG (mkG l g).toList
    simp only [Array.length_toList] at this h2
    omega
  have H2 : Arr ((m1.newLoc (GV.rows l).flatten).setLoc m1.nloc (ar D r2)) m1.nloc D.size D r2 := ⟨by simp, by simp, rfl, by omega⟩
  refine tS ?_
  refine tS1 fun K Kp hK hKp => ?_; refine ACall.mono (sortG H2 hr2) ?_
  rintro _ _ ⟨R, hR1, hR2, rfl, rfl⟩
  refine hK _ _ ?_; clear hK hKp K Kp
  rw [setLoc_setLoc]
  have H3 : Arr ((m1.newLoc (GV.rows l).flatten).setLoc m1.nloc (ar R r2)) m1.nloc D.size R r2 := ⟨by simp, by simp, hR1.1, by omega⟩
  refine tS ?_
  refine tS1 fun K Kp hK hKp => ?_; refine ACall.mono (compactG H3 hr2 hDl) ?_
  rintro _ _ ⟨E, r3, hE, hr3, rfl, rfl⟩
  refine hK _ _ ?_; clear hK hKp K Kp
  rw [setLoc_setLoc]
  have hset := sorted_setF l g (mkG l g) D R (mkG_list l g) hD hR1 hR2
  rw [← hE] at hset
  refine tS1 fun K Kp hK hKp => ?_
  refine hK _ _ ?_; clear hK hKp K Kp
  refine AList.nil ?_
  refine AExit.norT ?_
  have hEl : E.size = (setF l).length := by
    have := congrArg List.length hset
    simpa using this
  have hEs : E.size ≤ l.length := by rw [hEl]; exact setF_len l
  have hsee := Sees.fz (m := (m1.newLoc (GV.rows l).flatten).setLoc m1.nloc (ar E r3)) (p := mar m1.nloc E.size l.length) (n := m1.nloc) (s := 6) (cs := ar E r3) (by simp) (by simp)
  have hch : PV.fz m1.nloc 6 (ar E r3) (mar m1.nloc E.size l.length) = GV.pvs (setF l) := by
    rw [PV.fz, if_pos ⟨rfl, hEs, by rw [ar_len]; omega⟩]
    have e1 : ((ar E r3).drop 0).take (E.size * 6) = (GV.rows (setF l)).flatten := by
      rw [List.drop_zero, ar, hset, hEl]
      exact List.take_left' (by rw [rows_flat_len])
    have e2 := chunk_rows (setF l) []
    rw [List.append_nil] at e2
    rw [e1, hEl, e2]
  rw [hch] at hsee
  refine AW.sees (d := 0) (p' := GV.pvs (setF l)) (m' := ((m1.newLoc (GV.rows l).flatten).setLoc m1.nloc (ar E r3)).dropLoc m1.nloc) (by simp only [upd_lit]; exact hsee) ?_
  subst hm1
  refine tS ?_
  refine Fin.givesC (p := .agg [vI 8, vI 0, vB false, .list .full [], vS ⟨#[]⟩, GV.pvs (setF l)]) rfl ?_ ?_ (by simp [GV.cells, limbs])
  · simp [upd_lit]; omega
  · refine Same.dropLoc ?_ (by simp) |>.setLoc (by simp) _
    refine Same.setLoc ?_ (by simp) _
    exact Same.auto
end Go.Proofs.YtgfadepkiejncaaGreat
namespace Go.Proofs.YtgfadepkiejncaaGreat
open Go.Ab Go.Sort
set_option maxHeartbeats 0
set_option maxRecDepth 100000
attribute [local irreducible] AW AList ACall DA AExit.then AExit.inBlock YCall DCall

/-! the empty list -/
theorem index0 : Gives Tryz.prog 148 [.list .no [], cloO] (vI (-1)) := by
  intro m
  refine ACall.of_aw Tryz.func148 Tryz.ntmps148 rfl rfl (by simp) ?_
  refine tS ?_
  refine AW.loop (ι := Nat) (fun _ σ m' => σ 8 = vI 0 ∧ σ 7 = vI 0 ∧ m' = m) (fun i => i) 0 ?_ ?_
  · exact ⟨by simp [upd_lit], by simp [upd_lit], rfl⟩
  rintro i σ m' ⟨t8, t7, rfl⟩
  have F := (aand @t8 @t7); refine tFa ?_; (try clear F)
  exact Fin.gives Same.auto
theorem delete0 : Gives Tryz.prog 140 [.list .no [], cloO] (.list .no []) := by
  intro m
  refine ACall.of_aw Tryz.func140 Tryz.ntmps140 rfl rfl (by simp) ?_
  refine tS ?_
  refine tS1 fun K Kp hK hKp => ?_; refine Gives.at (index0) ?_; apply hK; clear hK hKp K Kp
  refine tSa ?_
  exact Fin.gives Same.auto
theorem compact0 : Gives Tryz.prog 144 [.list .no [], cloE] (.list .no []) := by
  intro m
  refine ACall.of_aw Tryz.func144 Tryz.ntmps144 rfl rfl (by simp) ?_
  refine tSa ?_
  exact Fin.gives Same.auto
theorem insertion0 : Gives Tryz.prog 175 [.list .no [], vI 0, vI 0, cloC] (.tup []) := by
  intro m
  refine ACall.of_aw Tryz.func175 Tryz.ntmps175 rfl rfl (by simp) ?_
  refine tS ?_
  refine AW.loop (ι := Nat) (fun _ σ m' => σ 8 = vI 1 ∧ σ 2 = vI 0 ∧ m' = m) (fun i => i) 0 ?_ ?_
  · exact ⟨by simp [upd_lit], by simp [upd_lit], rfl⟩
  rintro i σ m' ⟨t8, t2, rfl⟩
  have F := (aand @t8 @t2); refine tFa ?_; (try clear F)
  exact Fin.here (r := .tup []) (by exact ⟨[], rfl, rfl⟩) (.inl rfl) ⟨rfl, rfl⟩
theorem pdq0 : Gives Tryz.prog 165 [.list .no [], vI 0, vI 0, vI 0, cloC] (.tup []) := by
  intro m
  refine ACall.of_aw Tryz.func165 Tryz.ntmps165 rfl rfl (by simp) ?_
  refine tS ?_
  refine AW.loop (ι := Nat) (fun _ σ m' => σ 0 = .list .no [] ∧ σ 1 = vI 0 ∧ σ 2 = vI 0 ∧ σ 4 = cloC ∧ m' = m) (fun i => i) 0 ?_ ?_
  · exact ⟨by simp [upd_lit], by simp [upd_lit], by simp [upd_lit], by simp [upd_lit], rfl⟩
  rintro i σ m' ⟨t0, t1, t2, t4, rfl⟩
  have F := (aand @t0 (aand @t1 (aand @t2 @t4))); refine tFa ?_; (try clear F)
  refine tS1 fun K Kp hK hKp => ?_; refine Gives.at (insertion0) ?_; apply hK; clear hK hKp K Kp
  refine tSa ?_
  exact Fin.here (r := .tup []) (by exact ⟨[], rfl, rfl⟩) (.inr rfl) ⟨rfl, rfl⟩
theorem sort0 : Gives Tryz.prog 143 [.list .no [], cloC] (.tup []) := by
  intro m
  refine ACall.of_aw Tryz.func143 Tryz.ntmps143 rfl rfl (by simp) ?_
  have hb : ((bitsLen 0 : Nat) : Int) = 0 := rfl
  refine tS ?_
  refine tS1 fun K Kp hK hKp => ?_; refine Gives.at (bitsLenG 0 (by omega)) ?_; apply hK; clear hK hKp K Kp
  have F := @hb; refine tF ?_; (try clear F)
  refine tS1 fun K Kp hK hKp => ?_; refine Gives.at (pdq0) ?_; apply hK; clear hK hKp K Kp
  refine tS ?_
  exact Fin.here (r := .tup []) (by exact ⟨[], rfl, rfl⟩) (.inl rfl) ⟨rfl, rfl⟩
theorem clone0 : Gives Tryz.prog 141 [.list .no []] (.list .no []) := by
  intro m
  refine ACall.of_aw Tryz.func141 Tryz.ntmps141 rfl rfl (by simp) ?_
  refine tS ?_
  refine AList.op (by decide) ?_; intro K Kp hK hKp; simp [upd_lit]
  refine ⟨?_, ?_⟩
  · apply hK; clear hK hKp K Kp
    refine tSa ?_
    refine AList.op (by decide) ?_; intro K Kp hK hKp; simp [upd_lit]
    refine app25 (l := []) (l' := []) (m0 := m) (.full (Same.refl m)) rfl (by simp) fun o' m'' ho' _ => hK _ _ ?_; clear hK hKp K Kp
    refine tS ?_
    exact Fin.ret rfl ho'.1 (by simp [upd_lit]; rfl) (by simp) ⟨rfl, rfl⟩
  · apply hK; clear hK hKp K Kp
    refine tS ?_
    refine AW.cond (t := true) (by simp [upd_lit]) (fun _ => ?_) (fun h => by cases h)
    refine tSn ?_
    refine AW.nilS (d := 2) (by simp [upd_lit]) ?_
    refine tS ?_
    exact Fin.ret rfl (Same.refl m) (by simp [upd_lit]) (by simp) ⟨rfl, rfl⟩
theorem sorted0 : Gives Tryz.prog 96 [GV.pvs []] (.agg (GV.mk 8 0 false [] ⟨#[]⟩ (setF [])).cells) := by
  intro m
  have e : setF [] = [] := List.length_eq_zero_iff.1 (Nat.le_zero.1 (setF_len []))
  rw [e]
  refine ACall.of_aw Tryz.func96 Tryz.ntmps96 rfl rfl (by simp) ?_
  refine tS ?_
  refine tS1 fun K Kp hK hKp => ?_; refine Gives.at (clone0) ?_; apply hK; clear hK hKp K Kp
  refine tS ?_
  refine tS1 fun K Kp hK hKp => ?_; refine Gives.at (delete0) ?_; apply hK; clear hK hKp K Kp
  refine tS ?_
  refine tS1 fun K Kp hK hKp => ?_; refine Gives.at (sort0) ?_; apply hK; clear hK hKp K Kp
  refine tS ?_
  refine tS1 fun K Kp hK hKp => ?_; refine Gives.at (compact0) ?_; apply hK; clear hK hKp K Kp
  refine tS ?_
  refine Fin.givesC (p := .agg [vI 8, vI 0, vB false, .list .full [], vS ⟨#[]⟩, .list .no []]) rfl (by simp [upd_lit]) Same.auto (by rfl)
end Go.Proofs.YtgfadepkiejncaaGreat
namespace Go.Ab
theorem AW.frzL {P : Program} {N : Nat} {Q : APost} {σ : Nat → PV} {m : St} {c : Code} {n d : Nat} {cs : List PV} (hn : n < m.nloc) (hc : m.loc n = some cs) (hd : σ d = .loc n 0) (h : AW P N c Q (upd σ d (.ro cs)) (m.dropLoc n)) : AW P N c Q σ m :=
  AW.frz hn hc (by rw [hd]; simpa [PV.frz] using h)
end Go.Ab
namespace Go.Proofs.YtgfadepkiejncaaGreat
open Go.Ab
set_option maxHeartbeats 0
set_option maxRecDepth 100000
attribute [local irreducible] AW AList ACall DA AExit.then AExit.inBlock YCall DCall

/-! ref.Joined, Union, Common, Minus, With, Less, Within -/
theorem ref_joined (a b : GV) (ga : good a) (gb : good b) (la : a.els.length < 100000000000) (lb : b.els.length < 100000000000) : Gives Tryz.prog 124 [a.pv, b.pv] (setV (setF (a.els ++ b.els))).pv := by
  have hc := ref_makeSet (a.els ++ b.els) (fun x hx => (List.mem_append.1 hx).elim (ga.els x) (gb.els x)) (by simp; omega)
  intro m
  refine ACall.of_aw Tryz.func124 Tryz.ntmps124 rfl rfl (by simp) ?_
  refine tS ?_
  refine AW.frzL (n := m.nloc + 1) (d := 3) (cs := b.cells) (by simp) (by simp) (by simp [upd_lit]) ?_
  refine AW.frzL (n := m.nloc) (d := 2) (cs := a.cells) (by simp; omega) (by simp; intro h; omega) (by simp [upd_lit]) ?_
  generalize hmm : ((((m.newLoc a.cells).newLoc b.cells).newLoc [vI 0, vI 0, vB false, PV.list Own.full [], vS ⟨#[]⟩, PV.list Own.full []]).dropLoc (m.nloc + 1)).dropLoc m.nloc = mm
  have sm : Same m mm := by rw [← hmm]; exact (((Same.refl m).newLoc _ |>.newLoc _ |>.newLoc _).dropLoc (by omega)).dropLoc (Nat.le_refl _)
  have g2 : mm.loc (m.nloc + 2) = some [vI 0, vI 0, vB false, PV.list Own.full [], vS ⟨#[]⟩, PV.list Own.full []] := by rw [← hmm]; simp
  have n2 : m.nloc + 2 < mm.nloc := by rw [← hmm]; simp
  clear hmm
  repeat (first | refine AW.seq ?_ | refine AW.block ?_ | refine AW.skip ?_ | refine AExit.norT ?_ | refine AExit.norB ?_ | refine AList.nil ?_)
  refine AW.draw [.S, .S, .S, .W, .S, .S, .W, .R, .W] (by decide +kernel) ?_; have F := True.intro; refine dST 0 ?_; refine dST 1 ?_; refine dST 2 ?_; refine dST 4 ?_; refine dST 5 ?_; (try clear F); refine DA.W (oi := ?oiw1) 3 ?aw1 ?bw1 ?cw1 ?dw1 ?ew1 ?fw1; (case aw1 => rfl); (case bw1 => decide +kernel); (case cw1 => rfl); (case dw1 => rfl); (case ew1 => decide); intro K Kp hK hKp; (simp [upd_lit]; refine app25 (m0 := m) (l := []) (l' := a.els) (.full sm) rfl (by simp; omega) fun o1 m1 ho1 hs1 => hK _ _ ?_; clear hK hKp K Kp); have F := True.intro; (try clear F); refine DA.W (oi := ?oiw2) 6 ?aw2 ?bw2 ?cw2 ?dw2 ?ew2 ?fw2; (case aw2 => rfl); (case bw2 => decide +kernel); (case cw2 => rfl); (case dw2 => rfl); (case ew2 => decide); intro K Kp hK hKp; (simp [upd_lit]; refine app25 (m0 := m) (l := a.els) (l' := b.els) (n := a.els.length) (by simpa using ho1) rfl (by omega) fun o2 m2 ho2 hs2 => hK _ _ ?_; clear hK hKp K Kp); have F := True.intro; refine dCT ((hc)) 7 ?_; (try clear F)
  have g2' : m2.loc (m.nloc + 2) = some [vI 0, vI 0, vB false, PV.list Own.full [], vS ⟨#[]⟩, PV.list Own.full []] := by rw [hs2.loc, hs1.loc]; exact g2
  have n2' : m.nloc + 2 < m2.nloc := by rw [hs2.nloc, hs1.nloc]; exact n2
  skip; have F := (aand @g2' @n2'); refine dW 8 ?_; (try clear F); first | refine dN ?_ | refine dB ?_ | refine DA.done (by decide +kernel) ?_
  refine tS ?_
  exact Fin.givesC (p := (setV (setF (a.els ++ b.els))).pv) rfl (by simp [upd_lit, n2']) (ho2.1.setLoc (by omega) _)
/-! nodes of what is made -/
theorem nodesL_append (a b : List GV) : nodesL (a ++ b) = nodesL a + nodesL b := by
  induction a with
  | nil => simp [nodesL]
  | cons v a ih => simp [nodesL, ih]; omega
/-- What the sizes of nodes are. -/
def smallV (v : GV) : Prop := ∀ x ∈ walkV v, x.abs.length ≤ 1099511627776
theorem good_small {v : GV} (h : good v) : smallV v := fun x hx => by
  have := (walk_fmd v h.1 x hx).node.2.2.1
  omega
theorem walkL_mem_iff (x : GV) : ∀ l : List GV, x ∈ walkL l ↔ ∃ y ∈ l, x ∈ walkV y
  | [] => by simp [walkL]
  | v :: l => by simp [walkL, walkL_mem_iff x l]
theorem small_list {k : Int} {l : List GV} (g : goods l) : smallV (.mk k 0 false [] ⟨#[]⟩ l) := fun x hx => by
  rw [walkV, List.mem_cons] at hx
  rcases hx with rfl | hx
  · simp [GV.abs]
  · obtain ⟨y, hy, h⟩ := (walkL_mem_iff x l).1 hx
    exact good_small (g y hy) x h
theorem Inc_nodup {l : List GV} (h : Inc l) : l.Nodup := by
  refine List.Pairwise.imp (fun {a b} hab e => ?_) h
  subst e; exact cmp_irr a hab
theorem nodesL_sub {l s : List GV} (h : s.Nodup) (hs : ∀ x ∈ s, x ∈ l) : nodesL s ≤ nodesL l := by
  induction s generalizing l with
  | nil => simp [nodesL]
  | cons x s ih =>
    obtain ⟨h1, h2⟩ := List.nodup_cons.1 h
    obtain ⟨p, q, e⟩ := List.append_of_mem (hs x (by simp))
    have := ih (l := p ++ q) h2 (fun y hy => by
      have h3 := hs y (by simp [hy])
      rw [e] at h3
      rcases List.mem_append.1 h3 with h4 | h4
      · simp [h4]
      · rcases List.mem_cons.1 h4 with h5 | h5
        · subst h5; exact absurd hy h1
        · simp [h5])
    rw [e, nodesL_append]
    rw [nodesL_append] at this
    simp only [nodesL]
    omega
theorem ref_union (a b : GV) (ga : good a) (gb : good b) (la : nodes a < 100000000000) (lb : nodes b < 100000000000) :
    Gives Tryz.prog 74 [a.pv, b.pv] (if a.kind = 8 ∧ b.kind = 8 then made (fitV (setV (setF (a.els ++ b.els)))) (fitE (setV (setF (a.els ++ b.els)))) else made omV 7) := by
  have ea := nodes_eq a
  have eb := nodes_eq b
  have na := nodesL_len a.els
  have nb := nodesL_len b.els
  have gab : goods (a.els ++ b.els) := fun x hx => (List.mem_append.1 hx).elim (ga.els x) (gb.els x)
  obtain ⟨s1, s2, s3⟩ := setF_spec _ gab
  have hn : nodesL (setF (a.els ++ b.els)) ≤ nodesL (a.els ++ b.els) := nodesL_sub (Inc_nodup s1) fun x hx => ((s3 x).1 hx).1
  rw [nodesL_append] at hn
  have en : nodes (setV (setF (a.els ++ b.els))) = 1 + nodesL (setF (a.els ++ b.els)) := nodes_eq _
  intro m
  refine ACall.of_aw Tryz.func74 Tryz.ntmps74 rfl rfl (by simp) ?_
  refine tS ?_
  refine tS1 fun K Kp hK hKp => ?_; refine Gives.at (ref_sets a b) ?_; apply hK; clear hK hKp K Kp
  by_cases h : a.kind = 8 ∧ b.kind = 8
  · obtain ⟨h1, h2⟩ := h
    rw [if_pos ⟨h1, h2⟩]
    have F := (aand @h1 @h2); refine tFa ?_; (try clear F)
    refine tS1 fun K Kp hK hKp => ?_; refine Gives.at (ref_joined a b ga gb (by omega) (by omega)) ?_; apply hK; clear hK hKp K Kp
    refine tS ?_
    refine tS1 fun K Kp hK hKp => ?_; refine Gives.at (ref_fitting (setV (setF (a.els ++ b.els))) (by omega) (small_list s2)) ?_; apply hK; clear hK hKp K Kp
    refine tS ?_
    exact Fin.givesC (p := made (fitV (setV (setF (a.els ++ b.els)))) (fitE (setV (setF (a.els ++ b.els))))) rfl (by simp [upd_lit]) Same.auto
  · rw [if_neg h]
    have h' : (decide (a.kind = 8) && decide (b.kind = 8)) = false := by
      rw [Bool.eq_false_iff]; intro q; simp at q; exact h q
    rw [h']
    refine tSa ?_
    refine tS1 fun K Kp hK hKp => ?_; refine Gives.at (ref_bad 7) ?_; apply hK; clear hK hKp K Kp
    refine tS ?_
    exact Fin.givesC (p := made omV 7) rfl (by simp [upd_lit]) Same.auto (by rfl)
theorem filt_nodes (f : GV → Bool) (l : List GV) : nodesL (l.filter f) ≤ nodesL l := by
  induction l with
  | nil => simp [nodesL]
  | cons v l ih => rw [List.filter_cons]; split <;> simp [nodesL] <;> omega
theorem filt_goods {f : GV → Bool} {l : List GV} (g : goods l) : goods (l.filter f) := fun x hx => g x (List.mem_filter.1 hx).1
abbrev keptF (a b : GV) (has : Bool) : GV := setV (keptL a.els b has)
theorem kept_ok (a b : GV) (has : Bool) (ga : good a) : nodes (keptF a b has) ≤ nodes a ∧ smallV (keptF a b has) := by
  have h := filt_nodes (fun x => isF b.els x == has) a.els
  have ea := nodes_eq a
  have en : nodes (keptF a b has) = 1 + nodesL (a.els.filter fun x => isF b.els x == has) := nodes_eq _
  exact ⟨by omega, small_list (filt_goods ga.els)⟩
theorem ref_common (a b : GV) (ga : good a) (gb : good b) (la : nodes a < 100000000000) :
    Gives Tryz.prog 75 [a.pv, b.pv] (if a.kind = 8 ∧ b.kind = 8 then made (fitV (keptF a b true)) (fitE (keptF a b true)) else made omV 7) := by
  have ea := nodes_eq a
  have na := nodesL_len a.els
  obtain ⟨k1, k2⟩ := kept_ok a b true ga
  intro m
  refine ACall.of_aw Tryz.func75 Tryz.ntmps75 rfl rfl (by simp) ?_
  refine tS ?_
  refine tS1 fun K Kp hK hKp => ?_; refine Gives.at (ref_sets a b) ?_; apply hK; clear hK hKp K Kp
  by_cases h : a.kind = 8 ∧ b.kind = 8
  · obtain ⟨h1, h2⟩ := h
    rw [if_pos ⟨h1, h2⟩]
    have F := (aand @h1 @h2); refine tFa ?_; (try clear F)
    refine tS1 fun K Kp hK hKp => ?_; refine Gives.at (ref_kept a.els b true ga.els gb h2 (by omega)) ?_; apply hK; clear hK hKp K Kp
    refine tS ?_
    refine tS1 fun K Kp hK hKp => ?_; refine Gives.at (ref_fitting (keptF a b true) (by omega) k2) ?_; apply hK; clear hK hKp K Kp
    refine tS ?_
    exact Fin.givesC (p := made (fitV (keptF a b true)) (fitE (keptF a b true))) rfl (by simp [upd_lit]) Same.auto
  · rw [if_neg h]
    have h' : (decide (a.kind = 8) && decide (b.kind = 8)) = false := by
      rw [Bool.eq_false_iff]; intro q; simp at q; exact h q
    rw [h']
    refine tSa ?_
    refine tS1 fun K Kp hK hKp => ?_; refine Gives.at (ref_bad 7) ?_; apply hK; clear hK hKp K Kp
    refine tS ?_
    exact Fin.givesC (p := made omV 7) rfl (by simp [upd_lit]) Same.auto (by rfl)
theorem ref_minus (a b : GV) (ga : good a) (gb : good b) (la : nodes a < 100000000000) :
    Gives Tryz.prog 76 [a.pv, b.pv] (if a.kind = 8 ∧ b.kind = 8 then made (fitV (keptF a b false)) (fitE (keptF a b false)) else made omV 7) := by
  have ea := nodes_eq a
  have na := nodesL_len a.els
  obtain ⟨k1, k2⟩ := kept_ok a b false ga
  intro m
  refine ACall.of_aw Tryz.func76 Tryz.ntmps76 rfl rfl (by simp) ?_
  refine tS ?_
  refine tS1 fun K Kp hK hKp => ?_; refine Gives.at (ref_sets a b) ?_; apply hK; clear hK hKp K Kp
  by_cases h : a.kind = 8 ∧ b.kind = 8
  · obtain ⟨h1, h2⟩ := h
    rw [if_pos ⟨h1, h2⟩]
    have F := (aand @h1 @h2); refine tFa ?_; (try clear F)
    refine tS1 fun K Kp hK hKp => ?_; refine Gives.at (ref_kept a.els b false ga.els gb h2 (by omega)) ?_; apply hK; clear hK hKp K Kp
    refine tS ?_
    refine tS1 fun K Kp hK hKp => ?_; refine Gives.at (ref_fitting (keptF a b false) (by omega) k2) ?_; apply hK; clear hK hKp K Kp
    refine tS ?_
    exact Fin.givesC (p := made (fitV (keptF a b false)) (fitE (keptF a b false))) rfl (by simp [upd_lit]) Same.auto
  · rw [if_neg h]
    have h' : (decide (a.kind = 8) && decide (b.kind = 8)) = false := by
      rw [Bool.eq_false_iff]; intro q; simp at q; exact h q
    rw [h']
    refine tSa ?_
    refine tS1 fun K Kp hK hKp => ?_; refine Gives.at (ref_bad 7) ?_; apply hK; clear hK hKp K Kp
    refine tS ?_
    exact Fin.givesC (p := made omV 7) rfl (by simp [upd_lit]) Same.auto (by rfl)
/-! With, Less, Within -/
theorem one_good {x : GV} (h : good x) (h0 : x.kind ≠ 0) : good (setV [x]) := by
  refine ⟨?_, ?_⟩
  · rw [fmd_eq]
    exact ⟨⟨by kernel_rfl, by kernel_rfl, by simp [GV.abs], by show (0 : Nat) ≤ 1000; omega⟩, fun _ => ⟨fun y hy => (by simp [GV.els] at hy; rw [hy]; exact h0), trivial⟩, ⟨h.1, trivial⟩⟩
  · exact ⟨by omega, by omega, by decide, by show (0 : Nat) < _; omega, by simp, fun x hx => (by cases hx), ⟨h.2, trivial⟩⟩
end Go.Proofs.YtgfadepkiejncaaGreat
namespace Go.Proofs.YtgfadepkiejncaaGreat
open Go.Ab
set_option maxHeartbeats 0
set_option maxRecDepth 100000
attribute [local irreducible] AW AList ACall DA AExit.then AExit.inBlock YCall DCall

/-! ref.With, ref.Less, ref.Within -/
theorem ref_with (s x : GV) (gs : good s) (gx : good x) (hx : x.kind ≠ 0) (ls : nodes s < 100000000) (lx : nodes x < 100000000) :
    Gives Tryz.prog 72 [s.pv, x.pv] (if s.kind = 8 then made (fitV (setV (setF (s.els ++ [x])))) (fitE (setV (setF (s.els ++ [x])))) else made omV 7) := by
  have hu := ref_union s (setV [x]) gs (one_good gx hx) (by omega) (by simp [nodes, nodesL]; omega)
  intro m
  refine ACall.of_aw Tryz.func72 Tryz.ntmps72 rfl rfl (by simp) ?_
  by_cases h : s.kind = 8
  · rw [if_pos ⟨h, rfl⟩, show (setV [x]).els = [x] from rfl] at hu
    rw [if_pos h]
    have F := @h; refine tFa ?_; (try clear F)
    refine AW.draw [.R, .R, .R, .R, .W] (by decide +kernel) ?_; have F := True.intro; refine dRT 0 ?_; refine dRT 1 ?_; refine dCT ((ref_one x)) 2 ?_; refine dCT ((hu)) 3 ?_; refine dW 4 ?_; (try clear F); first | refine dN ?_ | refine dB ?_ | refine DA.done (by decide +kernel) ?_
    simp only [put]
    refine tS ?_
    exact Fin.givesC (p := made (fitV (setV (setF (s.els ++ [x])))) (fitE (setV (setF (s.els ++ [x]))))) rfl (by simp [upd_lit]) Same.auto
  · rw [if_neg h]
    have F := @h; refine tFa ?_; (try clear F)
    refine tS1 fun K Kp hK hKp => ?_; refine Gives.at (ref_bad 7) ?_; apply hK; clear hK hKp K Kp
    refine tS ?_
    exact Fin.givesC (p := made omV 7) rfl (by simp [upd_lit]) Same.auto (by rfl)
theorem ref_less (s x : GV) (gs : good s) (gx : good x) (hx : x.kind ≠ 0) (ls : nodes s < 100000000) :
    Gives Tryz.prog 73 [s.pv, x.pv] (if s.kind = 8 then made (fitV (keptF s (setV [x]) false)) (fitE (keptF s (setV [x]) false)) else made omV 7) := by
  have hu := ref_minus s (setV [x]) gs (one_good gx hx) (by omega)
  intro m
  refine ACall.of_aw Tryz.func73 Tryz.ntmps73 rfl rfl (by simp) ?_
  by_cases h : s.kind = 8
  · rw [if_pos ⟨h, rfl⟩] at hu
    rw [if_pos h]
    have F := @h; refine tFa ?_; (try clear F)
    refine AW.draw [.R, .R, .R, .R, .W] (by decide +kernel) ?_; have F := True.intro; refine dRT 0 ?_; refine dRT 1 ?_; refine dCT ((ref_one x)) 2 ?_; refine dCT ((hu)) 3 ?_; refine dW 4 ?_; (try clear F); first | refine dN ?_ | refine dB ?_ | refine DA.done (by decide +kernel) ?_
    simp only [put]
    refine tS ?_
    exact Fin.givesC (p := made (fitV (keptF s (setV [x]) false)) (fitE (keptF s (setV [x]) false))) rfl (by simp [upd_lit]) Same.auto
  · rw [if_neg h]
    have F := @h; refine tFa ?_; (try clear F)
    refine tS1 fun K Kp hK hKp => ?_; refine Gives.at (ref_bad 7) ?_; apply hK; clear hK hKp K Kp
    refine tS ?_
    exact Fin.givesC (p := made omV 7) rfl (by simp [upd_lit]) Same.auto (by rfl)
abbrev ansP (b : Bool) (e : Int) : PV := .agg [vB b, vE e]
theorem ref_within (a b : GV) (ga : good a) (gb : good b) (la : nodes a < 100000000) : Gives Tryz.prog 71 [a.pv, b.pv] (if a.kind = 8 ∧ b.kind = 8 then ansP (decide (keptL a.els b false = [])) 0 else ansP false 7) := by
  have ea := nodes_eq a
  have na := nodesL_len a.els
  intro m
  refine ACall.of_aw Tryz.func71 Tryz.ntmps71 rfl rfl (by simp) ?_
  refine tS ?_
  refine tS1 fun K Kp hK hKp => ?_; refine Gives.at (ref_sets a b) ?_; apply hK; clear hK hKp K Kp
  by_cases h : a.kind = 8 ∧ b.kind = 8
  · obtain ⟨h1, h2⟩ := h
    rw [if_pos ⟨h1, h2⟩]
    have F := (aand @h1 @h2); refine tFa ?_; (try clear F)
    refine tS1 fun K Kp hK hKp => ?_; refine Gives.at (ref_kept a.els b false ga.els gb h2 (by omega)) ?_; apply hK; clear hK hKp K Kp
    refine tS ?_
    exact Fin.givesC (p := ansP (decide (keptL a.els b false = [])) 0) rfl (by simp [upd_lit]) Same.auto
  · rw [if_neg h]
    have h' : (decide (a.kind = 8) && decide (b.kind = 8)) = false := by
      rw [Bool.eq_false_iff]; intro q; simp at q; exact h q
    rw [h']
    refine tSa ?_
    exact Fin.givesC (p := ansP false 7) rfl (by simp [upd_lit]) Same.auto
/-! val.sized -/
theorem fitB_not (v : GV) : (!fitB v) = (decide (3000 < (nodes v : Int)) || decide (20 < (deep v : Int))) := by
  unfold fitB
  by_cases h1 : (nodes v : Int) ≤ 3000 <;> by_cases h2 : (deep v : Int) ≤ 20 <;> simp [h1, h2] <;> omega
theorem val_sized (v : GV) (hv : nodes v < 1099511627776) (hs : smallV v) : Gives Tryz.prog 95 [v.pv] (.tup [(fitV v).pv, vE (fitE v)]) := by
  intro m
  refine ACall.of_aw Tryz.func95 Tryz.ntmps95 rfl rfl (by simp) ?_
  refine tS ?_
  refine tS1 fun K Kp hK hKp => ?_; refine Gives.at (val_nodes v (by omega)) ?_; apply hK; clear hK hKp K Kp
  have hb := fitB_not v
  by_cases h1 : 3000 < (nodes v : Int)
  · have hf : fitB v = false := by have : (!fitB v) = true := by rw [hb]; simp [h1]
                                   simpa using this
    have e1 : fitV v = omV := by simp [fitV, hf]
    have e2 : fitE v = 3 := by simp [fitE, hf]
    rw [e1, e2]
    have F := @h1; refine tFa ?_; (try clear F)
    refine Fin.ret (p := .tup [.agg [vI 0, vI 0, vB false, .list .full [], vS ⟨#[]⟩, .list .full []], vE 3]) ?_ Same.auto (by rfl) (by simp) ⟨rfl, rfl⟩
    simp [ResP, ResL, resV, upd_lit, show Tryz.f95.results.toList = [.cell 2 27, .tmp 3] from rfl]
  have F := @h1; refine tFg ?_; (try clear F)
  have F := @h1; refine tFc (val_deep v (by omega)) ?_; (try clear F)
  by_cases h2 : 20 < (deep v : Int)
  · have hf : fitB v = false := by have : (!fitB v) = true := by rw [hb]; simp [h2]
                                   simpa using this
    have e1 : fitV v = omV := by simp [fitV, hf]
    have e2 : fitE v = 3 := by simp [fitE, hf]
    rw [e1, e2]
    have F := (aand @h1 @h2); refine tFa ?_; (try clear F)
    refine Fin.ret (p := .tup [.agg [vI 0, vI 0, vB false, .list .full [], vS ⟨#[]⟩, .list .full []], vE 3]) ?_ Same.auto (by rfl) (by simp) ⟨rfl, rfl⟩
    simp [ResP, ResL, resV, upd_lit, show Tryz.f95.results.toList = [.cell 2 27, .tmp 3] from rfl]
  · have hf : fitB v = true := by have : (!fitB v) = false := by rw [hb]; simp [h1, h2]
                                  simpa using this
    have e1 : fitV v = v := by simp [fitV, hf]
    have e2 : fitE v = 0 := by simp [fitE, hf]
    rw [e1, e2]
    have F := (aand @h1 @h2); refine tFa ?_; (try clear F)
    refine tS1 fun K Kp hK hKp => ?_; refine Gives.at (val_copy v hv hs) ?_; apply hK; clear hK hKp K Kp
    refine tS ?_
    refine Fin.ret (p := .tup [v.pv, vE 0]) ?_ Same.auto (by simp) (by simp) ⟨rfl, rfl⟩
    simp [ResP, ResL, resV, upd_lit, show Tryz.f95.results.toList = [.cell 2 27, .tmp 3] from rfl]
end Go.Proofs.YtgfadepkiejncaaGreat
namespace Go.Ab
theorem AW.cuts5 {P : Program} {N : Nat} {I : (Nat → PV) → St → Prop} {Q : APost} {σ : Nat → PV} {m : St} {c1 c2 c3 c4 c5 R : Code} (h2 : ∀ σ m, I σ m → AW P N R Q σ m) (h : AWs P N I Q [c1, c2, c3, c4, c5] σ m) :
    AW P N (.seq c1 (.seq c2 (.seq c3 (.seq c4 (.seq c5 R))))) Q σ m := AW.cuts R h2 [c1, c2, c3, c4, c5] σ m h
end Go.Ab
namespace Go.Proofs.YtgfadepkiejncaaGreat
open Go.Ab
set_option maxHeartbeats 0
set_option maxRecDepth 100000
attribute [local irreducible] AW AList ACall DA AExit.then AExit.inBlock YCall DCall

/-! val.merged -/
theorem slice1 (x : GV) (l : List GV) (m : St) (K : PV → St → Prop) : aslice Tryz.prog 25 (GV.pvs (x :: l)) (some (vI 1)) none none m K ↔ K (GV.pvs l) m := by
  simp [aslice, abnd, GV.rows]
  rw [List.take_of_length_le (by simp)]
  constructor
  · rintro ⟨_, _, h⟩; exact h
  · intro h; exact ⟨by have := rows_w (x :: l); simpa [GV.rows] using this, by omega, h⟩
theorem set0_cells (x y : GV) : setL x.cells 0 y.cells = y.cells := by
  rw [setL_eq _ _ _ (by rw [cells_len, cells_len]; omega), List.drop_of_length_le (by rw [cells_len, cells_len]; omega)]
  simp
theorem rows_head (x : GV) (l : List GV) : rowI (GV.rows (x :: l)) 0 = x.cells := rows_getD (x :: l) 0 (by simp)
theorem mrg_len (st : Bool → Bool → Bool) : ∀ a b, (mrg st a b).length ≤ a.length + b.length := by
  intro a b
  fun_induction mrg st a b with
  | case1 => simp
  | case2 y b ih => simp at ih ⊢; have : (one (st false true) y).length ≤ 1 := by cases st false true <;> simp [one]
                    omega
  | case3 x a ih => simp at ih ⊢; have : (one (st true false) x).length ≤ 1 := by cases st true false <;> simp [one]
                    omega
  | case4 x a y b h ih => simp at ih ⊢; have : (one (st true false) x).length ≤ 1 := by cases st true false <;> simp [one]
                          omega
  | case5 x a y b h h2 ih => simp at ih ⊢; have : (one (st false true) y).length ≤ 1 := by cases st false true <;> simp [one]
                             omega
  | case6 x a y b h h2 ih => simp at ih ⊢; have : (one (st true true) y).length ≤ 1 := by cases st true true <;> simp [one]
                             omega
theorem val_merged (st : Bool → Bool → Bool) (f : FuncId) (hf : ∀ p q : Bool, Gives Tryz.prog f [vB p, vB q] (vB (st p q))) (a b : List GV) (ga : goods a) (gb : goods b) (la : a.length < 100000000000) (lb : b.length < 100000000000) :
    Gives Tryz.prog 151 [GV.pvs a, GV.pvs b, .clo 22 [] [], .clo f [] []] (GV.pvs (mrg st a b)) := by
  have hM := mrg_len st a b
  generalize hMe : mrg st a b = M at hM ⊢
  intro m
  refine ACall.of_aw Tryz.func151 Tryz.ntmps151 rfl rfl (by simp) ?_
  refine tSn ?_
  refine AW.nilS (d := 9) (by simp [upd_lit]) ?_
  refine AW.loop (ι := List GV × List GV) (fun p σ m' => σ 0 = GV.pvs p.1 ∧ σ 1 = GV.pvs p.2 ∧ σ 2 = .clo 22 [] [] ∧ σ 3 = .clo f [] [] ∧ goods p.1 ∧ goods p.2 ∧ p.1.length < 100000000000 ∧ p.2.length < 100000000000 ∧ (∃ out o, σ 9 = .list o (GV.rows out) ∧ Ow m m' o 6 out.length ∧ out ++ mrg st p.1 p.2 = M)) (fun p => p.1.length + p.2.length) (a, b) ?_ ?_
  · exact ⟨by simp [upd_lit], by simp [upd_lit], by simp [upd_lit], by simp [upd_lit], ga, gb, la, lb, [], .full, by simp [upd_lit, GV.rows], .full (Same.refl _), by simpa using hMe⟩
  clear ga gb hMe
  rintro ⟨a1, b1⟩ σ m' ⟨h0, h1, h2, h3, ga, gb, la1, lb1, out, o, h9, ho, hF⟩
  simp only at h0 h1 ga gb la1 lb1 hF ⊢
  have hout : out.length ≤ M.length := by rw [← hF]; simp
  -- at the end
  by_cases hend : a1 = [] ∧ b1 = []
  · obtain ⟨rfl, rfl⟩ := hend
    have F := (aand @h0 @h1); refine tFa ?_; (try clear F)
    have F := @h9; refine tF ?_; (try clear F)
    rw [mrg, List.append_nil] at hF
    rw [← hF]
    exact Fin.gives ho.1 rfl (by simp [upd_lit, PV.strip, h9])
  have hpos : 0 < (a1.length : Int) + b1.length := by
    cases a1 with
    | nil => cases b1 with
      | nil => exact absurd ⟨rfl, rfl⟩ hend
      | cons y t => simp
    | cons x t => simp; omega
  have F := (aand @h0 @h1); refine tF ?_; (try clear F)
  refine AW.condT (by simp [upd_lit, hpos]) ?_
  refine AW.skip ?_
  refine AExit.norT ?_
  refine AW.block ?_
  refine AW.cuts5 (I := fun σ' m'' => ∃ (c : Int) (z : GV) (a2 b2 : List GV) (k : Nat), σ' 10 = vI c ∧ σ' 11 = .loc k 0 ∧ k < m''.nloc ∧ m''.loc k = some z.cells ∧ σ' 0 = GV.pvs a2 ∧ σ' 1 = GV.pvs b2 ∧ σ' 2 = .clo 22 [] [] ∧ σ' 3 = .clo f [] [] ∧ goods a2 ∧ goods b2 ∧ a2.length < 100000000000 ∧ b2.length < 100000000000 ∧
    a2.length + b2.length < a1.length + b1.length ∧ σ' 9 = .list o (GV.rows out) ∧ Ow m m'' o 6 out.length ∧ out ++ (one (st (decide (c ≤ 0)) (decide (0 ≤ c))) z ++ mrg st a2 b2) = M) ?_ ?_
  · rintro τ m2 ⟨c, z, a2, b2, k, t10, t11, hk, hkc, t0, t1, t2, t3, ga2, gb2, la2, lb2, hdec, t9, ho2, hF2⟩
    have F := (aand @t10 @t3); refine tF ?_; (try clear F)
    have F := @t3; refine tF1 fun K Kp hK hKp => ?_; (try clear F); refine Gives.at (hf (decide (c ≤ 0)) (decide (0 ≤ c))) ?_; apply hK; clear hK hKp K Kp
    refine tS ?_
    cases hst : st (decide (c ≤ 0)) (decide (0 ≤ c)) with
    | false =>
      rw [hst] at hF2
      refine tSa ?_
      exact ⟨(a2, b2), ⟨by simp [upd_lit, t0], by simp [upd_lit, t1], by simp [upd_lit, t2], by simp [upd_lit, t3], ga2, gb2, la2, lb2, out, o, by simp [upd_lit, t9], ho2, by simpa [one] using hF2⟩, by simpa using hdec⟩
    | true =>
      rw [hst] at hF2
      refine tSa ?_
      have F := (aand @t9 (aand @t11 (aand @hk @hkc))); refine tF ?_; (try clear F)
      refine AList.op (by decide) ?_; intro K Kp hK hKp; simp [t9, upd_lit]
      refine app25 (l' := [z]) ho2 rfl (by simp; omega) fun o' m'' ho' hs' => hK _ _ ?_; clear hK hKp K Kp
      refine tS ?_
      exact ⟨(a2, b2), ⟨by simp [upd_lit, t0], by simp [upd_lit, t1], by simp [upd_lit, t2], by simp [upd_lit, t3], ga2, gb2, la2, lb2, out ++ [z], o', by simp [upd_lit], by simpa using ho', by simpa [one] using hF2⟩, by simpa using hdec⟩
  · simp only [AWs]
    cases a1 with
    | nil =>
      cases b1 with
      | nil => exact absurd ⟨rfl, rfl⟩ hend
      | cons y b2 =>
        rw [mrg] at hF
        have F := (aand @h0 @h1); refine tFa ?_; (try clear F)
        repeat (first | refine AW.seq ?_ | refine AW.block ?_ | refine AW.skip ?_ | refine AExit.norT ?_ | refine AExit.norB ?_ | refine AList.nil ?_)
        refine AW.draw [.S, .S, .S, .S, .S, .W, .S] (by decide +kernel) ?_; have F := (aand @h1 (aand @slice1 @rows_head)); refine dST 0 ?_; refine dST 1 ?_; refine dST 2 ?_; refine dST 3 ?_; refine dST 4 ?_; refine dW 5 ?_; refine dST 6 ?_; (try clear F); first | refine dN ?_ | refine dB ?_ | refine DA.done (by decide +kernel) ?_
        simp only [put]
        refine tSa ?_
        exact ⟨1, y, [], b2, m'.nloc, by simp [upd_lit], by simp [upd_lit], by simp, by simp, by simp [upd_lit, h0], by simp [upd_lit], by simp [upd_lit, h2], by simp [upd_lit, h3], ga, gb.tail.2, by simp, by simp at lb1; omega, by simp, by simp [upd_lit, h9], ⟨(ho.1.newLoc _).setLoc ho.1.lloc _, ho.2⟩, by simpa using hF⟩
    | cons x a2 =>
      have gx := ga.tail.1
      cases b1 with
      | nil =>
        rw [mrg] at hF
        have F := (aand @h0 @h1); refine tFa ?_; (try clear F)
        repeat (first | refine AW.seq ?_ | refine AW.block ?_ | refine AW.skip ?_ | refine AExit.norT ?_ | refine AExit.norB ?_ | refine AList.nil ?_)
        refine AW.draw [.S, .S, .S, .S, .S, .W, .S] (by decide +kernel) ?_; have F := (aand @h0 (aand @slice1 @rows_head)); refine dST 0 ?_; refine dST 1 ?_; refine dST 2 ?_; refine dST 3 ?_; refine dST 4 ?_; refine dW 5 ?_; refine dST 6 ?_; (try clear F); first | refine dN ?_ | refine dB ?_ | refine DA.done (by decide +kernel) ?_
        simp only [put]
        refine tSa ?_
        exact ⟨-1, x, a2, [], m'.nloc, by simp [upd_lit], by simp [upd_lit], by simp, by simp, by simp [upd_lit], by simp [upd_lit, h1], by simp [upd_lit, h2], by simp [upd_lit, h3], ga.tail.2, gb, by simp at la1; omega, by simp, by simp, by simp [upd_lit, h9], ⟨(ho.1.newLoc _).setLoc ho.1.lloc _, ho.2⟩, by simpa using hF⟩
      | cons y b2 =>
        have gy := gb.tail.1
        have F := (aand @h0 @h1); refine tFa ?_; (try clear F)
        repeat (first | refine AW.seq ?_ | refine AW.block ?_ | refine AW.skip ?_ | refine AExit.norT ?_ | refine AExit.norB ?_ | refine AList.nil ?_)
        refine AW.draw [.S, .S, .S, .S, .S, .S, .S, .R, .S] (by decide +kernel) ?_; have F := (aand @h0 (aand @h1 (aand @h2 @rows_head))); refine dS 0 ?_; refine dS 1 ?_; refine dS 2 ?_; refine dS 3 ?_; refine dS 4 ?_; refine dS 5 ?_; refine dS 6 ?_; refine dC ((val_compare x y gx gy)) 7 ?_; refine dS 8 ?_; (try clear F); first | refine dN ?_ | refine dB ?_ | refine DA.done (by decide +kernel) ?_
        repeat (first | refine AW.seq ?_ | refine AW.block ?_ | refine AW.skip ?_ | refine AExit.norT ?_ | refine AExit.norB ?_ | refine AList.nil ?_)
        rw [mrg] at hF
        by_cases hc1 : cmpV x y < 0
        · rw [if_pos hc1] at hF
          have c1 : cmpV x y ≤ 0 := by omega
          have c2 : ¬ 0 ≤ cmpV x y := by omega
          have F := @c1; refine tFa ?_; (try clear F)
          repeat (first | refine AW.seq ?_ | refine AW.block ?_ | refine AW.skip ?_ | refine AExit.norT ?_ | refine AExit.norB ?_ | refine AList.nil ?_)
          refine AW.draw [.S, .S, .S, .S, .S, .W, .S] (by decide +kernel) ?_; have F := (aand @h0 (aand @slice1 @rows_head)); refine dST 0 ?_; refine dST 1 ?_; refine dST 2 ?_; refine dST 3 ?_; refine dST 4 ?_; refine dW 5 ?_; refine dST 6 ?_; (try clear F); first | refine dN ?_ | refine dB ?_ | refine DA.done (by decide +kernel) ?_
          simp only [put]
          have F := @c2; refine tFa ?_; (try clear F)
          exact ⟨cmpV x y, x, a2, y :: b2, m'.nloc, by simp [upd_lit], by simp [upd_lit], by simp, by simp, by simp [upd_lit], by simp [upd_lit, h1], by simp [upd_lit, h2], by simp [upd_lit, h3], ga.tail.2, gb, by simp at la1; omega, lb1, by simp, by simp [upd_lit, h9], ⟨(ho.1.newLoc _).setLoc ho.1.lloc _, ho.2⟩, by rw [decide_eq_true c1, decide_eq_false c2]; exact hF⟩
        rw [if_neg hc1] at hF
        by_cases hc2 : 0 < cmpV x y
        · rw [if_pos hc2] at hF
          have c1 : ¬ cmpV x y ≤ 0 := by omega
          have c2 : 0 ≤ cmpV x y := by omega
          have F := (aand @c1 @c2); refine tFa ?_; (try clear F)
          repeat (first | refine AW.seq ?_ | refine AW.block ?_ | refine AW.skip ?_ | refine AExit.norT ?_ | refine AExit.norB ?_ | refine AList.nil ?_)
          refine AW.draw [.S, .S, .S, .S, .S, .W, .S] (by decide +kernel) ?_; have F := (aand @h1 (aand @slice1 @rows_head)); refine dST 0 ?_; refine dST 1 ?_; refine dST 2 ?_; refine dST 3 ?_; refine dST 4 ?_; refine dW 5 ?_; refine dST 6 ?_; (try clear F); first | refine dN ?_ | refine dB ?_ | refine DA.done (by decide +kernel) ?_
          simp only [put]
          refine tSa ?_
          exact ⟨cmpV x y, y, x :: a2, b2, m'.nloc, by simp [upd_lit], by simp [upd_lit], by simp, by simp, by simp [upd_lit, h0], by simp [upd_lit], by simp [upd_lit, h2], by simp [upd_lit, h3], ga, gb.tail.2, la1, by simp at lb1; omega, by simp, by simp [upd_lit, h9], ⟨(ho.1.newLoc _).setLoc ho.1.lloc _, ho.2⟩, by rw [decide_eq_true c2, decide_eq_false c1]; exact hF⟩
        · rw [if_neg hc2] at hF
          have c0 : cmpV x y = 0 := by omega
          have F := @c0; refine tFa ?_; (try clear F)
          repeat (first | refine AW.seq ?_ | refine AW.block ?_ | refine AW.skip ?_ | refine AExit.norT ?_ | refine AExit.norB ?_ | refine AList.nil ?_)
          refine AW.draw [.S, .S, .S, .S, .S, .W, .S] (by decide +kernel) ?_; have F := (aand @h0 (aand @slice1 @rows_head)); refine dST 0 ?_; refine dST 1 ?_; refine dST 2 ?_; refine dST 3 ?_; refine dST 4 ?_; refine dW 5 ?_; refine dST 6 ?_; (try clear F); first | refine dN ?_ | refine dB ?_ | refine DA.done (by decide +kernel) ?_
          simp only [put]
          have F := @c0; refine tFa ?_; (try clear F)
          repeat (first | refine AW.seq ?_ | refine AW.block ?_ | refine AW.skip ?_ | refine AExit.norT ?_ | refine AExit.norB ?_ | refine AList.nil ?_)
          refine AW.draw [.S, .S, .S, .S, .S, .W, .S] (by decide +kernel) ?_; have F := (aand @h1 (aand @slice1 @rows_head)); refine dST 0 ?_; refine dST 1 ?_; refine dST 2 ?_; refine dST 3 ?_; refine dST 4 ?_; refine dW 5 ?_; refine dST 6 ?_; (try clear F); first | refine dN ?_ | refine dB ?_ | refine DA.done (by decide +kernel) ?_
          simp only [put]
          refine tSa ?_
          exact ⟨cmpV x y, y, a2, b2, m'.nloc, by simp [upd_lit], by simp [upd_lit], by simp, by simp [set0_cells], by simp [upd_lit], by simp [upd_lit], by simp [upd_lit, h2], by simp [upd_lit, h3], ga.tail.2, gb.tail.2, by simp at la1; omega, by simp at lb1; omega, by simp; omega, by simp [upd_lit, h9], ⟨((ho.1.newLoc _).setLoc ho.1.lloc _).setLoc ho.1.lloc _, ho.2⟩, by rw [c0]; exact hF⟩
/-! the functions that say which stay -/
def stU (_ _ : Bool) : Bool := true
def stC (p q : Bool) : Bool := p && q
def stM (p q : Bool) : Bool := p && !q
def stL (_ q : Bool) : Bool := !q
theorem clo115 (p q : Bool) : Gives Tryz.prog 115 [vB p, vB q] (vB (stU p q)) := by
  intro m
  refine ACall.of_aw Tryz.func115 Tryz.ntmps115 rfl rfl (by simp) ?_
  refine tS ?_
  exact Fin.gives Same.auto rfl (by simp [upd_lit]; rfl)
theorem clo117 (p q : Bool) : Gives Tryz.prog 117 [vB p, vB q] (vB (stU p q)) := by
  intro m
  refine ACall.of_aw Tryz.func117 Tryz.ntmps117 rfl rfl (by simp) ?_
  refine tS ?_
  exact Fin.gives Same.auto rfl (by simp [upd_lit]; rfl)
theorem clo116 (p q : Bool) : Gives Tryz.prog 116 [vB p, vB q] (vB (stC p q)) := by
  intro m
  refine ACall.of_aw Tryz.func116 Tryz.ntmps116 rfl rfl (by simp) ?_
  cases p
  · refine tSg ?_
    exact Fin.gives Same.auto rfl (by simp [upd_lit, stC])
  · refine tSg ?_
    exact Fin.gives Same.auto rfl (by simp [upd_lit, stC])
theorem clo119 (p q : Bool) : Gives Tryz.prog 119 [vB p, vB q] (vB (stL p q)) := by
  intro m
  refine ACall.of_aw Tryz.func119 Tryz.ntmps119 rfl rfl (by simp) ?_
  refine tS ?_
  exact Fin.gives Same.auto rfl (by simp [upd_lit, stL])
theorem clo120 (p q : Bool) : Gives Tryz.prog 120 [vB p, vB q] (vB (stM p q)) := by
  intro m
  refine ACall.of_aw Tryz.func120 Tryz.ntmps120 rfl rfl (by simp) ?_
  cases p
  · refine tSg ?_
    exact Fin.gives Same.auto rfl (by simp [upd_lit, stM])
  · refine tSg ?_
    exact Fin.gives Same.auto rfl (by simp [upd_lit, stM])
/-! val.joined and what is made of it -/
abbrev outP (v : GV) (e : Int) : PV := .tup [v.pv, vE e]
theorem set_Inc {a : GV} (h : good a) (h8 : a.kind = 8) : Inc a.els := by
  have := h.1
  rw [fmd_eq] at this
  exact (incr_none h.els).1 (this.2.1 h8).2
theorem mrg_nodes (st : Bool → Bool → Bool) : ∀ a b, nodesL (mrg st a b) ≤ nodesL a + nodesL b := by
  have h1 : ∀ (b : Bool) (x : GV), nodesL (one b x) ≤ nodes x := fun b x => by cases b <;> simp [one, nodesL]
  intro a b
  fun_induction mrg st a b with
  | case1 => simp [nodesL]
  | case2 y b ih => have := h1 (st false true) y; simp only [nodesL_append, nodesL] at *; omega
  | case3 x a ih => have := h1 (st true false) x; simp only [nodesL_append, nodesL] at *; omega
  | case4 x a y b h ih => have := h1 (st true false) x; simp only [nodesL_append, nodesL] at *; omega
  | case5 x a y b h h2 ih => have := h1 (st false true) y; simp only [nodesL_append, nodesL] at *; omega
  | case6 x a y b h h2 ih => have := h1 (st true true) y; simp only [nodesL_append, nodesL] at *; omega
theorem val_joined (st : Bool → Bool → Bool) (f : FuncId) (hf : ∀ p q : Bool, Gives Tryz.prog f [vB p, vB q] (vB (st p q))) (a b : GV) (ga : good a) (gb : good b) (la : nodes a < 10000000000) (lb : nodes b < 10000000000) :
    Gives Tryz.prog 114 [a.pv, b.pv, .clo f [] []] (if a.kind = 8 ∧ b.kind = 8 then outP (fitV (setV (mrg st a.els b.els))) (fitE (setV (mrg st a.els b.els))) else outP omV 7) := by
  have ea := nodes_eq a
  have eb := nodes_eq b
  have na := nodesL_len a.els
  have nb := nodesL_len b.els
  intro m
  refine ACall.of_aw Tryz.func114 Tryz.ntmps114 rfl rfl (by simp) ?_
  by_cases h1 : a.kind = 8
  · by_cases h2 : b.kind = 8
    · rw [if_pos ⟨h1, h2⟩]
      have hn := mrg_nodes st a.els b.els
      have en : nodes (setV (mrg st a.els b.els)) = 1 + nodesL (mrg st a.els b.els) := nodes_eq _
      have gm : goods (mrg st a.els b.els) := mrg_goods (set_Inc ga h1) (set_Inc gb h2) ga.els gb.els
      have F := (aand @h1 @h2); refine tFa ?_; (try clear F)
      refine tS1 fun K Kp hK hKp => ?_; refine Gives.at (val_merged st f hf a.els b.els ga.els gb.els (by omega) (by omega)) ?_; apply hK; clear hK hKp K Kp
      refine tS ?_
      refine tS1 fun K Kp hK hKp => ?_; refine Gives.at (val_sized (setV (mrg st a.els b.els)) (by omega) (small_list gm)) ?_; apply hK; clear hK hKp K Kp
      refine tS ?_
      refine Fin.ret (p := outP (fitV (setV (mrg st a.els b.els))) (fitE (setV (mrg st a.els b.els)))) ?_ Same.auto (by simp) (by simp) ⟨rfl, rfl⟩
      simp [ResP, ResL, resV, upd_lit, show Tryz.f114.results.toList = [.cell 6 27, .tmp 7] from rfl]
    · rw [if_neg (fun q => h2 q.2)]
      have F := (aand @h1 @h2); refine tFa ?_; (try clear F)
      refine Fin.ret (p := .tup [.agg [vI 0, vI 0, vB false, .list .full [], vS ⟨#[]⟩, .list .full []], vE 7]) ?_ Same.auto (by rfl) (by simp) ⟨rfl, rfl⟩
      simp [ResP, ResL, resV, upd_lit, show Tryz.f114.results.toList = [.cell 6 27, .tmp 7] from rfl]
  · rw [if_neg (fun q => h1 q.1)]
    have F := @h1; refine tFa ?_; (try clear F)
    refine Fin.ret (p := .tup [.agg [vI 0, vI 0, vB false, .list .full [], vS ⟨#[]⟩, .list .full []], vE 7]) ?_ Same.auto (by rfl) (by simp) ⟨rfl, rfl⟩
    simp [ResP, ResL, resV, upd_lit, show Tryz.f114.results.toList = [.cell 6 27, .tmp 7] from rfl]
theorem val_union (a b : GV) (ga : good a) (gb : good b) (la : nodes a < 10000000000) (lb : nodes b < 10000000000) :
    Gives Tryz.prog 65 [a.pv, b.pv] (if a.kind = 8 ∧ b.kind = 8 then outP (fitV (setV (mrg stU a.els b.els))) (fitE (setV (mrg stU a.els b.els))) else outP omV 7) := by
  intro m
  refine ACall.of_aw Tryz.func65 Tryz.ntmps65 rfl rfl (by simp) ?_
  have hj := val_joined stU 117 clo117 a b ga gb la lb
  obtain ⟨v, e, hv⟩ : ∃ v e, (if a.kind = 8 ∧ b.kind = 8 then outP (fitV (setV (mrg stU a.els b.els))) (fitE (setV (mrg stU a.els b.els))) else outP omV 7) = outP v e := by split <;> exact ⟨_, _, rfl⟩
  rw [hv] at hj ⊢
  refine tS ?_
  refine tS1 fun K Kp hK hKp => ?_; refine Gives.at (hj) ?_; apply hK; clear hK hKp K Kp
  refine tS ?_
  refine Fin.ret (p := outP v e) ?_ Same.auto (by simp) (by simp) ⟨rfl, rfl⟩
  simp [ResP, ResL, resV, upd_lit, show Tryz.f65.results.toList = [.cell 4 27, .tmp 5] from rfl]

theorem val_common (a b : GV) (ga : good a) (gb : good b) (la : nodes a < 10000000000) (lb : nodes b < 10000000000) :
    Gives Tryz.prog 64 [a.pv, b.pv] (if a.kind = 8 ∧ b.kind = 8 then outP (fitV (setV (mrg stC a.els b.els))) (fitE (setV (mrg stC a.els b.els))) else outP omV 7) := by
  intro m
  refine ACall.of_aw Tryz.func64 Tryz.ntmps64 rfl rfl (by simp) ?_
  have hj := val_joined stC 116 clo116 a b ga gb la lb
  obtain ⟨v, e, hv⟩ : ∃ v e, (if a.kind = 8 ∧ b.kind = 8 then outP (fitV (setV (mrg stC a.els b.els))) (fitE (setV (mrg stC a.els b.els))) else outP omV 7) = outP v e := by split <;> exact ⟨_, _, rfl⟩
  rw [hv] at hj ⊢
  refine tS ?_
  refine tS1 fun K Kp hK hKp => ?_; refine Gives.at (hj) ?_; apply hK; clear hK hKp K Kp
  refine tS ?_
  refine Fin.ret (p := outP v e) ?_ Same.auto (by simp) (by simp) ⟨rfl, rfl⟩
  simp [ResP, ResL, resV, upd_lit, show Tryz.f64.results.toList = [.cell 4 27, .tmp 5] from rfl]

theorem val_minus (a b : GV) (ga : good a) (gb : good b) (la : nodes a < 10000000000) (lb : nodes b < 10000000000) :
    Gives Tryz.prog 69 [a.pv, b.pv] (if a.kind = 8 ∧ b.kind = 8 then outP (fitV (setV (mrg stM a.els b.els))) (fitE (setV (mrg stM a.els b.els))) else outP omV 7) := by
  intro m
  refine ACall.of_aw Tryz.func69 Tryz.ntmps69 rfl rfl (by simp) ?_
  have hj := val_joined stM 120 clo120 a b ga gb la lb
  obtain ⟨v, e, hv⟩ : ∃ v e, (if a.kind = 8 ∧ b.kind = 8 then outP (fitV (setV (mrg stM a.els b.els))) (fitE (setV (mrg stM a.els b.els))) else outP omV 7) = outP v e := by split <;> exact ⟨_, _, rfl⟩
  rw [hv] at hj ⊢
  refine tS ?_
  refine tS1 fun K Kp hK hKp => ?_; refine Gives.at (hj) ?_; apply hK; clear hK hKp K Kp
  refine tS ?_
  refine Fin.ret (p := outP v e) ?_ Same.auto (by simp) (by simp) ⟨rfl, rfl⟩
  simp [ResP, ResL, resV, upd_lit, show Tryz.f69.results.toList = [.cell 4 27, .tmp 5] from rfl]
theorem val_with_step (a x : GV) (v : GV) (e : Int) (hj : Gives Tryz.prog 114 [a.pv, (setV [x]).pv, .clo 115 [] []] (outP v e)) : Gives Tryz.prog 63 [a.pv, x.pv] (outP v e) := by
  intro m
  refine ACall.of_aw Tryz.func63 Tryz.ntmps63 rfl rfl (by simp) ?_
  refine tS ?_
  refine tS1 fun K Kp hK hKp => ?_; refine Gives.at (hj) ?_; apply hK; clear hK hKp K Kp
  refine tS ?_
  refine Fin.ret (p := outP v e) ?_ Same.auto (by simp) (by simp) ⟨rfl, rfl⟩
  simp [ResP, ResL, resV, upd_lit, show Tryz.f63.results.toList = [.cell 4 27, .tmp 5] from rfl]
theorem val_with (a x : GV) (ga : good a) (gx : good x) (hx : x.kind ≠ 0) (la : nodes a < 1000000000) (lx : nodes x < 1000000000) :
    Gives Tryz.prog 63 [a.pv, x.pv] (if a.kind = 8 then outP (fitV (setV (mrg stU a.els [x]))) (fitE (setV (mrg stU a.els [x]))) else outP omV 7) := by
  have hj := val_joined stU 115 clo115 a (setV [x]) ga (one_good gx hx) (by omega) (by simp [nodes, nodesL]; omega)
  by_cases h8 : a.kind = 8
  · rw [if_pos ⟨h8, rfl⟩] at hj
    rw [if_pos h8]
    exact val_with_step a x _ _ hj
  · rw [if_neg (fun q => h8 q.1)] at hj
    rw [if_neg h8]
    exact val_with_step a x _ _ hj
theorem val_less_step (a x : GV) (v : GV) (e : Int) (hj : Gives Tryz.prog 114 [a.pv, (setV [x]).pv, .clo 119 [] []] (outP v e)) : Gives Tryz.prog 68 [a.pv, x.pv] (outP v e) := by
  intro m
  refine ACall.of_aw Tryz.func68 Tryz.ntmps68 rfl rfl (by simp) ?_
  refine tS ?_
  refine tS1 fun K Kp hK hKp => ?_; refine Gives.at (hj) ?_; apply hK; clear hK hKp K Kp
  refine tS ?_
  refine Fin.ret (p := outP v e) ?_ Same.auto (by simp) (by simp) ⟨rfl, rfl⟩
  simp [ResP, ResL, resV, upd_lit, show Tryz.f68.results.toList = [.cell 4 27, .tmp 5] from rfl]
theorem val_less (a x : GV) (ga : good a) (gx : good x) (hx : x.kind ≠ 0) (la : nodes a < 1000000000) (lx : nodes x < 1000000000) :
    Gives Tryz.prog 68 [a.pv, x.pv] (if a.kind = 8 then outP (fitV (setV (mrg stL a.els [x]))) (fitE (setV (mrg stL a.els [x]))) else outP omV 7) := by
  have hj := val_joined stL 119 clo119 a (setV [x]) ga (one_good gx hx) (by omega) (by simp [nodes, nodesL]; omega)
  by_cases h8 : a.kind = 8
  · rw [if_pos ⟨h8, rfl⟩] at hj
    rw [if_pos h8]
    exact val_less_step a x _ _ hj
  · rw [if_neg (fun q => h8 q.1)] at hj
    rw [if_neg h8]
    exact val_less_step a x _ _ hj
end Go.Proofs.YtgfadepkiejncaaGreat
namespace Go.Proofs.YtgfadepkiejncaaGreat
open Go.Ab
set_option maxHeartbeats 0
set_option maxRecDepth 100000
attribute [local irreducible] AW AList ACall DA AExit.then AExit.inBlock YCall DCall

/-! mix, Total -/
def mixF (a b : Int) : Int := IntKind.u32.wrap (IntKind.u32.wrap ↑(BitVec.ofInt 32 (IntKind.u32.wrap ↑(BitVec.ofInt 32 (IntKind.u32.wrap (a * 32)) ||| BitVec.ofInt 32 (a / 134217728)).toNat) ^^^ BitVec.ofInt 32 b).toNat * 2654435769)
theorem val_mix (a b : Int) : Gives Tryz.prog 90 [vW a, vW b] (vW (mixF a b)) := by
  intro m
  refine ACall.of_aw Tryz.func90 Tryz.ntmps90 rfl rfl (by simp) ?_
  refine tS ?_
  exact Fin.gives Same.auto rfl (by simp [upd_lit]; rfl)
theorem ref_mix (a b : Int) : Gives Tryz.prog 91 [vW a, vW b] (vW (mixF a b)) := by
  intro m
  refine ACall.of_aw Tryz.func91 Tryz.ntmps91 rfl rfl (by simp) ?_
  refine tS ?_
  exact Fin.gives Same.auto rfl (by simp [upd_lit]; rfl)
abbrev w32 (n : Int) : Int := IntKind.u32.wrap n
def totalF (s n : Int) : Int := mixF (mixF (mixF 2166136261 8) s) (w32 n)
theorem val_total (s n : Int) : Gives Tryz.prog 28 [vW s, vI n] (vW (totalF s n)) := by
  intro m
  refine ACall.of_aw Tryz.func28 Tryz.ntmps28 rfl rfl (by simp) ?_
  refine tS ?_
  refine tS1 fun K Kp hK hKp => ?_; refine Gives.at (val_mix 2166136261 8) ?_; apply hK; clear hK hKp K Kp
  refine tS ?_
  refine tS1 fun K Kp hK hKp => ?_; refine Gives.at (val_mix _ s) ?_; apply hK; clear hK hKp K Kp
  refine tS ?_
  refine tS1 fun K Kp hK hKp => ?_; refine Gives.at (val_mix _ (w32 n)) ?_; apply hK; clear hK hKp K Kp
  refine tS ?_
  exact Fin.gives Same.auto rfl (by simp [upd_lit]; rfl)
theorem ref_total (s n : Int) : Gives Tryz.prog 29 [vW s, vI n] (vW (totalF s n)) := by
  intro m
  refine ACall.of_aw Tryz.func29 Tryz.ntmps29 rfl rfl (by simp) ?_
  refine tS ?_
  refine tS1 fun K Kp hK hKp => ?_; refine Gives.at (ref_mix 2166136261 8) ?_; apply hK; clear hK hKp K Kp
  refine tS ?_
  refine tS1 fun K Kp hK hKp => ?_; refine Gives.at (ref_mix _ s) ?_; apply hK; clear hK hKp K Kp
  refine tS ?_
  refine tS1 fun K Kp hK hKp => ?_; refine Gives.at (ref_mix _ (w32 n)) ?_; apply hK; clear hK hKp K Kp
  refine tS ?_
  exact Fin.gives Same.auto rfl (by simp [upd_lit]; rfl)
def foldM (t : Int) (l : List Int) : Int := l.foldl mixF t
theorem foldM_take (t : Int) (l : List Int) (i : Nat) (h : i < l.length) : foldM t (l.take (i + 1)) = mixF (foldM t (l.take i)) l[i] := by
  rw [List.take_succ_eq_append_getElem h, foldM, List.foldl_append]; rfl
def shareH (h : Int) : Int := IntKind.u32.wrap ↑(BitVec.ofInt 32 (mixF 1540483477 h) ^^^ BitVec.ofInt 32 (mixF 1540483477 h / 65536)).toNat
def sumF (l : List Int) : Int := l.foldl (fun s h => w32 (s + shareH h)) 0
theorem sumF_take (l : List Int) (i : Nat) (h : i < l.length) : sumF (l.take (i + 1)) = w32 (sumF (l.take i) + shareH l[i]) := by
  rw [List.take_succ_eq_append_getElem h, sumF, List.foldl_append]; rfl
def strB (s : ByteArray) : List Int := (List.range s.size).map fun i => w32 (byteAt s i)
def hashN (k n : Int) (ng : Bool) (a : List Int) (s : ByteArray) (hs : List Int) : Int :=
  if k = 1 ∨ k = 5 ∨ k = 6 then mixF (mixF 2166136261 (w32 k)) (w32 n) else
  if k = 2 ∨ k = 3 then (if k = 3 then mixF (foldM (mixF (mixF 2166136261 (w32 k)) (if ng then 1 else 0)) a) (w32 n) else foldM (mixF (mixF 2166136261 (w32 k)) (if ng then 1 else 0)) a) else
  if k = 4 then mixF (foldM (mixF 2166136261 (w32 k)) (strB s)) (w32 s.size) else
  if k = 7 then mixF (foldM (mixF 2166136261 (w32 k)) hs) (w32 hs.length) else
  if k = 8 then totalF (sumF hs) hs.length else mixF 2166136261 (w32 k)
mutual
def hashV : GV → Int
  | .mk k n ng a s l => hashN k n ng a s (hashL l)
def hashL : List GV → List Int
  | [] => []
  | v :: l => hashV v :: hashL l
end
theorem hashL_len : ∀ l, (hashL l).length = l.length
  | [] => rfl
  | v :: l => by simp [hashL, hashL_len l]
theorem hashL_get : ∀ (l : List GV) (i : Nat) (h : i < l.length), (hashL l)[i]'(by rw [hashL_len]; exact h) = hashV l[i]
  | v :: l, 0, _ => rfl
  | v :: l, i + 1, h => hashL_get l i (by simpa using h)
theorem hashV_eq (v : GV) : hashV v = hashN v.kind v.num v.neg v.abs v.str (hashL v.els) := by cases v; rfl

/-! val.Hash -/
theorem share_of (v : GV) (h : Gives Tryz.prog 24 [v.pv] (vW (hashV v))) : Gives Tryz.prog 26 [v.pv] (vW (shareH (hashV v))) := by
  intro m
  refine ACall.of_aw Tryz.func26 Tryz.ntmps26 rfl rfl (by simp) ?_
  refine tS ?_
  refine tS1 fun K Kp hK hKp => ?_; refine Gives.at (h) ?_; apply hK; clear hK hKp K Kp
  refine tS ?_
  refine tS1 fun K Kp hK hKp => ?_; refine Gives.at (val_mix _ _) ?_; apply hK; clear hK hKp K Kp
  refine tS ?_
  exact Fin.gives Same.auto rfl (by simp [upd_lit]; rfl)
theorem val_hash_step (v : GV) (hv : v.ok) (h : ∀ x ∈ v.els, Gives Tryz.prog 24 [x.pv] (vW (hashV x))) : Gives Tryz.prog 24 [v.pv] (vW (hashV v)) := by
  have la := hv.abs
  have ls := hv.str
  have ll := hv.len
  rw [hashV_eq]
  generalize hT : mixF 2166136261 (w32 v.kind) = T
  intro m
  refine ACall.of_aw Tryz.func24 Tryz.ntmps24 rfl rfl (by simp) ?_
  refine tS ?_
  refine tS1 fun K Kp hK hKp => ?_; refine Gives.at (val_mix 2166136261 (w32 v.kind)) ?_; apply hK; clear hK hKp K Kp
  rw [hT]
  by_cases h1 : v.kind = 1 ∨ v.kind = 5 ∨ v.kind = 6
  · have e : hashN v.kind v.num v.neg v.abs v.str (hashL v.els) = mixF T (w32 v.num) := by rw [hashN, if_pos h1, hT]
    rw [e]
    rcases h1 with h1 | h1 | h1
    all_goals (
      have F := @h1; refine tFa ?_; (try clear F)
      have F := @h1; refine tF1 fun K Kp hK hKp => ?_; (try clear F); refine Gives.at (val_mix T (w32 v.num)) ?_; apply hK; clear hK hKp K Kp
      refine tS ?_
      exact Fin.gives Same.auto)
  by_cases h2 : v.kind = 2 ∨ v.kind = 3
  · have e : hashN v.kind v.num v.neg v.abs v.str (hashL v.els) = if v.kind = 3 then mixF (foldM (mixF T (if v.neg then 1 else 0)) v.abs) (w32 v.num) else foldM (mixF T (if v.neg then 1 else 0)) v.abs := by rw [hashN, if_neg h1, if_pos h2, hT]
    rw [e]
    have key : ∀ (hk : v.kind = 2 ∨ v.kind = 3) (σ : Nat → PV) (x : Int), x = (if v.neg then 1 else 0) → True := fun _ _ _ _ => trivial
    have hs : ∀ b : Bool, v.neg = b → (if v.neg then (1 : Int) else 0) = if b then 1 else 0 := fun b h => by rw [h]
    rcases h2 with h2 | h2 <;> rcases Bool.eq_false_or_eq_true v.neg with hb | hb
    all_goals (
      rw [hs _ hb]
      have F := (aand @h2 @hb); refine tFa ?_; (try clear F)
      refine tS1 fun K Kp hK hKp => ?_; refine Gives.at (val_mix _ _) ?_; apply hK; clear hK hKp K Kp
      refine tS ?_
      generalize hU : mixF T _ = U
      refine AW.loop (ι := Nat) (fun i σ m' => i ≤ v.abs.length ∧ σ 41 = vI i ∧ σ 40 = vI v.abs.length ∧ σ 39 = .list .no (limbs v.abs) ∧ σ 3 = vW (foldM U (v.abs.take i)) ∧ σ 1 = .loc m.nloc 0 ∧ m' = m.newLoc v.cells) (fun i => v.abs.length - i) 0 ?_ ?_
      · exact ⟨by simp, by simp [upd_lit], by simp [upd_lit], by simp [upd_lit], by simp [upd_lit, foldM, ← hU], by simp [upd_lit], rfl⟩
      rintro i σ m' ⟨hi, h41, h40, h39, h3, h1, rfl⟩
      have F := (aand @h41 @h40); refine tF ?_; (try clear F)
      refine AW.condD (p := i < v.abs.length) (by simp [upd_lit]) (fun hlt => ?_) (fun hge => ?_)
      · have F := (aand @h41 (aand @h39 (aand @hlt @limbs_getD))); refine tF ?_; (try clear F)
        have F := @h3; refine tF1 fun K Kp hK hKp => ?_; (try clear F); refine Gives.at (val_mix _ v.abs[i]) ?_; apply hK; clear hK hKp K Kp
        have F := @h41; refine tF ?_; (try clear F)
        exact ⟨i + 1, ⟨by omega, by simp [upd_lit], by simp [upd_lit, h40], by simp [upd_lit, h39], by simp [upd_lit]; rw [foldM_take _ _ _ hlt], by simp [upd_lit, h1], rfl⟩, by omega⟩
      · have e : i = v.abs.length := by omega
        subst e
        rw [List.take_length] at h3
        have F := (aand @h1 (aand @h2 @h3)); refine tFa ?_; (try clear F)
        try refine tS1 fun K Kp hK hKp => ?_; refine Gives.at (val_mix _ (w32 v.num)) ?_; apply hK; clear hK hKp K Kp
        try refine tS ?_
        exact Fin.gives Same.auto rfl (by simp [upd_lit, h3, hU, h2]))
  by_cases h4 : v.kind = 4
  · have e : hashN v.kind v.num v.neg v.abs v.str (hashL v.els) = mixF (foldM T (strB v.str)) (w32 v.str.size) := by rw [hashN, if_neg h1, if_neg h2, if_pos h4, hT]
    rw [e]
    have hl : (strB v.str).length = v.str.size := by simp [strB]
    have F := @h4; refine tFa ?_; (try clear F)
    refine AW.loop (ι := Nat) (fun i σ m' => i ≤ v.str.size ∧ σ 62 = vI i ∧ σ 61 = vI v.str.size ∧ σ 3 = vW (foldM T ((strB v.str).take i)) ∧ σ 1 = .loc m.nloc 0 ∧ m' = m.newLoc v.cells) (fun i => v.str.size - i) 0 ?_ ?_
    · exact ⟨by simp, by simp [upd_lit], by simp [upd_lit], by simp [upd_lit, foldM], by simp [upd_lit], rfl⟩
    rintro i σ m' ⟨hi, h62, h61, h3, h1, rfl⟩
    have F := (aand @h62 @h61); refine tF ?_; (try clear F)
    refine AW.condD (p := i < v.str.size) (by simp [upd_lit]) (fun hlt => ?_) (fun hge => ?_)
    · have hg : (strB v.str)[i]'(by omega) = w32 (byteAt v.str i) := by simp [strB]
      have F := (aand @h62 (aand @h1 @hlt)); refine tF ?_; (try clear F)
      have F := @h3; refine tF1 fun K Kp hK hKp => ?_; (try clear F); refine Gives.at (val_mix _ (w32 (byteAt v.str i))) ?_; apply hK; clear hK hKp K Kp
      have F := @h62; refine tF ?_; (try clear F)
      exact ⟨i + 1, ⟨by omega, by simp [upd_lit], by simp [upd_lit, h61], by simp [upd_lit]; rw [foldM_take _ _ _ (by omega), hg], by simp [upd_lit, h1], rfl⟩, by omega⟩
    · have e : i = v.str.size := by omega
      subst e
      rw [List.take_of_length_le (by omega)] at h3
      have F := (aand @h1 @h3); refine tF ?_; (try clear F)
      refine tS1 fun K Kp hK hKp => ?_; refine Gives.at (val_mix _ (w32 v.str.size)) ?_; apply hK; clear hK hKp K Kp
      refine tS ?_
      exact Fin.gives Same.auto
  by_cases h7 : v.kind = 7
  · have e : hashN v.kind v.num v.neg v.abs v.str (hashL v.els) = mixF (foldM T (hashL v.els)) (w32 v.els.length) := by rw [hashN, if_neg h1, if_neg h2, if_neg h4, if_pos h7, hT, hashL_len]
    rw [e]
    have hl := hashL_len v.els
    have F := @h7; refine tFa ?_; (try clear F)
    refine AW.loop (ι := Nat) (fun i σ m' => i ≤ v.els.length ∧ σ 84 = vI i ∧ σ 83 = vI v.els.length ∧ σ 82 = GV.pvs v.els ∧ σ 3 = vW (foldM T ((hashL v.els).take i)) ∧ σ 1 = .loc m.nloc 0 ∧ Same (m.newLoc v.cells) m') (fun i => v.els.length - i) 0 ?_ ?_
    · exact ⟨by simp, by simp [upd_lit], by simp [upd_lit], by simp [upd_lit], by simp [upd_lit, foldM], by simp [upd_lit], Same.refl _⟩
    rintro i σ m' ⟨hi, h84, h83, h82, h3, h1, sm⟩
    have hn : m.nloc < m'.nloc := by have := sm.lloc; simp at this; omega
    have hm : m'.loc m.nloc = some v.cells := by rw [sm.get (by simp)]; simp
    have F := (aand @h84 @h83); refine tF ?_; (try clear F)
    refine AW.condD (p := i < v.els.length) (by simp [upd_lit]) (fun hlt => ?_) (fun hge => ?_)
    · have hg := hashL_get v.els i hlt
      have F := (aand @h84 (aand @h82 (aand @hlt @rows_getD))); refine tF ?_; (try clear F)
      refine tS1 fun K Kp hK hKp => ?_; refine Gives.at (h v.els[i] (List.getElem_mem hlt)) ?_; apply hK; clear hK hKp K Kp
      refine tS ?_
      have F := @h3; refine tF1 fun K Kp hK hKp => ?_; (try clear F); refine Gives.at (val_mix _ (hashV v.els[i])) ?_; apply hK; clear hK hKp K Kp
      have F := @h84; refine tF ?_; (try clear F)
      exact ⟨i + 1, ⟨by omega, by simp [upd_lit], by simp [upd_lit, h83], by simp [upd_lit, h82], by simp [upd_lit]; rw [foldM_take _ _ _ (by omega), hg], by simp [upd_lit, h1], (sm.newLoc _).setLoc sm.lloc _⟩, by omega⟩
    · have e : i = v.els.length := by omega
      subst e
      rw [List.take_of_length_le (by omega)] at h3
      have F := (aand @h1 (aand @h3 (aand @hn @hm))); refine tF ?_; (try clear F)
      refine tS1 fun K Kp hK hKp => ?_; refine Gives.at (val_mix _ (w32 v.els.length)) ?_; apply hK; clear hK hKp K Kp
      refine tS ?_
      exact Fin.gives (Same.trans (Same.newLoc (Same.refl m) _) sm)
  by_cases h8 : v.kind = 8
  · have e : hashN v.kind v.num v.neg v.abs v.str (hashL v.els) = totalF (sumF (hashL v.els)) v.els.length := by rw [hashN, if_neg h1, if_neg h2, if_neg h4, if_neg h7, if_pos h8, hashL_len]
    rw [e]
    have hl := hashL_len v.els
    have F := @h8; refine tFa ?_; (try clear F)
    refine AW.loop (ι := Nat) (fun i σ m' => i ≤ v.els.length ∧ σ 104 = vI i ∧ σ 103 = vI v.els.length ∧ σ 102 = GV.pvs v.els ∧ σ 10 = vW (sumF ((hashL v.els).take i)) ∧ σ 1 = .loc m.nloc 0 ∧ Same (m.newLoc v.cells) m') (fun i => v.els.length - i) 0 ?_ ?_
    · exact ⟨by simp, by simp [upd_lit], by simp [upd_lit], by simp [upd_lit], by simp [upd_lit, sumF], by simp [upd_lit], Same.refl _⟩
    rintro i σ m' ⟨hi, h104, h103, h102, h10, h1, sm⟩
    have hn : m.nloc < m'.nloc := by have := sm.lloc; simp at this; omega
    have hm : m'.loc m.nloc = some v.cells := by rw [sm.get (by simp)]; simp
    have F := (aand @h104 @h103); refine tF ?_; (try clear F)
    refine AW.condD (p := i < v.els.length) (by simp [upd_lit]) (fun hlt => ?_) (fun hge => ?_)
    · have hg := hashL_get v.els i hlt
      have F := (aand @h104 (aand @h102 (aand @hlt @rows_getD))); refine tF ?_; (try clear F)
      have F := @h10; refine tF1 fun K Kp hK hKp => ?_; (try clear F); refine Gives.at (share_of v.els[i] (h v.els[i] (List.getElem_mem hlt))) ?_; apply hK; clear hK hKp K Kp
      have F := (aand @h104 @h10); refine tF ?_; (try clear F)
      exact ⟨i + 1, ⟨by omega, by simp [upd_lit], by simp [upd_lit, h103], by simp [upd_lit, h102], by simp [upd_lit]; rw [sumF_take _ _ (by omega), hg], by simp [upd_lit, h1], (sm.newLoc _).setLoc sm.lloc _⟩, by omega⟩
    · have e : i = v.els.length := by omega
      subst e
      rw [List.take_of_length_le (by omega)] at h10
      have F := (aand @h1 (aand @h10 (aand @hn @hm))); refine tF ?_; (try clear F)
      refine tS1 fun K Kp hK hKp => ?_; refine Gives.at (val_total _ v.els.length) ?_; apply hK; clear hK hKp K Kp
      refine tS ?_
      exact Fin.gives (Same.trans (Same.newLoc (Same.refl m) _) sm)
  · have e : hashN v.kind v.num v.neg v.abs v.str (hashL v.els) = T := by rw [hashN, if_neg h1, if_neg h2, if_neg h4, if_neg h7, if_neg h8, hT]
    rw [e]
    simp only [not_or] at h1 h2
    obtain ⟨p1, p2, p3⟩ := h1
    obtain ⟨p4, p5⟩ := h2
    have F := (aand @p1 (aand @p2 (aand @p3 (aand @p4 (aand @p5 (aand @h4 (aand @h7 @h8))))))); refine tFa ?_; (try clear F)
    exact Fin.gives Same.auto
theorem val_hash (v : GV) (hv : v.ok) : Gives Tryz.prog 24 [v.pv] (vW (hashV v)) := by
  generalize hN : nodes v = N
  induction N using Nat.strongRecOn generalizing v with
  | _ N ih =>
  subst hN
  refine val_hash_step v hv fun x hx => ih (nodes x) ?_ x (ok_els hv x hx) rfl
  obtain ⟨i, hi, rfl⟩ := List.getElem_of_mem hx
  have := nodes_get v.els i hi
  have := nodes_eq v
  omega
theorem val_share (v : GV) (hv : v.ok) : Gives Tryz.prog 26 [v.pv] (vW (shareH (hashV v))) := share_of v (val_hash v hv)
end Go.Proofs.YtgfadepkiejncaaGreat
namespace Go.Proofs.YtgfadepkiejncaaGreat
open Go.Ab
set_option maxHeartbeats 0
set_option maxRecDepth 100000
attribute [local irreducible] AW AList ACall DA AExit.then AExit.inBlock YCall DCall

/-! ref.Hash -/
theorem ref_share_of (v : GV) (h : Gives Tryz.prog 25 [v.pv] (vW (hashV v))) : Gives Tryz.prog 27 [v.pv] (vW (shareH (hashV v))) := by
  intro m
  refine ACall.of_aw Tryz.func27 Tryz.ntmps27 rfl rfl (by simp) ?_
  refine tS ?_
  refine tS1 fun K Kp hK hKp => ?_; refine Gives.at (h) ?_; apply hK; clear hK hKp K Kp
  refine tS ?_
  refine tS1 fun K Kp hK hKp => ?_; refine Gives.at (ref_mix _ _) ?_; apply hK; clear hK hKp K Kp
  refine tS ?_
  exact Fin.gives Same.auto rfl (by simp [upd_lit]; rfl)
theorem ref_hash_step (v : GV) (hv : v.ok) (h : ∀ x ∈ v.els, Gives Tryz.prog 25 [x.pv] (vW (hashV x))) : Gives Tryz.prog 25 [v.pv] (vW (hashV v)) := by
  have la := hv.abs
  have ls := hv.str
  have ll := hv.len
  rw [hashV_eq]
  generalize hT : mixF 2166136261 (w32 v.kind) = T
  intro m
  refine ACall.of_aw Tryz.func25 Tryz.ntmps25 rfl rfl (by simp) ?_
  refine tS ?_
  refine tS1 fun K Kp hK hKp => ?_; refine Gives.at (ref_mix 2166136261 (w32 v.kind)) ?_; apply hK; clear hK hKp K Kp
  rw [hT]
  by_cases h1 : v.kind = 1 ∨ v.kind = 5 ∨ v.kind = 6
  · have e : hashN v.kind v.num v.neg v.abs v.str (hashL v.els) = mixF T (w32 v.num) := by rw [hashN, if_pos h1, hT]
    rw [e]
    rcases h1 with h1 | h1 | h1
    all_goals (
      have F := @h1; refine tFa ?_; (try clear F)
      have F := @h1; refine tF1 fun K Kp hK hKp => ?_; (try clear F); refine Gives.at (ref_mix T (w32 v.num)) ?_; apply hK; clear hK hKp K Kp
      refine tS ?_
      exact Fin.gives Same.auto)
  by_cases h2 : v.kind = 2 ∨ v.kind = 3
  · have e : hashN v.kind v.num v.neg v.abs v.str (hashL v.els) = if v.kind = 3 then mixF (foldM (mixF T (if v.neg then 1 else 0)) v.abs) (w32 v.num) else foldM (mixF T (if v.neg then 1 else 0)) v.abs := by rw [hashN, if_neg h1, if_pos h2, hT]
    rw [e]
    have hs : ∀ b : Bool, v.neg = b → (if v.neg then (1 : Int) else 0) = if b then 1 else 0 := fun b h => by rw [h]
    rcases h2 with h2 | h2 <;> rcases Bool.eq_false_or_eq_true v.neg with hb | hb
    all_goals (
      rw [hs _ hb]
      have F := (aand @h2 @hb); refine tFa ?_; (try clear F)
      refine tS1 fun K Kp hK hKp => ?_; refine Gives.at (ref_mix _ _) ?_; apply hK; clear hK hKp K Kp
      refine tS ?_
      generalize hU : mixF T _ = U
      refine AW.loop (ι := Nat) (fun i σ m' => i ≤ v.abs.length ∧ σ 5 = vI i ∧ σ 3 = vW (foldM U (v.abs.take i)) ∧ σ 1 = .loc m.nloc 0 ∧ m' = m.newLoc v.cells) (fun i => v.abs.length - i) 0 ?_ ?_
      · exact ⟨by simp, by simp [upd_lit], by simp [upd_lit, foldM, ← hU], by simp [upd_lit], rfl⟩
      rintro i σ m' ⟨hi, h5, h3, h1, rfl⟩
      have F := (aand @h5 @h1); refine tF ?_; (try clear F)
      refine AW.condD (p := i < v.abs.length) (by simp [upd_lit]) (fun hlt => ?_) (fun hge => ?_)
      · have F := (aand @h5 (aand @h1 (aand @hlt @limbs_getD))); refine tF ?_; (try clear F)
        have F := @h3; refine tF1 fun K Kp hK hKp => ?_; (try clear F); refine Gives.at (ref_mix _ v.abs[i]) ?_; apply hK; clear hK hKp K Kp
        have F := @h5; refine tF ?_; (try clear F)
        exact ⟨i + 1, ⟨by omega, by simp [upd_lit], by simp [upd_lit]; rw [foldM_take _ _ _ hlt], by simp [upd_lit, h1], rfl⟩, by omega⟩
      · have e : i = v.abs.length := by omega
        subst e
        rw [List.take_length] at h3
        have F := (aand @h1 (aand @h2 @h3)); refine tFa ?_; (try clear F)
        try refine tS1 fun K Kp hK hKp => ?_; refine Gives.at (ref_mix _ (w32 v.num)) ?_; apply hK; clear hK hKp K Kp
        try refine tS ?_
        exact Fin.gives Same.auto rfl (by simp [upd_lit, h3, hU, h2]))
  by_cases h4 : v.kind = 4
  · have e : hashN v.kind v.num v.neg v.abs v.str (hashL v.els) = mixF (foldM T (strB v.str)) (w32 v.str.size) := by rw [hashN, if_neg h1, if_neg h2, if_pos h4, hT]
    rw [e]
    have hl : (strB v.str).length = v.str.size := by simp [strB]
    have F := @h4; refine tFa ?_; (try clear F)
    refine AW.loop (ι := Nat) (fun i σ m' => i ≤ v.str.size ∧ σ 6 = vI i ∧ σ 3 = vW (foldM T ((strB v.str).take i)) ∧ σ 1 = .loc m.nloc 0 ∧ m' = m.newLoc v.cells) (fun i => v.str.size - i) 0 ?_ ?_
    · exact ⟨by simp, by simp [upd_lit], by simp [upd_lit, foldM], by simp [upd_lit], rfl⟩
    rintro i σ m' ⟨hi, h6, h3, h1, rfl⟩
    have F := (aand @h6 @h1); refine tF ?_; (try clear F)
    refine AW.condD (p := i < v.str.size) (by simp [upd_lit]) (fun hlt => ?_) (fun hge => ?_)
    · have hg : (strB v.str)[i]'(by omega) = w32 (byteAt v.str i) := by simp [strB]
      have F := (aand @h6 (aand @h1 @hlt)); refine tF ?_; (try clear F)
      have F := @h3; refine tF1 fun K Kp hK hKp => ?_; (try clear F); refine Gives.at (ref_mix _ (w32 (byteAt v.str i))) ?_; apply hK; clear hK hKp K Kp
      have F := @h6; refine tF ?_; (try clear F)
      exact ⟨i + 1, ⟨by omega, by simp [upd_lit], by simp [upd_lit]; rw [foldM_take _ _ _ (by omega), hg], by simp [upd_lit, h1], rfl⟩, by omega⟩
    · have e : i = v.str.size := by omega
      subst e
      rw [List.take_of_length_le (by omega)] at h3
      have F := (aand @h1 @h3); refine tF ?_; (try clear F)
      refine tS1 fun K Kp hK hKp => ?_; refine Gives.at (ref_mix _ (w32 v.str.size)) ?_; apply hK; clear hK hKp K Kp
      refine tS ?_
      exact Fin.gives Same.auto
  by_cases h7 : v.kind = 7
  · have e : hashN v.kind v.num v.neg v.abs v.str (hashL v.els) = mixF (foldM T (hashL v.els)) (w32 v.els.length) := by rw [hashN, if_neg h1, if_neg h2, if_neg h4, if_pos h7, hT, hashL_len]
    rw [e]
    have hl := hashL_len v.els
    have F := @h7; refine tFa ?_; (try clear F)
    refine AW.loop (ι := Nat) (fun i σ m' => i ≤ v.els.length ∧ σ 7 = vI i ∧ σ 3 = vW (foldM T ((hashL v.els).take i)) ∧ σ 1 = .loc m.nloc 0 ∧ m' = m.newLoc v.cells) (fun i => v.els.length - i) 0 ?_ ?_
    · exact ⟨by simp, by simp [upd_lit], by simp [upd_lit, foldM], by simp [upd_lit], rfl⟩
    rintro i σ m' ⟨hi, h7, h3, h1, rfl⟩
    have F := (aand @h7 @h1); refine tF ?_; (try clear F)
    refine AW.condD (p := i < v.els.length) (by simp [upd_lit]) (fun hlt => ?_) (fun hge => ?_)
    · have hg := hashL_get v.els i hlt
      have F := (aand @h7 (aand @h1 (aand @hlt @rows_getD))); refine tF ?_; (try clear F)
      refine tS1 fun K Kp hK hKp => ?_; refine Gives.at (h v.els[i] (List.getElem_mem hlt)) ?_; apply hK; clear hK hKp K Kp
      refine tS ?_
      have F := @h3; refine tF1 fun K Kp hK hKp => ?_; (try clear F); refine Gives.at (ref_mix _ (hashV v.els[i])) ?_; apply hK; clear hK hKp K Kp
      have F := @h7; refine tF ?_; (try clear F)
      exact ⟨i + 1, ⟨by omega, by simp [upd_lit], by simp [upd_lit]; rw [foldM_take _ _ _ (by omega), hg], by simp [upd_lit, h1], rfl⟩, by omega⟩
    · have e : i = v.els.length := by omega
      subst e
      rw [List.take_of_length_le (by omega)] at h3
      have F := (aand @h1 @h3); refine tF ?_; (try clear F)
      refine tS1 fun K Kp hK hKp => ?_; refine Gives.at (ref_mix _ (w32 v.els.length)) ?_; apply hK; clear hK hKp K Kp
      refine tS ?_
      exact Fin.gives Same.auto
  by_cases h8 : v.kind = 8
  · have e : hashN v.kind v.num v.neg v.abs v.str (hashL v.els) = totalF (sumF (hashL v.els)) v.els.length := by rw [hashN, if_neg h1, if_neg h2, if_neg h4, if_neg h7, if_pos h8, hashL_len]
    rw [e]
    have hl := hashL_len v.els
    have F := @h8; refine tFa ?_; (try clear F)
    refine AW.loop (ι := Nat) (fun i σ m' => i ≤ v.els.length ∧ σ 9 = vI i ∧ σ 8 = vW (sumF ((hashL v.els).take i)) ∧ σ 1 = .loc m.nloc 0 ∧ m' = m.newLoc v.cells) (fun i => v.els.length - i) 0 ?_ ?_
    · exact ⟨by simp, by simp [upd_lit], by simp [upd_lit, sumF], by simp [upd_lit], rfl⟩
    rintro i σ m' ⟨hi, h9, h8, h1, rfl⟩
    have F := (aand @h9 @h1); refine tF ?_; (try clear F)
    refine AW.condD (p := i < v.els.length) (by simp [upd_lit]) (fun hlt => ?_) (fun hge => ?_)
    · have hg := hashL_get v.els i hlt
      have F := (aand @h9 (aand @h1 (aand @hlt @rows_getD))); refine tF ?_; (try clear F)
      refine tS1 fun K Kp hK hKp => ?_; refine Gives.at (ref_share_of v.els[i] (h v.els[i] (List.getElem_mem hlt))) ?_; apply hK; clear hK hKp K Kp
      have F := (aand @h9 @h8); refine tF ?_; (try clear F)
      exact ⟨i + 1, ⟨by omega, by simp [upd_lit], by simp [upd_lit]; rw [sumF_take _ _ (by omega), hg], by simp [upd_lit, h1], rfl⟩, by omega⟩
    · have e : i = v.els.length := by omega
      subst e
      rw [List.take_of_length_le (by omega)] at h8
      have F := (aand @h1 @h8); refine tF ?_; (try clear F)
      refine tS1 fun K Kp hK hKp => ?_; refine Gives.at (ref_total _ v.els.length) ?_; apply hK; clear hK hKp K Kp
      refine tS ?_
      exact Fin.gives Same.auto
  · have e : hashN v.kind v.num v.neg v.abs v.str (hashL v.els) = T := by rw [hashN, if_neg h1, if_neg h2, if_neg h4, if_neg h7, if_neg h8, hT]
    rw [e]
    simp only [not_or] at h1 h2
    obtain ⟨p1, p2, p3⟩ := h1
    obtain ⟨p4, p5⟩ := h2
    have F := (aand @p1 (aand @p2 (aand @p3 (aand @p4 (aand @p5 (aand @h4 (aand @h7 @h8))))))); refine tFa ?_; (try clear F)
    exact Fin.gives Same.auto
theorem ref_hash (v : GV) (hv : v.ok) : Gives Tryz.prog 25 [v.pv] (vW (hashV v)) := by
  generalize hN : nodes v = N
  induction N using Nat.strongRecOn generalizing v with
  | _ N ih =>
  subst hN
  refine ref_hash_step v hv fun x hx => ih (nodes x) ?_ x (ok_els hv x hx) rfl
  obtain ⟨i, hi, rfl⟩ := List.getElem_of_mem hx
  have := nodes_get v.els i hi
  have := nodes_eq v
  omega
theorem ref_share (v : GV) (hv : v.ok) : Gives Tryz.prog 27 [v.pv] (vW (shareH (hashV v))) := ref_share_of v (ref_hash v hv)
end Go.Proofs.YtgfadepkiejncaaGreat
namespace Go.Proofs.YtgfadepkiejncaaGreat
open Go.Ab
set_option maxHeartbeats 0

/-! the law's examples, by computation, Compare of formed values being known -/
mutual
def okB : GV → Bool
  | .mk k n _ abs s l => (decide (-9223372036854775808 ≤ k) && decide (k < 9223372036854775808)) && (decide (-9223372036854775808 ≤ n) && decide (n < 9223372036854775808)) && decide (abs.length < 1152921504606846976) && decide (s.size < 1152921504606846976) && decide (l.length < 1152921504606846976) && abs.all (fun x => decide (0 ≤ x) && decide (x < 4294967296)) && okBL l
def okBL : List GV → Bool
  | [] => true
  | v :: l => okB v && okBL l
end
mutual
theorem okB_ok : ∀ v : GV, okB v = true → v.ok
  | .mk k n b abs s l, h => by
    simp only [okB, Bool.and_eq_true, decide_eq_true_eq, List.all_eq_true] at h
    obtain ⟨⟨⟨⟨⟨⟨h1, h2⟩, h3⟩, h4⟩, h5⟩, h6⟩, h7⟩ := h
    exact ⟨h1, h2, h3, h4, h5, h6, okBL_ok l h7⟩
theorem okBL_ok : ∀ l : List GV, okBL l = true → GV.okL l
  | [], _ => trivial
  | v :: l, h => by
    simp only [okBL, Bool.and_eq_true] at h
    exact ⟨okB_ok v h.1, okBL_ok l h.2⟩
end
def goodB (v : GV) : Bool := okB v && checkF v == 0
theorem goodB_good {v : GV} (h : goodB v = true) : good v := by
  simp only [goodB, Bool.and_eq_true, beq_iff_eq] at h
  exact ⟨(checkF_ok.1 h.2).1, okB_ok v h.1⟩
def spc2 : CallM → FuncId → List PV → Option (ER PV) := fun callM f args =>
  match f, args with
  | 22, [.agg a, .agg b] => match GV.ofC a, GV.ofC b with
    | some a, some b => if (goodB a && goodB b) = true then some (.ok (vI (cmpV a b))) else none
    | _, _ => none
  | 34, [.agg a, .agg b] => match GV.ofC a, GV.ofC b with
    | some a, some b => if (okB a && okB b) = true then some (.ok (vB (sameV a b))) else none
    | _, _ => none
  | 24, [.agg a] => match GV.ofC a with
    | some a => if okB a = true then some (.ok (vW (hashV a))) else none
    | none => none
  | 25, [.agg a] => match GV.ofC a with
    | some a => if okB a = true then some (.ok (vW (hashV a))) else none
    | none => none
  | 32, [.agg a] => match GV.ofC a with
    | some a => if nodes a < 1152921504606846976 then some (.ok (vI (deep a))) else none
    | none => none
  | f, args => spc1 callM f args
def cfg2 : ECfg := ⟨spc2, [141], [(96, 6)]⟩
theorem spc2_ok : SpcOK Tryz.prog cfg2 := by
  intro callM hM f args p h s
  replace h : spc2 callM f args = some (.ok p) := h
  unfold spc2 at h
  split at h
  · rename_i a b
    split at h
    · rename_i x y hx hy
      split at h
      · rename_i hg; cases h
        have e1 := ofC_spec _ _ hx
        have e2 := ofC_spec _ _ hy
        subst e1 e2
        rw [Bool.and_eq_true] at hg
        exact val_compare x y (goodB_good hg.1) (goodB_good hg.2) s
      · cases h
    · cases h
  · rename_i a b
    split at h
    · rename_i x y hx hy
      split at h
      · rename_i hg; cases h
        have e1 := ofC_spec _ _ hx
        have e2 := ofC_spec _ _ hy
        subst e1 e2
        rw [Bool.and_eq_true] at hg
        exact ref_same x y (okB_ok _ hg.1) (okB_ok _ hg.2) s
      · cases h
    · cases h
  · rename_i a
    split at h
    · rename_i x hx
      split at h
      · rename_i hg; cases h
        have e1 := ofC_spec _ _ hx
        subst e1
        exact val_hash x (okB_ok _ hg) s
      · cases h
    · cases h
  · rename_i a
    split at h
    · rename_i x hx
      split at h
      · rename_i hg; cases h
        have e1 := ofC_spec _ _ hx
        subst e1
        exact ref_hash x (okB_ok _ hg) s
      · cases h
    · cases h
  · rename_i a
    split at h
    · rename_i x hx
      split at h
      · rename_i hg; cases h
        have e1 := ofC_spec _ _ hx
        subst e1
        exact val_deep x hg s
      · cases h
    · cases h
  · exact spc1_ok callM hM _ _ _ h s
end Go.Proofs.YtgfadepkiejncaaGreat
namespace Go.Proofs.YtgfadepkiejncaaGreat
open Go.Ab
set_option maxHeartbeats 0

/-! the law's examples: Set, Image and Apply at theirs; then all -/
def exI (n : Int) : GV := .mk 2 0 false [n] ⟨#[]⟩ []
def exO : GV := .mk 0 0 false [] ⟨#[]⟩ []
def exL (k : Int) (l : List GV) : GV := .mk k 0 false [] ⟨#[]⟩ l
def exF : GV := exL 8 [exL 7 [exI 1, exI 2], exL 7 [exI 1, exI 3], exL 7 [exI 2, exI 5]]
theorem set_ex : Gives Tryz.prog 41 [GV.pvs [exI 3, exO, exI 1, exI 3]] (.tup [(exL 8 [exI 1, exI 3]).pv, vE 0]) := fun m =>
  ecall_sound spc2_ok (n := 1000) (r := .ret (.tup [(exL 8 [exI 1, exI 3]).pv, vE 0])) (by kernel_rfl) m
theorem image_ex : Gives Tryz.prog 46 [exF.pv, (exI 1).pv] (.tup [(exL 8 [exI 2, exI 3]).pv, vE 0]) := fun m =>
  ecall_sound spc2_ok (n := 1000) (r := .ret (.tup [(exL 8 [exI 2, exI 3]).pv, vE 0])) (by kernel_rfl) m
theorem apply_ex : Gives Tryz.prog 47 [exF.pv, (exI 2).pv] (.tup [(exI 5).pv, vE 0]) := fun m =>
  ecall_sound spc2_ok (n := 1000) (r := .ret (.tup [(exI 5).pv, vE 0])) (by kernel_rfl) m
def spc3 : CallM → FuncId → List PV → Option (ER PV) := fun callM f args =>
  match f, args with
  | 41, [.list .no r] => match GV.ofR r with
    | some l => if (l.length == 4 && sameL l [exI 3, exO, exI 1, exI 3]) = true then some (.ok (.tup [(exL 8 [exI 1, exI 3]).pv, vE 0])) else none
    | none => none
  | 46, [.agg a, .agg b] => match GV.ofC a, GV.ofC b with
    | some a, some b => if (sameV a exF && sameV b (exI 1)) = true then some (.ok (.tup [(exL 8 [exI 2, exI 3]).pv, vE 0])) else none
    | _, _ => none
  | 47, [.agg a, .agg b] => match GV.ofC a, GV.ofC b with
    | some a, some b => if (sameV a exF && sameV b (exI 2)) = true then some (.ok (.tup [(exI 5).pv, vE 0])) else none
    | _, _ => none
  | f, args => spc2 callM f args
def cfg3 : ECfg := ⟨spc3, [141], [(96, 6)]⟩
theorem spc3_ok : SpcOK Tryz.prog cfg3 := by
  intro callM hM f args p h s
  replace h : spc3 callM f args = some (.ok p) := h
  unfold spc3 at h
  split at h
  · split at h
    · rename_i l hl
      split at h
      · rename_i hg; cases h
        have e1 := ofR_spec _ _ hl
        subst e1
        rw [Bool.and_eq_true, beq_iff_eq] at hg
        have e := (sameL_iff _ _ (by simpa using hg.1)).1 hg.2
        subst e
        exact set_ex s
      · cases h
    · cases h
  · split at h
    · rename_i x y hx hy
      split at h
      · rename_i hg; cases h
        have e1 := ofC_spec _ _ hx
        have e2 := ofC_spec _ _ hy
        subst e1 e2
        rw [Bool.and_eq_true, sameV_iff, sameV_iff] at hg
        obtain ⟨rfl, rfl⟩ := hg
        exact image_ex s
      · cases h
    · cases h
  · split at h
    · rename_i x y hx hy
      split at h
      · rename_i hg; cases h
        have e1 := ofC_spec _ _ hx
        have e2 := ofC_spec _ _ hy
        subst e1 e2
        rw [Bool.and_eq_true, sameV_iff, sameV_iff] at hg
        obtain ⟨rfl, rfl⟩ := hg
        exact apply_ex s
      · cases h
    · cases h
  · exact spc2_ok callM hM _ _ _ h s
/-- The law's examples come out as they should. -/
theorem sanity : Gives Tryz.prog 18 [] (vB true) := fun m =>
  ecall_sound spc3_ok (n := 1000) (r := .ret (vB true)) (by kernel_rfl) m
end Go.Proofs.YtgfadepkiejncaaGreat
namespace Go.Proofs.YtgfadepkiejncaaGreat
open Go.Ab
set_option maxHeartbeats 0
set_option maxRecDepth 100000
attribute [local irreducible] AW AList ACall DA AExit.then AExit.inBlock

/-- What formed says of sizes. -/
theorem lightF_nodes {v : GV} {most : Int} (h : lightF v most = true) : (nodes v : Int) ≤ most ∧ ∀ x ∈ walkV v, small x = true := by
  unfold lightF at h
  split at h
  · cases h
  · rename_i hlt
    have h3 := (wt_spec v most).2.2 (by omega)
    exact ⟨by omega, fun x hx => List.all_eq_true.1 h x hx⟩
theorem formedF_sizes {v : GV} (h : formedF v = true) : nodes v ≤ 400 ∧ ∀ x ∈ walkV v, x.abs.length ≤ 60 ∧ x.str.size ≤ 1100 := by
  simp only [formedF, Bool.and_eq_true] at h
  obtain ⟨h1, h2⟩ := lightF_nodes h.1
  refine ⟨by omega, fun x hx => ?_⟩
  have := h2 x hx
  simp [small] at this
  omega
mutual
theorem sameV_refl : ∀ a : GV, sameV a a = true
  | .mk k n ng a s l => by simp [sameV, sameInt, sameL_refl l]
theorem sameL_refl : ∀ l : List GV, sameL l l = true
  | [] => rfl
  | a :: l => by simp [sameL, sameV_refl a, sameL_refl l]
end
/-! ValMeasures -/
theorem law5 (v : GV) (hv : v.ok) : Gives Tryz.prog 5 [v.pv] (vB true) := by
  intro m
  refine ACall.of_aw Tryz.func5 Tryz.ntmps5 rfl rfl (by simp) ?_
  refine tS ?_
  refine tS1 fun K Kp hK hKp => ?_; refine Gives.at (law_formed v hv) ?_; apply hK; clear hK hKp K Kp
  refine tS ?_
  by_cases hf : formedF v = true
  · obtain ⟨h1, h2⟩ := formedF_sizes hf
    have hab : ∀ x ∈ walkV v, x.abs.length ≤ 1099511627776 := fun x hx => by have := (h2 x hx).1; omega
    have hw : (walkV v).length ≤ 400 := by rw [walk_len]; exact h1
    refine AW.cond (t := false) (by simp [upd_lit, hf]) (fun h => by cases h) (fun _ => ?_)
    refine tS ?_
    refine AW.draw [.R, .S, .R, .R, .R, .R, .S, .S, .S, .R, .R, .R, .R, .S, .S, .S, .R, .R, .R, .R, .S, .S, .R, .R, .R, .R, .R, .S, .S] (by decide +kernel) ?_; refine DA.R 0 rfl (by decide +kernel) (by decide) (by intro K hK; simp [↓aop, ↓Ab.opv, ↓upd_lit, ↓map_ta, ↓List.map_cons, ↓List.map_nil, Nat.add_assoc, sameV_refl, sameLst, sameL_refl]; (try (simp (disch := omega) only [wrap_i64]; try simp [↓aop, ↓Ab.opv, ↓upd_lit, ↓map_ta, ↓List.map_cons, ↓List.map_nil, Nat.add_assoc, sameV_refl, sameLst, sameL_refl])); exact Gives.at ((sanity)) hK) ?_; refine DA.S 1 rfl (by decide +kernel) (by decide) (by intro m K hK; simp [↓aop, ↓Ab.opv, ↓upd_lit, ↓map_ta, ↓List.map_cons, ↓List.map_nil, Nat.add_assoc, sameV_refl, sameLst, sameL_refl]; (try (simp (disch := omega) only [wrap_i64]; try simp [↓aop, ↓Ab.opv, ↓upd_lit, ↓map_ta, ↓List.map_cons, ↓List.map_nil, Nat.add_assoc, sameV_refl, sameLst, sameL_refl])); exact hK) ?_; refine DA.RG 2 rfl (by decide +kernel) (by decide) rfl (by decide) (by first | rfl | (simp [↓upd_lit, sameV_refl, sameLst, sameL_refl]; done)) (by intro K hK; simp [↓aop, ↓Ab.opv, ↓upd_lit, ↓map_ta, ↓List.map_cons, ↓List.map_nil, Nat.add_assoc, sameV_refl, sameLst, sameL_refl]; (try (simp (disch := omega) only [wrap_i64]; try simp [↓aop, ↓Ab.opv, ↓upd_lit, ↓map_ta, ↓List.map_cons, ↓List.map_nil, Nat.add_assoc, sameV_refl, sameLst, sameL_refl])); exact hK) ?_; refine DA.RG 3 rfl (by decide +kernel) (by decide) rfl (by decide) (by first | rfl | (simp [↓upd_lit, sameV_refl, sameLst, sameL_refl]; done)) (by intro K hK; simp [↓aop, ↓Ab.opv, ↓upd_lit, ↓map_ta, ↓List.map_cons, ↓List.map_nil, Nat.add_assoc, sameV_refl, sameLst, sameL_refl]; (try (simp (disch := omega) only [wrap_i64]; try simp [↓aop, ↓Ab.opv, ↓upd_lit, ↓map_ta, ↓List.map_cons, ↓List.map_nil, Nat.add_assoc, sameV_refl, sameLst, sameL_refl])); exact Gives.at ((val_nodes v (by omega))) hK) ?_; refine DA.RG 4 rfl (by decide +kernel) (by decide) rfl (by decide) (by first | rfl | (simp [↓upd_lit, sameV_refl, sameLst, sameL_refl]; done)) (by intro K hK; simp [↓aop, ↓Ab.opv, ↓upd_lit, ↓map_ta, ↓List.map_cons, ↓List.map_nil, Nat.add_assoc, sameV_refl, sameLst, sameL_refl]; (try (simp (disch := omega) only [wrap_i64]; try simp [↓aop, ↓Ab.opv, ↓upd_lit, ↓map_ta, ↓List.map_cons, ↓List.map_nil, Nat.add_assoc, sameV_refl, sameLst, sameL_refl])); exact hK) ?_; refine DA.RG 5 rfl (by decide +kernel) (by decide) rfl (by decide) (by first | rfl | (simp [↓upd_lit, sameV_refl, sameLst, sameL_refl]; done)) (by intro K hK; simp [↓aop, ↓Ab.opv, ↓upd_lit, ↓map_ta, ↓List.map_cons, ↓List.map_nil, Nat.add_assoc, sameV_refl, sameLst, sameL_refl]; (try (simp (disch := omega) only [wrap_i64]; try simp [↓aop, ↓Ab.opv, ↓upd_lit, ↓map_ta, ↓List.map_cons, ↓List.map_nil, Nat.add_assoc, sameV_refl, sameLst, sameL_refl])); exact Gives.at ((ref_nodes v (by omega))) hK) ?_; refine DA.SG 6 rfl (by decide +kernel) (by decide) rfl (by decide) (by first | rfl | (simp [↓upd_lit, sameV_refl, sameLst, sameL_refl]; done)) (by intro m K hK; simp [↓aop, ↓Ab.opv, ↓upd_lit, ↓map_ta, ↓List.map_cons, ↓List.map_nil, Nat.add_assoc, sameV_refl, sameLst, sameL_refl]; (try (simp (disch := omega) only [wrap_i64]; try simp [↓aop, ↓Ab.opv, ↓upd_lit, ↓map_ta, ↓List.map_cons, ↓List.map_nil, Nat.add_assoc, sameV_refl, sameLst, sameL_refl])); exact hK) ?_; refine DA.S 7 rfl (by decide +kernel) (by decide) (by intro m K hK; simp [↓aop, ↓Ab.opv, ↓upd_lit, ↓map_ta, ↓List.map_cons, ↓List.map_nil, Nat.add_assoc, sameV_refl, sameLst, sameL_refl]; (try (simp (disch := omega) only [wrap_i64]; try simp [↓aop, ↓Ab.opv, ↓upd_lit, ↓map_ta, ↓List.map_cons, ↓List.map_nil, Nat.add_assoc, sameV_refl, sameLst, sameL_refl])); exact hK) ?_; refine DA.S 8 rfl (by decide +kernel) (by decide) (by intro m K hK; simp [↓aop, ↓Ab.opv, ↓upd_lit, ↓map_ta, ↓List.map_cons, ↓List.map_nil, Nat.add_assoc, sameV_refl, sameLst, sameL_refl]; (try (simp (disch := omega) only [wrap_i64]; try simp [↓aop, ↓Ab.opv, ↓upd_lit, ↓map_ta, ↓List.map_cons, ↓List.map_nil, Nat.add_assoc, sameV_refl, sameLst, sameL_refl])); exact hK) ?_; refine DA.RG 9 rfl (by decide +kernel) (by decide) rfl (by decide) (by first | rfl | (simp [↓upd_lit, sameV_refl, sameLst, sameL_refl]; done)) (by intro K hK; simp [↓aop, ↓Ab.opv, ↓upd_lit, ↓map_ta, ↓List.map_cons, ↓List.map_nil, Nat.add_assoc, sameV_refl, sameLst, sameL_refl]; (try (simp (disch := omega) only [wrap_i64]; try simp [↓aop, ↓Ab.opv, ↓upd_lit, ↓map_ta, ↓List.map_cons, ↓List.map_nil, Nat.add_assoc, sameV_refl, sameLst, sameL_refl])); exact hK) ?_; refine DA.RG 10 rfl (by decide +kernel) (by decide) rfl (by decide) (by first | rfl | (simp [↓upd_lit, sameV_refl, sameLst, sameL_refl]; done)) (by intro K hK; simp [↓aop, ↓Ab.opv, ↓upd_lit, ↓map_ta, ↓List.map_cons, ↓List.map_nil, Nat.add_assoc, sameV_refl, sameLst, sameL_refl]; (try (simp (disch := omega) only [wrap_i64]; try simp [↓aop, ↓Ab.opv, ↓upd_lit, ↓map_ta, ↓List.map_cons, ↓List.map_nil, Nat.add_assoc, sameV_refl, sameLst, sameL_refl])); exact Gives.at ((val_deep v (by omega))) hK) ?_; refine DA.RG 11 rfl (by decide +kernel) (by decide) rfl (by decide) (by first | rfl | (simp [↓upd_lit, sameV_refl, sameLst, sameL_refl]; done)) (by intro K hK; simp [↓aop, ↓Ab.opv, ↓upd_lit, ↓map_ta, ↓List.map_cons, ↓List.map_nil, Nat.add_assoc, sameV_refl, sameLst, sameL_refl]; (try (simp (disch := omega) only [wrap_i64]; try simp [↓aop, ↓Ab.opv, ↓upd_lit, ↓map_ta, ↓List.map_cons, ↓List.map_nil, Nat.add_assoc, sameV_refl, sameLst, sameL_refl])); exact hK) ?_; refine DA.RG 12 rfl (by decide +kernel) (by decide) rfl (by decide) (by first | rfl | (simp [↓upd_lit, sameV_refl, sameLst, sameL_refl]; done)) (by intro K hK; simp [↓aop, ↓Ab.opv, ↓upd_lit, ↓map_ta, ↓List.map_cons, ↓List.map_nil, Nat.add_assoc, sameV_refl, sameLst, sameL_refl]; (try (simp (disch := omega) only [wrap_i64]; try simp [↓aop, ↓Ab.opv, ↓upd_lit, ↓map_ta, ↓List.map_cons, ↓List.map_nil, Nat.add_assoc, sameV_refl, sameLst, sameL_refl])); exact Gives.at ((ref_deep v (by omega))) hK) ?_; refine DA.SG 13 rfl (by decide +kernel) (by decide) rfl (by decide) (by first | rfl | (simp [↓upd_lit, sameV_refl, sameLst, sameL_refl]; done)) (by intro m K hK; simp [↓aop, ↓Ab.opv, ↓upd_lit, ↓map_ta, ↓List.map_cons, ↓List.map_nil, Nat.add_assoc, sameV_refl, sameLst, sameL_refl]; (try (simp (disch := omega) only [wrap_i64]; try simp [↓aop, ↓Ab.opv, ↓upd_lit, ↓map_ta, ↓List.map_cons, ↓List.map_nil, Nat.add_assoc, sameV_refl, sameLst, sameL_refl])); exact hK) ?_; refine DA.S 14 rfl (by decide +kernel) (by decide) (by intro m K hK; simp [↓aop, ↓Ab.opv, ↓upd_lit, ↓map_ta, ↓List.map_cons, ↓List.map_nil, Nat.add_assoc, sameV_refl, sameLst, sameL_refl]; (try (simp (disch := omega) only [wrap_i64]; try simp [↓aop, ↓Ab.opv, ↓upd_lit, ↓map_ta, ↓List.map_cons, ↓List.map_nil, Nat.add_assoc, sameV_refl, sameLst, sameL_refl])); exact hK) ?_; refine DA.S 15 rfl (by decide +kernel) (by decide) (by intro m K hK; simp [↓aop, ↓Ab.opv, ↓upd_lit, ↓map_ta, ↓List.map_cons, ↓List.map_nil, Nat.add_assoc, sameV_refl, sameLst, sameL_refl]; (try (simp (disch := omega) only [wrap_i64]; try simp [↓aop, ↓Ab.opv, ↓upd_lit, ↓map_ta, ↓List.map_cons, ↓List.map_nil, Nat.add_assoc, sameV_refl, sameLst, sameL_refl])); exact hK) ?_; refine DA.RG 16 rfl (by decide +kernel) (by decide) rfl (by decide) (by first | rfl | (simp [↓upd_lit, sameV_refl, sameLst, sameL_refl]; done)) (by intro K hK; simp [↓aop, ↓Ab.opv, ↓upd_lit, ↓map_ta, ↓List.map_cons, ↓List.map_nil, Nat.add_assoc, sameV_refl, sameLst, sameL_refl]; (try (simp (disch := omega) only [wrap_i64]; try simp [↓aop, ↓Ab.opv, ↓upd_lit, ↓map_ta, ↓List.map_cons, ↓List.map_nil, Nat.add_assoc, sameV_refl, sameLst, sameL_refl])); exact hK) ?_; refine DA.RG 17 rfl (by decide +kernel) (by decide) rfl (by decide) (by first | rfl | (simp [↓upd_lit, sameV_refl, sameLst, sameL_refl]; done)) (by intro K hK; simp [↓aop, ↓Ab.opv, ↓upd_lit, ↓map_ta, ↓List.map_cons, ↓List.map_nil, Nat.add_assoc, sameV_refl, sameLst, sameL_refl]; (try (simp (disch := omega) only [wrap_i64]; try simp [↓aop, ↓Ab.opv, ↓upd_lit, ↓map_ta, ↓List.map_cons, ↓List.map_nil, Nat.add_assoc, sameV_refl, sameLst, sameL_refl])); exact Gives.at ((val_copy v (by omega) hab)) hK) ?_; refine DA.RG 18 rfl (by decide +kernel) (by decide) rfl (by decide) (by first | rfl | (simp [↓upd_lit, sameV_refl, sameLst, sameL_refl]; done)) (by intro K hK; simp [↓aop, ↓Ab.opv, ↓upd_lit, ↓map_ta, ↓List.map_cons, ↓List.map_nil, Nat.add_assoc, sameV_refl, sameLst, sameL_refl]; (try (simp (disch := omega) only [wrap_i64]; try simp [↓aop, ↓Ab.opv, ↓upd_lit, ↓map_ta, ↓List.map_cons, ↓List.map_nil, Nat.add_assoc, sameV_refl, sameLst, sameL_refl])); exact hK) ?_; refine DA.RG 19 rfl (by decide +kernel) (by decide) rfl (by decide) (by first | rfl | (simp [↓upd_lit, sameV_refl, sameLst, sameL_refl]; done)) (by intro K hK; simp [↓aop, ↓Ab.opv, ↓upd_lit, ↓map_ta, ↓List.map_cons, ↓List.map_nil, Nat.add_assoc, sameV_refl, sameLst, sameL_refl]; (try (simp (disch := omega) only [wrap_i64]; try simp [↓aop, ↓Ab.opv, ↓upd_lit, ↓map_ta, ↓List.map_cons, ↓List.map_nil, Nat.add_assoc, sameV_refl, sameLst, sameL_refl])); exact Gives.at ((ref_same v v hv hv)) hK) ?_; refine DA.S 20 rfl (by decide +kernel) (by decide) (by intro m K hK; simp [↓aop, ↓Ab.opv, ↓upd_lit, ↓map_ta, ↓List.map_cons, ↓List.map_nil, Nat.add_assoc, sameV_refl, sameLst, sameL_refl]; (try (simp (disch := omega) only [wrap_i64]; try simp [↓aop, ↓Ab.opv, ↓upd_lit, ↓map_ta, ↓List.map_cons, ↓List.map_nil, Nat.add_assoc, sameV_refl, sameLst, sameL_refl])); exact hK) ?_; refine DA.S 21 rfl (by decide +kernel) (by decide) (by intro m K hK; simp [↓aop, ↓Ab.opv, ↓upd_lit, ↓map_ta, ↓List.map_cons, ↓List.map_nil, Nat.add_assoc, sameV_refl, sameLst, sameL_refl]; (try (simp (disch := omega) only [wrap_i64]; try simp [↓aop, ↓Ab.opv, ↓upd_lit, ↓map_ta, ↓List.map_cons, ↓List.map_nil, Nat.add_assoc, sameV_refl, sameLst, sameL_refl])); exact hK) ?_; refine DA.RG 22 rfl (by decide +kernel) (by decide) rfl (by decide) (by first | rfl | (simp [↓upd_lit, sameV_refl, sameLst, sameL_refl]; done)) (by intro K hK; simp [↓aop, ↓Ab.opv, ↓upd_lit, ↓map_ta, ↓List.map_cons, ↓List.map_nil, Nat.add_assoc, sameV_refl, sameLst, sameL_refl]; (try (simp (disch := omega) only [wrap_i64]; try simp [↓aop, ↓Ab.opv, ↓upd_lit, ↓map_ta, ↓List.map_cons, ↓List.map_nil, Nat.add_assoc, sameV_refl, sameLst, sameL_refl])); exact hK) ?_; refine DA.RG 23 rfl (by decide +kernel) (by decide) rfl (by decide) (by first | rfl | (simp [↓upd_lit, sameV_refl, sameLst, sameL_refl]; done)) (by intro K hK; simp [↓aop, ↓Ab.opv, ↓upd_lit, ↓map_ta, ↓List.map_cons, ↓List.map_nil, Nat.add_assoc, sameV_refl, sameLst, sameL_refl]; (try (simp (disch := omega) only [wrap_i64]; try simp [↓aop, ↓Ab.opv, ↓upd_lit, ↓map_ta, ↓List.map_cons, ↓List.map_nil, Nat.add_assoc, sameV_refl, sameLst, sameL_refl])); exact Gives.at ((val_walk v (by omega) hab)) hK) ?_; refine DA.RG 24 rfl (by decide +kernel) (by decide) rfl (by decide) (by first | rfl | (simp [↓upd_lit, sameV_refl, sameLst, sameL_refl]; done)) (by intro K hK; simp [↓aop, ↓Ab.opv, ↓upd_lit, ↓map_ta, ↓List.map_cons, ↓List.map_nil, Nat.add_assoc, sameV_refl, sameLst, sameL_refl]; (try (simp (disch := omega) only [wrap_i64]; try simp [↓aop, ↓Ab.opv, ↓upd_lit, ↓map_ta, ↓List.map_cons, ↓List.map_nil, Nat.add_assoc, sameV_refl, sameLst, sameL_refl])); exact hK) ?_; refine DA.RG 25 rfl (by decide +kernel) (by decide) rfl (by decide) (by first | rfl | (simp [↓upd_lit, sameV_refl, sameLst, sameL_refl]; done)) (by intro K hK; simp [↓aop, ↓Ab.opv, ↓upd_lit, ↓map_ta, ↓List.map_cons, ↓List.map_nil, Nat.add_assoc, sameV_refl, sameLst, sameL_refl]; (try (simp (disch := omega) only [wrap_i64]; try simp [↓aop, ↓Ab.opv, ↓upd_lit, ↓map_ta, ↓List.map_cons, ↓List.map_nil, Nat.add_assoc, sameV_refl, sameLst, sameL_refl])); exact Gives.at ((ref_walk v (by omega))) hK) ?_; refine DA.RG 26 rfl (by decide +kernel) (by decide) rfl (by decide) (by first | rfl | (simp [↓upd_lit, sameV_refl, sameLst, sameL_refl]; done)) (by intro K hK; simp [↓aop, ↓Ab.opv, ↓upd_lit, ↓map_ta, ↓List.map_cons, ↓List.map_nil, Nat.add_assoc, sameV_refl, sameLst, sameL_refl]; (try (simp (disch := omega) only [wrap_i64]; try simp [↓aop, ↓Ab.opv, ↓upd_lit, ↓map_ta, ↓List.map_cons, ↓List.map_nil, Nat.add_assoc, sameV_refl, sameLst, sameL_refl])); exact Gives.at ((ref_sameList _ _ (walk_ok v hv) (walk_ok v hv) (by omega) (by omega))) hK) ?_; refine DA.S 27 rfl (by decide +kernel) (by decide) (by intro m K hK; simp [↓aop, ↓Ab.opv, ↓upd_lit, ↓map_ta, ↓List.map_cons, ↓List.map_nil, Nat.add_assoc, sameV_refl, sameLst, sameL_refl]; (try (simp (disch := omega) only [wrap_i64]; try simp [↓aop, ↓Ab.opv, ↓upd_lit, ↓map_ta, ↓List.map_cons, ↓List.map_nil, Nat.add_assoc, sameV_refl, sameLst, sameL_refl])); exact hK) ?_; refine DA.S 28 rfl (by decide +kernel) (by decide) (by intro m K hK; simp [↓aop, ↓Ab.opv, ↓upd_lit, ↓map_ta, ↓List.map_cons, ↓List.map_nil, Nat.add_assoc, sameV_refl, sameLst, sameL_refl]; (try (simp (disch := omega) only [wrap_i64]; try simp [↓aop, ↓Ab.opv, ↓upd_lit, ↓map_ta, ↓List.map_cons, ↓List.map_nil, Nat.add_assoc, sameV_refl, sameLst, sameL_refl])); exact hK) ?_; refine DA.done (by decide +kernel) ?_; refine AExit.norT ?_
    refine tS ?_
    exact Fin.ret rfl ((Same.refl m).newLoc _) (by simp [upd_lit, PV.strip]) (by simp [PV.sc]) ⟨rfl, rfl⟩
  · refine AW.cond (t := true) (by simp [upd_lit, hf]) (fun _ => ?_) (fun h => by cases h)
    refine tS ?_
    refine tS1 fun K Kp hK hKp => ?_; refine Gives.at (sanity) ?_; apply hK; clear hK hKp K Kp
    refine tS ?_
    exact Fin.ret rfl ((Same.refl m).newLoc _) (by simp [upd_lit]) (by simp) ⟨rfl, rfl⟩
end Go.Proofs.YtgfadepkiejncaaGreat
namespace Go.Proofs.YtgfadepkiejncaaGreat
open Go.Ab
set_option maxHeartbeats 0
set_option maxRecDepth 100000
attribute [local irreducible] AW AList ACall DA AExit.then AExit.inBlock YCall DCall

theorem formedF_good {v : GV} (hv : v.ok) (h : formedF v = true) : good v ∧ v.dk := by
  simp only [formedF, Bool.and_eq_true, decide_eq_true_eq] at h
  exact ⟨⟨(checkF_ok.1 h.2).1, hv⟩, fol_dk v 0 1 h.2⟩
/-! ValCompares -/
theorem law4 (a b : GV) (s n : Int) (ha : a.ok) (hb : b.ok) : Gives Tryz.prog 4 [a.pv, b.pv, vW s, vI n] (vB true) := by
  intro m
  refine ACall.of_aw Tryz.func4 Tryz.ntmps4 rfl rfl (by simp) ?_
  refine tS ?_
  refine tS1 fun K Kp hK hKp => ?_; refine Gives.at (law_formed a ha) ?_; apply hK; clear hK hKp K Kp
  by_cases h1 : formedF a = true
  · have F := @h1; refine tFa ?_; (try clear F)
    have F := @h1; refine tFc (law_formed b hb) ?_; (try clear F)
    by_cases h2 : formedF b = true
    · obtain ⟨ga, da⟩ := formedF_good ha h1
      obtain ⟨gb, db⟩ := formedF_good hb h2
      have F := (aand @h1 @h2); refine tFa ?_; (try clear F)
      refine AW.draw [.R, .S, .R, .R, .R, .R, .R, .R, .S, .S, .S, .R, .R, .R, .R, .S, .S, .S, .R, .R, .R, .R, .S, .S, .S, .S, .S, .R, .S, .S, .R, .S, .S, .S] (by decide +kernel) ?_; have F := True.intro; refine dC ((sanity)) 0 ?_; refine dS 1 ?_; refine dRG 2 ?_; refine dRG 3 ?_; refine dCG ((val_compare a b ga gb)) 4 ?_; refine dRG 5 ?_; refine dRG 6 ?_; refine dCG ((ref_compare a b ha hb da db)) 7 ?_; refine dSG 8 ?_; refine dS 9 ?_; refine dS 10 ?_; refine dRG 11 ?_; refine dCG ((val_hash a ha)) 12 ?_; refine dRG 13 ?_; refine dCG ((ref_hash a ha)) 14 ?_; refine dSG 15 ?_; refine dS 16 ?_; refine dS 17 ?_; refine dRG 18 ?_; refine dCG ((val_share b hb)) 19 ?_; refine dRG 20 ?_; refine dCG ((ref_share b hb)) 21 ?_; refine dSG 22 ?_; refine dS 23 ?_; refine dS 24 ?_; refine dSG 25 ?_; refine dSG 26 ?_; refine dCG ((val_total s n)) 27 ?_; refine dSG 28 ?_; refine dSG 29 ?_; refine dCG ((ref_total s n)) 30 ?_; refine dSG 31 ?_; refine dS 32 ?_; refine dS 33 ?_; (try clear F); first | refine dN ?_ | refine dB ?_ | refine DA.done (by decide +kernel) ?_
      refine tS ?_
      exact Fin.gives Same.auto
    · have F := (aand @h1 @h2); refine tFa ?_; (try clear F)
      refine tS1 fun K Kp hK hKp => ?_; refine Gives.at (sanity) ?_; apply hK; clear hK hKp K Kp
      refine tS ?_
      exact Fin.gives Same.auto
  · have F := @h1; refine tFa ?_; (try clear F)
    refine tS1 fun K Kp hK hKp => ?_; refine Gives.at (sanity) ?_; apply hK; clear hK hKp K Kp
    refine tS ?_
    exact Fin.gives Same.auto
end Go.Proofs.YtgfadepkiejncaaGreat
namespace Go.Ab
theorem Fin.gives2 {P : Program} {fn : Func} {m m' : St} {σ : Nat → PV} {r : PV} (hm : Same m m') (hp : ResP P fn.results.toList σ m' r) (hq : r.strip = r := by simp) (hs : r.sc m.nloc m.ntok := by simp) : Fin P fn m (fun r' m' => r' = .ret r ∧ m' = m) .ret σ m' :=
  Fin.ret hp hm hq hs ⟨rfl, rfl⟩
end Go.Ab
namespace Go.Proofs.YtgfadepkiejncaaGreat
open Go.Ab
set_option maxHeartbeats 0
set_option maxRecDepth 100000
attribute [local irreducible] AW AList ACall DA AExit.then AExit.inBlock YCall DCall

/-! slices.BinarySearchFunc, val.Find -/
theorem bin_search (l : List GV) (x : GV) (gl : goods l) (gx : good x) (ll : l.length < 100000000000) : Gives Tryz.prog 118 [GV.pvs l, x.pv, .clo 22 [] []] (.tup [vI (atF l x), vB (isF l x)]) := by
  intro m
  refine ACall.of_aw Tryz.func118 Tryz.ntmps118 rfl rfl (by simp) ?_
  refine tS ?_
  refine AW.loop (ι := Nat × Nat) (fun p σ m' => p.1 ≤ p.2 ∧ p.2 ≤ l.length ∧ bsF l x p.1 p.2 = atF l x ∧ σ 9 = vI p.1 ∧ σ 10 = vI p.2 ∧ σ 8 = vI l.length ∧ σ 4 = .loc m.nloc 0 ∧ σ 0 = GV.pvs l ∧ σ 2 = .clo 22 [] [] ∧ m' = m.newLoc x.cells) (fun p => p.2 - p.1) (0, l.length) ?_ ?_
  · exact ⟨by simp, by simp, rfl, by simp [upd_lit], by simp [upd_lit], by simp [upd_lit], by simp [upd_lit], by simp [upd_lit], by simp [upd_lit], rfl⟩
  rintro ⟨lo, hi⟩ σ m' ⟨h1, h2, hb, h9, h10, h8, t4, t0, t2, rfl⟩
  simp only at h1 h2 hb h9 h10 ⊢
  have F := (aand @h9 @h10); refine tF ?_; (try clear F)
  refine AW.condD (p := lo < hi) (by simp [upd_lit]) (fun hlt => ?_) (fun hge => ?_)
  · rw [bsF, dif_pos hlt] at hb
    obtain ⟨q, eq⟩ : ∃ q, q = (lo + hi) / 2 := ⟨_, rfl⟩
    rw [← eq] at hb
    have hm : q < l.length := by omega
    rw [List.getElem?_eq_getElem hm, Option.getD_some] at hb
    have w1 : IntKind.u64.wrap ((lo : Int) + hi) = (lo : Int) + hi := wrap_u64 _ (by omega) (by omega)
    have e1 : ((lo : Int) + hi) / 2 = (q : Int) := by omega
    have F := (aand @h9 (aand @h10 (aand @w1 @e1))); refine tF ?_; (try clear F)
    repeat (first | refine AW.seq ?_ | refine AW.block ?_ | refine AW.skip ?_ | refine AExit.norT ?_ | refine AExit.norB ?_ | refine AList.nil ?_)
    refine AW.draw [.S, .S, .S, .S, .S, .R, .R, .S] (by decide +kernel) ?_; have F := (aand @t0 (aand @t2 (aand @t4 (aand @hm @rows_getD)))); refine dS 0 ?_; refine dS 1 ?_; refine dS 2 ?_; refine dS 3 ?_; refine dS 4 ?_; refine dR 5 ?_; refine dC ((val_compare _ _ (gl _ (List.getElem_mem hm)) gx)) 6 ?_; refine dS 7 ?_; (try clear F); first | refine dN ?_ | refine dB ?_ | refine DA.done (by decide +kernel) ?_
    refine AW.condD (p := cmpV l[q] x < 0) (by simp [upd_lit]) (fun hc => ?_) (fun hc => ?_)
    · refine tS ?_
      rw [if_pos hc] at hb
      exact ⟨(q + 1, hi), ⟨by simp; omega, h2, hb, by simp [upd_lit], by simp [upd_lit, h10], by simp [upd_lit, h8], by simp [upd_lit, t4], by simp [upd_lit, t0], by simp [upd_lit, t2], rfl⟩, by simp; omega⟩
    · refine tS ?_
      rw [if_neg hc] at hb
      exact ⟨(lo, q), ⟨by simp; omega, by simp; omega, hb, by simp [upd_lit, h9], by simp [upd_lit], by simp [upd_lit, h8], by simp [upd_lit, t4], by simp [upd_lit, t0], by simp [upd_lit, t2], rfl⟩, by simp; omega⟩
  · rw [bsF, dif_neg hge] at hb
    subst hb
    refine tS ?_
    by_cases hlt : atF l x < l.length
    · have hi' : isF l x = decide (cmpV l[atF l x] x = 0) := by simp [isF, hlt]
      rw [hi']
      repeat (first | refine AW.seq ?_ | refine AW.block ?_ | refine AW.skip ?_ | refine AExit.norT ?_ | refine AExit.norB ?_ | refine AList.nil ?_)
      refine AW.draw [.S, .S, .S, .S, .S, .S, .S, .S, .S, .R, .R, .R, .S, .S, .S, .S] (by decide +kernel) ?_; have F := (aand @h9 (aand @h8 (aand @t0 (aand @t2 (aand @t4 (aand @hlt @rows_getD)))))); refine dS 0 ?_; refine dS 1 ?_; refine dS 2 ?_; refine dS 3 ?_; refine dS 4 ?_; refine dSG 5 ?_; refine dSG 6 ?_; refine dSG 7 ?_; refine dSG 8 ?_; refine dRG 9 ?_; refine dRG 10 ?_; refine dCG ((val_compare _ _ (gl _ (List.getElem_mem hlt)) gx)) 11 ?_; refine dSG 12 ?_; refine dS 13 ?_; refine dS 14 ?_; refine dS 15 ?_; (try clear F); first | refine dN ?_ | refine dB ?_ | refine DA.done (by decide +kernel) ?_
      refine tS ?_
      exact Fin.gives2 Same.auto (by simp [ResP, ResL, resV, upd_lit, show Tryz.f118.results.toList = [.tmp 6, .tmp 7] from rfl])
    · have hi' : isF l x = false := by simp [isF, hlt]
      rw [hi']
      repeat (first | refine AW.seq ?_ | refine AW.block ?_ | refine AW.skip ?_ | refine AExit.norT ?_ | refine AExit.norB ?_ | refine AList.nil ?_)
      refine AW.draw [.S, .S, .S, .S, .S, .S, .S, .S, .S, .R, .R, .R, .S, .S, .S, .S] (by decide +kernel) ?_; have F := (aand @h9 (aand @h8 (aand @t0 (aand @t2 (aand @t4 @hlt))))); refine dS 0 ?_; refine dS 1 ?_; refine dS 2 ?_; refine dS 3 ?_; refine dS 4 ?_; refine dXx 5 ?_; refine dXx 6 ?_; refine dXx 7 ?_; refine dXx 8 ?_; refine dXX 9 ?_; refine dXX 10 ?_; refine dXX 11 ?_; refine dXx 12 ?_; refine dS 13 ?_; refine dS 14 ?_; refine dS 15 ?_; (try clear F); first | refine dN ?_ | refine dB ?_ | refine DA.done (by decide +kernel) ?_
      refine tS ?_
      exact Fin.gives2 Same.auto (by simp [ResP, ResL, resV, upd_lit, show Tryz.f118.results.toList = [.tmp 6, .tmp 7] from rfl])
theorem val_find (s x : GV) (gs : good s) (gx : good x) (ls : nodes s < 100000000000) : Gives Tryz.prog 66 [s.pv, x.pv] (if s.kind = 8 then .tup [vI (atF s.els x), vB (isF s.els x)] else .tup [vI 0, vB false]) := by
  have es := nodes_eq s
  have ns := nodesL_len s.els
  intro m
  refine ACall.of_aw Tryz.func66 Tryz.ntmps66 rfl rfl (by simp) ?_
  by_cases h : s.kind = 8
  · rw [if_pos h]
    have F := @h; refine tFa ?_; (try clear F)
    refine tS1 fun K Kp hK hKp => ?_; refine Gives.at (bin_search s.els x gs.els gx (by omega)) ?_; apply hK; clear hK hKp K Kp
    refine tS ?_
    exact Fin.gives2 Same.auto (by simp [ResP, ResL, resV, upd_lit, show Tryz.f66.results.toList = [.tmp 4, .tmp 5] from rfl])
  · rw [if_neg h]
    have F := @h; refine tFa ?_; (try clear F)
    exact Fin.gives2 Same.auto (by simp [ResP, ResL, resV, upd_lit, show Tryz.f66.results.toList = [.tmp 4, .tmp 5] from rfl])
theorem val_within (a b : GV) (ga : good a) (gb : good b) (la : nodes a < 10000000000) (lb : nodes b < 10000000000) :
    Gives Tryz.prog 70 [a.pv, b.pv] (if a.kind = 8 ∧ b.kind = 8 then .tup [vB (decide (fitE (setV (mrg stM a.els b.els)) = 0) && decide ((fitV (setV (mrg stM a.els b.els))).els = [])), vE (fitE (setV (mrg stM a.els b.els)))] else .tup [vB false, vE 7]) := by
  have hm := val_minus a b ga gb la lb
  have key : ∀ (v : GV) (e : Int), Gives Tryz.prog 69 [a.pv, b.pv] (outP v e) → Gives Tryz.prog 70 [a.pv, b.pv] (.tup [vB (decide (e = 0) && decide (v.els = [])), vE e]) := by
    intro v e hv m
    refine ACall.of_aw Tryz.func70 Tryz.ntmps70 rfl rfl (by simp) ?_
    refine tS ?_
    refine tS1 fun K Kp hK hKp => ?_; refine Gives.at (hv) ?_; apply hK; clear hK hKp K Kp
    by_cases h0 : e = 0
    · have F := @h0; refine tFg ?_; (try clear F)
      exact Fin.gives2 Same.auto (by simp [ResP, ResL, resV, upd_lit, show Tryz.f70.results.toList = [.tmp 4, .tmp 5] from rfl, h0])
    · have F := @h0; refine tFg ?_; (try clear F)
      exact Fin.gives2 Same.auto (by simp [ResP, ResL, resV, upd_lit, show Tryz.f70.results.toList = [.tmp 4, .tmp 5] from rfl, h0])
  by_cases h : a.kind = 8 ∧ b.kind = 8
  · rw [if_pos h] at hm ⊢
    exact key _ _ hm
  · rw [if_neg h] at hm ⊢
    exact key _ _ hm
/-! the law's own helpers -/
def someF (v : GV) : Bool := !decide (v.kind = 0) && formedF v
theorem law_some (v : GV) (hv : v.ok) : Gives Tryz.prog 45 [v.pv] (vB (someF v)) := by
  intro m
  refine ACall.of_aw Tryz.func45 Tryz.ntmps45 rfl rfl (by simp) ?_
  by_cases h : v.kind = 0
  · have F := @h; refine tFg ?_; (try clear F)
    exact Fin.gives Same.auto rfl (by simp [upd_lit, someF, h])
  · have F := @h; refine tFg ?_; (try clear F)
    have F := @h; refine tFc (law_formed v hv) ?_; (try clear F)
    have F := @h; refine tFg ?_; (try clear F)
    exact Fin.gives Same.auto rfl (by simp [upd_lit, someF, h])
theorem law_same (v w : GV) (e f : Int) (hv : v.ok) (hw : w.ok) : Gives Tryz.prog 42 [v.pv, vE e, made w f] (vB (decide (e = f) && sameV v w)) := by
  have hs := ref_same v w hv hw
  rw [show w.pv = .agg [vI w.kind, vI w.num, vB w.neg, .list .no (limbs w.abs), vS w.str, .list .no (GV.rows w.els)] from congrArg PV.agg (cells_eq w)] at hs
  intro m
  refine ACall.of_aw Tryz.func42 Tryz.ntmps42 rfl rfl (by simp) ?_
  by_cases h : e = f
  · have F := @h; refine tFg ?_; (try clear F)
    have F := @h; refine tFc (hs) ?_; (try clear F)
    have F := @h; refine tFg ?_; (try clear F)
    exact Fin.gives Same.auto rfl (by simp [upd_lit, h])
  · have F := @h; refine tFg ?_; (try clear F)
    exact Fin.gives Same.auto rfl (by simp [upd_lit, h])
theorem law_has (s x : GV) (gs : good s) (gx : good x) (h8 : s.kind = 8) (ls : nodes s < 100000000000) : Gives Tryz.prog 61 [s.pv, x.pv] (vB (isF s.els x)) := by
  have hf := val_find s x gs gx ls
  rw [if_pos h8] at hf
  intro m
  refine ACall.of_aw Tryz.func61 Tryz.ntmps61 rfl rfl (by simp) ?_
  refine tS ?_
  refine tS1 fun K Kp hK hKp => ?_; refine Gives.at (hf) ?_; apply hK; clear hK hKp K Kp
  refine tS ?_
  exact Fin.gives Same.auto
end Go.Proofs.YtgfadepkiejncaaGreat
namespace Go.Proofs.YtgfadepkiejncaaGreat
open Go.Ab Go.Sort
set_option maxHeartbeats 0
set_option maxRecDepth 100000
attribute [local irreducible] AW AList ACall DA AExit.then AExit.inBlock YCall DCall

/-! val.sorted, val.Set, val.Tuple; ref.Set, ref.Tuple -/
theorem val_sorted (l : List GV) (g : goods l) (hl : l.length ≤ 1000000) : Gives Tryz.prog 96 [GV.pvs l] (setV (setF l)).pv := by
  by_cases h0 : l = []
  · subst h0; exact sorted0
  · exact sortedG l g h0 hl
theorem setF_nodes (l : List GV) (g : goods l) : nodesL (setF l) ≤ nodesL l := by
  obtain ⟨s1, s2, s3⟩ := setF_spec _ g
  exact nodesL_sub (Inc_nodup s1) fun x hx => ((s3 x).1 hx).1
theorem val_set (l : List GV) (g : goods l) (hl : l.length ≤ 1000000) (hn : nodesL l < 1000000000) : Gives Tryz.prog 41 [GV.pvs l] (outP (fitV (setV (setF l))) (fitE (setV (setF l)))) := by
  have h1 := setF_nodes l g
  obtain ⟨s1, s2, s3⟩ := setF_spec _ g
  have en : nodes (setV (setF l)) = 1 + nodesL (setF l) := nodes_eq _
  intro m
  refine ACall.of_aw Tryz.func41 Tryz.ntmps41 rfl rfl (by simp) ?_
  refine tS ?_
  refine tS1 fun K Kp hK hKp => ?_; refine Gives.at (val_sorted l g hl) ?_; apply hK; clear hK hKp K Kp
  refine tS ?_
  refine tS1 fun K Kp hK hKp => ?_; refine Gives.at (val_sized (setV (setF l)) (by omega) (small_list s2)) ?_; apply hK; clear hK hKp K Kp
  refine tS ?_
  refine Fin.ret (p := outP (fitV (setV (setF l))) (fitE (setV (setF l)))) ?_ Same.auto (by simp) (by simp) ⟨rfl, rfl⟩
  simp [ResP, ResL, resV, upd_lit, show Tryz.f41.results.toList = [.cell 2 27, .tmp 3] from rfl]
theorem ref_set (l : List GV) (g : goods l) (hl : l.length ≤ 1000000) (hn : nodesL l < 1000000000) : Gives Tryz.prog 44 [GV.pvs l] (made (fitV (setV (setF l))) (fitE (setV (setF l)))) := by
  have h1 := setF_nodes l g
  obtain ⟨s1, s2, s3⟩ := setF_spec _ g
  have en : nodes (setV (setF l)) = 1 + nodesL (setF l) := nodes_eq _
  intro m
  refine ACall.of_aw Tryz.func44 Tryz.ntmps44 rfl rfl (by simp) ?_
  refine tS ?_
  refine tS1 fun K Kp hK hKp => ?_; refine Gives.at (ref_makeSet l g (by omega)) ?_; apply hK; clear hK hKp K Kp
  refine tS ?_
  refine tS1 fun K Kp hK hKp => ?_; refine Gives.at (ref_fitting (setV (setF l)) (by omega) (small_list s2)) ?_; apply hK; clear hK hKp K Kp
  refine tS ?_
  exact Fin.givesC (p := made (fitV (setV (setF l))) (fitE (setV (setF l)))) rfl (by simp [upd_lit]) Same.auto
/-- How many elements are left without om at the end. -/
def tmN (l : List GV) : Nat → Nat
  | 0 => 0
  | n + 1 => if (l[n]?.getD default).kind = 0 then tmN l n else n + 1
theorem tmN_le (l : List GV) : ∀ n, tmN l n ≤ n
  | 0 => Nat.le_refl _
  | n + 1 => by
    rw [tmN]; split
    · have := tmN_le l n; omega
    · omega
def tmF (l : List GV) : List GV := l.take (tmN l l.length)
abbrev tupV (l : List GV) : GV := .mk 7 0 false [] ⟨#[]⟩ l
theorem tmF_len (l : List GV) : (tmF l).length = tmN l l.length := by
  have := tmN_le l l.length
  rw [tmF, List.length_take]; omega
theorem tm_goods {l : List GV} (g : goods l) : goods (tmF l) := fun x hx => g x (List.mem_of_mem_take hx)
theorem slice3 (l : List GV) (n : Nat) (hn : n ≤ l.length) (m : St) (K : PV → St → Prop) (h : K (.list .full (GV.rows (l.take n))) m) : aslice Tryz.prog 25 (GV.pvs l) none (some (vI n)) (some (vI n)) m K := by
  simp [aslice, abnd, rows_take]; exact ⟨hn, h⟩
theorem val_tuple (l : List GV) (g : goods l) (hl : l.length ≤ 1000000) (hn : nodesL l < 1000000000) : Gives Tryz.prog 40 [GV.pvs l] (outP (fitV (tupV (tmF l))) (fitE (tupV (tmF l)))) := by
  have h1 := nodesL_take_le l (tmN l l.length)
  have en : nodes (tupV (tmF l)) = 1 + nodesL (l.take (tmN l l.length)) := nodes_eq _
  intro m
  refine ACall.of_aw Tryz.func40 Tryz.ntmps40 rfl rfl (by simp) ?_
  refine tS ?_
  generalize hmm : m.newLoc _ = mm
  have sm : Same m mm := by rw [← hmm]; exact Same.auto
  have g0 : mm.loc m.nloc = some [vI 0, vI 0, vB false, .list .full [], vS ⟨#[]⟩, .list .full []] := by rw [← hmm]; simp
  have n0 : m.nloc < mm.nloc := by rw [← hmm]; simp
  clear hmm
  refine AW.loop (ι := Nat) (fun n σ m' => n ≤ l.length ∧ tmN l n = tmN l l.length ∧ σ 0 = GV.pvs l ∧ σ 2 = .loc m.nloc 0 ∧ σ 4 = vI n ∧ m' = mm) (fun n => n) l.length ?_ ?_
  · exact ⟨by simp, rfl, by simp [upd_lit], by simp [upd_lit], by simp [upd_lit], rfl⟩
  rintro n σ m' ⟨hn', ht, t0, t2, t4, rfl⟩
  have tk : ∀ (h : tmN l n = n), tmF l = l.take n := fun h => by rw [tmF, ← ht, h]
  have en' : ∀ k : Nat, nodes (tupV (l.take k)) = 1 + nodesL (l.take k) := fun k => nodes_eq _
  have gt : ∀ k : Nat, goods (l.take k) := fun k x hx => g x (List.mem_of_mem_take hx)
  have fin : ∀ (q : Nat), nodesL (l.take q) ≤ nodesL l := fun q => nodesL_take_le l q
  cases n with
  | zero =>
    have e := tk rfl
    rw [e]
    have := fin 0
    have := en' 0
    have F := (aand @t0 @t4); refine tFa ?_; (try clear F)
    have F := (aand @t0 @t4); refine tF1 fun K Kp hK hKp => ?_; (try clear F)
    refine slice3 l 0 (by omega) _ _ ?_
    apply hK; clear hK hKp K Kp
    refine tS ?_
    refine tS1 fun K Kp hK hKp => ?_; refine Gives.at (val_sized (tupV (l.take 0)) (by omega) (small_list (gt _))) ?_; apply hK; clear hK hKp K Kp
    have F := (aand @t2 (aand @g0 @n0)); refine tF ?_; (try clear F)
    refine Fin.ret (p := outP (fitV (tupV (l.take 0))) (fitE (tupV (l.take 0)))) ?_ (sm.setLoc (by omega) _) (by simp) (by simp) ⟨rfl, rfl⟩
    simp [ResP, ResL, resV, upd_lit, t2, n0, show Tryz.f40.results.toList = [.cell 2 27, .tmp 3] from rfl]
  | succ n =>
    have hlt : n < l.length := by omega
    have e1 : (l[n]?.getD default) = l[n] := by rw [List.getElem?_eq_getElem hlt, Option.getD_some]
    obtain ⟨q, hq⟩ : ∃ q : Int, q = ((n + 1 : Nat) : Int) := ⟨_, rfl⟩
    have e8 : q - 1 = (n : Int) := by omega
    have e9 : 0 < q := by omega
    rw [← hq] at t4
    by_cases hk : l[n].kind = 0
    · rw [tmN, e1, if_pos hk] at ht
      have F := (aand @t0 (aand @t4 (aand @e8 (aand @e9 (aand @hlt (aand @rows_getD @hk)))))); refine tFg ?_; (try clear F)
      refine tSa ?_
      have F := (aand @t4 @e8); refine tF ?_; (try clear F)
      exact ⟨n, ⟨by omega, ht, by simp [upd_lit, t0], by simp [upd_lit, t2], by simp [upd_lit], rfl⟩, by omega⟩
    · have e := tk (by rw [tmN, e1, if_neg hk])
      rw [e]
      have := fin (n + 1)
      have := en' (n + 1)
      have F := (aand @t0 (aand @t4 (aand @e8 (aand @e9 (aand @hlt (aand @rows_getD @hk)))))); refine tFg ?_; (try clear F)
      refine tSa ?_
      have F := (aand @t0 @t4); refine tF1 fun K Kp hK hKp => ?_; (try clear F)
      rw [hq]
      refine slice3 l (n + 1) hn' _ _ ?_
      apply hK; clear hK hKp K Kp
      refine tS ?_
      refine tS1 fun K Kp hK hKp => ?_; refine Gives.at (val_sized (tupV (l.take (n + 1))) (by omega) (small_list (gt _))) ?_; apply hK; clear hK hKp K Kp
      have F := (aand @t2 (aand @g0 @n0)); refine tF ?_; (try clear F)
      refine Fin.ret (p := outP (fitV (tupV (l.take (n + 1)))) (fitE (tupV (l.take (n + 1))))) ?_ (sm.setLoc (by omega) _) (by simp) (by simp) ⟨rfl, rfl⟩
      simp [ResP, ResL, resV, upd_lit, t2, n0, show Tryz.f40.results.toList = [.cell 2 27, .tmp 3] from rfl]
theorem ref_makeTuple (l : List GV) (g : goods l) (hl : l.length ≤ 1000000) : Gives Tryz.prog 98 [GV.pvs l] (tupV (tmF l)).pv := by
  intro m
  refine ACall.of_aw Tryz.func98 Tryz.ntmps98 rfl rfl (by simp) ?_
  refine tS ?_
  generalize hmm : m.newLoc _ = mm
  have sm : Same m mm := by rw [← hmm]; exact Same.auto
  have g0 : mm.loc m.nloc = some [vI 0, vI 0, vB false, .list .full [], vS ⟨#[]⟩, .list .full []] := by rw [← hmm]; simp
  have n0 : m.nloc < mm.nloc := by rw [← hmm]; simp
  clear hmm
  refine AW.loop (ι := Nat) (fun n σ m' => n ≤ l.length ∧ tmN l n = tmN l l.length ∧ σ 0 = GV.pvs l ∧ σ 2 = .loc m.nloc 0 ∧ σ 3 = vI n ∧ m' = mm) (fun n => n) l.length ?_ ?_
  · exact ⟨by simp, rfl, by simp [upd_lit], by simp [upd_lit], by simp [upd_lit], rfl⟩
  rintro n σ m' ⟨hn', ht, t0, t2, t4, rfl⟩
  have tk : ∀ (h : tmN l n = n), tmF l = l.take n := fun h => by rw [tmF, ← ht, h]
  have s1 : ∀ (n : Nat) (_ : n ≤ l.length) (m : St) (K : PV → St → Prop), K (GV.pvs (l.take n)) m → aslice Tryz.prog 25 (GV.pvs l) none (some (vI n)) none m K := fun n hn m K h => by
    simp [aslice, abnd, rows_take]; exact ⟨hn, h⟩
  cases n with
  | zero =>
    have e := tk rfl
    rw [e]
    have F := (aand @t0 @t4); refine tFa ?_; (try clear F)
    have F := (aand @t0 @t4); refine tF1 fun K Kp hK hKp => ?_; (try clear F)
    refine s1 0 (by omega) _ _ ?_
    apply hK; clear hK hKp K Kp
    refine tS ?_
    refine AList.op (by decide) ?_; intro K Kp hK hKp; simp [upd_lit]
    refine app25 (l := []) (l' := l.take 0) (m0 := m) (.full sm) rfl (by simp) fun o' m'' ho' hs => hK _ _ ?_; clear hK hKp K Kp
    have g0' := (congrFun hs.loc m.nloc).trans g0
    have n0' : m.nloc < m''.nloc := by rw [hs.nloc]; exact n0
    have F := (aand @t2 (aand @g0' @n0')); refine tF ?_; (try clear F)
    exact Fin.givesC (p := .agg [vI 7, vI 0, vB false, .list .full [], vS ⟨#[]⟩, GV.pvs (l.take 0)]) rfl (by simp [upd_lit, t2, n0']) (ho'.1.setLoc (by omega) _) (by simp [GV.cells, limbs])
  | succ n =>
    have hlt : n < l.length := by omega
    have e1 : (l[n]?.getD default) = l[n] := by rw [List.getElem?_eq_getElem hlt, Option.getD_some]
    obtain ⟨q, hq⟩ : ∃ q : Int, q = ((n + 1 : Nat) : Int) := ⟨_, rfl⟩
    have e8 : q - 1 = (n : Int) := by omega
    have e9 : 0 < q := by omega
    rw [← hq] at t4
    by_cases hk : l[n].kind = 0
    · rw [tmN, e1, if_pos hk] at ht
      have F := (aand @t0 (aand @t4 (aand @e8 (aand @e9 (aand @hlt (aand @rows_getD @hk)))))); refine tFg ?_; (try clear F)
      refine tSa ?_
      have F := (aand @t4 @e8); refine tF ?_; (try clear F)
      exact ⟨n, ⟨by omega, ht, by simp [upd_lit, t0], by simp [upd_lit, t2], by simp [upd_lit], rfl⟩, by omega⟩
    · have e := tk (by rw [tmN, e1, if_neg hk])
      rw [e]
      have F := (aand @t0 (aand @t4 (aand @e8 (aand @e9 (aand @hlt (aand @rows_getD @hk)))))); refine tFg ?_; (try clear F)
      refine tSa ?_
      have F := (aand @t0 @t4); refine tF1 fun K Kp hK hKp => ?_; (try clear F)
      rw [hq]
      refine s1 (n + 1) hn' _ _ ?_
      apply hK; clear hK hKp K Kp
      refine tS ?_
      refine AList.op (by decide) ?_; intro K Kp hK hKp; simp [upd_lit]
      refine app25 (l := []) (l' := l.take (n + 1)) (m0 := m) (.full sm) rfl (by simp; omega) fun o' m'' ho' hs => hK _ _ ?_; clear hK hKp K Kp
      have g0' := (congrFun hs.loc m.nloc).trans g0
      have n0' : m.nloc < m''.nloc := by rw [hs.nloc]; exact n0
      have F := (aand @t2 (aand @g0' @n0')); refine tF ?_; (try clear F)
      exact Fin.givesC (p := .agg [vI 7, vI 0, vB false, .list .full [], vS ⟨#[]⟩, GV.pvs (l.take (n + 1))]) rfl (by simp [upd_lit, t2, n0']) (ho'.1.setLoc (by omega) _) (by simp [GV.cells, limbs])
theorem ref_tuple (l : List GV) (g : goods l) (hl : l.length ≤ 1000000) (hn : nodesL l < 1000000000) : Gives Tryz.prog 43 [GV.pvs l] (made (fitV (tupV (tmF l))) (fitE (tupV (tmF l)))) := by
  have h1 := nodesL_take_le l (tmN l l.length)
  have en : nodes (tupV (tmF l)) = 1 + nodesL (l.take (tmN l l.length)) := nodes_eq _
  intro m
  refine ACall.of_aw Tryz.func43 Tryz.ntmps43 rfl rfl (by simp) ?_
  refine tS ?_
  refine tS1 fun K Kp hK hKp => ?_; refine Gives.at (ref_makeTuple l g hl) ?_; apply hK; clear hK hKp K Kp
  refine tS ?_
  refine tS1 fun K Kp hK hKp => ?_; refine Gives.at (ref_fitting (tupV (tmF l)) (by omega) (small_list (tm_goods g))) ?_; apply hK; clear hK hKp K Kp
  refine tS ?_
  exact Fin.givesC (p := made (fitV (tupV (tmF l))) (fitE (tupV (tmF l)))) rfl (by simp [upd_lit]) Same.auto
end Go.Proofs.YtgfadepkiejncaaGreat
namespace Go.Proofs.YtgfadepkiejncaaGreat
open Go.Ab
set_option maxHeartbeats 0
set_option maxRecDepth 100000
attribute [local irreducible] AW AList ACall DA AExit.then AExit.inBlock YCall DCall

/-! what merging comes to, for sets -/
theorem set_nonom {a : GV} (h : good a) (h8 : a.kind = 8) : ∀ x ∈ a.els, x.kind ≠ 0 := by
  have := h.1
  rw [fmd_eq] at this
  exact (this.2.1 h8).1
theorem mem_stU {a b : List GV} (ha : Inc a) (hb : Inc b) (ga : goods a) (gb : goods b) (z : GV) : z ∈ mrg stU a b ↔ z ∈ a ∨ z ∈ b := by
  rw [mem_mrg stU a b ha hb ga gb]
  constructor
  · rintro ⟨p, q, hp, hq, h, _⟩
    cases p with
    | true => exact .inl (hp.1 rfl)
    | false => simp at h; exact .inr (hq.1 h)
  · intro h
    classical
    exact ⟨decide (z ∈ a), decide (z ∈ b), by simp, by simp, by simpa using h, rfl⟩
theorem mem_stC {a b : List GV} (ha : Inc a) (hb : Inc b) (ga : goods a) (gb : goods b) (z : GV) : z ∈ mrg stC a b ↔ z ∈ a ∧ z ∈ b := by
  rw [mem_mrg stC a b ha hb ga gb]
  constructor
  · rintro ⟨p, q, hp, hq, _, h⟩
    simp [stC] at h
    exact ⟨hp.1 h.1, hq.1 h.2⟩
  · rintro ⟨h1, h2⟩
    exact ⟨true, true, by simp [h1], by simp [h2], rfl, rfl⟩
theorem mem_stM {a b : List GV} (ha : Inc a) (hb : Inc b) (ga : goods a) (gb : goods b) (z : GV) : z ∈ mrg stM a b ↔ z ∈ a ∧ ¬ z ∈ b := by
  rw [mem_mrg stM a b ha hb ga gb]
  constructor
  · rintro ⟨p, q, hp, hq, _, h⟩
    simp [stM] at h
    exact ⟨hp.1 h.1, fun k => by rw [hq.2 k] at h; simp at h⟩
  · rintro ⟨h1, h2⟩
    exact ⟨true, false, by simp [h1], by simp [h2], rfl, rfl⟩
theorem mem_stL {a b : List GV} (ha : Inc a) (hb : Inc b) (ga : goods a) (gb : goods b) (z : GV) : z ∈ mrg stL a b ↔ z ∈ a ∧ ¬ z ∈ b := by
  rw [mem_mrg stL a b ha hb ga gb]
  constructor
  · rintro ⟨p, q, hp, hq, h1, h⟩
    simp [stL] at h
    subst h
    simp at h1
    exact ⟨hp.1 h1, fun k => by have := hq.2 k; cases this⟩
  · rintro ⟨h1, h2⟩
    exact ⟨true, false, by simp [h1], by simp [h2], rfl, rfl⟩
theorem union_eq {a b : List GV} (ha : Inc a) (hb : Inc b) (ga : goods a) (gb : goods b) (na : ∀ x ∈ a, x.kind ≠ 0) (nb : ∀ x ∈ b, x.kind ≠ 0) : mrg stU a b = setF (a ++ b) :=
  setF_eq (fun x hx => (List.mem_append.1 hx).elim (ga x) (gb x)) (mrg_Inc stU a b ha hb ga gb) fun z => by
    rw [mem_stU ha hb ga gb, List.mem_append]
    exact ⟨fun h => ⟨h, h.elim (na z) (nb z)⟩, fun h => h.1⟩
theorem filt_Inc {f : GV → Bool} {l : List GV} (h : Inc l) : Inc (l.filter f) := List.Pairwise.filter f h
theorem mem_kept {l : List GV} {s : GV} {has : Bool} (gl : goods l) (gs : good s) (h8 : s.kind = 8) (z : GV) : z ∈ keptL l s has ↔ z ∈ l ∧ (z ∈ s.els ↔ has = true) := by
  unfold keptL
  rw [List.mem_filter]
  constructor
  · rintro ⟨h1, h2⟩
    refine ⟨h1, ?_⟩
    rw [← isF_mem s.els z (gl z h1) gs.els (set_Inc gs h8)]
    have : isF s.els z = has := by simpa using h2
    rw [this]
  · rintro ⟨h1, h2⟩
    refine ⟨h1, ?_⟩
    rw [← isF_mem s.els z (gl z h1) gs.els (set_Inc gs h8)] at h2
    rw [beq_iff_eq, Bool.eq_iff_iff]; exact h2
theorem common_eq {a b : GV} (ga : good a) (gb : good b) (ha : a.kind = 8) (hb : b.kind = 8) : mrg stC a.els b.els = keptL a.els b true :=
  Inc_unique _ _ (mrg_Inc stC _ _ (set_Inc ga ha) (set_Inc gb hb) ga.els gb.els) (filt_Inc (set_Inc ga ha)) fun z => by
    rw [mem_stC (set_Inc ga ha) (set_Inc gb hb) ga.els gb.els, mem_kept ga.els gb hb]; simp
theorem minus_eq {a b : GV} (ga : good a) (gb : good b) (ha : a.kind = 8) (hb : b.kind = 8) : mrg stM a.els b.els = keptL a.els b false :=
  Inc_unique _ _ (mrg_Inc stM _ _ (set_Inc ga ha) (set_Inc gb hb) ga.els gb.els) (filt_Inc (set_Inc ga ha)) fun z => by
    rw [mem_stM (set_Inc ga ha) (set_Inc gb hb) ga.els gb.els, mem_kept ga.els gb hb]; simp
theorem less_eq {a x : GV} (ga : good a) (gx : good x) (hx : x.kind ≠ 0) (ha : a.kind = 8) : mrg stL a.els [x] = keptL a.els (setV [x]) false := by
  have g1 : goods [x] := fun y hy => by simp at hy; rw [hy]; exact gx
  have i1 : Inc [x] := List.pairwise_singleton _ _
  refine Inc_unique _ _ (mrg_Inc stL _ _ (set_Inc ga ha) i1 ga.els g1) (filt_Inc (set_Inc ga ha)) fun z => ?_
  rw [mem_stL (set_Inc ga ha) i1 ga.els g1, mem_kept ga.els (one_good gx hx) rfl]
  simp [GV.els]
theorem with_eq {a x : GV} (ga : good a) (gx : good x) (hx : x.kind ≠ 0) (ha : a.kind = 8) : mrg stU a.els [x] = setF (a.els ++ [x]) :=
  union_eq (set_Inc ga ha) (List.pairwise_singleton _ _) ga.els (fun y hy => by simp at hy; rw [hy]; exact gx) (set_nonom ga ha) (fun y hy => by simp at hy; rw [hy]; exact hx)
theorem setV_ok {l : List GV} (g : goods l) (hl : l.length < 1000000) : (setV l).ok :=
  ⟨by omega, by omega, by decide, by show (0 : Nat) < _; omega, by omega, fun x hx => (by cases hx), (okL_iff l).2 fun x hx => (g x hx).2⟩
theorem omV_ok : omV.ok := ⟨by omega, by omega, by decide, by show (0 : Nat) < _; omega, by decide, fun x hx => (by cases hx), trivial⟩
theorem fitV_ok {v : GV} (h : v.ok) : (fitV v).ok := by unfold fitV; split; exact h; exact omV_ok
theorem deepL_sub {l s : List GV} (hs : ∀ x ∈ s, x ∈ l) : deepL s ≤ deepL l := by
  have h1 : ∀ (l : List GV) (x : GV), x ∈ l → deep x ≤ deepL l := by
    intro l
    induction l with
    | nil => simp
    | cons v l ih =>
      intro x hx
      rcases List.mem_cons.1 hx with rfl | hx
      · simp [deepL]; omega
      · have := ih x hx; simp [deepL]; omega
  induction s with
  | nil => simp [deepL]
  | cons v s ih =>
    have := h1 l v (hs v (by simp))
    have := ih fun x hx => hs x (by simp [hx])
    simp [deepL]; omega
/-- Formed, and of at most 400 nodes. -/
structure Fm (a : GV) : Prop where
  good : good a
  nodes : nodes a ≤ 400
  deep : deep a ≤ 20
theorem formed_Fm {v : GV} (hv : v.ok) (h : formedF v = true) : Fm v := by
  have h1 := (formedF_good hv h).1
  have h2 := (formedF_sizes h).1
  simp only [formedF, Bool.and_eq_true, decide_eq_true_eq] at h
  exact ⟨h1, h2, (checkF_ok.1 h.2).2.2⟩
theorem Fm.len {a : GV} (h : Fm a) : a.els.length ≤ 400 := by have := h.nodes; have := nodes_eq a; have := nodesL_len a.els; omega
theorem with_both {a b : GV} (ha : Fm a) (hb : Fm b) (h0 : b.kind ≠ 0) : ∃ v e, v.ok ∧ Gives Tryz.prog 63 [a.pv, b.pv] (outP v e) ∧ Gives Tryz.prog 72 [a.pv, b.pv] (made v e) := by
  have h1 := val_with a b ha.good hb.good h0 (by have := ha.nodes; omega) (by have := hb.nodes; omega)
  have h2 := ref_with a b ha.good hb.good h0 (by have := ha.nodes; omega) (by have := hb.nodes; omega)
  by_cases h8 : a.kind = 8
  · rw [if_pos h8] at h1 h2
    rw [with_eq ha.good hb.good h0 h8] at h1
    obtain ⟨_, s2, _⟩ := setF_spec (a.els ++ [b]) (fun x hx => by
      rcases List.mem_append.1 hx with h | h
      · exact ha.good.els x h
      · simp at h; rw [h]; exact hb.good)
    have := setF_len (a.els ++ [b])
    have := ha.len
    exact ⟨_, _, fitV_ok (setV_ok s2 (by simp at *; omega)), h1, h2⟩
  · rw [if_neg h8] at h1 h2
    exact ⟨_, _, omV_ok, h1, h2⟩
theorem less_both {a b : GV} (ha : Fm a) (hb : Fm b) (h0 : b.kind ≠ 0) : ∃ v e, v.ok ∧ Gives Tryz.prog 68 [a.pv, b.pv] (outP v e) ∧ Gives Tryz.prog 73 [a.pv, b.pv] (made v e) := by
  have h1 := val_less a b ha.good hb.good h0 (by have := ha.nodes; omega) (by have := hb.nodes; omega)
  have h2 := ref_less a b ha.good hb.good h0 (by have := ha.nodes; omega)
  by_cases h8 : a.kind = 8
  · rw [if_pos h8] at h1 h2
    rw [less_eq ha.good hb.good h0 h8] at h1
    have := ha.len
    have : (keptL a.els (setV [b]) false).length ≤ a.els.length := List.length_filter_le _ _
    exact ⟨_, _, fitV_ok (setV_ok (l := keptL a.els (setV [b]) false) (filt_goods ha.good.els) (by omega)), h1, h2⟩
  · rw [if_neg h8] at h1 h2
    exact ⟨_, _, omV_ok, h1, h2⟩
theorem union_both {a b : GV} (ha : Fm a) (hb : Fm b) : ∃ v e, v.ok ∧ Gives Tryz.prog 65 [a.pv, b.pv] (outP v e) ∧ Gives Tryz.prog 74 [a.pv, b.pv] (made v e) := by
  have h1 := val_union a b ha.good hb.good (by have := ha.nodes; omega) (by have := hb.nodes; omega)
  have h2 := ref_union a b ha.good hb.good (by have := ha.nodes; omega) (by have := hb.nodes; omega)
  by_cases h8 : a.kind = 8 ∧ b.kind = 8
  · rw [if_pos h8] at h1 h2
    rw [union_eq (set_Inc ha.good h8.1) (set_Inc hb.good h8.2) ha.good.els hb.good.els (set_nonom ha.good h8.1) (set_nonom hb.good h8.2)] at h1
    obtain ⟨_, s2, _⟩ := setF_spec (a.els ++ b.els) (fun x hx => (List.mem_append.1 hx).elim (ha.good.els x) (hb.good.els x))
    have := setF_len (a.els ++ b.els)
    have := ha.len
    have := hb.len
    exact ⟨_, _, fitV_ok (setV_ok s2 (by simp at *; omega)), h1, h2⟩
  · rw [if_neg h8] at h1 h2
    exact ⟨_, _, omV_ok, h1, h2⟩
theorem common_both {a b : GV} (ha : Fm a) (hb : Fm b) : ∃ v e, v.ok ∧ Gives Tryz.prog 64 [a.pv, b.pv] (outP v e) ∧ Gives Tryz.prog 75 [a.pv, b.pv] (made v e) := by
  have h1 := val_common a b ha.good hb.good (by have := ha.nodes; omega) (by have := hb.nodes; omega)
  have h2 := ref_common a b ha.good hb.good (by have := ha.nodes; omega)
  by_cases h8 : a.kind = 8 ∧ b.kind = 8
  · rw [if_pos h8] at h1 h2
    rw [common_eq ha.good hb.good h8.1 h8.2] at h1
    have := ha.len
    have : (keptL a.els b true).length ≤ a.els.length := List.length_filter_le _ _
    exact ⟨_, _, fitV_ok (setV_ok (l := keptL a.els b true) (filt_goods ha.good.els) (by omega)), h1, h2⟩
  · rw [if_neg h8] at h1 h2
    exact ⟨_, _, omV_ok, h1, h2⟩
theorem minus_both {a b : GV} (ha : Fm a) (hb : Fm b) : ∃ v e, v.ok ∧ Gives Tryz.prog 69 [a.pv, b.pv] (outP v e) ∧ Gives Tryz.prog 76 [a.pv, b.pv] (made v e) := by
  have h1 := val_minus a b ha.good hb.good (by have := ha.nodes; omega) (by have := hb.nodes; omega)
  have h2 := ref_minus a b ha.good hb.good (by have := ha.nodes; omega)
  by_cases h8 : a.kind = 8 ∧ b.kind = 8
  · rw [if_pos h8] at h1 h2
    rw [minus_eq ha.good hb.good h8.1 h8.2] at h1
    have := ha.len
    have : (keptL a.els b false).length ≤ a.els.length := List.length_filter_le _ _
    exact ⟨_, _, fitV_ok (setV_ok (l := keptL a.els b false) (filt_goods ha.good.els) (by omega)), h1, h2⟩
  · rw [if_neg h8] at h1 h2
    exact ⟨_, _, omV_ok, h1, h2⟩
/-- A part of a set fits. -/
theorem sub_fits {a : GV} (ha : Fm a) {s : List GV} (h : s.Nodup) (hs : ∀ x ∈ s, x ∈ a.els) : fitB (setV s) = true := by
  have h1 := nodesL_sub h hs
  have h2 := deepL_sub hs
  have h3 := ha.nodes
  have h4 := ha.deep
  rw [nodes_eq] at h3
  rw [deep_eq] at h4
  have e1 : nodes (setV s) = 1 + nodesL s := nodes_eq _
  have e2 : deep (setV s) = 1 + deepL s := deep_eq _
  simp [fitB, e1, e2]; omega
theorem within_both {a b : GV} (ha : Fm a) (hb : Fm b) : ∃ t e, Gives Tryz.prog 70 [a.pv, b.pv] (.tup [vB t, vE e]) ∧ Gives Tryz.prog 71 [a.pv, b.pv] (ansP t e) := by
  have h1 := val_within a b ha.good hb.good (by have := ha.nodes; omega) (by have := hb.nodes; omega)
  have h2 := ref_within a b ha.good hb.good (by have := ha.nodes; omega)
  by_cases h8 : a.kind = 8 ∧ b.kind = 8
  · rw [if_pos h8] at h1 h2
    rw [minus_eq ha.good hb.good h8.1 h8.2] at h1
    have hf : fitB (setV (keptL a.els b false)) = true := sub_fits ha (Inc_nodup (filt_Inc (set_Inc ha.good h8.1))) fun x hx => (List.mem_filter.1 hx).1
    rw [show fitV (setV (keptL a.els b false)) = setV (keptL a.els b false) from by simp [fitV, hf], show fitE (setV (keptL a.els b false)) = 0 from by simp [fitE, hf]] at h1
    have e : (decide ((0 : Int) = 0) && decide ((setV (keptL a.els b false)).els = [])) = decide (keptL a.els b false = []) := by rw [decide_eq_true rfl, Bool.true_and]; rfl
    rw [e] at h1
    exact ⟨_, _, h1, h2⟩
  · rw [if_neg h8] at h1 h2
    exact ⟨_, _, h1, h2⟩
theorem find_both {a b : GV} (ha : Fm a) (hb : Fm b) : ∃ (i : Int) (t : Bool), Gives Tryz.prog 66 [a.pv, b.pv] (.tup [vI i, vB t]) ∧ Gives Tryz.prog 67 [a.pv, b.pv] (placeP i t) := by
  have h1 := val_find a b ha.good hb.good (by have := ha.nodes; omega)
  have h2 := ref_find a b ha.good hb.good
  by_cases h8 : a.kind = 8
  · rw [if_pos h8] at h1 h2
    exact ⟨_, _, h1, h2⟩
  · rw [if_neg h8] at h1 h2
    exact ⟨_, _, h1, h2⟩
theorem same_self (v : GV) (e : Int) (hv : v.ok) : Gives Tryz.prog 42 [v.pv, vE e, made v e] (vB true) := by
  have := law_same v v e e hv hv
  simpa [sameV_refl] using this
abbrev zc : List PV := [PV.v (Value.int IntKind.i64 0), PV.v (Value.int IntKind.i64 0), PV.v (Value.bool false), PV.list Own.full [], PV.v (Value.string { data := #[] }), PV.list Own.full []]
/-! ValSets -/
theorem law13 (a b : GV) (ha : a.ok) (hb : b.ok) : Gives Tryz.prog 13 [a.pv, b.pv] (vB true) := by
  intro m
  refine ACall.of_aw Tryz.func13 Tryz.ntmps13 rfl rfl (by simp) ?_
  refine tS ?_
  refine tS1 fun K Kp hK hKp => ?_; refine Gives.at (law_some a ha) ?_; apply hK; clear hK hKp K Kp
  cases h1 : someF a with
  | false =>
    have F := @h1; refine tFa ?_; (try clear F)
    refine tS1 fun K Kp hK hKp => ?_; refine Gives.at (sanity) ?_; apply hK; clear hK hKp K Kp
    refine tS ?_
    exact Fin.gives Same.auto
  | true =>
  have F := @h1; refine tFg ?_; (try clear F)
  have F := @h1; refine tFc (law_some b hb) ?_; (try clear F)
  cases h2 : someF b with
  | false =>
    have F := (aand @h1 @h2); refine tFa ?_; (try clear F)
    refine tS1 fun K Kp hK hKp => ?_; refine Gives.at (sanity) ?_; apply hK; clear hK hKp K Kp
    refine tS ?_
    exact Fin.gives Same.auto
  | true =>
  simp only [someF, Bool.and_eq_true, Bool.not_eq_true', decide_eq_false_iff_not] at h1 h2
  have fa := formed_Fm ha h1.2
  have fb := formed_Fm hb h2.2
  obtain ⟨i0, t0, f1, f2⟩ := find_both fa fb
  obtain ⟨v1, e1, o1, w1, w2⟩ := with_both fa fb h2.1
  obtain ⟨v2, e2, o2, l1, l2⟩ := less_both fa fb h2.1
  obtain ⟨v3, e3, o3, u1, u2⟩ := union_both fa fb
  obtain ⟨v4, e4, o4, c1, c2⟩ := common_both fa fb
  obtain ⟨v5, e5, o5, m1, m2⟩ := minus_both fa fb
  obtain ⟨t6, e6, n1, n2⟩ := within_both fa fb
  clear h1 h2
  refine tSa ?_
  refine tS1 fun K Kp hK hKp => ?_; refine Gives.at (f1) ?_; apply hK; clear hK hKp K Kp
  refine tS ?_
  refine tS1 fun K Kp hK hKp => ?_; refine Gives.at (f2) ?_; apply hK; clear hK hKp K Kp
  refine tS ?_
  refine tS1 fun K Kp hK hKp => ?_; refine Gives.at (w1) ?_; apply hK; clear hK hKp K Kp
  refine tS ?_
  refine tS1 fun K Kp hK hKp => ?_; refine Gives.at (l1) ?_; apply hK; clear hK hKp K Kp
  refine tS ?_
  refine tS1 fun K Kp hK hKp => ?_; refine Gives.at (u1) ?_; apply hK; clear hK hKp K Kp
  refine tS ?_
  refine tS1 fun K Kp hK hKp => ?_; refine Gives.at (c1) ?_; apply hK; clear hK hKp K Kp
  refine tS ?_
  refine tS1 fun K Kp hK hKp => ?_; refine Gives.at (m1) ?_; apply hK; clear hK hKp K Kp
  refine tS ?_
  refine tS1 fun K Kp hK hKp => ?_; refine Gives.at (n1) ?_; apply hK; clear hK hKp K Kp
  refine tS ?_
  refine tS1 fun K Kp hK hKp => ?_; refine Gives.at (n2) ?_; apply hK; clear hK hKp K Kp
  refine tS ?_
  have sm : Same m ((((((((((((((((m.newLoc a.cells).newLoc b.cells).newLoc [PV.v (Value.int IntKind.i64 0), PV.v (Value.bool false)]).setLoc (m.nloc + 2) [vI i0, vB t0]).newLoc zc).setLoc (m.nloc + 3) v1.cells).newLoc zc).setLoc (m.nloc + 4) v2.cells).newLoc zc).setLoc (m.nloc + 5) v3.cells).newLoc zc).setLoc (m.nloc + 6) v4.cells).newLoc zc).setLoc (m.nloc + 7) v5.cells).newLoc [PV.v (Value.bool false), PV.v (Value.int IntKind.i64 0)]).setLoc (m.nloc + 8) [vB t6, vE e6]) := Same.auto
  generalize hmm : (((((((((((((((m.newLoc a.cells).newLoc b.cells).newLoc [PV.v (Value.int IntKind.i64 0), PV.v (Value.bool false)]).setLoc (m.nloc + 2) [vI i0, vB t0]).newLoc zc).setLoc (m.nloc + 3) v1.cells).newLoc zc).setLoc (m.nloc + 4) v2.cells).newLoc zc).setLoc (m.nloc + 5) v3.cells).newLoc zc).setLoc (m.nloc + 6) v4.cells).newLoc zc).setLoc (m.nloc + 7) v5.cells).newLoc [PV.v (Value.bool false), PV.v (Value.int IntKind.i64 0)]).setLoc (m.nloc + 8) [vB t6, vE e6] = mm at *
  have g0 : mm.loc (m.nloc) = some (a.cells) := by rw [← hmm]; simp [Nat.add_assoc]
  have g1 : mm.loc (m.nloc + 1) = some (b.cells) := by rw [← hmm]; simp <;> (intros; omega)
  have g2 : mm.loc (m.nloc + 2) = some ([vI i0, vB t0]) := by rw [← hmm]; simp <;> (intros; omega)
  have g3 : mm.loc (m.nloc + 3) = some (v1.cells) := by rw [← hmm]; simp <;> (intros; omega)
  have g4 : mm.loc (m.nloc + 4) = some (v2.cells) := by rw [← hmm]; simp <;> (intros; omega)
  have g5 : mm.loc (m.nloc + 5) = some (v3.cells) := by rw [← hmm]; simp <;> (intros; omega)
  have g6 : mm.loc (m.nloc + 6) = some (v4.cells) := by rw [← hmm]; simp <;> (intros; omega)
  have g7 : mm.loc (m.nloc + 7) = some (v5.cells) := by rw [← hmm]; simp <;> (intros; omega)
  have g8 : mm.loc (m.nloc + 8) = some ([vB t6, vE e6]) := by rw [← hmm]; simp <;> (intros; omega)
  have n0n : m.nloc < mm.nloc := by rw [← hmm]; simp <;> omega
  have n1n : m.nloc + 1 < mm.nloc := by rw [← hmm]; simp <;> omega
  have n2n : m.nloc + 2 < mm.nloc := by rw [← hmm]; simp <;> omega
  have n3n : m.nloc + 3 < mm.nloc := by rw [← hmm]; simp <;> omega
  have n4n : m.nloc + 4 < mm.nloc := by rw [← hmm]; simp <;> omega
  have n5n : m.nloc + 5 < mm.nloc := by rw [← hmm]; simp <;> omega
  have n6n : m.nloc + 6 < mm.nloc := by rw [← hmm]; simp <;> omega
  have n7n : m.nloc + 7 < mm.nloc := by rw [← hmm]; simp <;> omega
  have n8n : m.nloc + 8 < mm.nloc := by rw [← hmm]; simp <;> omega
  clear hmm
  refine AW.draw [.S, .S, .R, .S, .S, .S, .S, .R, .S, .S, .S, .S, .S, .R, .S, .S, .S, .S, .S, .R, .S, .S, .S, .R, .S, .R, .R, .R, .R, .S, .S, .S, .R, .S, .R, .R, .R, .R, .S, .S] (by decide +kernel) ?_; have F := (aand @g0 (aand @g1 (aand @g2 (aand @g3 (aand @g4 (aand @g5 (aand @g6 (aand @g7 (aand @g8 (aand @n0n (aand @n1n (aand @n2n (aand @n3n (aand @n4n (aand @n5n (aand @n6n (aand @n7n @n8n))))))))))))))))); refine dS 0 ?_; refine dS 1 ?_; refine dR 2 ?_; refine dS 3 ?_; refine dS 4 ?_; refine dSG 5 ?_; refine dSG 6 ?_; refine dRG 7 ?_; refine dSG 8 ?_; refine dS 9 ?_; refine dS 10 ?_; refine dSG 11 ?_; refine dSG 12 ?_; refine dRG 13 ?_; refine dSG 14 ?_; refine dS 15 ?_; refine dS 16 ?_; refine dSG 17 ?_; refine dSG 18 ?_; refine dRG 19 ?_; refine dSG 20 ?_; refine dS 21 ?_; refine dS 22 ?_; refine dRG 23 ?_; refine dSG 24 ?_; refine dRG 25 ?_; refine dRG 26 ?_; refine dCG ((w2)) 27 ?_; refine dCG ((same_self v1 e1 o1)) 28 ?_; refine dSG 29 ?_; refine dS 30 ?_; refine dS 31 ?_; refine dRG 32 ?_; refine dSG 33 ?_; refine dRG 34 ?_; refine dRG 35 ?_; refine dCG ((l2)) 36 ?_; refine dCG ((same_self v2 e2 o2)) 37 ?_; refine dSG 38 ?_; refine dS 39 ?_; (try clear F); first | refine dN ?_ | refine dB ?_ | refine DA.done (by decide +kernel) ?_
  refine tSa ?_
  refine AW.draw [.R, .S, .R, .S, .R, .R, .R, .R, .S, .S, .R, .S, .R, .R, .R, .R, .S, .S, .R, .S, .R, .R, .R, .R, .S, .S] (by decide +kernel) ?_; have F := (aand @g0 (aand @g1 (aand @g2 (aand @g3 (aand @g4 (aand @g5 (aand @g6 (aand @g7 (aand @g8 (aand @n0n (aand @n1n (aand @n2n (aand @n3n (aand @n4n (aand @n5n (aand @n6n (aand @n7n @n8n))))))))))))))))); refine dC ((sanity)) 0 ?_; refine dS 1 ?_; refine dRG 2 ?_; refine dSG 3 ?_; refine dRG 4 ?_; refine dRG 5 ?_; refine dCG ((u2)) 6 ?_; refine dCG ((same_self v3 e3 o3)) 7 ?_; refine dS 8 ?_; refine dS 9 ?_; refine dRG 10 ?_; refine dSG 11 ?_; refine dRG 12 ?_; refine dRG 13 ?_; refine dCG ((c2)) 14 ?_; refine dCG ((same_self v4 e4 o4)) 15 ?_; refine dS 16 ?_; refine dS 17 ?_; refine dRG 18 ?_; refine dSG 19 ?_; refine dRG 20 ?_; refine dRG 21 ?_; refine dCG ((m2)) 22 ?_; refine dCG ((same_self v5 e5 o5)) 23 ?_; refine dS 24 ?_; refine dS 25 ?_; (try clear F); first | refine dN ?_ | refine dB ?_ | refine DA.done (by decide +kernel) ?_
  refine tS ?_
  exact Fin.gives sm
end Go.Proofs.YtgfadepkiejncaaGreat
namespace Go.Proofs.YtgfadepkiejncaaGreat
open Go.Ab Go.Sort
set_option maxHeartbeats 0
set_option maxRecDepth 100000
attribute [local irreducible] AW AList ACall DA AExit.then AExit.inBlock YCall DCall

/-! pairs -/
def pairB (v : GV) : Bool := decide (v.kind = 7) && decide ((v.els.length : Int) = 2) && !decide ((v.els[0]?.getD default).kind = 0) && !decide ((v.els[1]?.getD default).kind = 0)
theorem val_isPair (v : GV) : Gives Tryz.prog 50 [v.pv] (vB (pairB v)) := by
  intro m
  refine ACall.of_aw Tryz.func50 Tryz.ntmps50 rfl rfl (by simp) ?_
  by_cases h1 : v.kind = 7
  rotate_left
  · have F := @h1; refine tFg ?_; (try clear F)
    exact Fin.gives Same.auto rfl (by simp [upd_lit, pairB, h1])
  by_cases h2 : (v.els.length : Int) = 2
  rotate_left
  · have F := (aand @h1 @h2); refine tFg ?_; (try clear F)
    exact Fin.gives Same.auto rfl (by simp [upd_lit, pairB, h1, h2])
  obtain ⟨a, b, e⟩ : ∃ a b, v.els = [a, b] := by
    match h : v.els, h2 with
    | [a, b], _ => exact ⟨a, b, rfl⟩
    | [], h2 => simp at h2
    | [a], h2 => simp at h2
    | a :: b :: c :: l, h2 => simp at h2; omega
  have r0 : rowI (GV.rows [a, b]) 0 = a.cells := rows_getD [a, b] 0 (by simp)
  have r1 : rowI (GV.rows [a, b]) 1 = b.cells := rows_getD [a, b] 1 (by simp)
  have hp : pairB v = (!decide (a.kind = 0) && !decide (b.kind = 0)) := by simp [pairB, h1, e]
  rw [hp]
  clear h2 hp
  by_cases h3 : a.kind = 0
  · have F := (aand @h1 (aand @e (aand @r0 (aand @r1 @h3)))); refine tFg ?_; (try clear F)
    exact Fin.gives Same.auto rfl (by simp [upd_lit, h3])
  · have F := (aand @h1 (aand @e (aand @r0 (aand @r1 @h3)))); refine tFg ?_; (try clear F)
    exact Fin.gives Same.auto rfl (by simp [upd_lit, h3])
theorem ref_isPair (v : GV) : Gives Tryz.prog 51 [v.pv] (vB (pairB v)) := by
  intro m
  refine ACall.of_aw Tryz.func51 Tryz.ntmps51 rfl rfl (by simp) ?_
  by_cases h1 : v.kind = 7
  rotate_left
  · have F := @h1; refine tFg ?_; (try clear F)
    exact Fin.gives Same.auto rfl (by simp [upd_lit, pairB, h1])
  by_cases h2 : (v.els.length : Int) = 2
  rotate_left
  · have F := (aand @h1 @h2); refine tFg ?_; (try clear F)
    exact Fin.gives Same.auto rfl (by simp [upd_lit, pairB, h1, h2])
  obtain ⟨a, b, e⟩ : ∃ a b, v.els = [a, b] := by
    match h : v.els, h2 with
    | [a, b], _ => exact ⟨a, b, rfl⟩
    | [], h2 => simp at h2
    | [a], h2 => simp at h2
    | a :: b :: c :: l, h2 => simp at h2; omega
  have r0 : rowI (GV.rows [a, b]) 0 = a.cells := rows_getD [a, b] 0 (by simp)
  have r1 : rowI (GV.rows [a, b]) 1 = b.cells := rows_getD [a, b] 1 (by simp)
  have hp : pairB v = (!decide (a.kind = 0) && !decide (b.kind = 0)) := by simp [pairB, h1, e]
  rw [hp]
  clear h2 hp
  by_cases h3 : a.kind = 0
  · have F := (aand @h1 (aand @e (aand @r0 (aand @r1 @h3)))); refine tFg ?_; (try clear F)
    exact Fin.gives Same.auto rfl (by simp [upd_lit, h3])
  · have F := (aand @h1 (aand @e (aand @r0 (aand @r1 @h3)))); refine tFg ?_; (try clear F)
    exact Fin.gives Same.auto rfl (by simp [upd_lit, h3])
/-! slices.IndexFunc of values -/
def fxF (p : GV → Bool) : List GV → Int → Int
  | [], _ => -1
  | x :: l, i => if p x then i else fxF p l (i + 1)
theorem fxF_nn (p : GV → Bool) : ∀ (l : List GV) (i : Int), 0 ≤ i → (0 ≤ fxF p l i ↔ l.any p = true)
  | [], i, _ => by simp [fxF]
  | x :: l, i, h => by
    have := fxF_nn p l (i + 1) (by omega)
    cases hx : p x <;> simp [fxF, hx, h] <;> simpa using this
theorem index_val (l : List GV) (p : GV → Bool) (f : FuncId) (hl : l.length < 1152921504606846976) (hf : ∀ x ∈ l, Gives Tryz.prog f [x.pv] (vB (p x))) : Gives Tryz.prog 148 [GV.pvs l, .clo f [] []] (vI (fxF p l 0)) := by
  intro m
  refine ACall.of_aw Tryz.func148 Tryz.ntmps148 rfl rfl (by simp) ?_
  refine tS ?_
  refine AW.loop (ι := Nat) (fun i σ m' => i ≤ l.length ∧ fxF p (l.drop i) i = fxF p l 0 ∧ σ 8 = vI i ∧ σ 7 = vI l.length ∧ σ 0 = GV.pvs l ∧ σ 1 = .clo f [] [] ∧ m' = m) (fun i => l.length - i) 0 ?_ ?_
  · exact ⟨by simp, rfl, by simp [upd_lit], by simp [upd_lit], by simp [upd_lit], by simp [upd_lit], rfl⟩
  rintro i σ m' ⟨hi, hF, t8, t7, t0, t1, rfl⟩
  by_cases hlt : i < l.length
  · rw [List.drop_eq_getElem_cons hlt, fxF] at hF
    have F := (aand @t8 (aand @t7 @hlt)); refine tFa ?_; (try clear F)
    have F := (aand @t0 (aand @t1 (aand @t8 (aand @hlt @rows_getD)))); refine tF ?_; (try clear F)
    have F := (aand @t0 (aand @t1 (aand @hlt @rows_getD))); refine tF1 fun K Kp hK hKp => ?_; (try clear F); refine Gives.at (hf l[i] (List.getElem_mem hlt)) ?_; apply hK; clear hK hKp K Kp
    cases hp : p l[i] with
    | true =>
      rw [hp, if_pos rfl] at hF
      refine tSa ?_
      exact Fin.gives Same.auto rfl (by simp [upd_lit, ← hF])
    | false =>
      rw [hp, if_neg (by simp)] at hF
      refine tSa ?_
      have F := @t8; refine tF ?_; (try clear F)
      exact ⟨i + 1, ⟨by omega, hF, by simp [upd_lit], by simp [upd_lit, t7], by simp [upd_lit, t0], by simp [upd_lit, t1], rfl⟩, by omega⟩
  · have e : i = l.length := by omega
    rw [e, List.drop_length, fxF] at hF
    have F := (aand @t8 (aand @t7 @hlt)); refine tFa ?_; (try clear F)
    exact Fin.gives Same.auto rfl (by simp [upd_lit, ← hF])
theorem contains_val (l : List GV) (p : GV → Bool) (f : FuncId) (hl : l.length < 1152921504606846976) (hf : ∀ x ∈ l, Gives Tryz.prog f [x.pv] (vB (p x))) : Gives Tryz.prog 100 [GV.pvs l, .clo f [] []] (vB (l.any p)) := by
  have e : decide (0 ≤ fxF p l 0) = l.any p := by rw [Bool.eq_iff_iff, decide_eq_true_eq]; exact fxF_nn p l 0 (by omega)
  intro m
  refine ACall.of_aw Tryz.func100 Tryz.ntmps100 rfl rfl (by simp) ?_
  refine tS ?_
  refine tS1 fun K Kp hK hKp => ?_; refine Gives.at (index_val l p f hl hf) ?_; apply hK; clear hK hKp K Kp
  refine tS ?_
  exact Fin.gives Same.auto rfl (by simp [upd_lit, ← e])
theorem clo101 (v : GV) : Gives Tryz.prog 101 [v.pv] (vB (!pairB v)) := by
  intro m
  refine ACall.of_aw Tryz.func101 Tryz.ntmps101 rfl rfl (by simp) ?_
  refine tS ?_
  refine tS1 fun K Kp hK hKp => ?_; refine Gives.at (val_isPair v) ?_; apply hK; clear hK hKp K Kp
  refine tS ?_
  exact Fin.gives Same.auto
def mapB (v : GV) : Bool := decide (v.kind = 8) && v.els.all pairB
theorem val_isMap (v : GV) (hl : v.els.length < 1152921504606846976) : Gives Tryz.prog 52 [v.pv] (vB (mapB v)) := by
  have hc := contains_val v.els (fun x => !pairB x) 101 hl fun x _ => clo101 x
  have e : (v.els.any fun x => !pairB x) = !v.els.all pairB := by rw [List.not_all_eq_any_not]
  rw [e] at hc
  intro m
  refine ACall.of_aw Tryz.func52 Tryz.ntmps52 rfl rfl (by simp) ?_
  by_cases h : v.kind = 8
  · have F := @h; refine tFg ?_; (try clear F)
    have F := @h; refine tFc (hc) ?_; (try clear F)
    have F := @h; refine tFg ?_; (try clear F)
    exact Fin.gives Same.auto rfl (by simp [upd_lit, mapB, h])
  · have F := @h; refine tFg ?_; (try clear F)
    exact Fin.gives Same.auto rfl (by simp [upd_lit, mapB, h])
theorem ref_isMap (v : GV) (hl : v.els.length < 1152921504606846976) : Gives Tryz.prog 53 [v.pv] (vB (mapB v)) := by
  intro m
  refine ACall.of_aw Tryz.func53 Tryz.ntmps53 rfl rfl (by simp) ?_
  by_cases h : v.kind = 8
  rotate_left
  · have e : mapB v = false := by simp [mapB, h]
    rw [e]
    have F := @h; refine tFa ?_; (try clear F)
    exact Fin.gives Same.auto
  have F := @h; refine tFa ?_; (try clear F)
  refine AW.loop (ι := Nat) (fun i σ m' => i ≤ v.els.length ∧ (∀ j (h : j < v.els.length), j < i → pairB v.els[j] = true) ∧ σ 3 = vI i ∧ σ 1 = .loc m.nloc 0 ∧ m' = m.newLoc v.cells) (fun i => v.els.length - i) 0 ?_ ?_
  · exact ⟨by simp, fun j _ h => by omega, by simp [upd_lit], by simp [upd_lit], rfl⟩
  rintro i σ m' ⟨hi, hj, t3, t1, rfl⟩
  by_cases hlt : i < v.els.length
  · have F := (aand @t3 (aand @t1 @hlt)); refine tFa ?_; (try clear F)
    have F := (aand @t3 (aand @t1 (aand @hlt @rows_getD))); refine tF ?_; (try clear F)
    have F := (aand @hlt @rows_getD); refine tF1 fun K Kp hK hKp => ?_; (try clear F); refine Gives.at (ref_isPair v.els[i]) ?_; apply hK; clear hK hKp K Kp
    cases hp : pairB v.els[i] with
    | false =>
      have e : mapB v = false := by
        have : v.els.all pairB = false := by rw [List.all_eq_false]; exact ⟨_, List.getElem_mem hlt, by simp [hp]⟩
        rw [mapB, this, Bool.and_false]
      rw [e]
      refine tSa ?_
      exact Fin.gives Same.auto
    | true =>
      refine tSa ?_
      have F := @t3; refine tF ?_; (try clear F)
      refine ⟨i + 1, ⟨by omega, ?_, by simp [upd_lit], by simp [upd_lit, t1], rfl⟩, by omega⟩
      intro j h hj'
      by_cases e : j = i
      · subst e; exact hp
      · exact hj j h (by omega)
  · have e : mapB v = true := by
      rw [mapB, decide_eq_true h, Bool.true_and, List.all_eq_true]
      intro x hx
      obtain ⟨j, hj1, rfl⟩ := List.getElem_of_mem hx
      exact hj j hj1 (by omega)
    rw [e]
    have F := (aand @t3 (aand @t1 @hlt)); refine tFa ?_; (try clear F)
    exact Fin.gives Same.auto
end Go.Proofs.YtgfadepkiejncaaGreat
namespace Go.Proofs.YtgfadepkiejncaaGreat
open Go.Ab Go.Sort
set_option maxHeartbeats 0
set_option maxRecDepth 100000
attribute [local irreducible] AW AList ACall DA AExit.then AExit.inBlock YCall DCall

/-! what a map has for a value -/
theorem pairB_iff {v : GV} : pairB v = true ↔ v.kind = 7 ∧ ∃ a b, v.els = [a, b] ∧ a.kind ≠ 0 ∧ b.kind ≠ 0 := by
  constructor
  · intro h
    simp only [pairB, Bool.and_eq_true, decide_eq_true_eq, Bool.not_eq_true', decide_eq_false_iff_not] at h
    obtain ⟨⟨⟨h1, h2⟩, h3⟩, h4⟩ := h
    refine ⟨h1, ?_⟩
    match hv : v.els, h2 with
    | [a, b], _ => rw [hv] at h3 h4; exact ⟨a, b, rfl, by simpa using h3, by simpa using h4⟩
    | [], h2 => simp at h2
    | [a], h2 => simp at h2
    | a :: b :: c :: l, h2 => simp at h2; omega
  · rintro ⟨h1, a, b, e, h3, h4⟩
    simp [pairB, h1, e, h3, h4]
def p1 (v : GV) : GV := v.els[0]?.getD default
def p2 (v : GV) : GV := v.els[1]?.getD default
def imgL (l : List GV) (x : GV) : List GV := (l.filter fun p => decide (cmpV (p1 p) x = 0)).map p2
theorem imgL_take (l : List GV) (x : GV) (i : Nat) (h : i < l.length) : imgL (l.take (i + 1)) x = imgL (l.take i) x ++ (if cmpV (p1 l[i]) x = 0 then [p2 l[i]] else []) := by
  rw [imgL, filter_take _ l i h, List.map_append, imgL]
  congr 1
  by_cases hc : cmpV (p1 l[i]) x = 0 <;> simp [hc]
theorem imgL_len (l : List GV) (x : GV) (i : Nat) : (imgL (l.take i) x).length ≤ l.length := by
  rw [imgL, List.length_map]; exact filter_take_len _ l i
theorem pair_good {l : List GV} (g : goods l) {p a b : GV} (hp : p ∈ l) (e : p.els = [a, b]) : good a ∧ good b := by
  have := (g p hp).els
  rw [e] at this
  exact ⟨this a (by simp), this b (by simp)⟩
theorem imgL_goods {l : List GV} (g : goods l) (hp : l.all pairB = true) (x : GV) : goods (imgL l x) := by
  intro y hy
  rw [imgL, List.mem_map] at hy
  obtain ⟨p, h1, rfl⟩ := hy
  have hm := (List.mem_filter.1 h1).1
  obtain ⟨_, a, b, e, _, _⟩ := pairB_iff.1 (List.all_eq_true.1 hp p hm)
  have := (pair_good g hm e).2
  simpa [p2, e] using this
theorem pair_nodes {v a b : GV} (e : v.els = [a, b]) : nodes v = 1 + nodes a + nodes b := by
  have := nodes_eq v
  rw [e] at this
  simp [nodesL] at this
  omega
theorem imgL_nodes {l : List GV} (hp : l.all pairB = true) (x : GV) : nodesL (imgL l x) ≤ nodesL l := by
  induction l with
  | nil => simp [imgL, nodesL]
  | cons v l ih =>
    simp only [List.all_cons, Bool.and_eq_true] at hp
    have := ih hp.2
    obtain ⟨_, a, b, e, _, _⟩ := pairB_iff.1 hp.1
    have hn := pair_nodes e
    have e2 : p2 v = b := by simp [p2, e]
    simp only [imgL] at this ⊢
    rw [List.filter_cons]
    split
    · simp only [List.map_cons, nodesL, e2]; omega
    · simp only [nodesL]; omega
abbrev zcV : List PV := [vI 0, vI 0, vB false, .list .full [], vS ⟨#[]⟩, .list .full []]
theorem val_image (f x : GV) (gf : good f) (gx : good x) (lf : nodes f < 1000000) :
    Gives Tryz.prog 46 [f.pv, x.pv] (if mapB f then outP (fitV (setV (setF (imgL f.els x)))) (fitE (setV (setF (imgL f.els x)))) else outP omV 7) := by
  have ef := nodes_eq f
  have nf := nodesL_len f.els
  intro m
  refine ACall.of_aw Tryz.func46 Tryz.ntmps46 rfl rfl (by simp) ?_
  refine tS ?_
  refine tS1 fun K Kp hK hKp => ?_; refine Gives.at (val_isMap f (by omega)) ?_; apply hK; clear hK hKp K Kp
  cases hm : mapB f with
  | false =>
    rw [if_neg (by simp)]
    refine tSa ?_
    refine Fin.ret (p := .tup [.agg [vI 0, vI 0, vB false, .list .full [], vS ⟨#[]⟩, .list .full []], vE 7]) ?_ Same.auto (by rfl) (by simp) ⟨rfl, rfl⟩
    simp [ResP, ResL, resV, upd_lit, show Tryz.f46.results.toList = [.cell 4 27, .tmp 5] from rfl]
  | true =>
  rw [if_pos rfl]
  have hp : f.els.all pairB = true := by rw [mapB, Bool.and_eq_true] at hm; exact hm.2
  have gi := imgL_goods gf.els hp x
  have ni := imgL_nodes hp x
  have li := imgL_len f.els x f.els.length
  rw [List.take_length] at li
  refine tSa ?_
  refine tSn ?_
  refine AW.nilS (d := 6) (by simp [upd_lit]) ?_
  refine tS ?_
  generalize hmm : ((m.newLoc f.cells).newLoc x.cells).newLoc _ = mm
  have sm : Same m mm := by rw [← hmm]; exact Same.auto
  have g1 : mm.loc (m.nloc + 1) = some x.cells := by rw [← hmm]; simp
  have g2 : mm.loc (m.nloc + 2) = some zcV := by rw [← hmm]; simp
  have n1 : mm.nloc = m.nloc + 3 := by rw [← hmm]; simp
  clear hmm
  refine AW.loop (ι := Nat) (fun i σ m' => i ≤ f.els.length ∧ σ 16 = vI i ∧ σ 15 = vI f.els.length ∧ σ 14 = GV.pvs f.els ∧ σ 3 = .loc (m.nloc + 1) 0 ∧ σ 4 = .loc (m.nloc + 2) 0 ∧ (∃ o, σ 6 = .list o (GV.rows (imgL (f.els.take i) x)) ∧ Ow mm m' o 6 (imgL (f.els.take i) x).length)) (fun i => f.els.length - i) 0 ?_ ?_
  · exact ⟨by simp, by simp [upd_lit], by simp [upd_lit], by simp [upd_lit], by simp [upd_lit], by simp [upd_lit], .full, by simp [upd_lit, imgL, GV.rows], .full (Same.refl _)⟩
  rintro i σ m' ⟨hi, t16, t15, t14, t3, t4, o, t6, ho⟩
  have q1 : m.nloc + 1 < m'.nloc := Nat.lt_of_lt_of_le (by omega) ho.same.lloc
  have q2 : m.nloc + 2 < m'.nloc := Nat.lt_of_lt_of_le (by omega) ho.same.lloc
  have q3 : m.nloc + 3 ≤ m'.nloc := Nat.le_trans (by omega) ho.same.lloc
  have k1 : m'.loc (m.nloc + 1) = some x.cells := (ho.same.get (by omega)).trans g1
  have k2 : m'.loc (m.nloc + 2) = some zcV := (ho.same.get (by omega)).trans g2
  by_cases hlt : i < f.els.length
  · have ht := imgL_take f.els x i hlt
    have hl' := imgL_len f.els x i
    have hmem := List.getElem_mem hlt
    obtain ⟨p, ep⟩ : ∃ p, p = f.els[i] := ⟨_, rfl⟩
    have ep' := ep.symm
    rw [ep'] at hmem
    obtain ⟨_, a, b, e, _, _⟩ := pairB_iff.1 (List.all_eq_true.1 hp p hmem)
    obtain ⟨ga, gb⟩ := pair_good gf.els hmem e
    have ea : p1 p = a := by simp [p1, e]
    have eb : p2 p = b := by simp [p2, e]
    rw [← ep, ea, eb] at ht
    have r0 : rowI (GV.rows [a, b]) 0 = a.cells := rows_getD [a, b] 0 (by simp)
    have r1 : rowI (GV.rows [a, b]) 1 = b.cells := rows_getD [a, b] 1 (by simp)
    have F := (aand @t16 (aand @t15 @hlt)); refine tFa ?_; (try clear F)
    have F := (aand @t14 (aand @t16 (aand @hlt (aand @rows_getD @ep')))); refine tF ?_; (try clear F)
    repeat (first | refine AW.seq ?_ | refine AW.block ?_ | refine AW.skip ?_ | refine AExit.norT ?_ | refine AExit.norB ?_ | refine AList.nil ?_)
    have hne : m.nloc + 1 ≠ m'.nloc := by omega
    have q0 : m.nloc < m'.nloc := by omega
    refine AW.draw [.S, .R, .S, .R, .R, .R, .S] (by decide +kernel) ?_; have F := (aand @e (aand @t3 (aand @k1 (aand @q0 (aand @r0 @hne))))); refine dS 0 ?_; refine dR 1 ?_; refine dS 2 ?_; refine dR 3 ?_; refine dR 4 ?_; refine dC ((val_compare a x ga gx)) 5 ?_; refine dS 6 ?_; (try clear F); first | refine dN ?_ | refine dB ?_ | refine DA.done (by decide +kernel) ?_
    have ow2 : Ow mm ((m'.newLoc zcV).setLoc m'.nloc p.cells) o 6 (imgL (f.els.take i) x).length := ⟨(ho.1.newLoc _).setLoc (by omega) _, ho.2⟩
    by_cases hc : cmpV a x = 0
    · rw [if_pos hc] at ht
      have F := @hc; refine tFa ?_; (try clear F)
      have F := (aand @t6 (aand @e @r1)); refine tF ?_; (try clear F)
      refine AList.op (by decide) ?_; intro K Kp hK hKp; simp [t6, upd_lit]
      refine app25 (l' := [b]) ow2 rfl (by simp; omega) fun o' m'' ho' hs' => hK _ _ ?_; clear hK hKp K Kp
      have F := @t16; refine tF ?_; (try clear F)
      exact ⟨i + 1, ⟨by omega, by simp [upd_lit], by simp [upd_lit, t15], by simp [upd_lit, t14], by simp [upd_lit, t3], by simp [upd_lit, t4], o', by simp [upd_lit, ht], by rw [ht]; simpa using ho'⟩, by omega⟩
    · rw [if_neg hc, List.append_nil] at ht
      have F := @hc; refine tFa ?_; (try clear F)
      have F := @t16; refine tF ?_; (try clear F)
      exact ⟨i + 1, ⟨by omega, by simp [upd_lit], by simp [upd_lit, t15], by simp [upd_lit, t14], by simp [upd_lit, t3], by simp [upd_lit, t4], o, by simp [upd_lit, ht, t6], by rw [ht]; exact ow2⟩, by omega⟩
  · have e : i = f.els.length := by omega
    rw [e, List.take_length] at t6
    have F := (aand @t16 (aand @t15 @hlt)); refine tFa ?_; (try clear F)
    have F := @t6; refine tF ?_; (try clear F)
    have F := @t6; refine tF1 fun K Kp hK hKp => ?_; (try clear F); refine Gives.at (val_set (imgL f.els x) gi (by omega) (by omega)) ?_; apply hK; clear hK hKp K Kp
    have F := (aand @t4 (aand @k2 @q2)); refine tF ?_; (try clear F)
    refine Fin.ret (p := outP (fitV (setV (setF (imgL f.els x)))) (fitE (setV (setF (imgL f.els x))))) ?_ ((sm.trans ho.same).setLoc (by omega) _) (by simp) (by simp) ⟨rfl, rfl⟩
    simp [ResP, ResL, resV, upd_lit, t4, q2, show Tryz.f46.results.toList = [.cell 4 27, .tmp 5] from rfl]
theorem ref_images (f x : GV) (gf : good f) (gx : good x) (lf : nodes f < 1000000) (hp : f.els.all pairB = true) :
    Gives Tryz.prog 104 [f.pv, x.pv] (setV (setF (imgL f.els x))).pv := by
  have ef := nodes_eq f
  have nf := nodesL_len f.els
  have gi := imgL_goods gf.els hp x
  have li := imgL_len f.els x f.els.length
  rw [List.take_length] at li
  intro m
  refine ACall.of_aw Tryz.func104 Tryz.ntmps104 rfl rfl (by simp) ?_
  refine tSn ?_
  refine AW.nilS (d := 5) (by simp [upd_lit]) ?_
  refine tS ?_
  generalize hmm : ((m.newLoc f.cells).newLoc x.cells).newLoc _ = mm
  have sm : Same m mm := by rw [← hmm]; exact Same.auto
  have g0 : mm.loc m.nloc = some f.cells := by rw [← hmm]; simp; intro h; omega
  have g1 : mm.loc (m.nloc + 1) = some x.cells := by rw [← hmm]; simp
  have g2 : mm.loc (m.nloc + 2) = some zcV := by rw [← hmm]; simp
  have n1 : mm.nloc = m.nloc + 3 := by rw [← hmm]; simp
  clear hmm
  refine AW.loop (ι := Nat) (fun i σ m' => i ≤ f.els.length ∧ σ 6 = vI i ∧ σ 2 = .loc m.nloc 0 ∧ σ 3 = .loc (m.nloc + 1) 0 ∧ σ 4 = .loc (m.nloc + 2) 0 ∧ (∃ o, σ 5 = .list o (GV.rows (imgL (f.els.take i) x)) ∧ Ow mm m' o 6 (imgL (f.els.take i) x).length)) (fun i => f.els.length - i) 0 ?_ ?_
  · exact ⟨by simp, by simp [upd_lit], by simp [upd_lit], by simp [upd_lit], by simp [upd_lit], .full, by simp [upd_lit, imgL, GV.rows], .full (Same.refl _)⟩
  rintro i σ m' ⟨hi, t6, t2, t3, t4, o, t5, ho⟩
  have q0 : m.nloc < m'.nloc := Nat.lt_of_lt_of_le (by omega) ho.same.lloc
  have q1 : m.nloc + 1 < m'.nloc := Nat.lt_of_lt_of_le (by omega) ho.same.lloc
  have q2 : m.nloc + 2 < m'.nloc := Nat.lt_of_lt_of_le (by omega) ho.same.lloc
  have k0 : m'.loc m.nloc = some f.cells := (ho.same.get (by omega)).trans g0
  have k1 : m'.loc (m.nloc + 1) = some x.cells := (ho.same.get (by omega)).trans g1
  have k2 : m'.loc (m.nloc + 2) = some zcV := (ho.same.get (by omega)).trans g2
  by_cases hlt : i < f.els.length
  · have ht := imgL_take f.els x i hlt
    have hl' := imgL_len f.els x i
    have hmem := List.getElem_mem hlt
    obtain ⟨p, ep⟩ : ∃ p, p = f.els[i] := ⟨_, rfl⟩
    have ep' := ep.symm
    rw [ep'] at hmem
    obtain ⟨_, a, b, e, _, _⟩ := pairB_iff.1 (List.all_eq_true.1 hp p hmem)
    obtain ⟨ga, gb⟩ := pair_good gf.els hmem e
    have ea : p1 p = a := by simp [p1, e]
    have eb : p2 p = b := by simp [p2, e]
    rw [← ep, ea, eb] at ht
    have r0 : rowI (GV.rows [a, b]) 0 = a.cells := rows_getD [a, b] 0 (by simp)
    have r1 : rowI (GV.rows [a, b]) 1 = b.cells := rows_getD [a, b] 1 (by simp)
    have F := (aand @t6 (aand @t2 (aand @k0 (aand @q0 @hlt)))); refine tFa ?_; (try clear F)
    repeat (first | refine AW.seq ?_ | refine AW.block ?_ | refine AW.skip ?_ | refine AExit.norT ?_ | refine AExit.norB ?_ | refine AList.nil ?_)
    refine AW.draw [.S, .R, .S, .S, .S, .R, .S, .R, .R, .R, .S] (by decide +kernel) ?_; have F := (aand @e (aand @t6 (aand @t2 (aand @t3 (aand @k0 (aand @k1 (aand @q0 (aand @q1 (aand @r0 (aand @hlt (aand @rows_getD @ep'))))))))))); refine dS 0 ?_; refine dR 1 ?_; refine dS 2 ?_; refine dS 3 ?_; refine dS 4 ?_; refine dR 5 ?_; refine dS 6 ?_; refine dR 7 ?_; refine dR 8 ?_; refine dC ((refC ga gx)) 9 ?_; refine dS 10 ?_; (try clear F); first | refine dN ?_ | refine dB ?_ | refine DA.done (by decide +kernel) ?_
    by_cases hc : cmpV a x = 0
    · rw [if_pos hc] at ht
      have F := @hc; refine tFa ?_; (try clear F)
      have F := (aand @t5 (aand @t2 (aand @t6 (aand @k0 (aand @q0 (aand @e (aand @r1 (aand @hlt (aand @rows_getD @ep'))))))))); refine tF ?_; (try clear F)
      refine AList.op (by decide) ?_; intro K Kp hK hKp; simp [t5, upd_lit]
      refine app25 (l' := [b]) ho rfl (by simp; omega) fun o' m'' ho' hs' => hK _ _ ?_; clear hK hKp K Kp
      have F := @t6; refine tF ?_; (try clear F)
      exact ⟨i + 1, ⟨by omega, by simp [upd_lit], by simp [upd_lit, t2], by simp [upd_lit, t3], by simp [upd_lit, t4], o', by simp [upd_lit, ht], by rw [ht]; simpa using ho'⟩, by omega⟩
    · rw [if_neg hc, List.append_nil] at ht
      have F := @hc; refine tFa ?_; (try clear F)
      have F := @t6; refine tF ?_; (try clear F)
      exact ⟨i + 1, ⟨by omega, by simp [upd_lit], by simp [upd_lit, t2], by simp [upd_lit, t3], by simp [upd_lit, t4], o, by simp [upd_lit, ht, t5], by rw [ht]; exact ho⟩, by omega⟩
  · have e : i = f.els.length := by omega
    rw [e, List.take_length] at t5
    have F := (aand @t6 (aand @t2 (aand @k0 (aand @q0 @hlt)))); refine tFa ?_; (try clear F)
    have F := @t5; refine tF ?_; (try clear F)
    have F := @t5; refine tF1 fun K Kp hK hKp => ?_; (try clear F); refine Gives.at (ref_makeSet (imgL f.els x) gi (by omega)) ?_; apply hK; clear hK hKp K Kp
    have F := (aand @t4 (aand @k2 @q2)); refine tF ?_; (try clear F)
    exact Fin.givesC (p := (setV (setF (imgL f.els x))).pv) rfl (by simp [upd_lit, t4, q2]) ((sm.trans ho.same).setLoc (by omega) _)
theorem ref_mapped (f v : GV) (gf : good f) (lf : nodes f < 1000000) (hv : nodes v < 1099511627776) (hs : smallV v) :
    Gives Tryz.prog 103 [f.pv, v.pv] (if mapB f then made v 0 else made omV 7) := by
  have ef := nodes_eq f
  have nf := nodesL_len f.els
  intro m
  refine ACall.of_aw Tryz.func103 Tryz.ntmps103 rfl rfl (by simp) ?_
  refine tS ?_
  refine tS1 fun K Kp hK hKp => ?_; refine Gives.at (ref_isMap f (by omega)) ?_; apply hK; clear hK hKp K Kp
  cases hm : mapB f with
  | false =>
    rw [if_neg (by simp)]
    refine tSa ?_
    refine tS1 fun K Kp hK hKp => ?_; refine Gives.at (ref_bad 7) ?_; apply hK; clear hK hKp K Kp
    refine tS ?_
    exact Fin.givesC (p := made omV 7) rfl (by simp [upd_lit]) Same.auto (by rfl)
  | true =>
    rw [if_pos rfl]
    refine tSa ?_
    refine tS1 fun K Kp hK hKp => ?_; refine Gives.at (ref_copy v hv hs) ?_; apply hK; clear hK hKp K Kp
    have F := @cells_eq; refine tF ?_; (try clear F)
    exact Fin.givesC (p := made v 0) rfl (by simp [upd_lit]) Same.auto
end Go.Proofs.YtgfadepkiejncaaGreat
namespace Go.Proofs.YtgfadepkiejncaaGreat
open Go.Ab Go.Sort
set_option maxHeartbeats 0
set_option maxRecDepth 100000
attribute [local irreducible] AW AList ACall DA AExit.then AExit.inBlock YCall DCall

/-! what fits -/
theorem fit_of {f : GV} (hf : Fm f) {s : List GV} (h1 : nodesL s ≤ nodesL f.els) (h2 : deepL s ≤ deepL f.els) : fitB (setV s) = true := by
  have h3 := hf.nodes
  have h4 := hf.deep
  rw [nodes_eq] at h3
  rw [deep_eq] at h4
  have e1 : nodes (setV s) = 1 + nodesL s := nodes_eq _
  have e2 : deep (setV s) = 1 + deepL s := deep_eq _
  simp [fitB, e1, e2]; omega
theorem setF_deep (l : List GV) (g : goods l) : deepL (setF l) ≤ deepL l := by
  obtain ⟨_, _, s3⟩ := setF_spec _ g
  exact deepL_sub fun x hx => ((s3 x).1 hx).1
theorem deepL_mem : ∀ (l : List GV) (x : GV), x ∈ l → deep x ≤ deepL l
  | [], x, h => by simp at h
  | v :: l, x, h => by
    rcases List.mem_cons.1 h with rfl | h
    · simp [deepL]; omega
    · have := deepL_mem l x h; simp [deepL]; omega
theorem deepL_lim {n : Nat} : ∀ (l : List GV), (∀ x ∈ l, deep x ≤ n) → deepL l ≤ n
  | [], _ => by simp [deepL]
  | v :: l, h => by
    have h1 := h v (by simp)
    have h2 := deepL_lim l fun x hx => h x (by simp [hx])
    simp [deepL]; omega
theorem pair_deep {v a b : GV} (e : v.els = [a, b]) : deep a < deep v ∧ deep b < deep v := by
  have := deep_eq v
  rw [e] at this
  simp [deepL] at this
  omega
/-- What a list of parts of pairs comes to. -/
theorem part_of {l : List GV} (g : goods l) (hp : l.all pairB = true) {y p : GV} (hm : p ∈ l) (h : y = p1 p ∨ y = p2 p) : good y ∧ y.kind ≠ 0 ∧ deep y ≤ deepL l := by
  obtain ⟨_, a, b, e, ha, hb⟩ := pairB_iff.1 (List.all_eq_true.1 hp p hm)
  obtain ⟨ga, gb⟩ := pair_good g hm e
  have h1 := pair_deep e
  have h2 := deepL_mem l p hm
  have ea : p1 p = a := by simp [p1, e]
  have eb : p2 p = b := by simp [p2, e]
  rw [ea, eb] at h
  rcases h with rfl | rfl
  · exact ⟨ga, ha, by omega⟩
  · exact ⟨gb, hb, by omega⟩
theorem img_fits {f : GV} (hf : Fm f) (hm : mapB f = true) (x : GV) : fitB (setV (setF (imgL f.els x))) = true := by
  have hp : f.els.all pairB = true := by rw [mapB, Bool.and_eq_true] at hm; exact hm.2
  have gi := imgL_goods hf.good.els hp x
  refine fit_of hf (Nat.le_trans (setF_nodes _ gi) (imgL_nodes hp x)) (Nat.le_trans (setF_deep _ gi) (deepL_lim _ fun y hy => ?_))
  rw [imgL, List.mem_map] at hy
  obtain ⟨p, h1, rfl⟩ := hy
  exact (part_of hf.good.els hp (List.mem_filter.1 h1).1 (.inr rfl)).2.2
theorem fit_all {f : GV} (hf : Fm f) (hm : mapB f = true) (q : GV → GV) (hq : ∀ p ∈ f.els, q p = p1 p ∨ q p = p2 p) : goods (f.els.map q) ∧ nodesL (f.els.map q) ≤ nodesL f.els ∧ fitB (setV (setF (f.els.map q))) = true := by
  have hp : f.els.all pairB = true := by rw [mapB, Bool.and_eq_true] at hm; exact hm.2
  have gg : goods (f.els.map q) := fun y hy => by
    obtain ⟨p, h1, rfl⟩ := List.mem_map.1 hy
    exact (part_of hf.good.els hp h1 (hq p h1)).1
  have hn : ∀ l : List GV, l.all pairB = true → (∀ p ∈ l, q p = p1 p ∨ q p = p2 p) → nodesL (l.map q) ≤ nodesL l := by
    intro l
    induction l with
    | nil => intro _ _; simp [nodesL]
    | cons v l ih =>
      intro hp hq
      simp only [List.all_cons, Bool.and_eq_true] at hp
      have h1 := ih hp.2 fun p h => hq p (by simp [h])
      obtain ⟨_, a, b, e, _, _⟩ := pairB_iff.1 hp.1
      have h2 := pair_nodes e
      have ea : p1 v = a := by simp [p1, e]
      have eb : p2 v = b := by simp [p2, e]
      have h3 := hq v (by simp)
      rw [ea, eb] at h3
      simp only [List.map_cons, nodesL]
      rcases h3 with h3 | h3 <;> rw [h3] <;> omega
  refine ⟨gg, hn _ hp hq, fit_of hf (Nat.le_trans (setF_nodes _ gg) (hn _ hp hq)) (Nat.le_trans (setF_deep _ gg) (deepL_lim _ fun y hy => ?_))⟩
  obtain ⟨p, h1, rfl⟩ := List.mem_map.1 hy
  exact (part_of hf.good.els hp h1 (hq p h1)).2.2
/-! tuples -/
theorem tup_good {l : List GV} (g : goods l) (hl : l = [] ∨ (l[l.length - 1]?.getD default).kind ≠ 0) (hlen : l.length < 1000000) : good (tupV l) := by
  refine ⟨?_, ⟨by omega, by omega, by decide, by show (0 : Nat) < _; omega, by omega, fun x hx => (by cases hx), (okL_iff l).2 fun x hx => (g x hx).2⟩⟩
  rw [fmd_eq]
  refine ⟨⟨?_, ?_, by simp [GV.abs], by show (0 : Nat) ≤ 1000; omega⟩, fun h => by simp [GV.kind] at h, (fmdL_iff _).2 fun x hx => (g x hx).1⟩
  · simp [fieldsF, GV.kind, GV.neg, GV.abs, GV.str, GV.els, GV.num]
  · rcases hl with rfl | hl
    · rfl
    · have : decide ((l[l.length - 1]?.getD default).kind = 0) = false := decide_eq_false hl
      show (decide (l = []) || !decide ((l[l.length - 1]?.getD default).kind = 0)) = true
      rw [this]; simp
def turnP (p : GV) : GV := tupV [p2 p, p1 p]
def invL (l : List GV) : List GV := l.map turnP
theorem inv_all {f : GV} (hf : Fm f) (hm : mapB f = true) : goods (invL f.els) ∧ nodesL (invL f.els) ≤ nodesL f.els ∧ fitB (setV (setF (invL f.els))) = true := by
  have hp : f.els.all pairB = true := by rw [mapB, Bool.and_eq_true] at hm; exact hm.2
  have gg : goods (invL f.els) := fun y hy => by
    obtain ⟨p, h1, rfl⟩ := List.mem_map.1 hy
    have h2 := part_of hf.good.els hp h1 (.inl rfl)
    have h3 := part_of hf.good.els hp h1 (.inr rfl)
    refine tup_good (fun z hz => ?_) (.inr (by simpa using h2.2.1)) (by simp)
    simp at hz
    rcases hz with rfl | rfl
    · exact h3.1
    · exact h2.1
  have hn : ∀ l : List GV, l.all pairB = true → nodesL (invL l) ≤ nodesL l ∧ deepL (invL l) ≤ deepL l := by
    intro l
    induction l with
    | nil => intro _; simp [invL, nodesL, deepL]
    | cons v l ih =>
      intro hp
      simp only [List.all_cons, Bool.and_eq_true] at hp
      have h1 := ih hp.2
      obtain ⟨_, a, b, e, _, _⟩ := pairB_iff.1 hp.1
      have h2 := pair_nodes e
      have h4 := deep_eq v
      rw [e] at h4
      have ea : p1 v = a := by simp [p1, e]
      have eb : p2 v = b := by simp [p2, e]
      have h5 : nodes (turnP v) = 1 + nodesL [b, a] := by rw [turnP, ea, eb]; exact nodes_eq _
      have h6 : deep (turnP v) = 1 + deepL [b, a] := by rw [turnP, ea, eb]; exact deep_eq _
      simp only [nodesL, deepL] at h4 h5 h6
      simp only [invL, List.map_cons, nodesL, deepL] at h1 ⊢
      omega
  have h := hn _ hp
  exact ⟨gg, h.1, fit_of hf (Nat.le_trans (setF_nodes _ gg) h.1) (Nat.le_trans (setF_deep _ gg) h.2)⟩
end Go.Proofs.YtgfadepkiejncaaGreat
