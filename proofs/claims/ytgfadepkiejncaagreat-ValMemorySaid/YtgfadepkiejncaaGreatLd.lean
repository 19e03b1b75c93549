/- Texts of the proof, part Ld: they prove nothing by themselves that is claimed. -/
import Derived.Test.YtgfadepkiejncaaGreatLc
import Derived.Lib.Bytealg
import Derived.Sort.LotD3
import Derived.Sort.LotD1
import Derived.Sort.LotA
import Derived.Sort.LotC
import Derived.Sort.LotB
import Derived.Test.YtgfadepkiejncaaGreatLb
set_option linter.unusedVariables false
set_option linter.unusedSimpArgs false
namespace Go.Proofs.YtgfadepkiejncaaGreat
open Go.Ab
set_option maxHeartbeats 0
set_option maxRecDepth 100000
attribute [local irreducible] AW AList ACall DA AExit.then AExit.inBlock YCall DCall
def longD (a : List Int) : Nat → List Int
  | 0 => List.replicate (a.length + 1) 0
  | j + 1 => ((longD a j).set j ((a[j]?.getD 0 * 10 + (longD a j)[j]?.getD 0) % 4294967296)).set (j + 1) ((a[j]?.getD 0 * 10 + (longD a j)[j]?.getD 0) / 4294967296)
theorem longD_len (a : List Int) : ∀ j, (longD a j).length = a.length + 1
  | 0 => by simp [longD]
  | j + 1 => by simp [longD, longD_len a j]
theorem getD_ok {l : List Int} (h : limbOK l) (i : Nat) : 0 ≤ l[i]?.getD 0 ∧ l[i]?.getD 0 < 4294967296 := by
  cases hi : l[i]? with
  | none => simp
  | some x => exact h x (List.mem_of_getElem? hi)
theorem longD_ok {a : List Int} (h : limbOK a) : ∀ j, limbOK (longD a j)
  | 0 => fun x hx => by rw [longD, List.mem_replicate] at hx; omega
  | j + 1 => fun x hx => by
    have h1 := getD_ok h j
    have h2 := getD_ok (longD_ok h j) j
    rcases List.mem_or_eq_of_mem_set hx with hx | rfl
    · rcases List.mem_or_eq_of_mem_set hx with hx | rfl
      · exact longD_ok h j x hx
      · omega
    · omega
def wcells (l : List Int) : List PV := l.map fun x => vW x
@[simp] theorem wcells_len (l : List Int) : (wcells l).length = l.length := by simp [wcells]
theorem wcells_get (l : List Int) (i : Nat) (h : i < l.length) : (wcells l)[i]? = some (vW (l[i]?.getD 0)) := by simp [wcells, h]
theorem wcells_sc (b c : Nat) (l : List Int) : PV.scL b c (wcells l) := by
  induction l with
  | nil => trivial
  | cons x l ih => exact ⟨trivial, ih⟩
theorem wcells_set (l : List Int) (i : Nat) (x : Int) : (wcells l).set i (vW x) = wcells (l.set i x) := by simp [wcells]
theorem chunk_wcells : ∀ l : List Int, chunk 1 l.length (wcells l) = limbs l
  | [] => rfl
  | x :: l => by
    have := chunk_wcells l
    simp only [wcells, limbs, List.map_cons, List.length_cons, chunk, List.take_succ_cons, List.take_zero, List.drop_succ_cons, List.drop_zero] at this ⊢
    rw [this]
theorem make163 (n : Nat) (hn : n ≤ 16777216) (m : St) (K : PV → St → Prop) (h : K (.marr m.nloc 0 n n) (m.newLoc (wcells (List.replicate n 0)))) : amakeSlice Tryz.prog 163 (vI n) (vI n) m K := by
  have e : zrow (zcells (.int .u32 0)) n = wcells (List.replicate n 0) := by
    simp only [zrow, zcells, ofV, wcells]
    rw [List.map_replicate]
    refine List.ext_getElem (by simp) fun i h1 h2 => ?_
    simp [Value.cells, ofV, Nat.mod_one]
  simp [amakeSlice]
  refine ⟨by omega, by omega, ?_⟩
  have e' : zrow [PV.v (Value.int IntKind.u32 0)] n = wcells (List.replicate n 0) := e
  rw [e']; exact h
theorem num_long (a : List Int) (la : a.length < 16777216) (ha : limbOK a) : Gives Tryz.prog 205 [.list .no (limbs a), .list .no (limbs [10])] (.list .no (limbs (trimL (longD a a.length)))) := by
  intro m
  refine ACall.of_aw Tryz.func205 Tryz.ntmps205 rfl rfl (by simp) ?_
  refine tS ?_
  refine tS1 fun K Kp hK hKp => ?_
  refine make163 (a.length + 1) (by omega) _ _ ?_
  apply hK; clear hK hKp K Kp
  refine tS ?_
  refine tS1 fun K Kp hK hKp => ?_; refine Gives.at (nat_limbs a) ?_; apply hK; clear hK hKp K Kp
  refine tS ?_
  refine AW.rangeFunc (f := 213) (first := []) (caps := [.ro [.list .no (limbs a)]]) (by simp [upd_lit]) (fun fn => ?_)
  generalize hL : LoopA.mk _ _ _ _ _ _ _ _ = L
  generalize hmm : (((m.newLoc [PV.list Own.no (limbs [10])]).newLoc (wcells (List.replicate (a.length + 1) 0))).newLoc [PV.list Own.full []]).setLoc (m.nloc + 2) [PV.marr (m.nloc + 1) 0 (a.length + 1) (a.length + 1)] = mm
  have n1 : mm.nloc = m.nloc + 3 := by rw [← hmm]; rfl
  have sm : Same m mm := by rw [← hmm]; exact (((((Same.refl m).newLoc _).newLoc _).newLoc _).setLoc (by omega) _)
  have g0 : mm.loc m.nloc = some [.list .no (limbs [10])] := by rw [← hmm]; simp; omega
  have g1 : mm.loc (m.nloc + 1) = some (wcells (longD a 0)) := by rw [← hmm]; simp [longD]
  have g2 : mm.loc (m.nloc + 2) = some [.marr (m.nloc + 1) 0 (a.length + 1) (a.length + 1)] := by rw [← hmm]; simp
  clear hmm
  refine ACall.mono (limbs_iter a (by omega) (Yields.ofSt (L := L) (P := Tryz.prog) (mm := mm) (S := fun j => (mm.newLp L).setLoc (m.nloc + 1) (wcells (longD a j))) rfl (by rw [← hL]) (by rw [← hL]) ?_ ?_ ?_ ?_ ?_ ?_) _ ?_ (by simp)) ?_
  · intro x hx
    obtain ⟨y, _, rfl⟩ := List.mem_map.1 hx
    rw [← hL]; rfl
  · rw [← hL]; intro t ht; simp at ht; rcases ht with rfl | rfl
    · exact (by decide : (19 : Nat) < 59)
    · exact (by decide : (20 : Nat) < 59)
  · intro j; exact upd_same _ _ _
  · intro i hi
    by_cases e : i = m.nloc + 1
    · refine .inr fun j cs hc => ?_
      subst e
      rw [setLoc_loc, if_pos rfl] at hc
      cases hc
      exact wcells_sc _ _ _
    · exact .inl fun j => by rw [setLoc_loc, if_neg e]
  · intro k
    by_cases hk : k < mm.ntok
    · exact .inl ⟨hk, fun j => ⟨rfl, Nat.le_refl _⟩⟩
    · exact .inr fun j cs hk' _ => absurd hk' hk
  · intro j hj m' hI
    have hj' : j < a.length := by simpa [limbYs] using hj
    have hb' : m.nloc + 4 ≤ m'.nloc := by have := hI.lo'; omega
    have eA := congrArg LoopA.assign hL
    have eB := congrArg LoopA.body hL
    have eσ := congrArg LoopA.σ hL
    have eN := congrArg LoopA.N hL
    have eP := congrArg LoopA.params hL
    simp only at eA eB eσ eN eP
    rw [← eA, ← eB, ← eσ, ← eN, ← eP]
    clear eA eB eσ eN eP
    simp only [limbYs, List.getElem_map, List.getElem_range, parm]
    refine tS ?_
    refine ⟨by simp; omega, ?_, ?_⟩
    · show upd (upd m'.lp m'.nloc none) (m'.nloc + 1) none mm.nloc = _
      rw [upd_ne _ _ _ _ (by omega), upd_ne _ _ _ _ (by omega), hI.lp _ (by omega)]
      exact upd_same _ _ _
    generalize hby : LoopA.mk LoopState.busy _ _ _ _ _ _ _ = lby
    have i0 : m'.loc m.nloc = some [.list .no (limbs [10])] := by rw [hI.loc _ (by omega)]; simp [g0, n1]
    have i1 : m'.loc (m.nloc + 1) = some (wcells (longD a j)) := by rw [hI.loc _ (by omega)]; simp
    have i2 : m'.loc (m.nloc + 2) = some [.marr (m.nloc + 1) 0 (a.length + 1) (a.length + 1)] := by rw [hI.loc _ (by omega)]; simp [g2, n1]
    obtain ⟨x, ex⟩ : ∃ x, x = a[j]?.getD 0 := ⟨_, rfl⟩
    rw [← ex]
    refine AW.block ?_
    have k0 : m.nloc ≠ m'.nloc := by omega
    have k1 : m.nloc ≠ m'.nloc + 1 := by omega
    have k2 : m.nloc ≠ m'.nloc + 2 := by omega
    have k3 : m.nloc < m'.nloc + 3 := by omega
    have F := (aand @k0 (aand @k1 (aand @k2 (aand @k3 @i0)))); refine tF ?_; (try clear F)
    refine tS1 fun K Kp hK hKp => ?_; refine Gives.at (nat_limbs [10]) ?_; apply hK; clear hK hKp K Kp
    refine tS ?_
    generalize hmB : ((((((m'.newLoc [PV.v (Value.int IntKind.i64 0)]).setLoc m'.nloc [PV.v (Value.int IntKind.i64 ↑j)]).newLoc [PV.v (Value.int IntKind.u32 0)]).setLoc (m'.nloc + 1) [PV.v (Value.int IntKind.u32 x)]).setLp mm.nloc lby).newLoc [PV.v (Value.int IntKind.u64 0)]).setLoc (m'.nloc + 2) [PV.v (Value.int IntKind.u64 0)] = mB
    have p1 : mB.nloc = m'.nloc + 3 := by rw [← hmB]; rfl
    have p2 : ∀ i, i < m'.nloc → mB.loc i = m'.loc i := fun i hi => by
      rw [← hmB]; simp [show i ≠ m'.nloc from by omega, show i ≠ m'.nloc + 1 from by omega, show i ≠ m'.nloc + 2 from by omega]
    have p3 : mB.loc m'.nloc = some [vI j] := by rw [← hmB]; simp; omega
    have p4 : mB.loc (m'.nloc + 1) = some [vW x] := by rw [← hmB]; simp
    have p5 : mB.loc (m'.nloc + 2) = some [.v (.int .u64 0)] := by rw [← hmB]; simp
    have p6 : ∀ i, i < m'.nloc → mB.lp i = upd m'.lp mm.nloc (some lby) i := fun i hi => by
      rw [← hmB]
      show upd (upd (upd (upd m'.lp m'.nloc none) (m'.nloc + 1) none) mm.nloc (some lby)) (m'.nloc + 2) none i = _
      rw [upd_ne _ _ _ _ (by omega)]
      by_cases e : i = mm.nloc
      · rw [e, upd_same, upd_same]
      · rw [upd_ne _ _ _ _ e, upd_ne _ _ _ _ e, upd_ne _ _ _ _ (by omega), upd_ne _ _ _ _ (by omega)]
    have p7 : ∀ i, i < m'.nloc → mB.it i = m'.it i := fun i hi => by
      rw [← hmB]
      show upd (upd (upd m'.it m'.nloc none) (m'.nloc + 1) none) (m'.nloc + 2) none i = _
      rw [upd_ne _ _ _ _ (by omega), upd_ne _ _ _ _ (by omega), upd_ne _ _ _ _ (by omega)]
    have p8 : mB.ntok = m'.ntok ∧ mB.top = m'.top ∧ mB.wd = m'.wd ∧ mB.arr = m'.arr := by rw [← hmB]; exact ⟨rfl, rfl, rfl, rfl⟩
    clear hmB
    obtain ⟨t, et⟩ : ∃ t, t = x * 10 + (longD a j)[j]?.getD 0 := ⟨_, rfl⟩
    have hx := getD_ok ha j
    have hd := getD_ok (longD_ok ha j) j
    rw [← ex] at hx
    refine AW.rangeFunc (f := 213) (first := []) (caps := [.ro [.list .no (limbs [10])]]) (by simp [upd_lit]) (fun fn2 => ?_)
    generalize hL2 : LoopA.mk _ _ _ _ _ _ _ _ = L2
    refine ACall.mono (limbs_iter [10] (by simp) (Yields.ofSt (L := L2) (P := Tryz.prog) (mm := mB) (S := fun k => if k = 0 then mB.newLp L2 else ((mB.newLp L2).setLoc (m'.nloc + 2) [.v (.int .u64 (t / 4294967296))]).setLoc (m.nloc + 1) (wcells ((longD a j).set j (t % 4294967296)))) rfl (by rw [← hL2]) (by rw [← hL2]) ?_ ?_ ?_ ?_ ?_ ?_) _ ?_ (by simp)) ?_
    · intro x hx
      obtain ⟨y, _, rfl⟩ := List.mem_map.1 hx
      rw [← hL2]; rfl
    · rw [← hL2]; intro t ht; simp at ht; rcases ht with rfl | rfl
      · exact (by decide : (23 : Nat) < 59)
      · exact (by decide : (24 : Nat) < 59)
    · intro k; cases k <;> exact upd_same _ _ _
    · intro i hi
      by_cases e : i = m.nloc + 1
      · subst e
        refine .inr fun k cs hc => ?_
        cases k with
        | zero => rw [if_pos rfl] at hc; have : mB.loc (m.nloc + 1) = some cs := by simpa [p1, show m.nloc + 1 ≠ m'.nloc + 3 from by omega, show ¬ m.nloc = m'.nloc + 2 from by omega] using hc
                  rw [p2 _ (by omega), i1] at this; cases this; exact wcells_sc _ _ _
        | succ k => rw [if_neg (by omega), setLoc_loc, if_pos rfl] at hc; cases hc; exact wcells_sc _ _ _
      by_cases e2 : i = m'.nloc + 2
      · subst e2
        refine .inr fun k cs hc => ?_
        cases k with
        | zero => rw [if_pos rfl] at hc; have : mB.loc (m'.nloc + 2) = some cs := by simpa [p1] using hc
                  rw [p5] at this; cases this; exact ⟨trivial, trivial⟩
        | succ k => rw [if_neg (by omega), setLoc_loc, if_neg (by omega), setLoc_loc, if_pos rfl] at hc; cases hc; exact ⟨trivial, trivial⟩
      · refine .inl fun k => ?_
        cases k with
        | zero => rfl
        | succ k => rw [if_neg (by omega), setLoc_loc, if_neg e, setLoc_loc, if_neg e2]
    · intro k
      by_cases hk : k < mB.ntok
      · exact .inl ⟨hk, fun k => by cases k <;> exact ⟨rfl, Nat.le_refl _⟩⟩
      · exact .inr fun k2 cs hk' _ => by cases k2 <;> exact absurd hk' hk
    · intro k hk m2 hI2
      have hk0 : k = 0 := by simp [limbYs] at hk; exact hk
      subst hk0
      have hb2 : m'.nloc + 4 ≤ m2.nloc := by have := hI2.lo'; omega
      have q0 : ∀ i, i < m'.nloc + 3 → m2.loc i = mB.loc i := fun i hi => by
        rw [hI2.loc i (by omega)]; simp [p1, show i ≠ m'.nloc + 3 from by omega]
      have r0 : m2.loc m'.nloc = some [vI j] := (q0 _ (by omega)).trans p3
      have r1 : m2.loc (m'.nloc + 1) = some [vW x] := (q0 _ (by omega)).trans p4
      have r2 : m2.loc (m'.nloc + 2) = some [.v (.int .u64 0)] := (q0 _ (by omega)).trans p5
      have r3 : m2.loc (m.nloc + 1) = some (wcells (longD a j)) := ((q0 _ (by omega)).trans (p2 _ (by omega))).trans i1
      have r4 : m2.loc (m.nloc + 2) = some [.marr (m.nloc + 1) 0 (a.length + 1) (a.length + 1)] := ((q0 _ (by omega)).trans (p2 _ (by omega))).trans i2
      have eA := congrArg LoopA.assign hL2
      have eB := congrArg LoopA.body hL2
      have eσ := congrArg LoopA.σ hL2
      have eN := congrArg LoopA.N hL2
      have eP := congrArg LoopA.params hL2
      simp only at eA eB eσ eN eP
      rw [← eA, ← eB, ← eσ, ← eN, ← eP]
      clear eA eB eσ eN eP
      simp only [limbYs, List.getElem_map, List.getElem_range, parm]
      refine tS ?_
      refine ⟨by omega, by rw [hI2.lp _ (by omega)]; exact upd_same _ _ _, ?_⟩
      generalize hby2 : LoopA.mk LoopState.busy _ _ _ _ _ _ _ = lby2
      refine tS ?_
      obtain ⟨d, ed⟩ : ∃ d, d = (longD a j)[j]?.getD 0 := ⟨_, rfl⟩
      rw [← ed] at hd et
      have hdl := longD_len a j
      have w1 : (wcells (longD a j))[j]? = some (vW d) := by rw [wcells_get _ _ (by omega), ed]
      have w2 : ∀ h : j < (wcells (longD a j)).length, (wcells (longD a j))[j] = vW d := fun h => by rw [List.getElem?_eq_getElem h] at w1; exact Option.some.inj w1
      have u1 : IntKind.u64.wrap (x * 10) = x * 10 := wrap_u64 _ (by omega) (by omega)
      have u2 : IntKind.u64.wrap (x * 10 + d) = t := by rw [et]; exact wrap_u64 _ (by omega) (by omega)
      have u3 : IntKind.u64.wrap x = x := wrap_u64 _ (by omega) (by omega)
      have u4 : IntKind.u64.wrap d = d := wrap_u64 _ (by omega) (by omega)
      have u5 : IntKind.u64.wrap t = t := wrap_u64 _ (by omega) (by omega)
      have u6 : IntKind.u64.wrap 10 = 10 := by decide
      have l0 : m'.nloc < m2.nloc := by omega
      have l1 : m'.nloc + 1 < m2.nloc := by omega
      have l2 : m'.nloc + 2 < m2.nloc := by omega
      have l3 : m.nloc + 1 < m2.nloc := by omega
      have l4 : m.nloc + 2 < m2.nloc := by omega
      have l5 : j < a.length + 1 := by omega
      have l6 : j + 1 ≤ a.length + 1 := by omega
      have l7 : (j : Int) < (a.length : Int) + 1 := by omega
      refine AW.draw [.R, .R, .S, .S, .S, .S, .R, .R, .S, .S, .S, .R, .S, .S, .S, .W] (by decide +kernel) ?_; have F := (aand @r0 (aand @r1 (aand @r2 (aand @r3 (aand @r4 (aand @l0 (aand @l1 (aand @l2 (aand @l3 (aand @l4 (aand @l5 (aand @l6 (aand @l7 (aand @w1 (aand @w2 (aand @u1 (aand @u2 (aand @u3 (aand @u4 (aand @u5 (aand @u6 @hdl))))))))))))))))))))); refine dR 0 ?_; refine dR 1 ?_; refine dS 2 ?_; refine dS 3 ?_; refine dS 4 ?_; refine dS 5 ?_; refine dR 6 ?_; refine dR 7 ?_; refine dS 8 ?_; refine dS 9 ?_; refine dS 10 ?_; refine dR 11 ?_; refine dS 12 ?_; refine dS 13 ?_; refine dS 14 ?_; refine dW 15 ?_; (try clear F); first | refine dN ?_ | refine dB ?_ | refine DA.done (by decide +kernel) ?_
      simp only [put]
      have v1 : m.nloc + 1 ≠ m'.nloc + 2 := by omega
      have v2 : m.nloc + 2 ≠ m'.nloc + 2 := by omega
      have v3 : m.nloc + 2 ≠ m.nloc + 1 := by omega
      have v4 : m'.nloc ≠ m.nloc + 1 := by omega
      have v5 : m'.nloc + 2 ≠ m.nloc + 1 := by omega
      have v6 : m'.nloc ≠ m'.nloc + 2 := by omega
      have v7 : m'.nloc + 1 ≠ m.nloc := by omega
      have v8 : m'.nloc ≠ m.nloc := by omega
      have v9 : m.nloc + 1 ≠ m'.nloc := by omega
      repeat (first | (refine AList.op (by decide) ?_; intro K Kp hK hKp; simp [↓aop, ↓Ab.opv, ↓upd_lit, ↓map_ta, ↓List.map_cons, ↓List.map_nil, Nat.add_assoc, r0, r1, r2, r3, r4, l0, l1, l2, l3, l4, l5, l6, l7, k0, k1, k2, v1, v2, v3, v4, v5, v6, v7, v8, v9, hdl, wrap_u32, setL, wcells_set]; (try (simp (disch := omega) only [wrap_i64]; try simp [↓aop, ↓Ab.opv, ↓upd_lit, ↓map_ta, ↓List.map_cons, ↓List.map_nil, Nat.add_assoc, r0, r1, r2, r3, r4, l0, l1, l2, l3, l4, l5, l6, l7, k0, k1, k2, v1, v2, v3, v4, v5, v6, v7, v8, v9, hdl, wrap_u32, setL, wcells_set])); apply hK; clear hK hKp K Kp) | (refine AList.op0 ?_; intro K Kp hK hKp; simp [↓aop, ↓Ab.opv, ↓upd_lit, ↓map_ta, ↓List.map_cons, ↓List.map_nil, Nat.add_assoc, r0, r1, r2, r3, r4, l0, l1, l2, l3, l4, l5, l6, l7, k0, k1, k2, v1, v2, v3, v4, v5, v6, v7, v8, v9, hdl, wrap_u32, setL, wcells_set]; (try (simp (disch := omega) only [wrap_i64]; try simp [↓aop, ↓Ab.opv, ↓upd_lit, ↓map_ta, ↓List.map_cons, ↓List.map_nil, Nat.add_assoc, r0, r1, r2, r3, r4, l0, l1, l2, l3, l4, l5, l6, l7, k0, k1, k2, v1, v2, v3, v4, v5, v6, v7, v8, v9, hdl, wrap_u32, setL, wcells_set])); apply hK; clear hK hKp K Kp) | refine AList.nil ?_ | refine AW.seq ?_ | refine AW.regionL ?_ | refine AW.block ?_ | refine AW.skip ?_ | refine AW.exit ?_ | refine AW.ret ?_ | refine AW.label ?_ | refine AExit.norT ?_ | refine AExit.norB ?_ | refine AExit.retT ?_ | refine AExit.retB ?_ | refine AExit.exiT ?_ | refine AExit.exiB ?_ | refine AExit.exiN (by decide) ?_)
      rw [if_neg (show ¬ (0 + 1 = 0) by omega)]
      have hlp2 : ∀ i, upd (upd m2.lp mB.nloc (some lby2)) mB.nloc (some L2) i = m2.lp i := fun i => by
        by_cases e : i = mB.nloc
        · rw [e, upd_same, hI2.lp _ (by omega)]; exact (upd_same _ _ _).symm
        · rw [upd_ne _ _ _ _ e, upd_ne _ _ _ _ e]
      refine ⟨rfl, upd_same _ _ _, ⟨Nat.le_refl _, hI2.lo', fun i hi => ?_, fun i hi => (hlp2 i).trans (hI2.lp i hi), fun i hi => hI2.it i hi, hI2.ntok, hI2.top, hI2.wd, hI2.arr⟩, ⟨Nat.le_refl _, fun i h1 h2 => ?_, fun i hi => hlp2 i, fun i hi => rfl, Nat.le_refl _⟩⟩
      · have := hI2.loc i hi
        rw [if_pos rfl] at this
        show (((m2.setLp mB.nloc lby2).setLoc (m'.nloc + 2) _).setLoc (m.nloc + 1) _ |>.setLoc (m'.nloc + 2) _).loc i = _
        simp only [setLoc_loc]
        by_cases e1 : i = m'.nloc + 2
        · rw [if_pos e1, if_neg (by omega), if_pos e1]
        · rw [if_neg e1]
          by_cases e2 : i = m.nloc + 1
          · rw [if_pos e2, if_pos e2]
          · rw [if_neg e2, if_neg e1, if_neg e2, if_neg e1]; exact this
      · show (((m2.setLp mB.nloc lby2).setLoc (m'.nloc + 2) _).setLoc (m.nloc + 1) _ |>.setLoc (m'.nloc + 2) _).loc i = _
        simp only [setLoc_loc]
        rw [if_neg (by omega), if_neg (by omega), if_neg (by omega)]; rfl
    · exact Agr.refl (Nat.le_refl _)
    · rintro _ m2 ⟨rfl, hI2, ho2, hn2⟩
      rw [if_neg (by simp)] at hI2
      have hb2 : m'.nloc + 4 ≤ m2.nloc := by have := hI2.lo'; omega
      refine ⟨_, _, rfl, by omega, by rw [hI2.lp _ (by omega)]; exact upd_same _ _ _, by rw [← hL2]; simp, by rw [← hL2], ?_⟩
      have q0 : ∀ i, i < m'.nloc + 3 → i ≠ m'.nloc + 2 → i ≠ m.nloc + 1 → m2.loc i = mB.loc i := fun i hi h1 h2 => by
        rw [hI2.loc i (by omega)]; simp [p1, show i ≠ m'.nloc + 3 from by omega, h1, h2]
      have r0 : m2.loc m'.nloc = some [vI j] := (q0 _ (by omega) (by omega) (by omega)).trans p3
      have r2 : m2.loc (m'.nloc + 2) = some [.v (.int .u64 (t / 4294967296))] := by rw [hI2.loc _ (by omega)]; simp; omega
      have r3 : m2.loc (m.nloc + 1) = some (wcells ((longD a j).set j (t % 4294967296))) := by rw [hI2.loc _ (by omega)]; simp
      have r4 : m2.loc (m.nloc + 2) = some [.marr (m.nloc + 1) 0 (a.length + 1) (a.length + 1)] := ((q0 _ (by omega) (by omega) (by omega)).trans (p2 _ (by omega))).trans i2
      have r5 : m2.loc m.nloc = some [.list .no (limbs [10])] := ((q0 _ (by omega) (by omega) (by omega)).trans (p2 _ (by omega))).trans i0
      have l0 : m'.nloc < m2.nloc := by omega
      have l2 : m'.nloc + 2 < m2.nloc := by omega
      have l3 : m.nloc + 1 < m2.nloc := by omega
      have l4 : m.nloc + 2 < m2.nloc := by omega
      have l5 : m.nloc < m2.nloc := by omega
      have hj2 : (j : Int) < (a.length : Int) := by omega
      have hdl := longD_len a j
      have hmod : t / 4294967296 % 4294967296 = t / 4294967296 := by omega
      have e1 : ((j : Int) + 1).toNat = j + 1 := by omega
      have e2 : (0 : Int) ≤ (j : Int) + 1 := by omega
      have e3 : j + 1 ≤ a.length := by omega
      have e4 : j + 1 + 1 ≤ a.length + 1 := by omega
      repeat (first | (refine AList.op (by decide) ?_; intro K Kp hK hKp; simp [↓aop, ↓Ab.opv, ↓upd_lit, ↓map_ta, ↓List.map_cons, ↓List.map_nil, Nat.add_assoc, r0, r2, r3, r4, r5, l0, l2, l3, l4, l5, hj', hj2, hdl, hmod, e1, e2, e3, e4, wrap_u32, setL, wcells_set]; (try (simp (disch := omega) only [wrap_i64]; try simp [↓aop, ↓Ab.opv, ↓upd_lit, ↓map_ta, ↓List.map_cons, ↓List.map_nil, Nat.add_assoc, r0, r2, r3, r4, r5, l0, l2, l3, l4, l5, hj', hj2, hdl, hmod, e1, e2, e3, e4, wrap_u32, setL, wcells_set])); apply hK; clear hK hKp K Kp) | (refine AList.op0 ?_; intro K Kp hK hKp; simp [↓aop, ↓Ab.opv, ↓upd_lit, ↓map_ta, ↓List.map_cons, ↓List.map_nil, Nat.add_assoc, r0, r2, r3, r4, r5, l0, l2, l3, l4, l5, hj', hj2, hdl, hmod, e1, e2, e3, e4, wrap_u32, setL, wcells_set]; (try (simp (disch := omega) only [wrap_i64]; try simp [↓aop, ↓Ab.opv, ↓upd_lit, ↓map_ta, ↓List.map_cons, ↓List.map_nil, Nat.add_assoc, r0, r2, r3, r4, r5, l0, l2, l3, l4, l5, hj', hj2, hdl, hmod, e1, e2, e3, e4, wrap_u32, setL, wcells_set])); apply hK; clear hK hKp K Kp) | refine AList.nil ?_ | refine AW.seq ?_ | refine AW.regionL ?_ | refine AW.block ?_ | refine AW.skip ?_ | refine AW.exit ?_ | refine AW.ret ?_ | refine AW.label ?_ | refine AExit.norT ?_ | refine AExit.norB ?_ | refine AExit.retT ?_ | refine AExit.retB ?_ | refine AExit.exiT ?_ | refine AExit.exiB ?_ | refine AExit.exiN (by decide) ?_)
      have hD : ((longD a j).set j (t % 4294967296)).set (j + 1) (t / 4294967296) = longD a (j + 1) := by rw [longD, ← ex, ← et]
      rw [hD]
      have hlp2 : ∀ i, i < m'.nloc → m2.lp i = upd m'.lp mm.nloc (some lby) i := fun i hi => by
        rw [hI2.lp i (by omega), ← p6 i hi]
        show upd mB.lp mB.nloc _ i = _
        rw [upd_ne _ _ _ _ (by omega)]
      have hlp3 : ∀ i, i < m'.nloc → upd (upd m2.lp mB.nloc none) mm.nloc (some L) i = m'.lp i := fun i hi => by
        by_cases e : i = mm.nloc
        · rw [e, upd_same, hI.lp _ (by omega)]; exact (upd_same _ _ _).symm
        · rw [upd_ne _ _ _ _ e, upd_ne _ _ _ _ (by omega), hlp2 i hi, upd_ne _ _ _ _ e]
      have q1 : ∀ i, i < m'.nloc → i ≠ m.nloc + 1 → m2.loc i = m'.loc i := fun i hi h1 => (q0 i (by omega) (by omega) h1).trans (p2 i hi)
      refine ⟨rfl, ?_, ⟨Nat.le_refl _, ?_, fun i hi => ?_, fun i hi => (hlp3 i (by omega)).trans (hI.lp i hi), fun i hi => ?_, ?_, ?_, ?_, ?_⟩, ⟨?_, fun i h1 h2 => ?_, fun i hi => hlp3 i hi, fun i hi => ?_, ?_⟩⟩
      · show upd m2.lp mB.nloc none mm.nloc = _
        rw [upd_ne _ _ _ _ (by omega), hlp2 _ (by omega), upd_same]
      · show _ ≤ m2.nloc; omega
      · show ((m2.dropLp mB.nloc).setLoc (m.nloc + 1) _).loc i = _
        rw [setLoc_loc, setLoc_loc]
        by_cases e : i = m.nloc + 1
        · rw [if_pos e, if_pos e]
        · rw [if_neg e, if_neg e]
          have := hI.loc i hi
          rw [setLoc_loc, if_neg e] at this
          exact (q1 i (by omega) e).trans this
      · show m2.it i = _
        rw [hI2.it i (by omega)]
        show upd mB.it mB.nloc none i = _
        rw [upd_ne _ _ _ _ (by omega), p7 i (by omega)]
        exact hI.it i hi
      · exact hI2.ntok.trans (p8.1.trans hI.ntok)
      · exact hI2.top.trans (p8.2.1.trans hI.top)
      · exact hI2.wd.trans (p8.2.2.1.trans hI.wd)
      · exact hI2.arr.trans (p8.2.2.2.trans hI.arr)
      · show _ ≤ m2.nloc; omega
      · show ((m2.dropLp mB.nloc).setLoc (m.nloc + 1) _).loc i = _
        rw [setLoc_loc, if_neg (by omega)]
        exact q1 i h2 (by omega)
      · show m2.it i = _
        rw [hI2.it i (by omega)]
        show upd mB.it mB.nloc none i = _
        rw [upd_ne _ _ _ _ (by omega), p7 i hi]
      · show m'.ntok ≤ m2.ntok
        rw [hI2.ntok]; show m'.ntok ≤ mB.ntok; rw [p8.1]; exact Nat.le_refl _
  · refine ⟨Nat.le_refl _, Nat.le_refl _, fun i hi => ?_, fun i hi => rfl, fun i hi => rfl, rfl, rfl, rfl, rfl⟩
    rw [setLoc_loc]
    split
    · rename_i e; rw [e]; simp [n1, g1]
    · rfl
  · rintro _ m' ⟨rfl, hI, ho, hn'⟩
    have hlo := hI.lo'
    refine ⟨_, _, rfl, by omega, by rw [hI.lp _ (by omega)]; exact upd_same _ _ _, by rw [← hL]; simp, by rw [← hL], ?_⟩
    have e1 : m'.loc (m.nloc + 2) = some [.marr (m.nloc + 1) 0 (a.length + 1) (a.length + 1)] := by rw [hI.loc _ (by omega)]; simp [g2, n1]
    have e2 : m'.loc (m.nloc + 1) = some (wcells (longD a a.length)) := by rw [hI.loc _ (by omega)]; simp
    have l2 : m.nloc + 2 < m'.nloc := by omega
    have hdl := longD_len a a.length
    have F := (aand @e1 @l2); refine tF ?_; (try clear F)
    refine AList.sees (d := 57) (p' := .list .no (limbs (longD a a.length))) (m' := (m'.dropLp mm.nloc).dropLoc (m.nloc + 1)) ?_ ?_
    · simp only [upd_lit]
      have := Sees.fz (m := m'.dropLp mm.nloc) (p := .marr (m.nloc + 1) 0 (a.length + 1) (a.length + 1)) (n := m.nloc + 1) (s := 1) (cs := wcells (longD a a.length)) (by show _ < m'.nloc; omega) e2
      rw [PV.fz, if_pos ⟨rfl, Nat.le_refl _, by simp [hdl]⟩] at this
      have e : chunk 1 (a.length + 1) (((wcells (longD a a.length)).drop 0).take ((a.length + 1) * 1)) = limbs (longD a a.length) := by
        rw [List.drop_zero, Nat.mul_one, List.take_of_length_le (by simp [hdl]), ← hdl, chunk_wcells]
      rw [e] at this
      exact this
    refine tS1 fun K Kp hK hKp => ?_; refine Gives.at (nat_trim (longD a a.length) (by omega)) ?_; apply hK; clear hK hKp K Kp
    refine tS ?_
    refine Fin.ret rfl ?_ (by simp [upd_lit]) (by simp) ⟨rfl, rfl⟩
    have k0 : ∀ i, i < m.nloc → i ≠ m.nloc + 1 := fun i hi => by omega
    have hs := sm.lloc
    refine Same.mk (by show _ ≤ m'.nloc; omega) (by show _ ≤ m'.ntok; rw [hI.ntok]; exact sm.ltok) (fun i hi => ?_) (fun k hk => ?_) (fun i hi => ?_) (fun i hi => ?_) (fun k cs hk hd hc => ?_)
    · show upd m'.loc (m.nloc + 1) none i = _
      rw [upd_ne _ _ _ _ (by omega), hI.loc i (by omega), setLoc_loc, if_neg (by omega), ← sm.get hi]
      show upd mm.loc mm.nloc none i = _
      rw [upd_ne _ _ _ _ (by omega)]
    · show m'.top k = _ ∧ m'.wd k = _
      rw [hI.top, hI.wd]
      exact ⟨(sm.top k hk).1.symm, (sm.top k hk).2.symm⟩
    · show upd m'.lp mm.nloc none i = _
      rw [upd_ne _ _ _ _ (by omega), hI.lp i (by omega), ← sm.getL hi]
      show upd mm.lp mm.nloc _ i = _
      rw [upd_ne _ _ _ _ (by omega)]
    · show m'.it i = _
      rw [hI.it i (by omega), ← sm.getI hi]
      show upd mm.it mm.nloc none i = _
      rw [upd_ne _ _ _ _ (by omega)]
    · show m'.arr k = _
      rw [hI.arr]
      exact sm.getA hk hd hc
end Go.Proofs.YtgfadepkiejncaaGreat
namespace Go.Proofs.YtgfadepkiejncaaGreat
open Go.Ab
set_option maxHeartbeats 0
def tenP : List Int → Int → List Int
  | [], c => [c]
  | x :: l, c => (x * 10 + c) % 4294967296 :: tenP l ((x * 10 + c) / 4294967296)
theorem tenP_step : ∀ (l : List Int) (c x : Int) (k : Nat), ((tenP l c ++ List.replicate (k + 1) 0).set l.length ((x * 10 + (tenP l c ++ List.replicate (k + 1) 0)[l.length]?.getD 0) % 4294967296)).set (l.length + 1) ((x * 10 + (tenP l c ++ List.replicate (k + 1) 0)[l.length]?.getD 0) / 4294967296) = tenP (l ++ [x]) c ++ List.replicate k 0
  | [], c, x, k => by simp [tenP, List.replicate_succ]
  | y :: l, c, x, k => by
    have := tenP_step l ((y * 10 + c) / 4294967296) x k
    simp only [tenP, List.cons_append, List.length_cons, List.getElem?_cons_succ, List.set_cons_succ]
    rw [this]
theorem longD_tenP (a : List Int) : ∀ j, j ≤ a.length → longD a j = tenP (a.take j) 0 ++ List.replicate (a.length - j) 0
  | 0, _ => by simp [longD, tenP, List.replicate_succ]
  | j + 1, h => by
    have hj : j < a.length := by omega
    have hl : (a.take j).length = j := by simp; omega
    have h1 := tenP_step (a.take j) 0 a[j] (a.length - (j + 1))
    rw [show a.length - (j + 1) + 1 = a.length - j from by omega, ← longD_tenP a j (by omega), hl] at h1
    rw [longD, show a[j]?.getD 0 = a[j] from by simp [hj], h1, List.take_succ_eq_append_getElem hj]
theorem longD_all (a : List Int) : longD a a.length = tenP a 0 := by
  rw [longD_tenP a _ (Nat.le_refl _)]; simp
theorem trimN_cons (x : Int) (l : List Int) : ∀ n, trimN (x :: l) (n + 1) = if trimN l n = 0 then (if x = 0 then 0 else 1) else trimN l n + 1
  | 0 => by simp [trimN]
  | n + 1 => by
    have ih := trimN_cons x l n
    rw [trimN, List.getElem?_cons_succ, ih]
    by_cases h : l[n]?.getD 0 = 0
    · rw [if_pos h, trimN, if_pos h]
    · rw [if_neg h, trimN, if_neg h, if_neg (by omega)]
theorem trimN_zero {l : List Int} : trimN l l.length = 0 ↔ trimL l = [] := by
  unfold trimL
  constructor
  · intro h; rw [h]; rfl
  · intro h
    have h1 := congrArg List.length h
    have h2 := trimN_le l l.length
    rw [List.length_take, List.length_nil] at h1
    omega
theorem trimL_cons (x : Int) (l : List Int) : trimL (x :: l) = if trimL l = [] then (if x = 0 then [] else [x]) else x :: trimL l := by
  have h := trimN_cons x l l.length
  by_cases h0 : trimL l = []
  · rw [if_pos h0]
    rw [if_pos (trimN_zero.2 h0)] at h
    unfold trimL
    rw [List.length_cons, h]
    split <;> rfl
  · rw [if_neg h0]
    rw [if_neg (fun q => h0 (trimN_zero.1 q))] at h
    unfold trimL
    rw [List.length_cons, h]
    rfl
def lastOK (a : List Int) : Prop := a ≠ [] → a[a.length - 1]?.getD 0 ≠ 0
theorem lastOK_cons {x y : Int} {l : List Int} : lastOK (x :: y :: l) ↔ lastOK (y :: l) := by
  simp [lastOK]
theorem trimL_last : ∀ a : List Int, lastOK (trimL a)
  | [] => fun h => absurd rfl h
  | x :: l => by
    rw [trimL_cons]
    have ih := trimL_last l
    split
    · split
      · exact fun h => absurd rfl h
      · rename_i hx; intro _; simpa using hx
    · rename_i h0
      cases ht : trimL l with
      | nil => exact absurd ht h0
      | cons y l' => rw [ht] at ih; exact lastOK_cons.2 ih
theorem trim_ten : ∀ (l : List Int) (c : Int), l ≠ [] → limbOK l → lastOK l → 0 ≤ c → c < 4294967296 → trimL (tenP l c) = tenL l c ∧ tenL l c ≠ []
  | [], _, h, _, _, _, _ => absurd rfl h
  | [x], c, _, hl, hz, h0, h1 => by
    have hx := hl x (by simp)
    have hx0 : x ≠ 0 := by simpa [lastOK] using hz
    obtain ⟨t, et⟩ : ∃ t, t = x * 10 + c := ⟨_, rfl⟩
    simp only [tenP, tenL, ← et]
    refine ⟨?_, by simp⟩
    rw [trimL_cons, trimL_cons, show trimL [] = [] from rfl, if_pos rfl]
    by_cases h : t / 4294967296 = 0
    · rw [if_pos h, if_pos rfl, if_neg (by omega), if_neg (by omega)]
    · rw [if_neg h, if_neg (by simp), if_pos (by omega)]
      congr 2; omega
  | x :: y :: l, c, _, hl, hz, h0, h1 => by
    have hx := hl x (by simp)
    have ih := trim_ten (y :: l) ((x * 10 + c) / 4294967296) (by simp) (fun z hz => hl z (List.mem_cons_of_mem _ hz)) (lastOK_cons.1 hz) (by omega) (by omega)
    have e1 : tenP (x :: y :: l) c = (x * 10 + c) % 4294967296 :: tenP (y :: l) ((x * 10 + c) / 4294967296) := rfl
    have e2 : tenL (x :: y :: l) c = (x * 10 + c) % 4294967296 :: tenL (y :: l) ((x * 10 + c) / 4294967296) := rfl
    rw [e1, e2, trimL_cons, ih.1, if_neg ih.2]
    exact ⟨rfl, by simp⟩
theorem long_ten {a : List Int} (hl : limbOK a) (hz : lastOK a) : trimL (longD a a.length) = tenL a 0 := by
  rw [longD_all]
  cases a with
  | nil => rfl
  | cons x l => exact (trim_ten (x :: l) 0 (by simp) hl hz (Int.le_refl _) (by decide)).1
theorem tenL_last {a : List Int} (hl : limbOK a) (hz : lastOK a) : lastOK (tenL a 0) := by rw [← long_ten hl hz]; exact trimL_last _
theorem tenL_nil {a : List Int} (hl : limbOK a) (hz : lastOK a) : tenL a 0 = [] ↔ a = [] := by
  cases a with
  | nil => simp [tenL]
  | cons x l => simp [(trim_ten (x :: l) 0 (by simp) hl hz (Int.le_refl _) (by decide)).2]
end Go.Proofs.YtgfadepkiejncaaGreat
namespace Go.Ab
@[simp] theorem dropLoc_loc' (m : St) (n i : Nat) : (m.dropLoc n).loc i = if i = n then none else m.loc i := rfl
@[simp] theorem dropLoc_nloc' (m : St) (n : Nat) : (m.dropLoc n).nloc = m.nloc := rfl
end Go.Ab
namespace Go.Proofs.YtgfadepkiejncaaGreat
open Go.Ab
set_option maxHeartbeats 0
set_option maxRecDepth 100000
attribute [local irreducible] AW AList ACall DA AExit.then AExit.inBlock YCall DCall
@[simp] theorem ti_182 : tinfo Tryz.prog 182 = true := by kernel_rfl
@[simp] theorem ts_182 : tsize Tryz.prog 182 = 1 := by kernel_rfl
@[simp] theorem tg_182 : tagg Tryz.prog 182 = false := by kernel_rfl
@[simp] theorem tz_182 : tzero Tryz.prog 182 = some .nilFunc := by kernel_rfl
theorem bs181 (x y : Bool × List Int) (m : St) (K : PV → St → Prop) : abuildSlice Tryz.prog 181 2 [(0, intv x.1 x.2), (1, intv y.1 y.2)] m K ↔ K (.list .full (introws [x, y])) m := by
  have h := abuildSlice_all (P := Tryz.prog) (t := 181) (s := 2) (e := 24) (z := .agg #[.bool false, .slice none 0 0]) (xs := [intv x.1 x.2, intv y.1 y.2]) (rs := introws [x, y]) (m := m) (K := K) (by simp) (by simp) (by simp) (by decide) (by decide) (by simp) (by simp) (.cons rfl rfl (.cons rfl rfl .nil))
  have e : (introws [x, y]).map PV.stripL = introws [x, y] := by simp [introws, PV.stripL, PV.strip]
  rw [e] at h
  exact h
theorem nat_mul1 (a : List Int) (la : a.length < 16777216) (ha : limbOK a) (hz : lastOK a) (c : PV) : Gives Tryz.prog 204 [.list .no (limbs a), .list .no (limbs [10]), c] (.list .no (limbs (tenL a 0))) := by
  have hl := num_long a la ha
  rw [long_ten ha hz] at hl
  intro m
  refine ACall.of_aw Tryz.func204 Tryz.ntmps204 rfl rfl (by simp) ?_
  refine tS ?_
  refine AW.cond (t := true) (by simp [upd_lit]; omega) (fun _ => ?_) (fun h => by cases h)
  refine tS ?_
  refine tS1 fun K Kp hK hKp => ?_; refine Gives.at (hl) ?_; apply hK; clear hK hKp K Kp
  refine tS ?_
  exact Fin.ret rfl (Same.refl m) (by simp [upd_lit]) (by simp) ⟨rfl, rfl⟩
theorem nat_mul (a : List Int) (la : a.length < 16777216) (ha : limbOK a) (hz : lastOK a) : Gives Tryz.prog 193 [.list .no (limbs a), .list .no (limbs [10])] (.list .no (limbs (tenL a 0))) := by
  intro m
  refine ACall.of_aw Tryz.func193 Tryz.ntmps193 rfl rfl (by simp) ?_
  refine tS ?_
  refine tS1 fun K Kp hK hKp => ?_; refine Gives.at (nat_mul1 a la ha hz (.loc m.nloc 0)) ?_; apply hK; clear hK hKp K Kp
  refine tS ?_
  exact Fin.ret rfl Same.auto (by simp [upd_lit]) (by simp) ⟨rfl, rfl⟩
theorem num_mul1 (n : Bool) (a : List Int) (h : intOK n a) (ha : limbOK a) (l299 : a.length ≤ 299) : Gives Tryz.prog 190 [.ro [vB n, .list .no (limbs a)], .ro [vB false, .list .no (limbs [10])]] (intv n (tenL a 0)) := by
  have hz : lastOK a := h.2.2
  have tl := tenL_len a 0
  have tn := tenL_nil ha hz
  have tt : trimL (tenL a 0) = tenL a 0 := trimL_id (tenL_last ha hz)
  have hw := num_whole n (tenL a 0) (by omega) (by rw [tt]; omega)
  rw [tt] at hw
  have e : (n && decide (0 < (tenL a 0).length)) = n := by
    cases n with
    | false => rfl
    | true =>
      have : a ≠ [] := fun q => by have := h.2.1 q; cases this
      have : tenL a 0 ≠ [] := fun q => this (tn.1 q)
      simp [List.length_pos_iff, this]
  rw [e] at hw
  have hf := num_formed [(n, a), (false, [10])] (by simp) (by
    intro x hx
    simp at hx
    rcases hx with rfl | rfl
    · exact h
    · exact ⟨by simp, by simp, by simp⟩)
  intro m
  refine ACall.of_aw Tryz.func190 Tryz.ntmps190 rfl rfl (by simp) ?_
  refine tS ?_
  refine tS1 fun K Kp hK hKp => ?_
  refine (bs181 (n, a) (false, [10]) _ _).2 ?_
  apply hK; clear hK hKp K Kp
  refine tS ?_
  refine tS1 fun K Kp hK hKp => ?_; refine Gives.at (hf) ?_; apply hK; clear hK hKp K Kp
  refine tS ?_
  refine AW.draw [.S, .R, .S, .R, .S, .S, .R, .S, .R, .R, .R, .W] (by decide +kernel) ?_; have F := True.intro; refine dS 0 ?_; refine dR 1 ?_; refine dS 2 ?_; refine dR 3 ?_; refine dS 4 ?_; refine dS 5 ?_; refine dR 6 ?_; refine dS 7 ?_; refine dR 8 ?_; refine dC ((nat_mul a (by omega) ha hz)) 9 ?_; refine dC ((hw)) 10 ?_; refine dW 11 ?_; (try clear F); first | refine dN ?_ | refine dB ?_ | refine DA.done (by decide +kernel) ?_
  refine tS ?_
  exact Fin.retC (p := intv n (tenL a 0)) (q := intv n (tenL a 0)) rfl (by simp [upd_lit]) (((Same.refl m).newLoc _).setLoc (Nat.le_refl _) _) (by simp [PV.strip]) (by simp [PV.sc, PV.scL]) ⟨rfl, rfl⟩
theorem try_rec (m : St) (a b : PV) : DCall Tryz.prog 202 [a, b] m none (fun m' => m' = m) := by
  refine DCall.of_rec Tryz.func202 Tryz.ntmps202 rfl rfl (by simp) (by decide) rfl (.inr ⟨_, _, _, _, by decide, rfl⟩) fun σ h0 h5 h6 => ?_
  have h2 : σ 2 = .v .nilIface := h6 _ List.mem_cons_self 2 rfl
  have F := @h2; refine tF ?_; (try clear F)
  refine AList.opK (by decide) ?_; intro K Kp hK hKp
  refine op_nilNil rfl (by decide +kernel) (by simp [opv, upd_lit]) rfl ?_
  apply hK; clear hK hKp K Kp
  refine tS ?_
  refine AW.cond (t := true) (by simp [upd_lit]) (fun _ => ?_) (fun h => by cases h)
  refine tS ?_
  exact ⟨m, (Same.refl m).lv, rfl⟩
theorem num_try (g : FuncId) (caps : List PV) (n : Bool) (r : List Int) (hs : PV.scL 0 0 caps) (hst : PV.stripL caps = caps) (h : Gives Tryz.prog g caps (intv n r)) : Gives Tryz.prog 189 [.clo g [] caps] (.tup [intv n r, vE 0]) := by
  intro m
  refine ACall.of_defer Tryz.func189 Tryz.ntmps189 (pre := [_]) rfl rfl rfl (by simp) ?_
  refine tS ?_
  refine ⟨202, [], _, by simp [opv, upd_lit]; rfl, ?_⟩
  refine tS ?_
  refine tS1 fun K Kp hK hKp => ?_; refine Gives.at (h) ?_; apply hK; clear hK hKp K Kp
  refine tS ?_
  refine (try_rec _ _ _).mono ?_
  rintro s' rfl
  refine ⟨.tup [intv n r, vE 0], m, ?_, .inr ⟨?_, ?_⟩, by simp [PV.strip, PV.stripL], rfl⟩
  · simp [ResP, ResL, resV, upd_lit, show Tryz.f189.results.toList = [.cell 2 24, .cell 3 30] from rfl]; omega
  · have sm : Same m ((((m.newLoc [.v (.bool false), .list .full []]).newLoc [.v (.int .i64 0)]).setLoc m.nloc [vB n, .list .no (limbs r)]).setLoc (m.nloc + 1) [vE 0]) := ((((Same.refl m).newLoc _).newLoc _).setLoc (Nat.le_refl _) _).setLoc (by omega) _
    exact sm.lv
  · simp [PV.strip, PV.stripL, PV.sc, PV.scL]
theorem num_mul10 (n : Bool) (a : List Int) (h : intOK n a) (ha : limbOK a) (l299 : a.length ≤ 299) : Gives Tryz.prog 172 [intv n a, intv false [10]] (.tup [intv n (tenL a 0), vE 0]) := by
  intro m
  refine ACall.of_aw Tryz.func172 Tryz.ntmps172 rfl rfl (by simp) ?_
  refine tS ?_
  refine AList.frz (n := m.nloc) (d := 6) (cs := [vB n, .list .no (limbs a)]) (by simp; omega) (by simp; omega) ?_
  refine AList.frz (n := m.nloc + 1) (d := 6) (cs := [vB false, .list .no (limbs [10])]) (by simp) (by simp) ?_
  have e1 : m.nloc + 1 ≠ m.nloc := by omega
  simp only [upd_lit, PV.frz, PV.frzL, if_pos, if_neg e1, List.drop_zero]
  refine tS1 fun K Kp hK hKp => ?_; refine Gives.at (num_try 190 [.ro [vB n, .list .no (limbs a)], .ro [vB false, .list .no (limbs [10])]] n (tenL a 0) (by simp [PV.scL, PV.sc]) (by simp [PV.stripL, PV.strip]) (num_mul1 n a h ha l299)) ?_; apply hK; clear hK hKp K Kp
  refine tS ?_
  exact Fin.ret (p := .tup [intv n (tenL a 0), vE 0]) (q := .tup [intv n (tenL a 0), vE 0]) (by simp [ResP, ResL, resV, upd_lit, show Tryz.f172.results.toList = [.cell 4 24, .tmp 5] from rfl]) ((((((Same.refl m).newLoc _).newLoc _).newLoc _).dropLoc (Nat.le_refl _)).dropLoc (by omega) |>.setLoc (by omega) _) (by simp [PV.strip, PV.stripL]) (by simp [PV.sc, PV.scL]) ⟨rfl, rfl⟩
end Go.Proofs.YtgfadepkiejncaaGreat
namespace Go.Proofs.YtgfadepkiejncaaGreat
open Go.Ab
set_option maxHeartbeats 0
set_option maxRecDepth 100000
attribute [local irreducible] AW AList ACall DA AExit.then AExit.inBlock YCall DCall
theorem tens10_succ : ∀ (k : Nat) (l : List Int), tens10 (k + 1) l = tenL (tens10 k l) 0
  | 0, l => rfl
  | k + 1, l => by rw [tens10, tens10_succ k, tens10]
theorem tens10_good (k : Nat) (n : Bool) (a : List Int) (h : intOK n a) (ha : limbOK a) (hk : a.length + k ≤ 300) : intOK n (tens10 k a) ∧ limbOK (tens10 k a) := by
  induction k with
  | zero => exact ⟨h, ha⟩
  | succ k ih =>
    obtain ⟨h1, h2⟩ := ih (by omega)
    have hz : lastOK (tens10 k a) := h1.2.2
    have hl := tens10_len (k + 1) a
    rw [tens10_succ] at hl ⊢
    exact ⟨⟨by omega, fun q => h1.2.1 ((tenL_nil h2 hz).1 q), tenL_last h2 hz⟩, tenL_ok _ _⟩
theorem val_scaled (v : GV) (z : Int) (h : intOK v.neg v.abs) (ha : limbOK v.abs) (hz : v.abs.length + z.toNat ≤ 299) (hz2 : -1000000 ≤ z) : Gives Tryz.prog 161 [v.pv, vI z] (intv v.neg (tens10 z.toNat v.abs)) := by
  intro m
  refine ACall.of_aw Tryz.func161 Tryz.ntmps161 rfl rfl (by simp) ?_
  refine tS ?_
  refine AW.loop (ι := Nat) (fun k σ m' => k ≤ z.toNat ∧ Same m m' ∧ m'.loc (m.nloc + 1) = some [.v (.bool false), .list .full []] ∧ m'.loc (m.nloc + 2) = some [vB v.neg, .list .no (limbs (tens10 k v.abs))] ∧ m.nloc + 2 < m'.nloc ∧ σ 1 = vI (z - k) ∧ σ 5 = .loc (m.nloc + 2) 0 ∧ σ 4 = .loc (m.nloc + 1) 0) (fun k => z.toNat - k) 0 ?_ ?_
  · refine ⟨by omega, ((((Same.refl m).newLoc _).newLoc _).newLoc _).setLoc (by omega) _, ?_, ?_, ?_, ?_, ?_, ?_⟩ <;> simp [upd_lit, tens10]
  rintro k σ m' ⟨hk, sm, e1, e2, hn, h1, h5, h4⟩
  have F := (aand @h1 (aand @h5 @h4)); refine tF ?_; (try clear F)
  refine AW.condD (p := (k : Int) < z) (by simp [upd_lit]) (fun hlt => ?_) (fun hge => ?_)
  · obtain ⟨g1, g2⟩ := tens10_good k v.neg v.abs h ha (by omega)
    have hl := tens10_len k v.abs
    have F := (aand @h1 (aand @h5 @h4)); refine tF ?_; (try clear F)
    refine AW.draw [.R, .R, .R, .S, .S, .S, .W] (by decide +kernel) ?_; have F := (aand @h1 (aand @h5 (aand @h4 (aand @e2 @hn)))); refine dRT 0 ?_; refine dCT ((num_of10)) 1 ?_; refine dCT ((num_mul10 v.neg (tens10 k v.abs) g1 g2 (by omega))) 2 ?_; refine dST 3 ?_; refine dST 4 ?_; refine dST 5 ?_; refine dW 6 ?_; (try clear F); first | refine dN ?_ | refine dB ?_ | refine DA.done (by decide +kernel) ?_
    have F := @h1; refine tF ?_; (try clear F)
    refine ⟨k + 1, ⟨by omega, sm.setLoc (by omega) _, ?_, ?_, hn, ?_, by simp [upd_lit, h5], by simp [upd_lit, h4]⟩, by omega⟩
    · simp [e1]
    · simp [tens10_succ]
    · simp [upd_lit]; omega
  · have hn1 : m.nloc + 1 < m'.nloc := by omega
    have ek : k = z.toNat := by omega
    have F := (aand @h5 (aand @h4 (aand @e1 (aand @e2 (aand @hn @hn1))))); refine tF ?_; (try clear F)
    subst ek
    exact Fin.retC (p := intv v.neg (tens10 z.toNat v.abs)) (q := intv v.neg (tens10 z.toNat v.abs)) rfl (by simp [upd_lit, h4, hn1]) (sm.setLoc (by omega) _) (by simp [PV.strip]) (by simp [PV.sc, PV.scL]) ⟨rfl, rfl⟩
theorem by_number (a b : GV) : Gives Tryz.prog 131 [a.pv, b.pv] (vI (numbersF a.num b.num)) := by
  intro m
  refine ACall.of_aw Tryz.func131 Tryz.ntmps131 rfl rfl (by simp) ?_
  refine tS ?_
  refine tS1 fun K Kp hK hKp => ?_; refine Gives.at (cmp_int a.num b.num) ?_; apply hK; clear hK hKp K Kp
  refine tS ?_
  exact Fin.ret rfl (((Same.refl m).newLoc _).newLoc _) (by simp [upd_lit]) (by simp) ⟨rfl, rfl⟩
theorem by_int (a b : GV) (ha : intOK a.neg a.abs) (hb : intOK b.neg b.abs) : Gives Tryz.prog 132 [a.pv, b.pv] (vI (intsF a.neg a.abs b.neg b.abs)) := by
  intro m
  refine ACall.of_aw Tryz.func132 Tryz.ntmps132 rfl rfl (by simp) ?_
  refine tS ?_
  refine tS1 fun K Kp hK hKp => ?_; refine Gives.at (num_compare a.neg b.neg a.abs b.abs ha hb) ?_; apply hK; clear hK hKp K Kp
  refine tS ?_
  exact Fin.ret rfl (((Same.refl m).newLoc _).newLoc _) (by simp [upd_lit]) (by simp) ⟨rfl, rfl⟩
theorem by_text (a b : GV) : Gives Tryz.prog 134 [a.pv, b.pv] (vI (strF a.str b.str)) := by
  intro m
  refine ACall.of_aw Tryz.func134 Tryz.ntmps134 rfl rfl (by simp) ?_
  refine tS ?_
  refine tS1 fun K Kp hK hKp => ?_; refine Gives.at (strings_compare a.str b.str) ?_; apply hK; clear hK hKp K Kp
  refine tS ?_
  exact Fin.ret rfl (((Same.refl m).newLoc _).newLoc _) (by simp [upd_lit]) (by simp) ⟨rfl, rfl⟩
def scOK (v : GV) : Prop := intOK v.neg v.abs ∧ limbOK v.abs ∧ v.abs.length ≤ 40 ∧ 1 ≤ v.num ∧ v.num ≤ 20
theorem by_dec (a b : GV) (ha : scOK a) (hb : scOK b) : Gives Tryz.prog 133 [a.pv, b.pv] (vI (decF a b)) := by
  obtain ⟨a1, a2, a3, a4, a5⟩ := ha
  obtain ⟨b1, b2, b3, b4, b5⟩ := hb
  intro m
  refine ACall.of_aw Tryz.func133 Tryz.ntmps133 rfl rfl (by simp) ?_
  refine tS ?_
  have w1 : IntKind.i64.wrap (b.num - a.num) = b.num - a.num := wrap_i64 _ (by omega) (by omega)
  have w2 : IntKind.i64.wrap (a.num - b.num) = a.num - b.num := wrap_i64 _ (by omega) (by omega)
  have ga := tens10_good (b.num - a.num).toNat a.neg a.abs a1 a2 (by omega)
  have gb := tens10_good (a.num - b.num).toNat b.neg b.abs b1 b2 (by omega)
  refine AW.draw [.R, .S, .R, .S, .R, .S, .R, .R, .S, .R, .S, .R, .S, .R, .R, .S] (by decide +kernel) ?_; have F := (aand @w1 @w2); refine dR 0 ?_; refine dS 1 ?_; refine dR 2 ?_; refine dS 3 ?_; refine dR 4 ?_; refine dS 5 ?_; refine dC ((val_scaled a (b.num - a.num) a1 a2 (by omega) (by omega))) 6 ?_; refine dR 7 ?_; refine dS 8 ?_; refine dR 9 ?_; refine dS 10 ?_; refine dR 11 ?_; refine dS 12 ?_; refine dC ((val_scaled b (a.num - b.num) b1 b2 (by omega) (by omega))) 13 ?_; refine dC ((num_compare _ _ _ _ ga.1 gb.1)) 14 ?_; refine dS 15 ?_; (try clear F); first | refine dN ?_ | refine dB ?_ | refine DA.done (by decide +kernel) ?_
  refine tS ?_
  exact Fin.ret rfl (((Same.refl m).newLoc _).newLoc _) (by simp [upd_lit, decF]) (by simp) ⟨rfl, rfl⟩
end Go.Proofs.YtgfadepkiejncaaGreat
namespace Go.Proofs.YtgfadepkiejncaaGreat
open Go.Ab
set_option maxHeartbeats 0
theorem nF_neg (a b : Int) : numbersF b a = - numbersF a b := by unfold numbersF; split <;> split <;> (try split) <;> omega
theorem nF_zero {a b : Int} : numbersF a b = 0 ↔ a = b := by unfold numbersF; split <;> (try split) <;> omega
theorem nF_lt {a b : Int} : numbersF a b < 0 ↔ a < b := by unfold numbersF; split <;> (try split) <;> omega
def valN : List Int → Int
  | [] => 0
  | x :: l => x + 4294967296 * valN l
theorem limbOK_tail {x : Int} {l : List Int} (h : limbOK (x :: l)) : (0 ≤ x ∧ x < 4294967296) ∧ limbOK l := ⟨h x (by simp), fun y hy => h y (by simp [hy])⟩
theorem valN_nn : ∀ (l : List Int), limbOK l → 0 ≤ valN l
  | [], _ => Int.le_refl _
  | x :: l, h => by
    obtain ⟨h1, h2⟩ := limbOK_tail h
    have := valN_nn l h2
    simp only [valN]; omega
theorem lastOK_tail {x : Int} {l : List Int} (h : lastOK (x :: l)) (hl : l ≠ []) : lastOK l := by
  cases l with
  | nil => exact absurd rfl hl
  | cons y l => exact lastOK_cons.1 h
theorem valN_pos : ∀ (l : List Int), limbOK l → lastOK l → l ≠ [] → 1 ≤ valN l
  | [], _, _, h => absurd rfl h
  | [x], h, hz, _ => by
    have h1 := h x (by simp)
    have : x ≠ 0 := by simpa [lastOK] using hz
    simp only [valN]; omega
  | x :: y :: l, h, hz, _ => by
    obtain ⟨h1, h2⟩ := limbOK_tail h
    have := valN_pos (y :: l) h2 (lastOK_cons.1 hz) (by simp)
    rw [valN]; omega
theorem valN_lt : ∀ (a b : List Int), limbOK a → limbOK b → lastOK b → a.length < b.length → valN a < valN b
  | [], b, _, hb, hz, hl => by
    have : b ≠ [] := by rintro rfl; simp at hl
    have := valN_pos b hb hz this
    simp only [valN]; omega
  | x :: a, [], _, _, _, hl => by simp at hl
  | x :: a, y :: b, ha, hb, hz, hl => by
    obtain ⟨h1, h2⟩ := limbOK_tail ha
    obtain ⟨h3, h4⟩ := limbOK_tail hb
    have hl' : a.length < b.length := by simpa using hl
    have hne : b ≠ [] := by rintro rfl; simp at hl'
    have := valN_lt a b h2 h4 (lastOK_tail hz hne) hl'
    simp only [valN]; omega
theorem cmpAt_cons (x y : Int) (a b : List Int) : ∀ n, cmpAt (x :: a) (y :: b) (n + 1) = if cmpAt a b n ≠ 0 then cmpAt a b n else numbersF x y
  | 0 => by simp [cmpAt, numbersF]
  | n + 1 => by
    rw [cmpAt, cmpAt_cons x y a b n]
    simp only [List.getD_cons_succ]
    rw [cmpAt]
    split
    · simp
    split
    · simp
    · rfl
theorem cmpAt_val : ∀ (a b : List Int), a.length = b.length → limbOK a → limbOK b → cmpAt a b a.length = numbersF (valN a) (valN b)
  | [], [], _, _, _ => rfl
  | [], _ :: _, h, _, _ => by simp at h
  | _ :: _, [], h, _, _ => by simp at h
  | x :: a, y :: b, hl, ha, hb => by
    obtain ⟨h1, h2⟩ := limbOK_tail ha
    obtain ⟨h3, h4⟩ := limbOK_tail hb
    rw [List.length_cons, cmpAt_cons, cmpAt_val a b (by simpa using hl) h2 h4]
    simp only [valN]
    generalize valN a = p, valN b = q
    rcases Int.lt_trichotomy p q with h | h | h
    · have e : numbersF p q = -1 := by unfold numbersF; rw [if_pos h]
      rw [e, if_pos (by decide)]; unfold numbersF; rw [if_pos (by omega)]
    · subst h
      rw [nF_zero.2 rfl, if_neg (by decide)]
      unfold numbersF
      by_cases e3 : x < y
      · rw [if_pos e3, if_pos (by omega)]
      by_cases e4 : y < x
      · rw [if_neg e3, if_pos e4, if_neg (by omega), if_pos (by omega)]
      rw [if_neg e3, if_neg e4, if_neg (by omega), if_neg (by omega)]
    · have e : numbersF p q = 1 := by unfold numbersF; rw [if_neg (by omega), if_pos h]
      rw [e, if_pos (by decide)]; unfold numbersF; rw [if_neg (by omega), if_pos (by omega)]
theorem sizeF_val (a b : List Int) (ha : limbOK a) (hb : limbOK b) (za : lastOK a) (zb : lastOK b) : sizeF a b = numbersF (valN a) (valN b) := by
  unfold sizeF
  by_cases h : a.length = b.length
  · rw [if_neg (by omega)]; exact cmpAt_val a b h ha hb
  · rw [if_pos h]
    by_cases h1 : a.length < b.length
    · have := valN_lt a b ha hb zb h1
      rw [if_pos h1, numbersF, if_pos this]
    · have := valN_lt b a hb ha za (by omega)
      rw [if_neg h1, numbersF, if_neg (by omega), if_pos this]
theorem valN_inj : ∀ (a b : List Int), limbOK a → limbOK b → lastOK a → lastOK b → valN a = valN b → a = b := by
  intro a b ha hb za zb h
  have hl : a.length = b.length := by
    rcases Nat.lt_trichotomy a.length b.length with h1 | h1 | h1
    · have := valN_lt a b ha hb zb h1; omega
    · exact h1
    · have := valN_lt b a hb ha za h1; omega
  clear za zb
  induction a generalizing b with
  | nil => exact (List.eq_nil_of_length_eq_zero hl.symm).symm
  | cons x a ih =>
    cases b with
    | nil => simp at hl
    | cons y b =>
      obtain ⟨h1, h2⟩ := limbOK_tail ha
      obtain ⟨h3, h4⟩ := limbOK_tail hb
      simp only [valN] at h
      have e1 : valN a = valN b := by omega
      rw [ih b h2 h4 e1 (by simpa using hl), show x = y from by omega]
theorem valN_tenL : ∀ (l : List Int) (c : Int), limbOK l → 0 ≤ c → c < 4294967296 → valN (tenL l c) = valN l * 10 + c
  | [], c, _, h0, h1 => by
    simp only [tenL]
    split
    · simp only [valN]; omega
    · simp only [valN]; omega
  | x :: l, c, h, h0, h1 => by
    obtain ⟨h2, h3⟩ := limbOK_tail h
    obtain ⟨t, et⟩ : ∃ t, t = x * 10 + c := ⟨_, rfl⟩
    have := valN_tenL l (t / 4294967296) h3 (by omega) (by omega)
    simp only [tenL, valN, ← et, this]; omega
def sgn (n : Bool) (x : Int) : Int := if n then -x else x
theorem intsF_val {n n' : Bool} {a a' : List Int} (h : intOK n a) (h' : intOK n' a') (l : limbOK a) (l' : limbOK a') : intsF n a n' a' = numbersF (sgn n (valN a)) (sgn n' (valN a')) := by
  have z : lastOK a := h.2.2
  have z' : lastOK a' := h'.2.2
  have p := valN_nn a l
  have p' := valN_nn a' l'
  cases n with
  | false =>
    cases n' with
    | false => simp only [intsF, sgn]; exact sizeF_val a a' l l' z z'
    | true =>
      have : a' ≠ [] := fun e => by have := h'.2.1 e; cases this
      have := valN_pos a' l' z' this
      simp only [intsF, sgn, numbersF]
      rw [if_pos (by simp), if_neg (by simp), if_neg (by simp; omega), if_pos (by simp; omega)]
  | true =>
    have : a ≠ [] := fun e => by have := h.2.1 e; cases this
    have := valN_pos a l z this
    cases n' with
    | false =>
      simp only [intsF, sgn, numbersF]
      rw [if_pos (by simp), if_pos (by simp), if_pos (by simp; omega)]
    | true =>
      simp only [intsF, sgn]
      rw [if_neg (by simp)]
      simp only [if_true]
      rw [sizeF_val a' a l' l z' z]
      unfold numbersF
      by_cases e1 : valN a' < valN a
      · rw [if_pos e1, if_pos (by omega)]
      by_cases e2 : valN a < valN a'
      · rw [if_neg e1, if_pos e2, if_neg (by omega), if_pos (by omega)]
      rw [if_neg e1, if_neg e2, if_neg (by omega), if_neg (by omega)]
theorem sgn_inj {n n' : Bool} {a a' : List Int} (h : intOK n a) (h' : intOK n' a') (l : limbOK a) (l' : limbOK a') (e : sgn n (valN a) = sgn n' (valN a')) : n = n' ∧ a = a' := by
  have z : lastOK a := h.2.2
  have z' : lastOK a' := h'.2.2
  have p := valN_nn a l
  have p' := valN_nn a' l'
  have q : n = n' := by
    cases n <;> cases n' <;> simp only [sgn] at e <;> (try rfl)
    · have : a' ≠ [] := fun e => by have := h'.2.1 e; cases this
      have := valN_pos a' l' z' this
      simp at e; omega
    · have : a ≠ [] := fun e => by have := h.2.1 e; cases this
      have := valN_pos a l z this
      simp at e; omega
  subst q
  refine ⟨rfl, valN_inj a a' l l' z z' ?_⟩
  cases n <;> simp [sgn] at e <;> omega
theorem bl_irr : ∀ a : List UInt8, Op.bytesLess a a = false
  | [] => rfl
  | x :: a => by simp [Op.bytesLess, bl_irr a]
theorem bl_tri : ∀ a b : List UInt8, Op.bytesLess a b = false → Op.bytesLess b a = false → a = b
  | [], [], _, _ => rfl
  | [], _ :: _, h, _ => by simp [Op.bytesLess] at h
  | _ :: _, [], _, h => by simp [Op.bytesLess] at h
  | x :: a, y :: b, h, h' => by
    simp only [Op.bytesLess, Bool.or_eq_false_iff, decide_eq_false_iff_not] at h h'
    have : x = y := UInt8.le_antisymm (UInt8.not_lt.1 h'.1) (UInt8.not_lt.1 h.1)
    subst this
    rw [bl_tri a b (by simpa using h.2) (by simpa using h'.2)]
theorem bl_trans : ∀ a b c : List UInt8, Op.bytesLess a b = true → Op.bytesLess b c = true → Op.bytesLess a c = true
  | [], [], _, h, _ => by simp [Op.bytesLess] at h
  | [], _ :: _, [], _, h => by simp [Op.bytesLess] at h
  | [], _ :: _, _ :: _, _, _ => rfl
  | _ :: _, [], _, h, _ => by simp [Op.bytesLess] at h
  | _ :: _, _ :: _, [], _, h => by simp [Op.bytesLess] at h
  | x :: a, y :: b, z :: c, h, h' => by
    simp only [Op.bytesLess, Bool.or_eq_true, Bool.and_eq_true, decide_eq_true_eq, beq_iff_eq] at h h' ⊢
    rcases h with h | ⟨rfl, h⟩ <;> rcases h' with h' | ⟨rfl, h'⟩
    · exact .inl (UInt8.lt_trans h h')
    · exact .inl h
    · exact .inl h'
    · exact .inr ⟨rfl, bl_trans a b c h h'⟩
theorem str_ext {s t : ByteArray} (h : s.toList = t.toList) : s = t := by
  rw [Lib.toList_data, Lib.toList_data] at h
  cases s; cases t
  have := Array.toList_inj.1 h
  simp at this
  rw [this]
theorem strF_lt {s t : ByteArray} : strF s t < 0 ↔ Op.bytesLess s.toList t.toList = true := by
  unfold strF
  split
  · rename_i h; simp [h]
  · rename_i h; split <;> simp [h]
theorem strF_zero {s t : ByteArray} : strF s t = 0 ↔ s = t := by
  unfold strF
  constructor
  · intro h
    split at h
    · cases h
    · rename_i h1
      split at h
      · cases h
      · rename_i h2
        simp [h1] at h2
        exact str_ext h2
  · rintro rfl
    rw [if_neg (by simp [bl_irr]), if_neg (by simp)]
theorem strF_neg (s t : ByteArray) : strF t s = - strF s t := by
  by_cases h : Op.bytesLess s.toList t.toList = true
  · have h2 : Op.bytesLess t.toList s.toList = false := by
      cases e : Op.bytesLess t.toList s.toList with
      | false => rfl
      | true => have := bl_trans _ _ _ h e; rw [bl_irr] at this; cases this
    have h3 : t.toList ≠ s.toList := fun e => by rw [e, bl_irr] at h; cases h
    unfold strF
    rw [if_pos h, if_neg (by simp [h2]), if_pos (by simp [h2, h3])]
    rfl
  · have h := Bool.eq_false_iff.2 h
    by_cases h2 : Op.bytesLess t.toList s.toList = true
    · have h3 : s.toList ≠ t.toList := fun e => by rw [e, bl_irr] at h2; cases h2
      unfold strF
      rw [if_pos h2, if_neg (by simp [h]), if_pos (by simp [h, h3])]
    · have h2 := Bool.eq_false_iff.2 h2
      have := str_ext (bl_tri _ _ h h2)
      subst this
      have := (strF_zero (s := s) (t := s)).2 rfl
      omega
theorem restAt_cons (x : Int) (a : List Int) : ∀ (n : Nat) (r : Int), restAt (x :: a) (n + 1) r = (restAt a n r * 4294967296 + x) % 10
  | 0, r => by simp [restAt]
  | n + 1, r => by
    rw [restAt, restAt_cons x a n]
    rw [restAt]
    simp only [List.getD_cons_succ]
theorem restAt_val : ∀ (a : List Int), (restAt a a.length 0 - valN a) % 10 = 0
  | [] => rfl
  | x :: a => by
    have := restAt_val a
    rw [List.length_cons, restAt_cons, valN]
    omega
theorem restAt_range : ∀ (a : List Int), 0 ≤ restAt a a.length 0 ∧ restAt a a.length 0 < 10
  | [] => by simp [restAt]
  | x :: a => by rw [List.length_cons, restAt_cons]; omega
theorem tensF_val (a : List Int) : tensF a = decide (valN a % 10 = 0) := by
  have h1 := restAt_val a
  have h2 := restAt_range a
  unfold tensF
  by_cases h : valN a % 10 = 0
  · rw [decide_eq_true h, beq_iff_eq]; omega
  · rw [decide_eq_false h, beq_eq_false_iff_ne]; omega
theorem valN_tens10 : ∀ (k : Nat) (l : List Int), limbOK l → valN (tens10 k l) = valN l * 10 ^ k
  | 0, l, _ => by simp [tens10]
  | k + 1, l, h => by
    rw [tens10, valN_tens10 k _ (tenL_ok l 0), valN_tenL l 0 h (by omega) (by omega), Int.pow_succ, Int.add_zero, Int.mul_assoc, Int.mul_comm 10]
end Go.Proofs.YtgfadepkiejncaaGreat
namespace Go.Proofs.YtgfadepkiejncaaGreat
open Go.Ab
set_option maxHeartbeats 0
def nodeOK (v : GV) : Prop := fieldsF v = true ∧ formF v = true ∧ v.abs.length ≤ 40 ∧ v.str.size ≤ 1000
def incr : Option GV → List GV → Prop
  | _, [] => True
  | none, v :: l => incr (some v) l
  | some p, v :: l => cmpV p v < 0 ∧ incr (some v) l
mutual
def fmd : GV → Prop
  | .mk k n ng a s l => nodeOK (.mk k n ng a s l) ∧ (k = 8 → (∀ x ∈ l, x.kind ≠ 0) ∧ incr none l) ∧ fmdL l
def fmdL : List GV → Prop
  | [] => True
  | v :: l => fmd v ∧ fmdL l
end
theorem fmd_eq (v : GV) : fmd v = (nodeOK v ∧ (v.kind = 8 → (∀ x ∈ v.els, x.kind ≠ 0) ∧ incr none v.els) ∧ fmdL v.els) := by cases v; rfl
theorem fmdL_iff (l : List GV) : fmdL l ↔ ∀ x ∈ l, fmd x := by
  induction l with
  | nil => simp [fmdL]
  | cons v l ih => simp [fmdL, ih]
theorem okL_iff (l : List GV) : GV.okL l ↔ ∀ x ∈ l, x.ok := by
  induction l with
  | nil => simp [GV.okL]
  | cons v l ih => simp [GV.okL, ih]
theorem badSet_false {k : Int} {p : Option GV} {v : GV} (h : badSet k p v = false) (hk : k = 8) : v.kind ≠ 0 ∧ ∀ q, p = some q → cmpV q v < 0 := by
  subst hk
  simp [badSet] at h
  refine ⟨h.1, fun q e => ?_⟩
  subst e
  simpa using h.2
mutual
theorem fol_ok : ∀ (v : GV) (N d : Int), 0 ≤ N → (folV v N 0 d).2 = 0 → fmd v ∧ N + nodes v ≤ 3000 ∧ d + deep v ≤ 21 ∧ (folV v N 0 d).1 = N + nodes v
  | .mk k n ng a s l, N, d, hN, h => by
    simp only [folV] at h ⊢
    rw [if_neg (by simp)] at h ⊢
    split at h
    · cases h
    rename_i h1
    rw [if_neg h1]
    split at h
    · cases h
    rename_i h2
    rw [if_neg h2]
    split at h
    · cases h
    rename_i h3
    rw [if_neg h3]
    simp at h1 h2 h3
    obtain ⟨q1, q2, q3, q4⟩ := folL_ok k none l (N + 1) d (by omega) h
    have e1 : (nodes (.mk k n ng a s l) : Int) = 1 + nodesL l := by simp [nodes]
    have e2 : (deep (.mk k n ng a s l) : Int) = 1 + deepL l := by simp [deep]
    refine ⟨⟨⟨by simpa using h2.1, by simpa using h2.2, by simp only [GV.abs]; omega, by simp only [GV.str]; omega⟩, fun hk => q4 hk, q1⟩, ?_, ?_, by rw [q3]; omega⟩
    · cases l with
      | nil => simp [nodesL] at e1; omega
      | cons y l => have := (q2 (by simp)).1; omega
    · cases l with
      | nil => simp [deepL] at e2; omega
      | cons y l => have := (q2 (by simp)).2; omega
theorem folL_ok : ∀ (k : Int) (p : Option GV) (l : List GV) (N d : Int), 0 ≤ N → (folL k p l N d).2 = 0 → fmdL l ∧ (l ≠ [] → N + nodesL l ≤ 3000 ∧ d + deepL l ≤ 20) ∧ (folL k p l N d).1 = N + nodesL l ∧ (k = 8 → (∀ x ∈ l, x.kind ≠ 0) ∧ incr p l)
  | k, p, [], N, d, hN, h => by simp [folL, fmdL, nodesL, incr]
  | k, p, v :: l, N, d, hN, h => by
    simp only [folL] at h ⊢
    split at h
    · contradiction
    rename_i h1
    rw [if_neg h1]
    split at h
    · cases h
    rename_i h2
    rw [if_neg h2]
    have h1 : (folV v N 0 (d + 1)).2 = 0 := by simpa using h1
    obtain ⟨q1, q2, q3, q4⟩ := fol_ok v N (d + 1) hN h1
    rw [q4] at h ⊢
    obtain ⟨r1, r2, r3, r4⟩ := folL_ok k (some v) l (N + nodes v) d (by omega) h
    have e1 : (nodesL (v :: l) : Int) = nodes v + nodesL l := by simp [nodesL]
    have e2 : (deepL (v :: l) : Int) = max (deep v) (deepL l) := by simp [deepL]
    refine ⟨⟨q1, r1⟩, fun _ => ?_, by rw [r3]; omega, fun hk => ?_⟩
    · cases l with
      | nil => simp [nodesL, deepL] at *; omega
      | cons y l => have := r2 (by simp); omega
    · obtain ⟨s1, s2⟩ := badSet_false (Bool.eq_false_iff.2 h2) hk
      obtain ⟨s3, s4⟩ := r4 hk
      refine ⟨fun x hx => (List.mem_cons.1 hx).elim (fun e => e ▸ s1) (s3 x), ?_⟩
      cases p with
      | none => exact s4
      | some q => exact ⟨s2 q rfl, s4⟩
end
mutual
theorem fol_of : ∀ (v : GV) (N d : Int), fmd v → N + nodes v ≤ 3000 → d + deep v ≤ 21 → folV v N 0 d = (N + nodes v, 0)
  | .mk k n ng a s l, N, d, h, h1, h2 => by
    have e1 : (nodes (.mk k n ng a s l) : Int) = 1 + nodesL l := by simp [nodes]
    have e2 : (deep (.mk k n ng a s l) : Int) = 1 + deepL l := by simp [deep]
    obtain ⟨⟨g1, g2, g3, g4⟩, g5, g6⟩ := h
    simp only [GV.abs, GV.str] at g3 g4
    simp only [folV]
    rw [if_neg (by simp), if_neg (by simp; omega), if_neg (by simp [g1, g2]), if_neg (by simp; omega)]
    rw [folL_of k none l (N + 1) d g6 g5 (by omega) (by omega)]
    congr 1; omega
theorem folL_of : ∀ (k : Int) (p : Option GV) (l : List GV) (N d : Int), fmdL l → (k = 8 → (∀ x ∈ l, x.kind ≠ 0) ∧ incr p l) → N + nodesL l ≤ 3000 → d + deepL l ≤ 20 → folL k p l N d = (N + nodesL l, 0)
  | k, p, [], N, d, _, _, _, _ => by simp [folL, nodesL]
  | k, p, v :: l, N, d, h, hk, h1, h2 => by
    have e1 : (nodesL (v :: l) : Int) = nodes v + nodesL l := by simp [nodesL]
    have e2 : (deepL (v :: l) : Int) = max (deep v) (deepL l) := by simp [deepL]
    simp only [folL]
    rw [fol_of v N (d + 1) h.1 (by omega) (by omega), if_neg (by simp)]
    have hb : badSet k p v = false := by
      by_cases e : k = 8
      · obtain ⟨s1, s2⟩ := hk e
        have s1 := s1 v (by simp)
        subst e
        simp only [badSet, decide_true, Bool.true_and, decide_eq_false s1, Bool.false_or]
        cases p with
        | none => rfl
        | some q => have := s2.1; simp; omega
      · simp [badSet, e]
    rw [if_neg (by rw [hb]; simp)]
    rw [folL_of k (some v) l (N + nodes v) d h.2 (fun e => ?_) (by omega) (by omega)]
    · congr 1; omega
    · obtain ⟨s1, s2⟩ := hk e
      refine ⟨fun x hx => s1 x (by simp [hx]), ?_⟩
      cases p with
      | none => exact s2
      | some q => exact s2.2
end
theorem checkF_ok {v : GV} : checkF v = 0 ↔ fmd v ∧ nodes v ≤ 3000 ∧ deep v ≤ 20 := by
  unfold checkF
  constructor
  · intro h
    obtain ⟨h1, h2, h3, _⟩ := fol_ok v 0 1 (by omega) h
    exact ⟨h1, by omega, by omega⟩
  · rintro ⟨h1, h2, h3⟩
    rw [fol_of v 0 1 h1 (by omega) (by omega)]
theorem fmd.node {v : GV} (h : fmd v) : nodeOK v := by rw [fmd_eq] at h; exact h.1
theorem fmd.els {v : GV} (h : fmd v) : ∀ x ∈ v.els, fmd x := by rw [fmd_eq] at h; exact (fmdL_iff _).1 h.2.2
theorem ok_els {v : GV} (h : v.ok) : ∀ x ∈ v.els, x.ok := (okL_iff _).1 h.els
theorem node_kind {v : GV} (h : nodeOK v) : 0 ≤ v.kind ∧ v.kind ≤ 8 := by
  have := h.1
  unfold fieldsF at this
  simp only at this
  split at this
  · cases this
  rename_i h1
  simp at h1
  omega
theorem node_fields {v : GV} (h : nodeOK v) : (v.kind ≠ 2 → v.kind ≠ 3 → v.neg = false ∧ v.abs = []) ∧ (v.kind ≠ 4 → v.str.toList = []) ∧ (v.kind ≠ 7 → v.kind ≠ 8 → v.els = []) ∧ (v.kind ≠ 1 → v.kind ≠ 3 → v.kind ≠ 5 → v.kind ≠ 6 → v.num = 0) := by
  have := h.1
  unfold fieldsF at this
  simp only at this
  split at this
  · cases this
  split at this
  · cases this
  rename_i h2
  split at this
  · cases this
  rename_i h3
  simp at h2 h3 this
  refine ⟨fun a b => ?_, fun a => ?_, fun a b => ?_, fun a b c d => ?_⟩
  · have := h2 a b
    exact ⟨this.1, this.2⟩
  · exact h3.1 a
  · exact h3.2 a b
  · rcases this with (((this | this) | this) | this) | this <;> first | exact this | exact absurd this a | exact absurd this b | exact absurd this c | exact absurd this d
theorem node_int {v : GV} (h : nodeOK v) (hk : v.kind = 2 ∨ v.kind = 3) : intOK v.neg v.abs := by
  have := h.2.1
  unfold formF at this
  simp only at this
  rw [if_neg (by omega), if_neg (by omega), if_neg (by omega), if_pos hk] at this
  split at this
  · cases this
  rename_i h1
  simp [lastZ] at h1
  have h2 := h.2.2.1
  refine ⟨by omega, fun e => ?_, fun e => ?_⟩
  · have := h1.2 e
    simpa using this
  · have := h1.1 (List.length_pos_iff.2 e)
    simpa using this
theorem node_dec {v : GV} (h : nodeOK v) (hk : v.kind = 3) : 1 ≤ v.num ∧ v.num ≤ 20 ∧ (v.num = 1 ∨ tensF v.abs = false) := by
  have := h.2.1
  unfold formF at this
  simp only at this
  rw [if_neg (by omega), if_neg (by omega), if_neg (by omega), if_pos (.inr hk)] at this
  split at this
  · cases this
  simp at this
  exact ⟨this.1.1, this.1.2, this.2⟩
def scaledV (v : GV) : Int := sgn v.neg (valN v.abs) * 10 ^ (20 - v.num).toNat
theorem pow10_pos (n : Nat) : (0 : Int) < 10 ^ n := Int.pow_pos (by decide)
theorem nF_mul (a b : Int) (n : Nat) : numbersF (a * 10 ^ n) (b * 10 ^ n) = numbersF a b := by
  have hp := pow10_pos n
  unfold numbersF
  by_cases h1 : a < b
  · rw [if_pos h1, if_pos (Int.mul_lt_mul_of_pos_right h1 hp)]
  by_cases h2 : b < a
  · rw [if_neg h1, if_pos h2, if_neg, if_pos (Int.mul_lt_mul_of_pos_right h2 hp)]
    have := Int.mul_lt_mul_of_pos_right h2 hp
    omega
  have : a = b := by omega
  subst this
  simp
theorem sgn_mul (n : Bool) (x y : Int) : sgn n (x * y) = sgn n x * y := by cases n <;> simp [sgn, Int.neg_mul]
theorem node_scOK {v : GV} (h : nodeOK v) (hv : v.ok) (hk : v.kind = 3) : scOK v := ⟨node_int h (.inr hk), hv.limb, h.2.2.1, (node_dec h hk).1, (node_dec h hk).2.1⟩
theorem decF_val {a b : GV} (ha : scOK a) (hb : scOK b) : decF a b = numbersF (scaledV a) (scaledV b) := by
  obtain ⟨a1, a2, a3, a4, a5⟩ := ha
  obtain ⟨b1, b2, b3, b4, b5⟩ := hb
  have ga := tens10_good (b.num - a.num).toNat a.neg a.abs a1 a2 (by omega)
  have gb := tens10_good (a.num - b.num).toNat b.neg b.abs b1 b2 (by omega)
  rw [decF, intsF_val ga.1 gb.1 ga.2 gb.2, valN_tens10 _ _ a2, valN_tens10 _ _ b2, sgn_mul, sgn_mul]
  unfold scaledV
  rw [← nF_mul _ _ (20 - max a.num b.num).toNat, Int.mul_assoc, Int.mul_assoc, ← Int.pow_add, ← Int.pow_add]
  congr 2
  · congr 1; omega
  · congr 1; omega
theorem dec_inj {a b : GV} (na : nodeOK a) (nb : nodeOK b) (oa : a.ok) (ob : b.ok) (ka : a.kind = 3) (kb : b.kind = 3) (h : scaledV a = scaledV b) : a.num = b.num ∧ a.neg = b.neg ∧ a.abs = b.abs := by
  have key : ∀ {a b : GV}, nodeOK a → nodeOK b → a.ok → b.ok → a.kind = 3 → b.kind = 3 → scaledV a = scaledV b → ¬ a.num < b.num := by
    intro a b na nb oa ob ka kb h hlt
    obtain ⟨a1, a2, a3⟩ := node_dec na ka
    obtain ⟨b1, b2, b3⟩ := node_dec nb kb
    have hb : valN b.abs % 10 ≠ 0 := by
      rcases b3 with b3 | b3
      · omega
      · rw [tensF_val] at b3; simpa using b3
    unfold scaledV at h
    obtain ⟨d, hd⟩ : ∃ d : Nat, (20 - a.num).toNat = (20 - b.num).toNat + (d + 1) := ⟨(b.num - a.num).toNat - 1, by omega⟩
    rw [hd, Nat.add_comm, Int.pow_add, ← Int.mul_assoc] at h
    have h2 := Int.eq_of_mul_eq_mul_right (Int.ne_of_gt (pow10_pos _)) h
    rw [Int.pow_succ, ← Int.mul_assoc] at h2
    obtain ⟨t, ht⟩ : ∃ t, t = sgn a.neg (valN a.abs) * 10 ^ d := ⟨_, rfl⟩
    rw [← ht] at h2
    cases e : b.neg <;> rw [e] at h2 <;> simp [sgn] at h2 <;> omega
  have e : a.num = b.num := by
    have := key na nb oa ob ka kb h
    have := key nb na ob oa kb ka h.symm
    omega
  refine ⟨e, ?_⟩
  unfold scaledV at h
  rw [e] at h
  exact sgn_inj (node_int na (.inr ka)) (node_int nb (.inr kb)) oa.limb ob.limb (Int.eq_of_mul_eq_mul_right (Int.ne_of_gt (pow10_pos _)) h)
end Go.Proofs.YtgfadepkiejncaaGreat
namespace Go.Proofs.YtgfadepkiejncaaGreat
open Go.Ab
set_option maxHeartbeats 0
theorem cmpAt_neg (a b : List Int) : ∀ n, cmpAt b a n = - cmpAt a b n
  | 0 => rfl
  | n + 1 => by
    simp only [cmpAt, cmpAt_neg a b n]
    generalize a.getD n 0 = x, b.getD n 0 = y
    rcases Int.lt_trichotomy x y with h | h | h
    · rw [if_neg (by omega), if_pos h, if_pos h]; rfl
    · subst h; simp
    · rw [if_pos h, if_neg (by omega), if_pos h]
theorem sizeF_neg (a b : List Int) : sizeF b a = - sizeF a b := by
  unfold sizeF
  by_cases h : a.length = b.length
  · rw [if_neg (by omega), if_neg (by omega), h]; exact cmpAt_neg a b _
  · rw [if_pos (by omega), if_pos h]
    by_cases h1 : a.length < b.length
    · rw [if_neg (by omega), if_pos h1]; rfl
    · rw [if_pos (by omega), if_neg h1]
theorem intsF_neg (n n' : Bool) (a a' : List Int) : intsF n' a' n a = - intsF n a n' a' := by
  cases n <;> cases n' <;> simp [intsF]
  · exact sizeF_neg a a'
  · exact sizeF_neg a' a
mutual
theorem cmp_neg : ∀ a b : GV, cmpV b a = - cmpV a b
  | .mk k n ng x s l, .mk k' n' ng' x' s' l' => by
    have hL := cmpL_neg l l'
    simp only [cmpV]
    by_cases hk : k = k'
    · subst hk
      rw [if_neg (show ¬ (k ≠ k) from fun e => e rfl), if_neg (show ¬ (k ≠ k) from fun e => e rfl)]
      by_cases h2 : k = 2
      · rw [if_pos h2, if_pos h2]; exact intsF_neg _ _ _ _
      rw [if_neg h2, if_neg h2]
      by_cases h3 : k = 3
      · rw [if_pos h3, if_pos h3]; exact intsF_neg _ _ _ _
      rw [if_neg h3, if_neg h3]
      by_cases h4 : k = 4
      · rw [if_pos h4, if_pos h4]; exact strF_neg _ _
      rw [if_neg h4, if_neg h4]
      by_cases h7 : k = 7 ∨ k = 8
      · rw [if_pos h7, if_pos h7]
        by_cases hl : l.length = l'.length
        · rw [if_neg (by omega), if_neg (by omega)]; exact hL
        · rw [if_pos (by omega), if_pos hl]; exact nF_neg _ _
      rw [if_neg h7, if_neg h7]; exact nF_neg _ _
    · rw [if_pos (fun e => hk e.symm), if_pos hk]; exact nF_neg _ _
theorem cmpL_neg : ∀ a b : List GV, cmpL b a = - cmpL a b
  | [], [] => rfl
  | [], _ :: _ => rfl
  | _ :: _, [] => rfl
  | x :: a, y :: b => by
    have h1 := cmp_neg x y
    have h2 := cmpL_neg a b
    simp only [cmpL]
    by_cases h : cmpV x y = 0
    · rw [if_neg (by omega), if_neg (by omega)]; exact h2
    · rw [if_pos (by omega), if_pos h]; exact h1
end
theorem cmp_self (a : GV) : cmpV a a = 0 := by have := cmp_neg a a; omega
def good (v : GV) : Prop := fmd v ∧ v.ok
theorem good.els {v : GV} (h : good v) : ∀ x ∈ v.els, good x := fun x hx => ⟨h.1.els x hx, ok_els h.2 x hx⟩
theorem cmp_same_kind {a b : GV} (h : a.kind = b.kind) : cmpV a b = if a.kind = 2 then intsF a.neg a.abs b.neg b.abs else
    if a.kind = 3 then decF a b else
    if a.kind = 4 then strF a.str b.str else
    if a.kind = 7 ∨ a.kind = 8 then (if a.els.length ≠ b.els.length then numbersF a.els.length b.els.length else cmpL a.els b.els) else numbersF a.num b.num := by
  rw [cmpV_eq, if_neg (by simp [h])]
theorem cmp_diff_kind {a b : GV} (h : a.kind ≠ b.kind) : cmpV a b = numbersF a.kind b.kind := by rw [cmpV_eq, if_pos h]
theorem gv_ext {a b : GV} (h1 : a.kind = b.kind) (h2 : a.num = b.num) (h3 : a.neg = b.neg) (h4 : a.abs = b.abs) (h5 : a.str = b.str) (h6 : a.els = b.els) : a = b := by
  cases a; cases b; simp [GV.kind, GV.num, GV.neg, GV.abs, GV.str, GV.els] at *; exact ⟨h1, h2, h3, h4, h5, h6⟩
mutual
theorem cmp_zero : ∀ a b : GV, good a → good b → cmpV a b = 0 → a = b
  | .mk k n ng x s l, b, ga, gb, h => by
    have hL := cmpL_zero l b.els (fun y hy => ga.els y (by simp only [GV.els]; exact hy)) gb.els
    obtain ⟨a, ea⟩ : ∃ a : GV, a = .mk k n ng x s l := ⟨_, rfl⟩
    have el : l = a.els := by rw [ea]; rfl
    rw [← ea] at ga h ⊢
    rw [el] at hL
    by_cases hk : a.kind = b.kind
    · rw [cmp_same_kind hk] at h
      have fa := node_fields ga.1.node
      have fb := node_fields gb.1.node
      obtain ⟨a1, a2, a3, a4⟩ := fa
      obtain ⟨b1, b2, b3, b4⟩ := fb
      by_cases h2 : a.kind = 2
      · rw [if_pos h2, intsF_val (node_int ga.1.node (.inl h2)) (node_int gb.1.node (.inl (hk ▸ h2))) ga.2.limb gb.2.limb, nF_zero] at h
        obtain ⟨e1, e2⟩ := sgn_inj (node_int ga.1.node (.inl h2)) (node_int gb.1.node (.inl (hk ▸ h2))) ga.2.limb gb.2.limb h
        exact gv_ext hk (by rw [a4 (by omega) (by omega) (by omega) (by omega), b4 (by omega) (by omega) (by omega) (by omega)]) e1 e2 (str_ext (by rw [a2 (by omega), b2 (by omega)])) (by rw [a3 (by omega) (by omega), b3 (by omega) (by omega)])
      rw [if_neg h2] at h
      by_cases h3 : a.kind = 3
      · rw [if_pos h3, decF_val (node_scOK ga.1.node ga.2 h3) (node_scOK gb.1.node gb.2 (hk ▸ h3)), nF_zero] at h
        obtain ⟨e0, e1, e2⟩ := dec_inj ga.1.node gb.1.node ga.2 gb.2 h3 (hk ▸ h3) h
        exact gv_ext hk e0 e1 e2 (str_ext (by rw [a2 (by omega), b2 (by omega)])) (by rw [a3 (by omega) (by omega), b3 (by omega) (by omega)])
      rw [if_neg h3] at h
      obtain ⟨a1, a1'⟩ := a1 h2 h3
      obtain ⟨b1, b1'⟩ := b1 (by omega) (by omega)
      by_cases h4 : a.kind = 4
      · rw [if_pos h4, strF_zero] at h
        exact gv_ext hk (by rw [a4 (by omega) (by omega) (by omega) (by omega), b4 (by omega) (by omega) (by omega) (by omega)]) (by rw [a1, b1]) (by rw [a1', b1']) h (by rw [a3 (by omega) (by omega), b3 (by omega) (by omega)])
      rw [if_neg h4] at h
      have hs : a.str = b.str := str_ext (by rw [a2 h4, b2 (by omega)])
      by_cases h7 : a.kind = 7 ∨ a.kind = 8
      · rw [if_pos h7] at h
        split at h
        · rename_i hl; rw [nF_zero] at h; omega
        rename_i hl
        exact gv_ext hk (by rw [a4 (by omega) (by omega) (by omega) (by omega), b4 (by omega) (by omega) (by omega) (by omega)]) (by rw [a1, b1]) (by rw [a1', b1']) hs (hL (by omega) h)
      · rw [if_neg h7, nF_zero] at h
        exact gv_ext hk h (by rw [a1, b1]) (by rw [a1', b1']) hs (by rw [a3 (by omega) (by omega), b3 (by omega) (by omega)])
    · rw [cmp_diff_kind hk, nF_zero] at h
      exact absurd h hk
theorem cmpL_zero : ∀ a b : List GV, (∀ x ∈ a, good x) → (∀ x ∈ b, good x) → a.length = b.length → cmpL a b = 0 → a = b
  | [], [], _, _, _, _ => rfl
  | [], _ :: _, _, _, h, _ => by simp at h
  | _ :: _, [], _, _, h, _ => by simp at h
  | x :: a, y :: b, ga, gb, hl, h => by
    simp only [cmpL] at h
    split at h
    · contradiction
    · rename_i h1
      have h1 : cmpV x y = 0 := by simpa using h1
      rw [cmp_zero x y (ga x (by simp)) (gb y (by simp)) h1, cmpL_zero a b (fun z hz => ga z (by simp [hz])) (fun z hz => gb z (by simp [hz])) (by simpa using hl) h]
end
mutual
theorem cmp_trans : ∀ a b c : GV, good a → good b → good c → cmpV a b < 0 → cmpV b c < 0 → cmpV a c < 0
  | .mk k n ng x s l, b, c, ga, gb, gc, h1, h2 => by
    have hL := cmpL_trans l b.els c.els (fun y hy => ga.els y (by simp only [GV.els]; exact hy)) gb.els gc.els
    obtain ⟨a, ea⟩ : ∃ a : GV, a = .mk k n ng x s l := ⟨_, rfl⟩
    have el : l = a.els := by rw [ea]; rfl
    rw [← ea] at ga h1 ⊢
    rw [el] at hL
    by_cases kab : a.kind = b.kind
    · by_cases kbc : b.kind = c.kind
      · have kac : a.kind = c.kind := kab.trans kbc
        rw [cmp_same_kind kab] at h1
        rw [cmp_same_kind kbc, ← kab] at h2
        rw [cmp_same_kind kac]
        by_cases e2 : a.kind = 2
        · have ia := node_int ga.1.node (.inl e2)
          have ib := node_int gb.1.node (.inl (kab ▸ e2))
          have ic := node_int gc.1.node (.inl (kac ▸ e2))
          rw [if_pos e2, intsF_val ia ib ga.2.limb gb.2.limb, nF_lt] at h1
          rw [if_pos e2, intsF_val ib ic gb.2.limb gc.2.limb, nF_lt] at h2
          rw [if_pos e2, intsF_val ia ic ga.2.limb gc.2.limb, nF_lt]
          omega
        rw [if_neg e2] at h1 h2 ⊢
        by_cases e3 : a.kind = 3
        · have ia := node_scOK ga.1.node ga.2 e3
          have ib := node_scOK gb.1.node gb.2 (kab ▸ e3)
          have ic := node_scOK gc.1.node gc.2 (kac ▸ e3)
          rw [if_pos e3, decF_val ia ib, nF_lt] at h1
          rw [if_pos e3, decF_val ib ic, nF_lt] at h2
          rw [if_pos e3, decF_val ia ic, nF_lt]
          omega
        rw [if_neg e3] at h1 h2 ⊢
        by_cases e4 : a.kind = 4
        · rw [if_pos e4, strF_lt] at h1 h2 ⊢
          exact bl_trans _ _ _ h1 h2
        rw [if_neg e4] at h1 h2 ⊢
        by_cases e7 : a.kind = 7 ∨ a.kind = 8
        · rw [if_pos e7] at h1 h2 ⊢
          by_cases l1 : a.els.length = b.els.length
          · rw [if_neg (by omega)] at h1
            by_cases l2 : b.els.length = c.els.length
            · rw [if_neg (by omega)] at h2 ⊢
              exact hL l1 l2 h1 h2
            · rw [if_pos l2, nF_lt] at h2
              rw [if_pos (by omega), nF_lt]; omega
          · rw [if_pos l1, nF_lt] at h1
            by_cases l2 : b.els.length = c.els.length
            · rw [if_pos (by omega), nF_lt]; omega
            · rw [if_pos l2, nF_lt] at h2
              rw [if_pos (by omega), nF_lt]; omega
        · rw [if_neg e7, nF_lt] at h1 h2 ⊢
          omega
      · rw [cmp_diff_kind kbc, nF_lt] at h2
        rw [cmp_diff_kind (by omega), nF_lt]; omega
    · rw [cmp_diff_kind kab, nF_lt] at h1
      by_cases kbc : b.kind = c.kind
      · rw [cmp_diff_kind (by omega), nF_lt]; omega
      · rw [cmp_diff_kind kbc, nF_lt] at h2
        rw [cmp_diff_kind (by omega), nF_lt]; omega
theorem cmpL_trans : ∀ a b c : List GV, (∀ x ∈ a, good x) → (∀ x ∈ b, good x) → (∀ x ∈ c, good x) → a.length = b.length → b.length = c.length → cmpL a b < 0 → cmpL b c < 0 → cmpL a c < 0
  | [], b, c, _, _, _, _, _, h, _ => by simp [cmpL] at h
  | _ :: _, [], _, _, _, _, h, _, _, _ => by simp at h
  | _ :: _, _ :: _, [], _, _, _, _, h, _, _ => by simp at h
  | x :: a, y :: b, z :: c, ga, gb, gc, l1, l2, h1, h2 => by
    have gx := ga x (by simp)
    have gy := gb y (by simp)
    have gz := gc z (by simp)
    have hx := cmp_trans x y z gx gy gz
    have hL := cmpL_trans a b c (fun w hw => ga w (by simp [hw])) (fun w hw => gb w (by simp [hw])) (fun w hw => gc w (by simp [hw])) (by simpa using l1) (by simpa using l2)
    simp only [cmpL] at h1 h2 ⊢
    by_cases e1 : cmpV x y = 0
    · rw [if_neg (by omega)] at h1
      have := cmp_zero x y gx gy e1
      subst this
      by_cases e2 : cmpV x z = 0
      · rw [if_neg (by omega)] at h2 ⊢
        exact hL h1 h2
      · rw [if_pos e2] at h2 ⊢
        exact h2
    · rw [if_pos e1] at h1
      by_cases e2 : cmpV y z = 0
      · have := cmp_zero y z gy gz e2
        subst this
        rw [if_pos e1]
        exact h1
      · rw [if_pos e2] at h2
        have := hx h1 h2
        rw [if_pos (by omega)]
        exact this
end
mutual
theorem sameV_iff : ∀ a b : GV, sameV a b = true ↔ a = b
  | .mk k n ng x s l, .mk k' n' ng' x' s' l' => by
    have hL := sameL_iff l l'
    simp only [sameV, sameInt]
    simp
    constructor
    · rintro ⟨⟨⟨⟨⟨h1, h2⟩, h3⟩, h4⟩, h5, h6⟩, h7⟩
      exact ⟨h1, h2, h5, h6, str_ext h3, (hL h4).1 h7⟩
    · rintro ⟨rfl, rfl, rfl, rfl, rfl, rfl⟩
      exact ⟨⟨⟨⟨⟨rfl, rfl⟩, rfl⟩, rfl⟩, rfl, rfl⟩, (hL rfl).2 rfl⟩
theorem sameL_iff : ∀ a b : List GV, a.length = b.length → (sameL a b = true ↔ a = b)
  | [], [], _ => by simp [sameL]
  | [], _ :: _, h => by simp at h
  | _ :: _, [], h => by simp at h
  | x :: a, y :: b, h => by
    have h1 := sameV_iff x y
    have h2 := sameL_iff a b (by simpa using h)
    simp [sameL, h1, h2]
end
theorem cmp_tri {a b : GV} (ha : good a) (hb : good b) : cmpV a b < 0 ∨ a = b ∨ cmpV b a < 0 := by
  have := cmp_neg a b
  rcases Int.lt_trichotomy (cmpV a b) 0 with h | h | h
  · exact .inl h
  · exact .inr (.inl (cmp_zero a b ha hb h))
  · exact .inr (.inr (by omega))
end Go.Proofs.YtgfadepkiejncaaGreat
namespace Go.Proofs.YtgfadepkiejncaaGreat
open Go.Ab
set_option maxHeartbeats 0
set_option maxRecDepth 100000
attribute [local irreducible] AW AList ACall DA AExit.then AExit.inBlock YCall DCall
def cfL : List GV → List GV → Int
  | [], [] => 0
  | [], _ :: _ => -1
  | _ :: _, [] => 1
  | a :: l, b :: l' => if cmpV a b ≠ 0 then cmpV a b else cfL l l'
theorem cfL_eq : ∀ l l' : List GV, l.length = l'.length → cfL l l' = cmpL l l'
  | [], [], _ => rfl
  | [], _ :: _, h => by simp at h
  | _ :: _, [], h => by simp at h
  | a :: l, b :: l', h => by simp only [cfL, cmpL]; rw [cfL_eq l l' (by simpa using h)]
theorem compare_func (l l' : List GV) (la : l.length < 1152921504606846976) (lb : l'.length < 1152921504606846976) (h : ∀ x ∈ l, ∀ y ∈ l', Gives Tryz.prog 22 [x.pv, y.pv] (vI (cmpV x y))) : Gives Tryz.prog 164 [GV.pvs l, GV.pvs l', .clo 22 [] []] (vI (cfL l l')) := by
  intro m
  refine ACall.of_aw Tryz.func164 Tryz.ntmps164 rfl rfl (by simp) ?_
  refine tS ?_
  refine AW.loop (ι := Nat) (fun i σ m' => i ≤ l.length ∧ i ≤ l'.length ∧ cfL l l' = cfL (l.drop i) (l'.drop i) ∧ σ 13 = vI i ∧ σ 12 = vI l.length ∧ σ 11 = GV.pvs l ∧ σ 0 = GV.pvs l ∧ σ 1 = GV.pvs l' ∧ σ 2 = .clo 22 [] [] ∧ Same m m') (fun i => l.length - i) 0 ?_ ?_
  · exact ⟨by simp, by simp, rfl, by simp [upd_lit], by simp [upd_lit], by simp [upd_lit], by simp [upd_lit], by simp [upd_lit], by simp [upd_lit], Same.refl m⟩
  rintro i σ m' ⟨hi, hi', hc, h13, h12, h11, h0, h1, h2, sm⟩
  have F := (aand @h13 (aand @h12 @h11)); refine tF ?_; (try clear F)
  refine AW.condD (p := i < l.length) (by simp [upd_lit]) (fun hlt => ?_) (fun hge => ?_)
  · have F := (aand @h13 (aand @h11 (aand @hlt @rows_getD))); refine tF ?_; (try clear F)
    have F := @h1; refine tF ?_; (try clear F)
    refine AW.condD (p := l'.length ≤ i) (by simp [upd_lit]) (fun hle => ?_) (fun hgt => ?_)
    · refine tS ?_
      have e : l'.drop i = [] := List.drop_eq_nil_of_le hle
      rw [List.drop_eq_getElem_cons hlt, e] at hc
      rw [hc]
      exact Fin.gives (sm.newLoc _ |>.setLoc sm.lloc _) rfl (by simp [upd_lit, cfL])
    · have hgt : i < l'.length := by omega
      have hcall := h l[i] (List.getElem_mem hlt) l'[i] (List.getElem_mem hgt)
      have F := (aand @h1 (aand @hgt @rows_getD)); refine tF ?_; (try clear F)
      have F := @h2; refine tF ?_; (try clear F)
      have F := @h2; refine tF1 fun K Kp hK hKp => ?_; (try clear F); refine Gives.at (hcall) ?_; apply hK; clear hK hKp K Kp
      refine tS ?_
      rw [List.drop_eq_getElem_cons hlt, List.drop_eq_getElem_cons hgt, cfL] at hc
      refine AW.condD (p := cmpV l[i] l'[i] ≠ 0) (by simp [upd_lit]) (fun hz => ?_) (fun hz => ?_)
      · refine tS ?_
        rw [hc, if_pos hz]
        exact Fin.gives ((sm.newLoc _ |>.setLoc sm.lloc _).newLoc _ |>.setLoc (by have := sm.lloc; simp; omega) _)
      · have F := @h13; refine tF ?_; (try clear F)
        refine ⟨i + 1, ⟨by omega, by omega, by rw [hc, if_neg hz], by simp [upd_lit], by simp [upd_lit, h12], by simp [upd_lit, h11], by simp [upd_lit, h0], by simp [upd_lit, h1], by simp [upd_lit, h2], ?_⟩, by omega⟩
        exact (sm.newLoc _ |>.setLoc sm.lloc _).newLoc _ |>.setLoc (by have := sm.lloc; simp; omega) _
  · have F := (aand @h0 @h1); refine tF ?_; (try clear F)
    have e : i = l.length := by omega
    subst e
    rw [List.drop_length] at hc
    refine AW.condD (p := l.length < l'.length) (by simp [upd_lit]) (fun hlt => ?_) (fun hge2 => ?_)
    · refine tS ?_
      rw [List.drop_eq_getElem_cons hlt] at hc
      rw [hc]
      exact Fin.gives sm rfl (by simp [upd_lit, cfL])
    · refine tS ?_
      rw [List.drop_eq_nil_of_le (by omega)] at hc
      rw [hc]
      exact Fin.gives sm rfl (by simp [upd_lit, cfL])
theorem cells1_ints : ∀ l : List Int, Cells1 1 (l.map (fun x => vI x)) (ints l)
  | [] => .nil
  | x :: l => .cons rfl rfl (cells1_ints l)
@[simp] theorem bs57 (x y : Int) (m : St) (K : PV → St → Prop) : abuildSlice Tryz.prog 57 2 [(0, vI x), (1, vI y)] m K ↔ K (.list .full (ints [x, y])) m := by
  have h := abuildSlice_all (P := Tryz.prog) (t := 57) (s := 1) (e := 3) (z := .int .i64 0) (xs := [vI x, vI y]) (rs := ints [x, y]) (m := m) (K := K) (by simp) (by simp) (by simp) (by decide) (by decide) (by simp) (by simp) (cells1_ints [x, y])
  have e : (ints [x, y]).map PV.stripL = ints [x, y] := by simp [ints, PV.stripL, PV.strip]
  rw [e] at h
  exact h
def listF (a b : GV) : Int := if a.els.length ≠ b.els.length then numbersF a.els.length b.els.length else cmpL a.els b.els
theorem by_list (a b : GV) (la : a.els.length < 1152921504606846976) (lb : b.els.length < 1152921504606846976) (h : ∀ x ∈ a.els, ∀ y ∈ b.els, Gives Tryz.prog 22 [x.pv, y.pv] (vI (cmpV x y))) : Gives Tryz.prog 135 [a.pv, b.pv] (vI (listF a b)) := by
  have e : orF [numbersF a.els.length b.els.length, cfL a.els b.els] = listF a b := by
    unfold listF
    by_cases hl : a.els.length = b.els.length
    · rw [if_neg (by omega), hl, cfL_eq _ _ hl, orF, if_neg (by rw [nF_zero.2 rfl]; simp), orF, orF]
      split <;> omega
    · have : numbersF a.els.length b.els.length ≠ 0 := fun e => by rw [nF_zero] at e; omega
      rw [if_pos hl, orF, if_pos this]
  have hor := cmp_or [numbersF a.els.length b.els.length, cfL a.els b.els] (by simp)
  rw [e] at hor
  intro m
  refine ACall.of_aw Tryz.func135 Tryz.ntmps135 rfl rfl (by simp) ?_
  refine tS ?_
  refine AW.draw [.S, .R, .S, .S, .R, .S, .R, .S, .R, .S, .R, .R, .W, .R, .S] (by decide +kernel) ?_; have F := True.intro; refine dST 0 ?_; refine dRT 1 ?_; refine dST 2 ?_; refine dST 3 ?_; refine dRT 4 ?_; refine dST 5 ?_; refine dCT ((cmp_int a.els.length b.els.length)) 6 ?_; refine dST 7 ?_; refine dRT 8 ?_; refine dST 9 ?_; refine dRT 10 ?_; refine dCT ((compare_func a.els b.els la lb h)) 11 ?_; refine dW 12 ?_; refine dCT ((hor)) 13 ?_; refine dST 14 ?_; (try clear F); first | refine dN ?_ | refine dB ?_ | refine DA.done (by decide +kernel) ?_
  refine tS ?_
  exact Fin.gives Same.auto
theorem val_compares : Gives Tryz.prog 86 [] (.agg [.clo 131 [] [], .clo 131 [] [], .clo 132 [] [], .clo 133 [] [], .clo 134 [] [], .clo 131 [] [], .clo 131 [] [], .clo 135 [] [], .clo 135 [] []]) :=
  fun m => ecall_sound spc1_ok (n := 100) (r := .ret (.agg [.clo 131 [] [], .clo 131 [] [], .clo 132 [] [], .clo 133 [] [], .clo 134 [] [], .clo 131 [] [], .clo 131 [] [], .clo 135 [] [], .clo 135 [] []])) (by kernel_rfl) m
@[simp] theorem ta_91 : tagg Tryz.prog 91 = false := by kernel_rfl
@[simp] theorem ti_91 : tinfo Tryz.prog 91 = true := by kernel_rfl
@[simp] theorem ts_91 : tsize Tryz.prog 91 = 1 := by kernel_rfl
theorem val_compare_step (a b : GV) (f : FuncId) (n : Nat) (hn : n ≤ 8) (hk : a.kind = n) (hk' : b.kind = n) (hf : ([131, 131, 132, 133, 134, 131, 131, 135, 135] : List FuncId)[n]? = some f) (h : Gives Tryz.prog f [a.pv, b.pv] (vI (cmpV a b))) : Gives Tryz.prog 22 [a.pv, b.pv] (vI (cmpV a b)) := by
  intro m
  refine ACall.of_aw Tryz.func22 Tryz.ntmps22 rfl rfl (by simp) ?_
  have e1 : ¬ (n : Int) < 0 := by omega
  have e2 : ¬ (8 : Int) < n := by omega
  have F := (aand @hk (aand @hk' (aand @e1 @e2))); refine tFg ?_; (try clear F)
  refine AW.cond (t := false) (by simp [upd_lit]) (fun h => by cases h) (fun _ => ?_)
  refine tS ?_
  have hn' : n < 9 := by omega
  obtain rfl | rfl | rfl | rfl | rfl | rfl | rfl | rfl | rfl : n = 0 ∨ n = 1 ∨ n = 2 ∨ n = 3 ∨ n = 4 ∨ n = 5 ∨ n = 6 ∨ n = 7 ∨ n = 8 := by omega
  all_goals (
    cases hf
    refine AW.draw [.R, .S, .R, .S, .R, .R, .R, .S] (by decide +kernel) ?_; have F := (aand @hk @hk'); refine dC ((val_compares)) 0 ?_; refine dS 1 ?_; refine dR 2 ?_; refine dS 3 ?_; refine dR 4 ?_; refine dR 5 ?_; refine dC ((h)) 6 ?_; refine dS 7 ?_; (try clear F); first | refine dN ?_ | refine dB ?_ | refine DA.done (by decide +kernel) ?_
    refine tS ?_
    exact Fin.gives Same.auto)
theorem val_compare (a b : GV) (ha : good a) (hb : good b) : Gives Tryz.prog 22 [a.pv, b.pv] (vI (cmpV a b)) := by
  generalize hN : nodes a = N
  induction N using Nat.strongRecOn generalizing a b with
  | _ N ih =>
  subst hN
  by_cases hk : a.kind = b.kind
  · have ka := node_kind ha.1.node
    obtain ⟨n, hn⟩ : ∃ n : Nat, a.kind = n := ⟨a.kind.toNat, by omega⟩
    have h7 : (a.kind = 7 ∨ a.kind = 8) → Gives Tryz.prog 135 [a.pv, b.pv] (vI (cmpV a b)) := fun h => by
      have hl := by_list a b ha.2.len hb.2.len (fun x hx y hy => ih (nodes x) (by
        obtain ⟨i, hi, rfl⟩ := List.getElem_of_mem hx
        have := nodes_get a.els i hi
        have := nodes_eq a
        omega) x y (ha.els x hx) (hb.els y hy) rfl)
      have e : cmpV a b = listF a b := by rw [cmp_same_kind hk, if_neg (by omega), if_neg (by omega), if_neg (by omega), if_pos h]; rfl
      rw [e]; exact hl
    have h1 : (a.kind ≠ 2 → a.kind ≠ 3 → a.kind ≠ 4 → a.kind ≠ 7 → a.kind ≠ 8 → Gives Tryz.prog 131 [a.pv, b.pv] (vI (cmpV a b))) := fun h2 h3 h4 h5 h6 => by
      have e : cmpV a b = numbersF a.num b.num := by rw [cmp_same_kind hk, if_neg h2, if_neg h3, if_neg h4, if_neg (by omega)]
      rw [e]; exact by_number a b
    have h2 : a.kind = 2 → Gives Tryz.prog 132 [a.pv, b.pv] (vI (cmpV a b)) := fun h => by
      have e : cmpV a b = intsF a.neg a.abs b.neg b.abs := by rw [cmp_same_kind hk, if_pos h]
      rw [e]; exact by_int a b (node_int ha.1.node (.inl h)) (node_int hb.1.node (.inl (hk ▸ h)))
    have h3 : a.kind = 3 → Gives Tryz.prog 133 [a.pv, b.pv] (vI (cmpV a b)) := fun h => by
      have e : cmpV a b = decF a b := by rw [cmp_same_kind hk, if_neg (by omega), if_pos h]
      rw [e]; exact by_dec a b (node_scOK ha.1.node ha.2 h) (node_scOK hb.1.node hb.2 (hk ▸ h))
    have h4 : a.kind = 4 → Gives Tryz.prog 134 [a.pv, b.pv] (vI (cmpV a b)) := fun h => by
      have e : cmpV a b = strF a.str b.str := by rw [cmp_same_kind hk, if_neg (by omega), if_neg (by omega), if_pos h]
      rw [e]; exact by_text a b
    obtain rfl | rfl | rfl | rfl | rfl | rfl | rfl | rfl | rfl : n = 0 ∨ n = 1 ∨ n = 2 ∨ n = 3 ∨ n = 4 ∨ n = 5 ∨ n = 6 ∨ n = 7 ∨ n = 8 := by omega
    · exact val_compare_step a b 131 0 (by omega) hn (hk ▸ hn) rfl (h1 (by omega) (by omega) (by omega) (by omega) (by omega))
    · exact val_compare_step a b 131 1 (by omega) hn (hk ▸ hn) rfl (h1 (by omega) (by omega) (by omega) (by omega) (by omega))
    · exact val_compare_step a b 132 2 (by omega) hn (hk ▸ hn) rfl (h2 hn)
    · exact val_compare_step a b 133 3 (by omega) hn (hk ▸ hn) rfl (h3 hn)
    · exact val_compare_step a b 134 4 (by omega) hn (hk ▸ hn) rfl (h4 hn)
    · exact val_compare_step a b 131 5 (by omega) hn (hk ▸ hn) rfl (h1 (by omega) (by omega) (by omega) (by omega) (by omega))
    · exact val_compare_step a b 131 6 (by omega) hn (hk ▸ hn) rfl (h1 (by omega) (by omega) (by omega) (by omega) (by omega))
    · exact val_compare_step a b 135 7 (by omega) hn (hk ▸ hn) rfl (h7 (.inl hn))
    · exact val_compare_step a b 135 8 (by omega) hn (hk ▸ hn) rfl (h7 (.inr hn))
  · intro m
    refine ACall.of_aw Tryz.func22 Tryz.ntmps22 rfl rfl (by simp) ?_
    have e : cmpV a b = numbersF a.kind b.kind := cmp_diff_kind hk
    rw [e]
    have F := @hk; refine tFg ?_; (try clear F)
    refine AW.cond (t := true) (by simp [upd_lit]) (fun _ => ?_) (fun h => by cases h)
    refine tS ?_
    refine tS1 fun K Kp hK hKp => ?_; refine Gives.at (cmp_int a.kind b.kind) ?_; apply hK; clear hK hKp K Kp
    refine tS ?_
    exact Fin.gives Same.auto
end Go.Proofs.YtgfadepkiejncaaGreat
namespace Go.Ab
section
variable {P : Program} {N : Nat} {l : List Oper} {cls : List Cls} {Q : APost} {σ : Nat → PV} {m : St} {listed : Array Bool} {fuel : Nat} {B : Prop}
variable {p : PV} {d g j : Nat} {want : Bool} {op : Op} {ty : TypeId} {pos : String} {after : Array Edge}
end
end Go.Ab
namespace Go.Ab
theorem Leaves.ofSet {m m' : St} {n : Nat} {cs : List PV} (h : Same (m.setLoc n cs) m') (hs : PV.scL m.nloc m.ntok cs) : Leaves m m' (m.setLoc n cs) := by
  refine ⟨rfl, Nat.le_refl _, h.lloc, h.ltok, fun i hi => ⟨(h.get hi).symm, ?_⟩, fun k hk => h.top k hk, fun i hi => ⟨(h.getL hi).symm, h.getL hi⟩, fun i hi => (h.getI hi).symm, fun k ds hk hd hc => ⟨h.getA hk hd hc, .inl ⟨hk, hc⟩⟩⟩
  have := h.get (n := i) hi
  rw [setLoc_loc] at this
  by_cases e : i = n
  · rw [if_pos e] at this
    exact .inr fun c hc => by rw [this] at hc; cases hc; exact hs
  · rw [if_neg e] at this; exact .inl this
theorem setLoc_setLoc (m : St) (n : Nat) (a b : List PV) : (m.setLoc n a).setLoc n b = m.setLoc n b := by
  simp only [St.setLoc]; congr 1; funext i; simp only [upd]; split <;> rfl
theorem setLoc_self {m : St} {n : Nat} {cs : List PV} (h : m.loc n = some cs) : m.setLoc n cs = m := by
  cases m; simp only [St.setLoc]; congr 1; funext i; simp only [upd]; split
  · rename_i e; rw [e]; exact h.symm
  · rfl
theorem Fin.all {P : Program} {fn : Func} {m m' m2 : St} {σ : Nat → PV} {r q : PV} {x : AExit} (hx : ResP P fn.results.toList σ m' r) (hx2 : x = .normal ∨ x = .ret) (hr : r.strip = q := by simp [upd_lit]) (e : m' = m2 := by rfl) :
    Fin P fn m (fun r' m'' => r' = .ret q ∧ m'' = m2) x σ m' := by
  subst e hr
  rcases hx2 with rfl | rfl <;> exact ⟨r, _, hx, .inl rfl, rfl, rfl⟩
def seqs : List Code → Code → Code
  | [], R => R
  | c :: cs, R => .seq c (seqs cs R)
def AWs (P : Program) (N : Nat) (I : (Nat → PV) → St → Prop) (Q : APost) : List Code → (Nat → PV) → St → Prop
  | [], σ, m => I σ m
  | c :: cs, σ, m => AW P N c (AExit.then (AWs P N I Q cs) Q) σ m
theorem AW.cuts {P : Program} {N : Nat} {I : (Nat → PV) → St → Prop} {Q : APost} (R : Code) (h2 : ∀ σ m, I σ m → AW P N R Q σ m) : ∀ (cs : List Code) (σ : Nat → PV) (m : St), AWs P N I Q cs σ m → AW P N (seqs cs R) Q σ m
  | [], σ, m, h => h2 σ m h
  | c :: cs, σ, m, h => AW.seq (AW.mono (Q := AExit.then (AWs P N I Q cs) Q) h fun x σ m hx => by cases x <;> first | exact AW.cuts R h2 cs σ m hx | exact hx)
end Go.Ab
namespace Go.Proofs.YtgfadepkiejncaaGreat
open Go.Ab Go.Sort
set_option maxHeartbeats 0
set_option maxRecDepth 100000
attribute [local irreducible] AW AList ACall DA AExit.then AExit.inBlock YCall DCall
theorem om_good : good (.mk 0 0 false [] ⟨#[]⟩ []) := by
  refine ⟨?_, ?_⟩
  · rw [fmd_eq]
    refine ⟨⟨by kernel_rfl, by kernel_rfl, by simp [GV.abs], by show (0 : Nat) ≤ 1000; omega⟩, fun h => (by cases h), trivial⟩
  · exact ⟨by omega, by omega, by decide, by show (0 : Nat) < _; omega, by decide, fun x hx => (by cases hx), trivial⟩
abbrev GG := {v : GV // good v}
instance : Inhabited GG := ⟨⟨_, om_good⟩⟩
def ltG (x y : GG) : Bool := decide (cmpV x.1 y.1 < 0)
theorem ltG_swo : SWO ltG := by
  refine ⟨fun x => by simp [ltG, cmp_self], fun x y z h1 h2 => ?_, fun x y z h1 h2 => ?_⟩
  · simp only [ltG, decide_eq_true_eq] at *
    exact cmp_trans _ _ _ x.2 y.2 z.2 h1 h2
  · simp only [ltG, decide_eq_false_iff_not] at *
    intro h
    rcases cmp_tri y.2 z.2 with q | q | q
    · exact h2 q
    · rw [q] at h1; exact h1 h
    · exact h1 (cmp_trans _ _ _ x.2 z.2 y.2 h q)
def ar (d : Array GG) (r : List PV) : List PV := (GV.rows (d.toList.map (·.1))).flatten ++ r
theorem rows_flat_len (l : List GV) : (GV.rows l).flatten.length = l.length * 6 := by
  induction l with
  | nil => rfl
  | cons v l ih => simp [GV.rows, cells_len, ih]; omega
theorem ar_len (d : Array GG) (r : List PV) : (ar d r).length = d.size * 6 + r.length := by rw [ar, List.length_append, rows_flat_len]; simp
theorem rows_flat_get : ∀ (l : List GV) (i : Nat) (h : i < l.length) (r : List PV), (((GV.rows l).flatten ++ r).drop (i * 6)).take 6 = (l[i]).cells
  | v :: l, 0, _, r => by
    simp only [GV.rows, List.flatten_cons, List.append_assoc, Nat.zero_mul, List.drop_zero, List.getElem_cons_zero]
    rw [List.take_append_of_le_length (by rw [cells_len]; omega), List.take_of_length_le (by rw [cells_len]; omega)]
  | v :: l, i + 1, h, r => by
    have := rows_flat_get l i (by simpa using h) r
    simp only [GV.rows, List.flatten_cons, List.append_assoc, List.getElem_cons_succ]
    rw [show (i + 1) * 6 = v.cells.length + i * 6 from by rw [cells_len]; omega, ← List.drop_drop, List.drop_left]
    exact this
def gt (d : Array GG) (i : Nat) : GG := d[i]!
theorem ar_get (d : Array GG) (r : List PV) (i : Nat) (h : i < d.size) : ((ar d r).drop (i * 6)).take 6 = (gt d i).1.cells := by
  rw [gt, ar, rows_flat_get _ i (by simpa using h)]
  simp [h]
theorem rows_flat_set : ∀ (l : List GV) (i : Nat) (h : i < l.length) (r : List PV) (x : GV), setL ((GV.rows l).flatten ++ r) (i * 6) x.cells = (GV.rows (l.set i x)).flatten ++ r
  | v :: l, 0, _, r, x => by
    rw [setL_eq _ _ _ (by rw [List.length_append, rows_flat_len, cells_len]; simp only [List.length_cons]; omega)]
    simp only [Nat.zero_mul, List.take_zero, List.nil_append, Nat.zero_add, List.set_cons_zero, GV.rows, List.flatten_cons, List.append_assoc]
    rw [show x.cells.length = v.cells.length from by rw [cells_len, cells_len], List.drop_left]
  | v :: l, i + 1, h, r, x => by
    have := rows_flat_set l i (by simpa using h) r x
    have hl : i < l.length := by simpa using h
    have hL2 : i * 6 + x.cells.length ≤ ((GV.rows l).flatten ++ r).length := by rw [List.length_append, rows_flat_len, cells_len]; omega
    rw [setL_eq _ _ _ hL2] at this
    rw [setL_eq _ _ _ (by rw [List.length_append, rows_flat_len, cells_len]; simp only [List.length_cons] at h ⊢; omega)]
    simp only [GV.rows, List.flatten_cons, List.append_assoc, List.set_cons_succ]
    rw [← this]
    have e : (i + 1) * 6 = v.cells.length + i * 6 := by rw [cells_len]; omega
    rw [e, List.take_append, List.take_of_length_le (by omega), Nat.add_sub_cancel_left, Nat.add_assoc, ← List.drop_drop, List.drop_left, List.append_assoc, List.append_assoc]
theorem ar_set (d : Array GG) (r : List PV) (i : Nat) (x : GG) (h : i < d.size) : setL (ar d r) (i * 6) x.1.cells = ar (d.setIfInBounds i x) r := by
  rw [ar, rows_flat_set _ i (by simpa using h), ar, Array.toList_setIfInBounds, List.map_set]
theorem cmpG (x y : GG) : Gives Tryz.prog 22 [x.1.pv, y.1.pv] (vI (cmpV x.1 y.1)) := val_compare x.1 y.1 x.2 y.2
theorem swp_gt (d : Array GG) (i j : Nat) : (d.setIfInBounds i (gt d j)).setIfInBounds j (gt d i) = swp d i j := rfl
theorem swp_size (d : Array GG) (i j : Nat) : (swp d i j).size = d.size := by simp [swp]
end Go.Proofs.YtgfadepkiejncaaGreat
namespace Go.Proofs.YtgfadepkiejncaaGreat
open Go.Ab Go.Sort
set_option maxHeartbeats 0
set_option maxRecDepth 100000
attribute [local irreducible] AW AList ACall DA AExit.then AExit.inBlock YCall DCall
theorem ar_fit (d : Array GG) (r : List PV) (i : Nat) (h : i < d.size) : i * 6 + 6 ≤ (ar d r).length := by rw [ar_len]; omega
structure Arr (m : St) (n L : Nat) (d : Array GG) (r : List PV) : Prop where
  lt : n < m.nloc
  loc : m.loc n = some (ar d r)
  size : d.size = L
  small : L ≤ 1099511627776
abbrev mar (n L cap : Nat) : PV := .marr n 0 L cap
abbrev cloC : PV := .clo 22 [] []
theorem insertion {m : St} {n L cap : Nat} {d : Array GG} {r : List PV} (H : Arr m n L d r) (a b : Nat) (hab : a ≤ b) (hb : b ≤ L) :
    ACall Tryz.prog 175 [mar n L cap, vI a, vI b, cloC] m (fun r' m' => r' = .ret (.tup []) ∧ m' = m.setLoc n (ar (insertionSort ltG d a b) r)) := by
  obtain ⟨hn, hm, hL, hS⟩ := H
  refine ACall.of_aw Tryz.func175 Tryz.ntmps175 rfl rfl (by simp) ?_
  refine tS ?_
  refine AW.loop (ι := Nat) (fun i σ m' => a + 1 ≤ i ∧ (i ≤ b ∨ i = a + 1) ∧ σ 8 = vI i ∧ σ 0 = mar n L cap ∧ σ 1 = vI a ∧ σ 2 = vI b ∧ σ 3 = cloC ∧ ∃ d', d'.size = L ∧ insOuter ltG a b i d' = insertionSort ltG d a b ∧ m' = m.setLoc n (ar d' r)) (fun i => b - i) (a + 1) ?_ ?_
  · exact ⟨by simp, .inr rfl, by simp [upd_lit], by simp [upd_lit], by simp [upd_lit], by simp [upd_lit], by simp [upd_lit], d, hL, rfl, (setLoc_self hm).symm⟩
  rintro i σ m' ⟨hi1, hi, h8, h0, h1, h2, h3, d1, hs1, hD, rfl⟩
  rw [insOuter] at hD
  have F := (aand @h8 @h2); refine tF ?_; (try clear F)
  refine AW.condD (p := i < b) (by simp [upd_lit]) (fun hlt => ?_) (fun hge => ?_)
  rotate_left
  · refine tS ?_
    rw [if_neg hge] at hD
    rw [← hD]
    exact Fin.all ⟨[], rfl, rfl⟩ (.inl rfl)
  rw [if_pos hlt] at hD
  have F := @h8; refine tF ?_; (try clear F)
  refine AW.loop (ι := Nat) (fun j τ m' => j ≤ i ∧ τ 9 = vI j ∧ τ 8 = vI i ∧ τ 0 = mar n L cap ∧ τ 1 = vI a ∧ τ 2 = vI b ∧ τ 3 = cloC ∧ ∃ d', d'.size = L ∧ insInner ltG a j d' = insInner ltG a i d1 ∧ m' = m.setLoc n (ar d' r)) (fun j => j) i ?_ ?_
  · exact ⟨Nat.le_refl _, by simp [upd_lit], by simp [upd_lit, h8], by simp [upd_lit, h0], by simp [upd_lit, h1], by simp [upd_lit, h2], by simp [upd_lit, h3], d1, hs1, rfl, rfl⟩
  rintro j τ m' ⟨hj, t9, t8, t0, t1, t2, t3, d2, hs2, hE, rfl⟩
  have out : ∀ ρ : Nat → PV, insInner ltG a j d2 = d2 → ρ 8 = vI ((i + 1 : Nat) : Int) → ρ 0 = mar n L cap → ρ 1 = vI a → ρ 2 = vI b → ρ 3 = cloC →
      ∃ k, (a + 1 ≤ k ∧ (k ≤ b ∨ k = a + 1) ∧ ρ 8 = vI k ∧ ρ 0 = mar n L cap ∧ ρ 1 = vI a ∧ ρ 2 = vI b ∧ ρ 3 = cloC ∧ ∃ d', d'.size = L ∧ insOuter ltG a b k d' = insertionSort ltG d a b ∧ m.setLoc n (ar d2 r) = m.setLoc n (ar d' r)) ∧ b - k < b - i := by
    intro ρ he a8 a0 a1 a2 a3
    rw [he] at hE
    exact ⟨i + 1, ⟨by omega, by omega, a8, a0, a1, a2, a3, d2, hs2, by rw [hE]; exact hD, rfl⟩, by omega⟩
  by_cases hja : a < j
  rotate_left
  · have he : insInner ltG a j d2 = d2 := by
      cases j with
      | zero => rfl
      | succ k => rw [insInner, if_neg]; simp; omega
    repeat (first | refine AW.seq ?_ | refine AW.block ?_ | refine AW.skip ?_ | refine AExit.norT ?_ | refine AExit.norB ?_ | refine AList.nil ?_)
    refine AW.draw [.S, .S, .S, .S, .S, .S, .S, .S, .R, .S, .S, .S, .S, .R, .R, .S, .S] (by decide +kernel) ?_; have F := (aand @t9 (aand @t1 @hja)); refine dS 0 ?_; refine dS 1 ?_; refine dS 2 ?_; refine dS 3 ?_; refine dXx 4 ?_; refine dXx 5 ?_; refine dXx 6 ?_; refine dXx 7 ?_; refine dXX 8 ?_; refine dXx 9 ?_; refine dXx 10 ?_; refine dXx 11 ?_; refine dXx 12 ?_; refine dXX 13 ?_; refine dXX 14 ?_; refine dXx 15 ?_; refine dS 16 ?_; (try clear F); first | refine dN ?_ | refine dB ?_ | refine DA.done (by decide +kernel) ?_
    refine tSa ?_
    have F := @t8; refine tF ?_; (try clear F)
    exact out _ he (by simp [upd_lit]) (by simp [upd_lit, t0]) (by simp [upd_lit, t1]) (by simp [upd_lit, t2]) (by simp [upd_lit, t3])
  obtain ⟨k, rfl⟩ : ∃ k, j = k + 1 := ⟨j - 1, by omega⟩
  have k1 : k + 1 < d2.size := by omega
  have k2 : k < d2.size := by omega
  have e1 : ((k + 1 : Nat) : Int) - 1 = (k : Int) := by omega
  have e2 : (k : Int) + 1 < L := by omega
  have e3 : (k : Int) < L := by omega
  have e4 : (0 : Int) ≤ (k : Int) + 1 := by omega
  have e5 : ((k : Int) + 1).toNat = k + 1 := by omega
  have e6 : (a : Int) < (k : Int) + 1 := by omega
  have hcmp := cmpG (gt d2 (k + 1)) (gt d2 k)
  repeat (first | refine AW.seq ?_ | refine AW.block ?_ | refine AW.skip ?_ | refine AExit.norT ?_ | refine AExit.norB ?_ | refine AList.nil ?_)
  refine AW.draw [.S, .S, .S, .S, .S, .S, .S, .S, .R, .S, .S, .S, .S, .R, .R, .S, .S] (by decide +kernel) ?_; have F := (aand @t9 (aand @t0 (aand @t1 (aand @t3 (aand @e1 (aand @e2 (aand @e3 (aand @e4 (aand @e5 (aand @e6 (aand @k1 (aand @k2 (aand @hn (aand @ar_get @ar_fit)))))))))))))); refine dS 0 ?_; refine dS 1 ?_; refine dS 2 ?_; refine dS 3 ?_; refine dSG 4 ?_; refine dSG 5 ?_; refine dSG 6 ?_; refine dSG 7 ?_; refine dRG 8 ?_; refine dSG 9 ?_; refine dSG 10 ?_; refine dSG 11 ?_; refine dSG 12 ?_; refine dRG 13 ?_; refine dCG ((hcmp)) 14 ?_; refine dSG 15 ?_; refine dS 16 ?_; (try clear F); first | refine dN ?_ | refine dB ?_ | refine DA.done (by decide +kernel) ?_
  by_cases hc : cmpV (gt d2 (k + 1)).1 (gt d2 k).1 < 0
  rotate_left
  · have he : insInner ltG a (k + 1) d2 = d2 := by rw [insInner, if_neg]; show ¬ (decide (k + 1 > a) && ltG (gt d2 (k + 1)) (gt d2 k)) = true; simp [ltG]; omega
    have F := @hc; refine tFa ?_; (try clear F)
    have F := @t8; refine tF ?_; (try clear F)
    exact out _ he (by simp [upd_lit]) (by simp [upd_lit, t0]) (by simp [upd_lit, t1]) (by simp [upd_lit, t2]) (by simp [upd_lit, t3])
  have F := @hc; refine tFa ?_; (try clear F)
  repeat (first | refine AW.seq ?_ | refine AW.block ?_ | refine AW.skip ?_ | refine AExit.norT ?_ | refine AExit.norB ?_ | refine AList.nil ?_)
  refine AW.draw [.S, .S, .S, .S, .S, .S, .S, .S, .S, .R, .S, .S, .S, .R, .S, .W, .S, .W] (by decide +kernel) ?_; have F := (aand @t9 (aand @t0 (aand @t1 (aand @t3 (aand @e1 (aand @e2 (aand @e3 (aand @e4 (aand @e5 (aand @e6 (aand @k1 (aand @k2 (aand @hn (aand @ar_get (aand @ar_fit (aand @ar_set @setLoc_setLoc)))))))))))))))); refine dST 0 ?_; refine dST 1 ?_; refine dST 2 ?_; refine dST 3 ?_; refine dST 4 ?_; refine dST 5 ?_; refine dST 6 ?_; refine dST 7 ?_; refine dST 8 ?_; refine dRT 9 ?_; refine dST 10 ?_; refine dST 11 ?_; refine dST 12 ?_; refine dRT 13 ?_; refine dST 14 ?_; refine dW 15 ?_; refine dST 16 ?_; refine dW 17 ?_; (try clear F); first | refine dN ?_ | refine dB ?_ | refine DA.done (by decide +kernel) ?_
  simp only [put]
  rw [swp_gt]
  repeat (first | refine AW.seq ?_ | refine AW.block ?_ | refine AW.skip ?_ | refine AExit.norT ?_ | refine AExit.norB ?_ | refine AList.nil ?_)
  have F := (aand @t9 @e1); refine tF ?_; (try clear F)
  have he : insInner ltG a (k + 1) d2 = insInner ltG a k (swp d2 (k + 1) k) := by
    rw [insInner, if_pos]; show (decide (k + 1 > a) && ltG (gt d2 (k + 1)) (gt d2 k)) = true; simp [ltG, hc]; omega
  rw [he] at hE
  exact ⟨k, ⟨by omega, by simp [upd_lit], by simp [upd_lit, t8], by simp [upd_lit, t0], by simp [upd_lit, t1], by simp [upd_lit, t2], by simp [upd_lit, t3], _, by rw [swp_size]; exact hs2, hE, rfl⟩, by omega⟩
end Go.Proofs.YtgfadepkiejncaaGreat
namespace Go.Ab
theorem AW.step {P : Program} {N : Nat} {Q : APost} {σ : Nat → PV} {m : St} {c : Code} (I : (Nat → PV) → St → Prop) (h : AW P N c (fun y σ m => y = .normal ∧ I σ m) σ m) (k : ∀ σ m, I σ m → Q .normal σ m) : AW P N c Q σ m :=
  AW.mono h fun _ _ _ ⟨e, hi⟩ => e ▸ k _ _ hi
def GivesTo (P : Program) (f : FuncId) (args : List PV) (m : St) (r : PV) (m2 : St) : Prop := ACall P f args m (fun r' m' => r' = .ret r ∧ m' = m2)
theorem GivesTo.at {P : Program} {f : FuncId} {args : List PV} {r : PV} {m m2 : St} {K Kp : PV → St → Prop} (h : GivesTo P f args m r m2) (k : K r m2) :
    ACall P f args m (fun r' m' => match r' with | .ret p => K p m' | .pan p => Kp p m') := ACall.mono h (by rintro _ _ ⟨rfl, rfl⟩; exact k)
end Go.Ab
namespace Go.Proofs.YtgfadepkiejncaaGreat
open Go.Ab Go.Sort
set_option maxHeartbeats 0
set_option maxRecDepth 100000
attribute [local irreducible] AW AList ACall DA AExit.then AExit.inBlock YCall DCall
theorem gt_eq (d : Array GG) (i : Nat) : d[i]! = gt d i := rfl
theorem sift {m : St} {n L cap : Nat} {d : Array GG} {r : List PV} (H : Arr m n L d r) (lo hi first : Nat) (hh : first + hi ≤ L) (hlo : lo ≤ L) :
    GivesTo Tryz.prog 196 [mar n L cap, vI lo, vI hi, vI first, cloC] m (.tup []) (m.setLoc n (ar (siftDown ltG hi first lo d) r)) := by
  obtain ⟨hn, hm, hL, hS⟩ := H
  refine ACall.of_aw Tryz.func196 Tryz.ntmps196 rfl rfl (by simp) ?_
  refine tS ?_
  refine AW.loop (ι := Nat) (fun root σ m' => root ≤ L ∧ σ 10 = vI root ∧ σ 0 = mar n L cap ∧ σ 2 = vI hi ∧ σ 3 = vI first ∧ σ 4 = cloC ∧ ∃ d', d'.size = L ∧ siftDown ltG hi first root d' = siftDown ltG hi first lo d ∧ m' = m.setLoc n (ar d' r)) (fun root => hi - root) lo ?_ ?_
  · exact ⟨hlo, by simp [upd_lit], by simp [upd_lit], by simp [upd_lit], by simp [upd_lit], by simp [upd_lit], d, hL, rfl, (setLoc_self hm).symm⟩
  rintro root σ m' ⟨hr, t10, t0, t2, t3, t4, d1, hs, hD, rfl⟩
  rw [siftDown] at hD
  obtain ⟨c, hc⟩ : ∃ c, c = 2 * root + 1 := ⟨_, rfl⟩
  have ec : 2 * (root : Int) + 1 = (c : Int) := by omega
  rw [← hc] at hD
  have F := (aand @t10 (aand @t2 @ec)); refine tF ?_; (try clear F)
  by_cases hge : hi ≤ c
  · rw [dif_pos hge] at hD
    rw [← hD]
    have F := @hge; refine tFa ?_; (try clear F)
    exact Fin.all ⟨[], rfl, rfl⟩ (.inl rfl)
  rw [dif_neg hge] at hD
  have F := @hge; refine tFa ?_; (try clear F)
  obtain ⟨p, hp⟩ : ∃ p, p = first + root := ⟨_, rfl⟩
  obtain ⟨q, hq⟩ : ∃ q, q = first + c := ⟨_, rfl⟩
  have ep : (first : Int) + (root : Int) = p := by omega
  have eq : (first : Int) + (c : Int) = q := by omega
  have p1 : p < d1.size := by omega
  have p2 : (p : Int) < L := by omega
  have q1 : q < d1.size := by omega
  have q2 : (q : Int) < L := by omega
  rw [show 2 * root + 2 = c + 1 from by omega, ← hq, ← hp] at hD
  simp only [gt_eq] at hD
  refine AW.step (fun τ m' => τ 40 = vB (decide (c + 1 < hi) && ltG (gt d1 q) (gt d1 (q + 1))) ∧ τ 11 = vI c ∧ τ 10 = vI root ∧ τ 0 = mar n L cap ∧ τ 2 = vI hi ∧ τ 3 = vI first ∧ τ 4 = cloC ∧ m' = m.setLoc n (ar d1 r)) ?_ ?_
  · by_cases h1 : c + 1 < hi
    · have ec1 : (c : Int) + 1 < hi := by omega
      have q3 : q + 1 < d1.size := by omega
      have q4 : (q : Int) + 1 < L := by omega
      have q5 : (0 : Int) ≤ (q : Int) + 1 := by omega
      have q6 : ((q : Int) + 1).toNat = q + 1 := by omega
      have hcmp := cmpG (gt d1 q) (gt d1 (q + 1))
      refine AW.draw [.S, .S, .S, .S, .S, .S, .S, .S, .S, .S, .S, .R, .S, .S, .S, .S, .S, .S, .R, .R, .S, .S] (by decide +kernel) ?_; have F := (aand @t0 (aand @t2 (aand @t3 (aand @t4 (aand @t10 (aand @ep (aand @eq (aand @p1 (aand @p2 (aand @q1 (aand @q2 (aand @hn (aand @ar_get (aand @ar_fit (aand @h1 (aand @ec1 (aand @q3 (aand @q4 (aand @q5 @q6))))))))))))))))))); refine dS 0 ?_; refine dS 1 ?_; refine dS 2 ?_; refine dS 3 ?_; refine dS 4 ?_; refine dSG 5 ?_; refine dSG 6 ?_; refine dSG 7 ?_; refine dSG 8 ?_; refine dSG 9 ?_; refine dSG 10 ?_; refine dRG 11 ?_; refine dSG 12 ?_; refine dSG 13 ?_; refine dSG 14 ?_; refine dSG 15 ?_; refine dSG 16 ?_; refine dSG 17 ?_; refine dRG 18 ?_; refine dCG ((hcmp)) 19 ?_; refine dSG 20 ?_; refine dS 21 ?_; (try clear F); first | refine dN ?_ | refine dB ?_ | refine DA.done (by decide +kernel) ?_
      exact ⟨rfl, by simp [upd_lit, h1, ltG], by simp [upd_lit], by simp [upd_lit, t10], by simp [upd_lit, t0], by simp [upd_lit, t2], by simp [upd_lit, t3], by simp [upd_lit, t4], rfl⟩
    · have ec1 : ¬ (c : Int) + 1 < hi := by omega
      refine AW.draw [.S, .S, .S, .S, .S, .S, .S, .S, .S, .S, .S, .R, .S, .S, .S, .S, .S, .S, .R, .R, .S, .S] (by decide +kernel) ?_; have F := (aand @t0 (aand @t2 (aand @t3 (aand @t4 (aand @t10 (aand @ep (aand @eq (aand @p1 (aand @p2 (aand @q1 (aand @q2 (aand @hn (aand @ar_get (aand @ar_fit (aand @h1 @ec1))))))))))))))); refine dS 0 ?_; refine dS 1 ?_; refine dS 2 ?_; refine dS 3 ?_; refine dS 4 ?_; refine dXx 5 ?_; refine dXx 6 ?_; refine dXx 7 ?_; refine dXx 8 ?_; refine dXx 9 ?_; refine dXx 10 ?_; refine dXX 11 ?_; refine dXx 12 ?_; refine dXx 13 ?_; refine dXx 14 ?_; refine dXx 15 ?_; refine dXx 16 ?_; refine dXx 17 ?_; refine dXX 18 ?_; refine dXX 19 ?_; refine dXx 20 ?_; refine dS 21 ?_; (try clear F); first | refine dN ?_ | refine dB ?_ | refine DA.done (by decide +kernel) ?_
      exact ⟨rfl, by simp [upd_lit, h1], by simp [upd_lit], by simp [upd_lit, t10], by simp [upd_lit, t0], by simp [upd_lit, t2], by simp [upd_lit, t3], by simp [upd_lit, t4], rfl⟩
  clear t0 t2 t3 t4 t10 σ
  rintro σ m' ⟨t40, t11, t10, t0, t2, t3, t4, rfl⟩
  refine AExit.norT ?_
  refine AW.step (fun τ m' => ∃ k : Nat, k < hi ∧ root < k ∧ τ 11 = vI k ∧ τ 10 = vI root ∧ τ 0 = mar n L cap ∧ τ 2 = vI hi ∧ τ 3 = vI first ∧ τ 4 = cloC ∧ m' = m.setLoc n (ar d1 r) ∧
    (if !ltG (gt d1 p) (gt d1 (first + k)) then d1 else siftDown ltG hi first k (swp d1 p (first + k))) = siftDown ltG hi first lo d) ?_ ?_
  · by_cases hb : (decide (c + 1 < hi) && ltG (gt d1 q) (gt d1 (q + 1))) = true
    · have hb2 := hb
      simp only [Bool.and_eq_true, decide_eq_true_eq] at hb2
      simp only [hb2.1, hb2.2, decide_true, Bool.and_self, if_true, dite_true] at hD
      have F := (aand @t40 (aand @hb @t11)); refine tFa ?_; (try clear F)
      exact ⟨rfl, c + 1, hb2.1, by omega, by simp [upd_lit], by simp [upd_lit, t10], by simp [upd_lit, t0], by simp [upd_lit, t2], by simp [upd_lit, t3], by simp [upd_lit, t4], rfl, hD⟩
    · have hb2 : (decide (c + 1 < hi) && ltG (gt d1 q) (gt d1 (q + 1))) = false := by simpa using hb
      simp only [hb2, Bool.false_eq_true, if_false, dite_false] at hD
      have F := (aand @t40 (aand @hb @t11)); refine tFa ?_; (try clear F)
      exact ⟨rfl, c, by omega, by omega, by simp [upd_lit, t11], by simp [upd_lit, t10], by simp [upd_lit, t0], by simp [upd_lit, t2], by simp [upd_lit, t3], by simp [upd_lit, t4], rfl, by rw [← hq]; exact hD⟩
  clear t0 t2 t3 t4 t10 t11 t40 hD σ eq q1 q2 ec
  rintro σ m' ⟨k, hk, hrk, t11, t10, t0, t2, t3, t4, rfl, hD⟩
  obtain ⟨w, hw⟩ : ∃ w, w = first + k := ⟨_, rfl⟩
  have ek : (first : Int) + (k : Int) = w := by omega
  have k3 : w < d1.size := by omega
  have k4 : (w : Int) < L := by omega
  have hcmp := cmpG (gt d1 p) (gt d1 w)
  rw [← hw] at hD
  repeat (first | refine AW.seq ?_ | refine AW.block ?_ | refine AW.skip ?_ | refine AExit.norT ?_ | refine AExit.norB ?_ | refine AList.nil ?_)
  refine AW.draw [.S, .S, .S, .S, .S, .S, .R, .S, .S, .S, .S, .S, .R, .R, .S, .S] (by decide +kernel) ?_; have F := (aand @t0 (aand @t2 (aand @t3 (aand @t4 (aand @t10 (aand @t11 (aand @ep (aand @ek (aand @p1 (aand @p2 (aand @k3 (aand @k4 (aand @hn (aand @ar_get @ar_fit)))))))))))))); refine dS 0 ?_; refine dS 1 ?_; refine dS 2 ?_; refine dS 3 ?_; refine dS 4 ?_; refine dS 5 ?_; refine dR 6 ?_; refine dS 7 ?_; refine dS 8 ?_; refine dS 9 ?_; refine dS 10 ?_; refine dS 11 ?_; refine dR 12 ?_; refine dC ((hcmp)) 13 ?_; refine dS 14 ?_; refine dS 15 ?_; (try clear F); first | refine dN ?_ | refine dB ?_ | refine DA.done (by decide +kernel) ?_
  by_cases hl : cmpV (gt d1 p).1 (gt d1 w).1 < 0
  rotate_left
  · rw [if_pos (by simp [ltG]; omega)] at hD
    rw [← hD]
    have F := @hl; refine tFa ?_; (try clear F)
    exact Fin.all ⟨[], rfl, rfl⟩ (.inr rfl)
  rw [if_neg (by simp [ltG]; omega)] at hD
  have F := @hl; refine tFa ?_; (try clear F)
  repeat (first | refine AW.seq ?_ | refine AW.block ?_ | refine AW.skip ?_ | refine AExit.norT ?_ | refine AExit.norB ?_ | refine AList.nil ?_)
  refine AW.draw [.S, .S, .S, .S, .S, .S, .S, .S, .S, .S, .S, .S, .S, .R, .S, .S, .S, .S, .S, .R, .S, .W, .S, .W] (by decide +kernel) ?_; have F := (aand @t0 (aand @t2 (aand @t3 (aand @t4 (aand @t10 (aand @t11 (aand @ep (aand @ek (aand @p1 (aand @p2 (aand @k3 (aand @k4 (aand @hn (aand @ar_get (aand @ar_fit (aand @ar_set @setLoc_setLoc)))))))))))))))); refine dST 0 ?_; refine dST 1 ?_; refine dST 2 ?_; refine dST 3 ?_; refine dST 4 ?_; refine dST 5 ?_; refine dST 6 ?_; refine dST 7 ?_; refine dST 8 ?_; refine dST 9 ?_; refine dST 10 ?_; refine dST 11 ?_; refine dST 12 ?_; refine dRT 13 ?_; refine dST 14 ?_; refine dST 15 ?_; refine dST 16 ?_; refine dST 17 ?_; refine dST 18 ?_; refine dRT 19 ?_; refine dST 20 ?_; refine dW 21 ?_; refine dST 22 ?_; refine dW 23 ?_; (try clear F); first | refine dN ?_ | refine dB ?_ | refine DA.done (by decide +kernel) ?_
  simp only [put]
  rw [swp_gt]
  repeat (first | refine AW.seq ?_ | refine AW.block ?_ | refine AW.skip ?_ | refine AExit.norT ?_ | refine AExit.norB ?_ | refine AList.nil ?_)
  have F := @t11; refine tF ?_; (try clear F)
  exact ⟨k, ⟨by omega, by simp [upd_lit], by simp [upd_lit, t0], by simp [upd_lit, t2], by simp [upd_lit, t3], by simp [upd_lit, t4], _, by rw [swp_size]; exact hs, hD, rfl⟩, by omega⟩
theorem Arr.set {m : St} {n L : Nat} {d : Array GG} {r : List PV} (H : Arr m n L d r) (d' : Array GG) (h : d'.size = L) : Arr (m.setLoc n (ar d' r)) n L d' r :=
  ⟨H.lt, by simp, h, H.small⟩
theorem siftDown_size (hi first root : Nat) (d : Array GG) : (siftDown ltG hi first root d).size = d.size := by
  fun_induction siftDown ltG hi first root d <;> simp_all [swp_size]
theorem heap {m : St} {n L cap : Nat} {d : Array GG} {r : List PV} (H : Arr m n L d r) (a b : Nat) (hab : a ≤ b) (hb : b ≤ L) :
    GivesTo Tryz.prog 176 [mar n L cap, vI a, vI b, cloC] m (.tup []) (m.setLoc n (ar (heapSort ltG d a b) r)) := by
  have hn := H.lt
  have hm := H.loc
  have hL := H.size
  have hS := H.small
  refine ACall.of_aw Tryz.func176 Tryz.ntmps176 rfl rfl (by simp) ?_
  obtain ⟨h, eh⟩ : ∃ h, h = b - a := ⟨_, rfl⟩
  have eh1 : (b : Int) - a = h := by omega
  have e2 : ((h : Int) - 1).tdiv 2 = (((h - 1) / 2 + 1 : Nat) : Int) - 1 := by
    cases h with
    | zero => rfl
    | succ h => rw [show ((h + 1 : Nat) : Int) - 1 = (h : Int) from by omega]; show ((h / 2 : Nat) : Int) = _; simp
  rw [show heapSort ltG d a b = heapPop ltG a h (heapBuild ltG h a ((h - 1) / 2 + 1) d) from by rw [heapSort, ← eh]]
  have hk0 : (h - 1) / 2 + 1 ≤ L + 1 := by omega
  generalize (h - 1) / 2 + 1 = k0 at *
  have F := (aand @eh1 @e2); refine tF ?_; (try clear F)
  refine AW.loop (ι := Nat) (fun k σ m' => k ≤ L + 1 ∧ σ 11 = vI ((k : Int) - 1) ∧ σ 10 = vI h ∧ σ 9 = vI 0 ∧ σ 8 = vI a ∧ σ 0 = mar n L cap ∧ σ 3 = cloC ∧ ∃ d', d'.size = L ∧ heapBuild ltG h a k d' = heapBuild ltG h a k0 d ∧ m' = m.setLoc n (ar d' r)) (fun k => k) k0 ?_ ?_
  · exact ⟨hk0, by simp [upd_lit], by simp [upd_lit], by simp [upd_lit], by simp [upd_lit], by simp [upd_lit], by simp [upd_lit], d, hL, rfl, (setLoc_self hm).symm⟩
  rintro k σ m' ⟨hk, t11, t10, t9, t8, t0, t3, d1, hs, hD, rfl⟩
  have H1 := H.set d1 hs
  cases k with
  | succ k =>
    have e1 : ((k + 1 : Nat) : Int) - 1 = (k : Int) := by omega
    rw [e1] at t11
    rw [heapBuild] at hD
    have F := @t11; refine tFa ?_; (try clear F)
    have F := (aand @t0 (aand @t11 (aand @t10 (aand @t8 @t3)))); refine tF1 fun K Kp hK hKp => ?_; (try clear F); refine GivesTo.at (sift H1 k h a (by omega) (by omega)) ?_; apply hK; clear hK hKp K Kp
    have F := @t11; refine tF ?_; (try clear F)
    exact ⟨k, ⟨by omega, by simp [upd_lit], by simp [upd_lit, t10], by simp [upd_lit, t9], by simp [upd_lit, t8], by simp [upd_lit, t0], by simp [upd_lit, t3], _, by rw [siftDown_size]; exact hs, hD, by rw [setLoc_setLoc]⟩, by omega⟩
  | zero =>
    have t11 : σ 11 = vI (-1) := t11
    rw [heapBuild] at hD
    subst hD
    have F := (aand @t11 @t10); refine tFa ?_; (try clear F)
    generalize heapBuild ltG h a k0 d = dB at *
    clear t11 H1
    refine AW.loop (ι := Nat) (fun k σ m' => k ≤ h ∧ σ 12 = vI ((k : Int) - 1) ∧ σ 9 = vI 0 ∧ σ 8 = vI a ∧ σ 0 = mar n L cap ∧ σ 3 = cloC ∧ ∃ d', d'.size = L ∧ heapPop ltG a k d' = heapPop ltG a h dB ∧ m' = m.setLoc n (ar d' r)) (fun k => k) h ?_ ?_
    · exact ⟨Nat.le_refl _, by simp [upd_lit], by simp [upd_lit, t9], by simp [upd_lit, t8], by simp [upd_lit, t0], by simp [upd_lit, t3], dB, hs, rfl, rfl⟩
    clear t0 t3 t8 t9 t10
    rintro k τ m' ⟨hk, t12, t9, t8, t0, t3, d1, hs1, hD, rfl⟩
    cases k with
    | zero =>
      have t12 : τ 12 = vI (-1) := t12
      rw [heapPop] at hD
      subst hD
      have F := @t12; refine tFa ?_; (try clear F)
      exact Fin.all ⟨[], rfl, rfl⟩ (.inl rfl)
    | succ k =>
      have e1 : ((k + 1 : Nat) : Int) - 1 = (k : Int) := by omega
      rw [e1] at t12
      rw [heapPop] at hD
      obtain ⟨q, hq⟩ : ∃ q, q = a + k := ⟨_, rfl⟩
      have eq : (a : Int) + (k : Int) = q := by omega
      have a1 : a < d1.size := by omega
      have a2 : (a : Int) < L := by omega
      have q1 : q < d1.size := by omega
      have q2 : (q : Int) < L := by omega
      rw [← hq] at hD
      have H1 := (H.set (swp d1 a q) (by rw [swp_size]; exact hs1))
      have F := @t12; refine tFa ?_; (try clear F)
      repeat (first | refine AW.seq ?_ | refine AW.block ?_ | refine AW.skip ?_ | refine AExit.norT ?_ | refine AExit.norB ?_ | refine AList.nil ?_)
      refine AW.draw [.S, .S, .S, .S, .S, .S, .S, .S, .S, .S, .S, .R, .S, .S, .S, .R, .S, .W, .S, .W] (by decide +kernel) ?_; have F := (aand @t0 (aand @t8 (aand @t12 (aand @eq (aand @a1 (aand @a2 (aand @q1 (aand @q2 (aand @hn (aand @ar_get (aand @ar_fit (aand @ar_set @setLoc_setLoc)))))))))))); refine dST 0 ?_; refine dST 1 ?_; refine dST 2 ?_; refine dST 3 ?_; refine dST 4 ?_; refine dST 5 ?_; refine dST 6 ?_; refine dST 7 ?_; refine dST 8 ?_; refine dST 9 ?_; refine dST 10 ?_; refine dRT 11 ?_; refine dST 12 ?_; refine dST 13 ?_; refine dST 14 ?_; refine dRT 15 ?_; refine dST 16 ?_; refine dW 17 ?_; refine dST 18 ?_; refine dW 19 ?_; (try clear F); first | refine dN ?_ | refine dB ?_ | refine DA.done (by decide +kernel) ?_
      simp only [put]
      rw [swp_gt]
      have F := (aand @t0 (aand @t9 (aand @t12 (aand @t8 @t3)))); refine tF ?_; (try clear F)
      refine tS1 fun K Kp hK hKp => ?_; refine GivesTo.at (sift H1 0 k a (by omega) (by omega)) ?_; apply hK; clear hK hKp K Kp
      have F := @t12; refine tF ?_; (try clear F)
      exact ⟨k, ⟨by omega, by simp [upd_lit], by simp [upd_lit, t9], by simp [upd_lit, t8], by simp [upd_lit, t0], by simp [upd_lit, t3], _, by rw [siftDown_size, swp_size]; exact hs1, hD, by rw [setLoc_setLoc]⟩, by omega⟩
end Go.Proofs.YtgfadepkiejncaaGreat
namespace Go.Ab
theorem Fin.here {P : Program} {fn : Func} {m m' : St} {R : ARes → St → Prop} {σ : Nat → PV} {r q : PV} {x : AExit} (hx : ResP P fn.results.toList σ m' r) (hx2 : x = .normal ∨ x = .ret) (h : R (.ret q) m') (hr : r.strip = q := by simp [upd_lit]) :
    Fin P fn m R x σ m' := by
  subst hr
  rcases hx2 with rfl | rfl <;> exact ⟨r, _, hx, .inl rfl, h⟩
theorem Fin.leaves {P : Program} {fn : Func} {m m' m2 : St} {R : ARes → St → Prop} {σ : Nat → PV} {r q : PV} {x : AExit} (hx : ResP P fn.results.toList σ m' r) (hx2 : x = .normal ∨ x = .ret) (hl : Leaves m m' m2) (h : R (.ret q) m2) (hr : r.strip = q := by simp [upd_lit]) (hs : q.sc m2.nloc m2.ntok := by simp) :
    Fin P fn m R x σ m' := by
  subst hr
  rcases hx2 with rfl | rfl <;> exact ⟨r, m2, hx, .inr ⟨hl.lv, hs⟩, h⟩
end Go.Ab
namespace Go.Proofs.YtgfadepkiejncaaGreat
open Go.Ab Go.Sort
set_option maxHeartbeats 0
set_option maxRecDepth 100000
attribute [local irreducible] AW AList ACall DA AExit.then AExit.inBlock YCall DCall
theorem reverseG {m : St} {n L cap : Nat} {d : Array GG} {r : List PV} (H : Arr m n L d r) (a b : Nat) (hab : a < b) (hb : b ≤ L) :
    GivesTo Tryz.prog 179 [mar n L cap, vI a, vI b, cloC] m (.tup []) (m.setLoc n (ar (reverseRange d a b) r)) := by
  obtain ⟨hn, hm, hL, hS⟩ := H
  refine ACall.of_aw Tryz.func179 Tryz.ntmps179 rfl rfl (by simp) ?_
  obtain ⟨c, rfl⟩ : ∃ c, b = c + 1 := ⟨b - 1, by omega⟩
  have e1 : ((c + 1 : Nat) : Int) - 1 = (c : Int) := by omega
  rw [reverseRange, Nat.add_sub_cancel]
  have F := @e1; refine tF ?_; (try clear F)
  refine AW.loop (ι := Nat × Nat) (fun p σ m' => p.2 ≤ c ∧ p.1 ≤ L ∧ σ 8 = vI p.1 ∧ σ 9 = vI p.2 ∧ σ 0 = mar n L cap ∧ ∃ d', d'.size = L ∧ reverseLoop p.1 p.2 d' = reverseLoop a c d ∧ m' = m.setLoc n (ar d' r)) (fun p => p.2 - p.1) (a, c) ?_ ?_
  · exact ⟨Nat.le_refl _, by show a ≤ L; omega, by simp [upd_lit], by simp [upd_lit, e1], by simp [upd_lit], d, hL, rfl, (setLoc_self hm).symm⟩
  rintro ⟨i, j⟩ σ m' ⟨hj, hi, t8, t9, t0, d1, hs, hD, rfl⟩
  simp only at hj hi t8 t9 hD
  rw [reverseLoop] at hD
  by_cases hij : i < j
  rotate_left
  · rw [if_neg hij] at hD
    rw [← hD]
    have F := (aand @t8 (aand @t9 @hij)); refine tFa ?_; (try clear F)
    exact Fin.all ⟨[], rfl, rfl⟩ (.inl rfl)
  rw [if_pos hij] at hD
  have i1 : i < d1.size := by omega
  have i2 : (i : Int) < L := by omega
  have j1 : j < d1.size := by omega
  have j2 : (j : Int) < L := by omega
  obtain ⟨k, rfl⟩ : ∃ k, j = k + 1 := ⟨j - 1, by omega⟩
  rw [Nat.add_sub_cancel] at hD
  have e2 : ((k + 1 : Nat) : Int) - 1 = (k : Int) := by omega
  generalize hj1 : k + 1 = j at *
  have F := (aand @t8 (aand @t9 @hij)); refine tFa ?_; (try clear F)
  repeat (first | refine AW.seq ?_ | refine AW.block ?_ | refine AW.skip ?_ | refine AExit.norT ?_ | refine AExit.norB ?_ | refine AList.nil ?_)
  refine AW.draw [.S, .S, .S, .S, .S, .S, .S, .R, .S, .S, .S, .R, .S, .W, .S, .W] (by decide +kernel) ?_; have F := (aand @t0 (aand @t8 (aand @t9 (aand @i1 (aand @i2 (aand @j1 (aand @j2 (aand @hn (aand @ar_get (aand @ar_fit (aand @ar_set @setLoc_setLoc))))))))))); refine dST 0 ?_; refine dST 1 ?_; refine dST 2 ?_; refine dST 3 ?_; refine dST 4 ?_; refine dST 5 ?_; refine dST 6 ?_; refine dRT 7 ?_; refine dST 8 ?_; refine dST 9 ?_; refine dST 10 ?_; refine dRT 11 ?_; refine dST 12 ?_; refine dW 13 ?_; refine dST 14 ?_; refine dW 15 ?_; (try clear F); first | refine dN ?_ | refine dB ?_ | refine DA.done (by decide +kernel) ?_
  simp only [put]
  rw [swp_gt]
  have F := (aand @t8 (aand @t9 @e2)); refine tF ?_; (try clear F)
  exact ⟨(i + 1, k), ⟨by show k ≤ c; omega, by show i + 1 ≤ L; omega, by simp [upd_lit], by simp [upd_lit], by simp [upd_lit, t0], _, by rw [swp_size]; exact hs, hD, rfl⟩, by show k - (i + 1) < j - i; omega⟩
theorem Arr.other {m : St} {n s L : Nat} {d : Array GG} {r c : List PV} (H : Arr m n L d r) (h : n ≠ s) : Arr (m.setLoc s c) n L d r :=
  ⟨H.lt, by simp [h, H.loc], H.size, H.small⟩
theorem order2G {m : St} {n L cap : Nat} {d : Array GG} {r : List PV} (H : Arr m n L d r) {s : Nat} {c : Nat} (hs : s < m.nloc) (hns : n ≠ s) (hc : m.loc s = some [vI c]) (hcs : c ≤ 1000) (a b : Nat) (ha : a < L) (hb : b < L) :
    ACall Tryz.prog 209 [mar n L cap, vI a, vI b, .loc s 0, cloC] m (fun r' m' => ∃ x y c' : Nat, (x = a ∧ y = b ∨ x = b ∧ y = a) ∧ c' ≤ c + 1 ∧ r' = .ret (.tup [vI x, vI y]) ∧ m' = m.setLoc s [vI c']) := by
  obtain ⟨hn, hm, hL, hS⟩ := H
  refine ACall.of_aw Tryz.func209 Tryz.ntmps209 rfl rfl (by simp) ?_
  have a1 : a < d.size := by omega
  have a2 : (a : Int) < L := by omega
  have b1 : b < d.size := by omega
  have b2 : (b : Int) < L := by omega
  have hcmp := cmpG (gt d b) (gt d a)
  refine tS ?_
  refine AW.draw [.S, .S, .S, .S, .R, .S, .S, .S, .R, .R, .S] (by decide +kernel) ?_; have F := (aand @a1 (aand @a2 (aand @b1 (aand @b2 (aand @hn (aand @hm (aand @ar_get @ar_fit))))))); refine dS 0 ?_; refine dS 1 ?_; refine dS 2 ?_; refine dS 3 ?_; refine dR 4 ?_; refine dS 5 ?_; refine dS 6 ?_; refine dS 7 ?_; refine dR 8 ?_; refine dC ((hcmp)) 9 ?_; refine dS 10 ?_; (try clear F); first | refine dN ?_ | refine dB ?_ | refine DA.done (by decide +kernel) ?_
  by_cases hl : cmpV (gt d b).1 (gt d a).1 < 0
  · have F := (aand @hl (aand @hc @hs)); refine tFa ?_; (try clear F)
    exact Fin.here (r := .tup [vI b, vI a]) (by simp [ResP, ResL, resV, upd_lit, show Tryz.f209.results.toList = [.tmp 10, .tmp 11] from rfl]) (.inr rfl) ⟨b, a, c + 1, .inr ⟨rfl, rfl⟩, Nat.le_refl _, rfl, rfl⟩
  · have F := (aand @hl (aand @hc @hs)); refine tFa ?_; (try clear F)
    exact Fin.here (r := .tup [vI a, vI b]) (by simp [ResP, ResL, resV, upd_lit, show Tryz.f209.results.toList = [.tmp 10, .tmp 11] from rfl]) (.inr rfl) ⟨a, b, c, .inl ⟨rfl, rfl⟩, by omega, rfl, (setLoc_self hc).symm⟩
theorem medianG {m : St} {n L cap : Nat} {d : Array GG} {r : List PV} (H : Arr m n L d r) {s : Nat} {k : Nat} (hs : s < m.nloc) (hns : n ≠ s) (hk : m.loc s = some [vI k]) (hks : k ≤ 900) (a b c : Nat) (ha : a < L) (hb : b < L) (hc : c < L) :
    ACall Tryz.prog 200 [mar n L cap, vI a, vI b, vI c, .loc s 0, cloC] m (fun r' m' => ∃ x k' : Nat, (x = a ∨ x = b ∨ x = c) ∧ k' ≤ k + 3 ∧ r' = .ret (vI x) ∧ m' = m.setLoc s [vI k']) := by
  refine ACall.of_aw Tryz.func200 Tryz.ntmps200 rfl rfl (by simp) ?_
  refine tS ?_
  refine tS1 fun K Kp hK hKp => ?_; refine ACall.mono (order2G H hs hns hk (by omega) a b ha hb) ?_
  rintro _ _ ⟨x, y, k1, hxy, hk1, rfl, rfl⟩
  refine hK _ _ ?_; clear hK hKp K Kp
  refine tS ?_
  refine tS1 fun K Kp hK hKp => ?_; refine ACall.mono (order2G (H.other hns) (s := s) (c := k1) (by simpa using hs) hns (by simp) (by omega) y c (by omega) hc) ?_
  rintro _ _ ⟨y2, z, k2, hyz, hk2, rfl, rfl⟩
  refine hK _ _ ?_; clear hK hKp K Kp
  refine tS ?_
  refine tS1 fun K Kp hK hKp => ?_; refine ACall.mono (order2G ((H.other hns).other hns) (s := s) (c := k2) (by simpa using hs) hns (by simp) (by omega) x y2 (by omega) (by omega)) ?_
  rintro _ _ ⟨x3, y3, k3, hxy3, hk3, rfl, rfl⟩
  refine hK _ _ ?_; clear hK hKp K Kp
  refine tS ?_
  exact Fin.here (r := vI y3) (by rfl) (.inr rfl) ⟨y3, k3, by omega, by omega, rfl, by rw [setLoc_setLoc, setLoc_setLoc]⟩
theorem medianAdjacentG {m : St} {n L cap : Nat} {d : Array GG} {r : List PV} (H : Arr m n L d r) {s : Nat} {k : Nat} (hs : s < m.nloc) (hns : n ≠ s) (hk : m.loc s = some [vI k]) (hks : k ≤ 900) (a : Nat) (ha : 0 < a) (hb : a + 1 < L) :
    ACall Tryz.prog 199 [mar n L cap, vI a, .loc s 0, cloC] m (fun r' m' => ∃ x k' : Nat, a ≤ x + 1 ∧ x ≤ a + 1 ∧ k' ≤ k + 3 ∧ r' = .ret (vI x) ∧ m' = m.setLoc s [vI k']) := by
  refine ACall.of_aw Tryz.func199 Tryz.ntmps199 rfl rfl (by simp) ?_
  have := H.small
  obtain ⟨p, hp⟩ : ∃ p, p + 1 = a := ⟨a - 1, by omega⟩
  obtain ⟨q, hq⟩ : ∃ q, q = a + 1 := ⟨_, rfl⟩
  have e1 : (a : Int) - 1 = (p : Int) := by omega
  have e2 : (a : Int) + 1 = (q : Int) := by omega
  have F := (aand @e1 @e2); refine tF ?_; (try clear F)
  refine tS1 fun K Kp hK hKp => ?_; refine ACall.mono (medianG H hs hns hk (by omega) p a q (by omega) (by omega) (by omega)) ?_
  rintro _ _ ⟨x, k1, hx, hk1, rfl, rfl⟩
  refine hK _ _ ?_; clear hK hKp K Kp
  refine tS ?_
  exact Fin.here (r := vI x) (by rfl) (.inr rfl) ⟨x, k1, by omega, by omega, by omega, rfl, rfl⟩
theorem newLoc_other {m : St} {n L : Nat} {d : Array GG} {r c : List PV} (H : Arr m n L d r) : Arr (m.newLoc c) n L d r :=
  ⟨by have := H.lt; simp; omega, by have := H.lt; simp [H.loc]; omega, H.size, H.small⟩
theorem choosePivotG {m : St} {n L cap : Nat} {d : Array GG} {r : List PV} (H : Arr m n L d r) (a b : Nat) (hab : a < b) (hb : b ≤ L) :
    ACall Tryz.prog 178 [mar n L cap, vI a, vI b, cloC] m (fun r' m' => ∃ x h : Nat, a ≤ x ∧ x < b ∧ h ≤ 2 ∧ r' = .ret (.tup [vI x, vI h]) ∧ m' = m) := by
  refine ACall.of_aw Tryz.func178 Tryz.ntmps178 rfl rfl (by simp) ?_
  have hS := H.small
  obtain ⟨l, hl⟩ : ∃ l, l = b - a := ⟨_, rfl⟩
  have e1 : (b : Int) - a = l := by omega
  obtain ⟨q, hq⟩ : ∃ q, q = l / 4 := ⟨_, rfl⟩
  have e2 : (l : Int).tdiv 4 = q := by rw [hq]; rfl
  obtain ⟨i, hi⟩ : ∃ i, i = a + q := ⟨_, rfl⟩
  have e3 : (a : Int) + q = i := by omega
  obtain ⟨j, hj⟩ : ∃ j, j = a + q * 2 := ⟨_, rfl⟩
  have e4 : (a : Int) + q * 2 = j := by omega
  obtain ⟨k, hk⟩ : ∃ k, k = a + q * 3 := ⟨_, rfl⟩
  have e5 : (a : Int) + q * 3 = k := by omega
  have F := (aand @e1 (aand @e2 (aand @e3 (aand @e4 @e5)))); refine tF ?_; (try clear F)
  have H0 : Arr (m.newLoc [vI 0]) n L d r := newLoc_other H
  have hns : n ≠ m.nloc := by have := H.lt; omega
  have hlt := H.lt
  refine AW.step (fun τ m' => ∃ x k' : Nat, a ≤ x ∧ x < b ∧ k' ≤ 12 ∧ τ 13 = vI x ∧ τ 11 = .loc m.nloc 0 ∧ m' = (m.newLoc [vI 0]).setLoc m.nloc [vI k']) ?_ ?_
  · by_cases h8 : (8 : Int) ≤ l
    rotate_left
    · have F := @h8; refine tFa ?_; (try clear F)
      exact ⟨rfl, j, 0, by omega, by omega, by omega, by simp [upd_lit], by simp [upd_lit], (setLoc_self (by simp)).symm⟩
    have F := @h8; refine tFg ?_; (try clear F)
    refine AW.condT (by simp [upd_lit, h8]) ?_
    refine AW.seq ?_
    refine AW.step (fun τ m' => ∃ x y z k' : Nat, a ≤ x ∧ x < b ∧ a ≤ y ∧ y < b ∧ a ≤ z ∧ z < b ∧ k' ≤ 9 ∧ τ 12 = vI x ∧ τ 13 = vI y ∧ τ 14 = vI z ∧ τ 11 = .loc m.nloc 0 ∧ τ 0 = mar n L cap ∧ τ 3 = cloC ∧ m' = (m.newLoc [vI 0]).setLoc m.nloc [vI k']) ?_ ?_
    · by_cases h50 : (50 : Int) ≤ l
      rotate_left
      · have F := @h50; refine tFa ?_; (try clear F)
        exact ⟨rfl, i, j, k, 0, by omega, by omega, by omega, by omega, by omega, by omega, by omega, by simp [upd_lit], by simp [upd_lit], by simp [upd_lit], by simp [upd_lit], by simp [upd_lit], by simp [upd_lit], (setLoc_self (by simp)).symm⟩
      have F := @h50; refine tFa ?_; (try clear F)
      refine tS1 fun K Kp hK hKp => ?_; refine ACall.mono (medianAdjacentG H0 (s := m.nloc) (k := 0) (by simp) hns (by simp) (by omega) i (by omega) (by omega)) ?_
      rintro _ _ ⟨x, k1, hx1, hx2, hk1, rfl, rfl⟩
      refine hK _ _ ?_; clear hK hKp K Kp
      refine tS ?_
      refine tS1 fun K Kp hK hKp => ?_; refine ACall.mono (medianAdjacentG (H0.other hns) (s := m.nloc) (k := k1) (by simp) hns (by simp) (by omega) j (by omega) (by omega)) ?_
      rintro _ _ ⟨y, k2, hy1, hy2, hk2, rfl, rfl⟩
      refine hK _ _ ?_; clear hK hKp K Kp
      refine tS ?_
      refine tS1 fun K Kp hK hKp => ?_; refine ACall.mono (medianAdjacentG ((H0.other hns).other hns) (s := m.nloc) (k := k2) (by simp) hns (by simp) (by omega) k (by omega) (by omega)) ?_
      rintro _ _ ⟨z, k3, hz1, hz2, hk3, rfl, rfl⟩
      refine hK _ _ ?_; clear hK hKp K Kp
      refine tS ?_
      exact ⟨rfl, x, y, z, k3, by omega, by omega, by omega, by omega, by omega, by omega, by omega, by simp [upd_lit], by simp [upd_lit], by simp [upd_lit], by simp [upd_lit], by simp [upd_lit], by simp [upd_lit], by rw [setLoc_setLoc, setLoc_setLoc]⟩
    · rintro σ m' ⟨x, y, z, k', hx1, hx2, hy1, hy2, hz1, hz2, hk', t12, t13, t14, t11, t0, t3, rfl⟩
      refine tS ?_
      have F := (aand @t12 (aand @t13 (aand @t14 (aand @t11 (aand @t0 @t3))))); refine tF1 fun K Kp hK hKp => ?_; (try clear F); refine ACall.mono (medianG (H0.other hns) (s := m.nloc) (k := k') (by simp) hns (by simp) (by omega) x y z (by omega) (by omega) (by omega)) ?_
      rintro _ _ ⟨w, k4, hw, hk4, rfl, rfl⟩
      refine hK _ _ ?_; clear hK hKp K Kp
      refine tS ?_
      exact ⟨rfl, w, k4, by omega, by omega, by omega, by simp [upd_lit], by simp [upd_lit, t11], by rw [setLoc_setLoc]⟩
  rintro σ m' ⟨x, k', hx1, hx2, hk', t13, t11, rfl⟩
  have F := (aand @t11 @t13); refine tF ?_; (try clear F)
  by_cases h0 : k' = 0
  · have F := (aand @h0 @t13); refine tFa ?_; (try clear F)
    exact Fin.leaves (r := .tup [vI x, vI 1]) (m2 := m) (by simp [ResP, ResL, resV, upd_lit, show Tryz.f178.results.toList = [.tmp 8, .tmp 9] from rfl]) (.inr rfl) Same.auto ⟨x, 1, hx1, hx2, by omega, rfl, rfl⟩
  by_cases h12 : k' = 12
  · have F := (aand @h0 (aand @h12 @t13)); refine tFa ?_; (try clear F)
    exact Fin.leaves (r := .tup [vI x, vI 2]) (m2 := m) (by simp [ResP, ResL, resV, upd_lit, show Tryz.f178.results.toList = [.tmp 8, .tmp 9] from rfl]) (.inr rfl) Same.auto ⟨x, 2, hx1, hx2, by omega, rfl, rfl⟩
  have h13 : ¬ (k' : Int) = 12 := by omega
  have h01 : ¬ (k' : Int) = 0 := by omega
  have F := (aand @h0 (aand @h12 (aand @h13 (aand @h01 @t13)))); refine tFa ?_; (try clear F)
  exact Fin.leaves (r := .tup [vI x, vI 0]) (m2 := m) (by simp [ResP, ResL, resV, upd_lit, show Tryz.f178.results.toList = [.tmp 8, .tmp 9] from rfl]) (.inr rfl) Same.auto ⟨x, 0, hx1, hx2, by omega, rfl, rfl⟩
end Go.Proofs.YtgfadepkiejncaaGreat
namespace Go.Proofs.YtgfadepkiejncaaGreat
open Go.Ab Go.Sort
set_option maxHeartbeats 0
set_option maxRecDepth 100000
attribute [local irreducible] AW AList ACall DA AExit.then AExit.inBlock YCall DCall
abbrev vU (n : Int) : PV := .v (.int .u64 n)
theorem bitsLen_shr (x s : Nat) (h : 2 ^ s ≤ x) : bitsLen x = s + bitsLen (x / 2 ^ s) := by
  have key : ∀ k, bitsLen x ≤ s + k ↔ s + bitsLen (x / 2 ^ s) ≤ s + k := by
    intro k
    rw [bitsLen_le_iff, Nat.add_le_add_iff_left, bitsLen_le_iff, Nat.div_lt_iff_lt_mul (Nat.two_pow_pos s), Nat.pow_add, Nat.mul_comm]
  have h1 : ¬ bitsLen x ≤ s := by rw [bitsLen_le_iff]; omega
  have h2 := (key (bitsLen x - s)).1 (by omega)
  have h3 := (key (bitsLen (x / 2 ^ s))).2 (Nat.le_refl _)
  omega
theorem tabK (T : ByteArray) (y : Nat) (hy : y < 256) (m : St) {K : PV → St → Prop} (k : K (.v (.int .u8 (bitsLen y))) m) (hT : T.size = 256 ∧ ∀ y < 256, byteAt T y = bitsLen y) :
    0 ≤ (y : Int) ∧ (y : Int) < T.size ∧ K (.v (.int .u8 (byteAt T (y : Int).toNat))) m := by
  refine ⟨by omega, by rw [hT.1]; omega, ?_⟩
  rw [Int.toNat_natCast, hT.2 y hy]; exact k
theorem bits64 (x : Nat) (h : x < 18446744073709551616) : Gives Tryz.prog 184 [vU x] (vI (bitsLen x)) := by
  intro m
  refine ACall.of_aw Tryz.func184 Tryz.ntmps184 rfl rfl (by simp) ?_
  refine tS ?_
  refine AW.step (fun τ m' => ∃ y s : Nat, y < 4294967296 ∧ bitsLen x = s + bitsLen y ∧ s ≤ 32 ∧ τ 0 = vU y ∧ τ 2 = vI s ∧ m' = m) ?_ ?_
  · by_cases hx : (4294967296 : Int) ≤ x
    · have F := @hx; refine tFa ?_; (try clear F)
      exact ⟨rfl, x / 4294967296, 32, by omega, bitsLen_shr x 32 (by omega), by omega, by simp [upd_lit], by simp [upd_lit], rfl⟩
    · have F := @hx; refine tFa ?_; (try clear F)
      exact ⟨rfl, x, 0, by omega, by omega, by omega, by simp [upd_lit], by simp [upd_lit], rfl⟩
  rintro σ m' ⟨y, s, hy, hbl, hs, t0, t2, rfl⟩
  have F := @t0; refine tF ?_; (try clear F)
  refine AW.step (fun τ m2 => ∃ y s : Nat, y < 65536 ∧ bitsLen x = s + bitsLen y ∧ s ≤ 48 ∧ τ 0 = vU y ∧ τ 2 = vI s ∧ m2 = m') ?_ ?_
  · by_cases hx : (65536 : Int) ≤ y
    · have F := (aand @hx (aand @t0 @t2)); refine tFa ?_; (try clear F)
      exact ⟨rfl, y / 65536, s + 16, by omega, by have k : bitsLen y = 16 + bitsLen (y / 65536) := bitsLen_shr y 16 (by omega); omega, by omega, by simp [upd_lit], by simp [upd_lit], rfl⟩
    · have F := @hx; refine tFa ?_; (try clear F)
      exact ⟨rfl, y, s, by omega, by omega, by omega, by simp [upd_lit, t0], by simp [upd_lit, t2], rfl⟩
  clear hy hbl hs t0 t2 y s
  rintro σ m2 ⟨y, s, hy, hbl, hs, t0, t2, rfl⟩
  have F := @t0; refine tF ?_; (try clear F)
  refine AW.step (fun τ m' => ∃ y s : Nat, y < 256 ∧ bitsLen x = s + bitsLen y ∧ s ≤ 56 ∧ τ 0 = vU y ∧ τ 2 = vI s ∧ m' = m2) ?_ ?_
  · by_cases hx : (256 : Int) ≤ y
    · have F := (aand @hx (aand @t0 @t2)); refine tFa ?_; (try clear F)
      exact ⟨rfl, y / 256, s + 8, by omega, by have k : bitsLen y = 8 + bitsLen (y / 256) := bitsLen_shr y 8 (by omega); omega, by omega, by simp [upd_lit], by simp [upd_lit], rfl⟩
    · have F := @hx; refine tFa ?_; (try clear F)
      exact ⟨rfl, y, s, by omega, by omega, by omega, by simp [upd_lit, t0], by simp [upd_lit, t2], rfl⟩
  clear hy hbl hs t0 t2 y s
  rintro σ m2 ⟨y, s, hy, hbl, hs, t0, t2, rfl⟩
  refine AExit.norT ?_
  refine AW.seq ?_
  refine AW.regionL ?_
  have F := (aand @t0 @t2); refine tF1 fun K Kp hK hKp => ?_; (try clear F)
  refine hK _ _ ?_; clear hK hKp K Kp
  have F := (aand @t0 @t2); refine tF1 fun K Kp hK hKp => ?_; (try clear F)
  refine hK _ _ ?_; clear hK hKp K Kp
  have F := (aand @t0 @t2); refine tF1 fun K Kp hK hKp => ?_; (try clear F)
  refine hK _ _ ?_; clear hK hKp K Kp
  have F := (aand @t0 @t2); refine tF1 fun K Kp hK hKp => ?_; (try clear F)
  have w8 : IntKind.u8.wrap (y : Int) = y := by simp [IntKind.wrap, IntKind.bits, IntKind.signed]; omega
  rw [w8]
  refine tabK _ y hy _ ?_ (by refine ⟨by decide +kernel, by decide +kernel⟩)
  refine hK _ _ ?_; clear hK hKp K Kp
  have hb : bitsLen y ≤ 8 := by rw [bitsLen_le_iff]; omega
  rw [w8, hbl]
  generalize bitsLen y = z at *
  have e : (s : Int) + (z : Int) = ((s + z : Nat) : Int) := by omega
  have z8 : IntKind.i64.wrap (z : Int) = z := by simp (disch := omega) only [wrap_i64]
  have F := @z8; refine tF ?_; (try clear F)
  exact Fin.gives Same.auto
theorem bitsLenG (x : Nat) (h : x < 18446744073709551616) : Gives Tryz.prog 166 [vU x] (vI (bitsLen x)) := by
  intro m
  refine ACall.of_aw Tryz.func166 Tryz.ntmps166 rfl rfl (by simp) ?_
  refine tSa ?_
  refine tS1 fun K Kp hK hKp => ?_; refine Gives.at (bits64 x h) ?_; apply hK; clear hK hKp K Kp
  refine tS ?_
  exact Fin.gives Same.auto
theorem nextPow (x : Nat) (h : x ≤ 1099511627776) : Gives Tryz.prog 197 [vI x] (vU ((2 ^ bitsLen x : Nat) : Int)) := by
  intro m
  refine ACall.of_aw Tryz.func197 Tryz.ntmps197 rfl rfl (by simp) ?_
  have w64 : IntKind.u64.wrap (x : Int) = x := wrap_u64 _ (by omega) (by omega)
  have F := @w64; refine tF ?_; (try clear F)
  refine tS1 fun K Kp hK hKp => ?_; refine Gives.at (bitsLenG x (by omega)) ?_; apply hK; clear hK hKp K Kp
  have hb : bitsLen x ≤ 41 := by rw [bitsLen_le_iff]; omega
  have hm : min (bitsLen x) 64 = bitsLen x := by omega
  have hp : 2 ^ bitsLen x ≤ 2 ^ 41 := Nat.pow_le_pow_right (by omega) hb
  have w3 : IntKind.u64.wrap ((2 : Int) ^ bitsLen x) = ((2 ^ bitsLen x : Nat) : Int) := by
    rw [show ((2 : Int) ^ bitsLen x) = ((2 ^ bitsLen x : Nat) : Int) from by simp]
    exact wrap_u64 _ (by exact Int.natCast_nonneg _) (by omega)
  refine tS ?_
  rw [hm, w3]
  exact Fin.gives Same.auto
theorem u64_rng (n : Int) : 0 ≤ IntKind.u64.wrap n ∧ IntKind.u64.wrap n < 18446744073709551616 := by
  have : IntKind.u64.wrap n = n % 18446744073709551616 := by simp [IntKind.wrap, IntKind.bits, IntKind.signed]
  rw [this]; omega
theorem nextG {m : St} {s : Nat} {x : Int} (hs : s < m.nloc) (hx : m.loc s = some [vU x]) :
    ACall Tryz.prog 198 [.loc s 0] m (fun r' m' => ∃ y : Int, (0 ≤ y ∧ y < 18446744073709551616) ∧ r' = .ret (vU y) ∧ m' = m.setLoc s [vU y]) := by
  refine ACall.of_aw Tryz.func198 Tryz.ntmps198 rfl rfl (by simp) ?_
  refine tS ?_
  refine AW.draw [.S, .S, .R, .S, .S, .R, .S, .S, .S, .W] (by decide +kernel) ?_; have F := (aand @hs @hx); refine dS 0 ?_; refine dS 1 ?_; refine dR 2 ?_; refine dS 3 ?_; refine dS 4 ?_; refine dR 5 ?_; refine dS 6 ?_; refine dS 7 ?_; refine dS 8 ?_; refine dW 9 ?_; (try clear F); first | refine dN ?_ | refine dB ?_ | refine DA.done (by decide +kernel) ?_
  simp only [put]
  repeat (first | refine AW.seq ?_ | refine AW.block ?_ | refine AW.skip ?_ | refine AExit.norT ?_ | refine AExit.norB ?_ | refine AList.nil ?_)
  refine AW.draw [.S, .S, .R, .S, .S, .R, .S, .S, .S, .W] (by decide +kernel) ?_; have F := (aand @hs @setLoc_setLoc); refine dS 0 ?_; refine dS 1 ?_; refine dR 2 ?_; refine dS 3 ?_; refine dS 4 ?_; refine dR 5 ?_; refine dS 6 ?_; refine dS 7 ?_; refine dS 8 ?_; refine dW 9 ?_; (try clear F); first | refine dN ?_ | refine dB ?_ | refine DA.done (by decide +kernel) ?_
  simp only [put]
  repeat (first | refine AW.seq ?_ | refine AW.block ?_ | refine AW.skip ?_ | refine AExit.norT ?_ | refine AExit.norB ?_ | refine AList.nil ?_)
  refine AW.draw [.S, .S, .R, .S, .S, .R, .S, .S, .S, .W] (by decide +kernel) ?_; have F := (aand @hs @setLoc_setLoc); refine dS 0 ?_; refine dS 1 ?_; refine dR 2 ?_; refine dS 3 ?_; refine dS 4 ?_; refine dR 5 ?_; refine dS 6 ?_; refine dS 7 ?_; refine dS 8 ?_; refine dW 9 ?_; (try clear F); first | refine dN ?_ | refine dB ?_ | refine DA.done (by decide +kernel) ?_
  simp only [put]
  have F := @hs; refine tF ?_; (try clear F)
  refine Fin.here (q := vU ?z) (by exact rfl) (.inr rfl) ⟨?z, ?a, rfl, ?b⟩ ?c
  case b => exact rfl
  case c => simp [upd_lit]
  case a => exact u64_rng _
end Go.Proofs.YtgfadepkiejncaaGreat
namespace Go.Proofs.YtgfadepkiejncaaGreat
open Go.Ab Go.Sort
set_option maxHeartbeats 0
set_option maxRecDepth 100000
attribute [local irreducible] AW AList ACall DA AExit.then AExit.inBlock YCall DCall
theorem and_powI (x : Int) (k : Nat) (hk : k ≤ 60) : (BitVec.ofInt 64 x &&& BitVec.ofInt 64 (((2 ^ k : Nat) : Int) - 1)).toNat < 2 ^ k := by
  have h1 : 2 ^ k ≤ 2 ^ 60 := Nat.pow_le_pow_right (by omega) hk
  have h2 := Nat.two_pow_pos k
  have e : (((2 ^ k : Nat) : Int) - 1) = ((2 ^ k - 1 : Nat) : Int) := by omega
  rw [e, BitVec.toNat_and]
  have : (BitVec.ofInt 64 ((2 ^ k - 1 : Nat) : Int)).toNat = 2 ^ k - 1 := by
    rw [BitVec.ofInt_natCast, BitVec.toNat_ofNat]; omega
  rw [this]
  have := Nat.and_le_right (n := (BitVec.ofInt 64 x).toNat) (m := 2 ^ k - 1)
  omega
theorem scL_app (k t : Nat) : ∀ xs ys : List PV, PV.scL k t xs → PV.scL k t ys → PV.scL k t (xs ++ ys)
  | [], _, _, h => h
  | _ :: xs, ys, h, h' => ⟨h.1, scL_app k t xs ys h.2 h'⟩
theorem ar_scL (d : Array GG) (r : List PV) (k t : Nat) (h : PV.scL k t r) : PV.scL k t (ar d r) := by
  rw [ar]
  generalize d.toList.map (·.1) = l
  induction l with
  | nil => exact h
  | cons v l ih =>
    simp only [GV.rows, List.flatten_cons, List.append_assoc]
    exact scL_app _ _ _ _ (cells_sc k t v) ih
theorem setLoc_out {m : St} {n : Nat} {cs c0 c : List PV} (h : n < m.nloc) : ((m.newLoc c0).setLoc m.nloc c).setLoc n cs = ((m.setLoc n cs).newLoc c0).setLoc m.nloc c := by
  simp only [St.setLoc, St.newLoc]
  congr 1
  funext i
  simp only [upd]
  by_cases h1 : i = n
  · subst h1; simp [show i ≠ m.nloc from by omega]
  · simp [h1]
theorem andK {y : Int} {k P : Nat} (hk : k ≤ 60) (hP : P = 2 ^ k) {m : St} {K : PV → St → Prop} (h : ∀ z : Nat, z < P → K (vU z) m) :
    K (vU (IntKind.u64.wrap ((BitVec.ofInt 64 y &&& BitVec.ofInt 64 ((P : Int) - 1)).toNat : Int))) m := by
  have hz := and_powI y k hk
  have h1 : 2 ^ k ≤ 2 ^ 60 := Nat.pow_le_pow_right (by omega) hk
  rw [hP, wrap_u64 _ (by omega) (by omega)]
  exact h _ (by rw [hP]; exact hz)
theorem breakG {m : St} {n L cap : Nat} {d : Array GG} {r : List PV} (H : Arr m n L d r) (hr : ∀ k t, PV.scL k t r) (a b : Nat) (hab : a ≤ b) (hb : b ≤ L) :
    ACall Tryz.prog 177 [mar n L cap, vI a, vI b, cloC] m (fun r' m' => ∃ d', PermIn a b d d' ∧ r' = .ret (.tup []) ∧ m' = m.setLoc n (ar d' r)) := by
  refine ACall.of_aw Tryz.func177 Tryz.ntmps177 rfl rfl (by simp) ?_
  have hn := H.lt
  have hm := H.loc
  have hL := H.size
  have hS := H.small
  obtain ⟨l, hl⟩ : ∃ l, l = b - a := ⟨_, rfl⟩
  have e1 : (b : Int) - a = l := by omega
  have F := @e1; refine tF ?_; (try clear F)
  by_cases h8 : (8 : Int) ≤ l
  rotate_left
  · have F := @h8; refine tFa ?_; (try clear F)
    exact Fin.here (r := .tup []) (by exact ⟨[], rfl, rfl⟩) (.inl rfl) ⟨d, permIn_refl d a b, rfl, (setLoc_self hm).symm⟩
  obtain ⟨q, hq⟩ : ∃ q, q = l / 4 := ⟨_, rfl⟩
  have e2 : (l : Int).tdiv 4 = q := by rw [hq]; rfl
  obtain ⟨j0, hj0⟩ : ∃ j, j = a + q * 2 := ⟨_, rfl⟩
  have e4 : (a : Int) + q * 2 = j0 := by omega
  have w64 : IntKind.u64.wrap (l : Int) = l := wrap_u64 _ (by omega) (by omega)
  obtain ⟨P, hP⟩ : ∃ P, P = 2 ^ bitsLen l := ⟨_, rfl⟩
  have hnp := nextPow l (by omega)
  rw [← hP] at hnp
  have hbl : bitsLen l ≤ 41 := by rw [bitsLen_le_iff]; omega
  have hP1 : l < P := by rw [hP]; exact lt_two_pow_bitsLen l
  have hP2 : P ≤ 2 * l := by rw [hP]; exact two_pow_bitsLen_le (by omega)
  have w1 : IntKind.u64.wrap ((P : Int) - 1) = (P : Int) - 1 := wrap_u64 _ (by omega) (by omega)
  obtain ⟨j1, hj1⟩ : ∃ j, j + 1 = j0 := ⟨j0 - 1, by omega⟩
  have e5 : (j0 : Int) - 1 = (j1 : Int) := by omega
  have F := (aand @h8 @w64); refine tFa ?_; (try clear F)
  refine tS1 fun K Kp hK hKp => ?_; refine Gives.at (hnp) ?_; apply hK; clear hK hKp K Kp
  have F := (aand @e2 (aand @e4 @e5)); refine tF ?_; (try clear F)
  have hns : n ≠ m.nloc := by omega
  refine AW.loop (ι := Nat) (fun j σ m' => a ≤ j ∧ j ≤ j0 + 2 ∧ σ 11 = vI j ∧ σ 9 = .loc m.nloc 0 ∧ σ 10 = vU P ∧ σ 8 = vI l ∧ σ 0 = mar n L cap ∧ σ 1 = vI a ∧ ∃ (d' : Array GG) (x : Int), PermIn a b d d' ∧ m' = ((m.newLoc [vU 0]).setLoc m.nloc [vU x]).setLoc n (ar d' r)) (fun j => j0 + 2 - j) j1 ?_ ?_
  · exact ⟨by omega, by omega, by simp [upd_lit], by simp [upd_lit], by simp [upd_lit], by simp [upd_lit], by simp [upd_lit], by simp [upd_lit], d, _, permIn_refl d a b, (setLoc_self (by simp [hns, hm])).symm⟩
  rintro j σ m' ⟨hj, hj2, t11, t9, t10, t8, t0, t1, d1, x, hpm, rfl⟩
  have hs1 : d1.size = L := by rw [hpm.1]; exact hL
  by_cases hle : (j : Int) ≤ (j0 : Int) + 1
  rotate_left
  · have F := (aand @t11 (aand @t1 (aand @t8 (aand @e2 (aand @e4 @hle))))); refine tFa ?_; (try clear F)
    exact Fin.leaves (r := .tup []) (m2 := m.setLoc n (ar d1 r)) (by exact ⟨[], rfl, rfl⟩) (.inl rfl) (Leaves.ofSet (by rw [setLoc_out hn]; exact Same.auto) (ar_scL _ _ _ _ (hr _ _))) ⟨d1, hpm, rfl, rfl⟩
  have F := (aand @t11 (aand @t1 (aand @t8 (aand @e2 (aand @e4 @hle))))); refine tFa ?_; (try clear F)
  have F := @t9; refine tF1 fun K Kp hK hKp => ?_; (try clear F); refine ACall.mono (nextG (s := m.nloc) (x := x) (by simp) (by simp [Ne.symm hns])) ?_
  rintro _ _ ⟨y, hy, rfl, rfl⟩
  refine hK _ _ ?_; clear hK hKp K Kp
  have F := @t10; refine tF1 fun K Kp hK hKp => ?_; (try clear F)
  refine hK _ _ ?_; clear hK hKp K Kp
  have F := @w1; refine tF1 fun K Kp hK hKp => ?_; (try clear F)
  refine hK _ _ ?_; clear hK hKp K Kp
  refine tS1 fun K Kp hK hKp => ?_
  refine andK (k := bitsLen l) (by omega) hP fun z hz => ?_
  refine hK _ _ ?_; clear hK hKp K Kp
  have F := @t8; refine tF ?_; (try clear F)
  refine AW.step (fun τ m2 => ∃ o : Nat, o < l ∧ τ 12 = vI o ∧ τ 11 = vI j ∧ τ 9 = .loc m.nloc 0 ∧ τ 10 = vU P ∧ τ 8 = vI l ∧ τ 0 = mar n L cap ∧ τ 1 = vI a ∧ m2 = ((m.newLoc [vU 0]).setLoc m.nloc [vU y]).setLoc n (ar d1 r)) ?_ ?_
  · have hmm : (((m.newLoc [vU 0]).setLoc m.nloc [vU x]).setLoc n (ar d1 r)).setLoc m.nloc [vU y] = ((m.newLoc [vU 0]).setLoc m.nloc [vU y]).setLoc n (ar d1 r) := by
      rw [setLoc_out hn, setLoc_setLoc, ← setLoc_out hn]
    by_cases hzl : l ≤ z
    · obtain ⟨o, ho⟩ : ∃ o, o + l = z := ⟨z - l, by omega⟩
      have eo : (z : Int) - l = (o : Int) := by omega
      have F := (aand @hzl (aand @eo @t8)); refine tFa ?_; (try clear F)
      exact ⟨rfl, o, by omega, by simp [upd_lit], by simp [upd_lit, t11], by simp [upd_lit, t9], by simp [upd_lit, t10], by simp [upd_lit, t8], by simp [upd_lit, t0], by simp [upd_lit, t1], hmm⟩
    · have F := @hzl; refine tFa ?_; (try clear F)
      exact ⟨rfl, z, by omega, by simp [upd_lit], by simp [upd_lit, t11], by simp [upd_lit, t9], by simp [upd_lit, t10], by simp [upd_lit, t8], by simp [upd_lit, t0], by simp [upd_lit, t1], hmm⟩
  clear t0 t1 t8 t9 t10 t11 hz z
  rintro τ m2 ⟨o, ho, t12, t11, t9, t10, t8, t0, t1, rfl⟩
  obtain ⟨p, hp⟩ : ∃ p, p = a + o := ⟨_, rfl⟩
  have eq : (a : Int) + (o : Int) = p := by omega
  have hn1 : n < m.nloc + 1 := by omega
  have a1 : j < d1.size := by omega
  have a2 : (j : Int) < L := by omega
  have q1 : p < d1.size := by omega
  have q2 : (p : Int) < L := by omega
  repeat (first | refine AW.seq ?_ | refine AW.block ?_ | refine AW.skip ?_ | refine AExit.norT ?_ | refine AExit.norB ?_ | refine AList.nil ?_)
  refine AW.draw [.S, .S, .S, .S, .S, .S, .S, .S, .S, .S, .S, .R, .S, .S, .S, .R, .S, .W, .S, .W] (by decide +kernel) ?_; have F := (aand @t0 (aand @t1 (aand @t11 (aand @t12 (aand @eq (aand @a1 (aand @a2 (aand @q1 (aand @q2 (aand @hn1 (aand @hns (aand @ar_get (aand @ar_fit (aand @ar_set @setLoc_setLoc)))))))))))))); refine dST 0 ?_; refine dST 1 ?_; refine dST 2 ?_; refine dST 3 ?_; refine dST 4 ?_; refine dST 5 ?_; refine dST 6 ?_; refine dST 7 ?_; refine dST 8 ?_; refine dST 9 ?_; refine dST 10 ?_; refine dRT 11 ?_; refine dST 12 ?_; refine dST 13 ?_; refine dST 14 ?_; refine dRT 15 ?_; refine dST 16 ?_; refine dW 17 ?_; refine dST 18 ?_; refine dW 19 ?_; (try clear F); first | refine dN ?_ | refine dB ?_ | refine DA.done (by decide +kernel) ?_
  simp only [put]
  rw [swp_gt]
  have F := @t11; refine tF ?_; (try clear F)
  exact ⟨j + 1, ⟨by omega, by omega, by simp [upd_lit], by simp [upd_lit, t9], by simp [upd_lit, t10], by simp [upd_lit, t8], by simp [upd_lit, t0], by simp [upd_lit, t1], _, _, permIn_trans _ _ _ a b hpm (swp_permIn d1 a b j p (by omega) (by omega) (by omega) (by omega) (by omega)), rfl⟩, by omega⟩
end Go.Proofs.YtgfadepkiejncaaGreat
namespace Go.Proofs.YtgfadepkiejncaaGreat
open Go.Ab Go.Sort
set_option maxHeartbeats 0
set_option maxRecDepth 100000
attribute [local irreducible] AW AList ACall DA AExit.then AExit.inBlock YCall DCall
theorem scanSorted_rng (d : Array GG) (b i : Nat) (h : i ≤ b) : i ≤ scanSorted ltG d b i ∧ scanSorted ltG d b i ≤ b := by
  fun_induction scanSorted ltG d b i with
  | case1 i hc ih => simp only [Bool.and_eq_true, decide_eq_true_eq] at hc; have := ih (by omega); omega
  | case2 => omega
theorem shiftDown_size : ∀ j (d : Array GG), (shiftDown ltG j d).size = d.size
  | 0, d => rfl
  | j + 1, d => by rw [shiftDown]; split; rfl; rw [shiftDown_size j, swp_size]
theorem shiftUp_size (b j : Nat) (d : Array GG) : (shiftUp ltG b j d).size = d.size := by
  fun_induction shiftUp ltG b j d <;> simp_all [swp_size]
theorem partialG {m : St} {n L cap : Nat} {d : Array GG} {r : List PV} (H : Arr m n L d r) (a b : Nat) (hab : a < b) (hb : b ≤ L) :
    GivesTo Tryz.prog 180 [mar n L cap, vI a, vI b, cloC] m (vB (partialInsertionSort ltG d a b).2) (m.setLoc n (ar (partialInsertionSort ltG d a b).1 r)) := by
  have hn := H.lt
  have hm := H.loc
  have hL := H.size
  have hS := H.small
  refine ACall.of_aw Tryz.func180 Tryz.ntmps180 rfl rfl (by simp) ?_
  rw [partialInsertionSort]
  refine tS ?_
  refine AW.loop (ι := Nat) (fun s σ m' => s ≤ 5 ∧ σ 10 = vI (5 - (s : Int)) ∧ σ 0 = mar n L cap ∧ σ 1 = vI a ∧ σ 2 = vI b ∧ σ 3 = cloC ∧ ∃ (i : Nat) (d' : Array GG), a + 1 ≤ i ∧ i ≤ b ∧ σ 9 = vI i ∧ d'.size = L ∧ partialIns ltG a b s i d' = partialIns ltG a b 5 (a + 1) d ∧ m' = m.setLoc n (ar d' r)) (fun s => s) 5 ?_ ?_
  · exact ⟨by omega, by simp [upd_lit], by simp [upd_lit], by simp [upd_lit], by simp [upd_lit], by simp [upd_lit], a + 1, d, by omega, by omega, by simp [upd_lit], hL, rfl, (setLoc_self hm).symm⟩
  rintro s σ m' ⟨hs5, t10, t0, t1, t2, t3, i, d1, hi1, hi2, t9, hs, hD, rfl⟩
  cases s with
  | zero =>
    have t10 : σ 10 = vI 5 := t10
    rw [partialIns] at hD
    rw [← hD]
    have F := @t10; refine tFa ?_; (try clear F)
    exact Fin.here (r := vB false) (by rfl) (.inr rfl) ⟨rfl, rfl⟩
  | succ s =>
    have e1 : (5 : Int) - ((s + 1 : Nat) : Int) < 5 := by omega
    generalize h10 : (5 : Int) - ((s + 1 : Nat) : Int) = k10 at *
    have e2 : k10 + 1 = 5 - (s : Int) := by omega
    rw [partialIns_succ] at hD
    have hsc := scanSorted_rng d1 b i hi2
    have F := (aand @t10 @e1); refine tFg ?_; (try clear F)
    refine AW.condT (by simp [upd_lit, e1]) ?_
    refine AW.skip ?_
    refine AExit.norT ?_
    refine AW.seq ?_
    refine AW.block ?_
    refine AW.seq ?_
    obtain ⟨i2, h2⟩ : ∃ i2, i2 = scanSorted ltG d1 b i := ⟨_, rfl⟩
    rw [← h2] at hsc
    refine AW.step (fun τ m' => τ 9 = vI i2 ∧ τ 10 = vI k10 ∧ τ 0 = mar n L cap ∧ τ 1 = vI a ∧ τ 2 = vI b ∧ τ 3 = cloC ∧ m' = m.setLoc n (ar d1 r)) ?_ ?_
    · refine AW.block ?_
      refine AW.loop (ι := Nat) (fun k τ m' => i ≤ k ∧ k ≤ b ∧ scanSorted ltG d1 b k = i2 ∧ τ 9 = vI k ∧ τ 10 = vI k10 ∧ τ 0 = mar n L cap ∧ τ 1 = vI a ∧ τ 2 = vI b ∧ τ 3 = cloC ∧ m' = m.setLoc n (ar d1 r)) (fun k => b - k) i ?_ ?_
      · exact ⟨Nat.le_refl _, hi2, h2.symm, by simp [upd_lit, t9], by simp [upd_lit, t10], by simp [upd_lit, t0], by simp [upd_lit, t1], by simp [upd_lit, t2], by simp [upd_lit, t3], rfl⟩
      clear t10 t0 t1 t2 t3 t9
      rintro k τ m' ⟨hk1, hk2, hsk, t9, t10, t0, t1, t2, t3, rfl⟩
      rw [scanSorted] at hsk
      by_cases hkb : k < b
      rotate_left
      · rw [if_neg (by simp; omega)] at hsk
        subst hsk
        repeat (first | refine AW.seq ?_ | refine AW.block ?_ | refine AW.skip ?_ | refine AExit.norT ?_ | refine AExit.norB ?_ | refine AList.nil ?_)
        refine AW.draw [.S, .S, .S, .S, .S, .S, .S, .S, .R, .S, .S, .S, .S, .R, .R, .S, .S, .S] (by decide +kernel) ?_; have F := (aand @t9 (aand @t2 @hkb)); refine dS 0 ?_; refine dS 1 ?_; refine dS 2 ?_; refine dS 3 ?_; refine dXx 4 ?_; refine dXx 5 ?_; refine dXx 6 ?_; refine dXx 7 ?_; refine dXX 8 ?_; refine dXx 9 ?_; refine dXx 10 ?_; refine dXx 11 ?_; refine dXx 12 ?_; refine dXX 13 ?_; refine dXX 14 ?_; refine dXx 15 ?_; refine dXx 16 ?_; refine dS 17 ?_; (try clear F); first | refine dN ?_ | refine dB ?_ | refine DA.done (by decide +kernel) ?_
        refine tSa ?_
        exact ⟨rfl, by simp [upd_lit, t9], by simp [upd_lit, t10], by simp [upd_lit, t0], by simp [upd_lit, t1], by simp [upd_lit, t2], by simp [upd_lit, t3], rfl⟩
      obtain ⟨p, rfl⟩ : ∃ p, k = p + 1 := ⟨k - 1, by omega⟩
      have e3 : ((p + 1 : Nat) : Int) - 1 = (p : Int) := by omega
      rw [Nat.add_sub_cancel] at hsk
      generalize hk : p + 1 = k at *
      have k1 : k < d1.size := by omega
      have k2 : (k : Int) < L := by omega
      have p1 : p < d1.size := by omega
      have p2 : (p : Int) < L := by omega
      have hcmp := cmpG (gt d1 k) (gt d1 p)
      repeat (first | refine AW.seq ?_ | refine AW.block ?_ | refine AW.skip ?_ | refine AExit.norT ?_ | refine AExit.norB ?_ | refine AList.nil ?_)
      refine AW.draw [.S, .S, .S, .S, .S, .S, .S, .S, .R, .S, .S, .S, .S, .R, .R, .S, .S, .S] (by decide +kernel) ?_; have F := (aand @t9 (aand @t2 (aand @t0 (aand @t3 (aand @hkb (aand @e3 (aand @k1 (aand @k2 (aand @p1 (aand @p2 (aand @hn (aand @ar_get @ar_fit)))))))))))); refine dS 0 ?_; refine dS 1 ?_; refine dS 2 ?_; refine dS 3 ?_; refine dSG 4 ?_; refine dSG 5 ?_; refine dSG 6 ?_; refine dSG 7 ?_; refine dRG 8 ?_; refine dSG 9 ?_; refine dSG 10 ?_; refine dSG 11 ?_; refine dSG 12 ?_; refine dRG 13 ?_; refine dCG ((hcmp)) 14 ?_; refine dSG 15 ?_; refine dSG 16 ?_; refine dS 17 ?_; (try clear F); first | refine dN ?_ | refine dB ?_ | refine DA.done (by decide +kernel) ?_
      by_cases hl : cmpV (gt d1 k).1 (gt d1 p).1 < 0
      · rw [if_neg (by simp only [gt_eq]; simp [ltG, hl])] at hsk
        subst hsk
        have F := @hl; refine tFa ?_; (try clear F)
        exact ⟨rfl, by simp [upd_lit, t9], by simp [upd_lit, t10], by simp [upd_lit, t0], by simp [upd_lit, t1], by simp [upd_lit, t2], by simp [upd_lit, t3], rfl⟩
      · rw [if_pos (by simp only [gt_eq]; simp [ltG]; omega)] at hsk
        have F := (aand @hl @t9); refine tFa ?_; (try clear F)
        exact ⟨k + 1, ⟨by omega, by omega, hsk, by simp [upd_lit], by simp [upd_lit, t10], by simp [upd_lit, t0], by simp [upd_lit, t1], by simp [upd_lit, t2], by simp [upd_lit, t3], rfl⟩, by omega⟩
    clear t10 t0 t1 t2 t3 t9
    rintro τ m' ⟨t9, t10, t0, t1, t2, t3, rfl⟩
    rw [← h2] at hD
    by_cases hib : i2 = b
    · rw [if_pos hib] at hD
      rw [← hD]
      have F := (aand @t9 (aand @t2 @hib)); refine tFa ?_; (try clear F)
      exact Fin.here (r := vB true) (by rfl) (.inr rfl) ⟨rfl, rfl⟩
    rw [if_neg hib] at hD
    have hib2 : ¬ (i2 : Int) = b := by omega
    obtain ⟨l, hl⟩ : ∃ l, l = b - a := ⟨_, rfl⟩
    have el : (b : Int) - a = (l : Int) := by omega
    by_cases h50 : (l : Int) < 50
    · rw [if_pos (by omega)] at hD
      rw [← hD]
      have F := (aand @t9 (aand @t2 (aand @t1 (aand @hib2 (aand @el @h50))))); refine tFa ?_; (try clear F)
      exact Fin.here (r := vB false) (by rfl) (.inr rfl) ⟨rfl, rfl⟩
    rw [if_neg (by omega)] at hD
    have F := (aand @t9 (aand @t2 (aand @t1 (aand @hib2 (aand @el @h50))))); refine tFa ?_; (try clear F)
    obtain ⟨p, hp⟩ : ∃ p, p + 1 = i2 := ⟨i2 - 1, by omega⟩
    rw [show i2 - 1 = p from by omega] at hD
    have e3 : (i2 : Int) - 1 = (p : Int) := by omega
    have k1 : i2 < d1.size := by omega
    have k2 : (i2 : Int) < L := by omega
    have p1 : p < d1.size := by omega
    have p2 : (p : Int) < L := by omega
    repeat (first | refine AW.seq ?_ | refine AW.block ?_ | refine AW.skip ?_ | refine AExit.norT ?_ | refine AExit.norB ?_ | refine AList.nil ?_)
    refine AW.draw [.S, .S, .S, .S, .S, .S, .S, .S, .S, .R, .S, .S, .S, .R, .S, .W, .S, .W] (by decide +kernel) ?_; have F := (aand @t9 (aand @t0 (aand @e3 (aand @k1 (aand @k2 (aand @p1 (aand @p2 (aand @hn (aand @ar_get (aand @ar_fit (aand @ar_set @setLoc_setLoc))))))))))); refine dST 0 ?_; refine dST 1 ?_; refine dST 2 ?_; refine dST 3 ?_; refine dST 4 ?_; refine dST 5 ?_; refine dST 6 ?_; refine dST 7 ?_; refine dST 8 ?_; refine dRT 9 ?_; refine dST 10 ?_; refine dST 11 ?_; refine dST 12 ?_; refine dRT 13 ?_; refine dST 14 ?_; refine dW 15 ?_; refine dST 16 ?_; refine dW 17 ?_; (try clear F); first | refine dN ?_ | refine dB ?_ | refine DA.done (by decide +kernel) ?_
    simp only [put]
    rw [swp_gt]
    have hs2 : (swp d1 i2 p).size = L := by rw [swp_size]; exact hs
    generalize swp d1 i2 p = d2 at *
    have hai : a + 1 ≤ i2 := by omega
    have hbi : i2 ≤ b := by omega
    clear hib hib2 hs k1 p1 hsc
    refine AW.seq ?_
    refine AW.step (fun τ m' => τ 9 = vI i2 ∧ τ 10 = vI k10 ∧ τ 0 = mar n L cap ∧ τ 1 = vI a ∧ τ 2 = vI b ∧ τ 3 = cloC ∧ m' = m.setLoc n (ar (fixDown ltG a i2 d2) r)) ?_ ?_
    · rw [fixDown]
      obtain ⟨q, hq⟩ : ∃ q, q = i2 - a := ⟨_, rfl⟩
      have eq : (i2 : Int) - a = (q : Int) := by omega
      by_cases hq2 : (2 : Int) ≤ q
      rotate_left
      · rw [if_neg (by omega)]
        have F := (aand @t9 (aand @t1 (aand @eq @hq2))); refine tFa ?_; (try clear F)
        exact ⟨rfl, by simp [upd_lit, t9], by simp [upd_lit, t10], by simp [upd_lit, t0], by simp [upd_lit, t1], by simp [upd_lit, t2], by simp [upd_lit, t3], rfl⟩
      rw [if_pos (by omega), show i2 - 1 = p from by omega]
      have F := (aand @t9 (aand @t1 (aand @eq (aand @hq2 @e3)))); refine tFa ?_; (try clear F)
      refine AW.loop (ι := Nat) (fun j τ m' => j ≤ p ∧ τ 11 = vI j ∧ τ 9 = vI i2 ∧ τ 10 = vI k10 ∧ τ 0 = mar n L cap ∧ τ 1 = vI a ∧ τ 2 = vI b ∧ τ 3 = cloC ∧ ∃ d', d'.size = L ∧ shiftDown ltG j d' = shiftDown ltG p d2 ∧ m' = m.setLoc n (ar d' r)) (fun j => j) p ?_ ?_
      · exact ⟨Nat.le_refl _, by simp [upd_lit], by simp [upd_lit, t9], by simp [upd_lit, t10], by simp [upd_lit, t0], by simp [upd_lit, t1], by simp [upd_lit, t2], by simp [upd_lit, t3], d2, hs2, rfl, rfl⟩
      clear t9 t10 t0 t1 t2 t3
      rintro j τ m' ⟨hj, t11, t9, t10, t0, t1, t2, t3, d3, hs3, hE, rfl⟩
      cases j with
      | zero =>
        have t11 : τ 11 = vI 0 := t11
        rw [shiftDown] at hE
        have F := @t11; refine tFa ?_; (try clear F)
        exact ⟨rfl, by simp [upd_lit, t9], by simp [upd_lit, t10], by simp [upd_lit, t0], by simp [upd_lit, t1], by simp [upd_lit, t2], by simp [upd_lit, t3], by rw [← hE]⟩
      | succ j =>
        have e4 : ((j + 1 : Nat) : Int) - 1 = (j : Int) := by omega
        have e5 : (1 : Int) ≤ ((j + 1 : Nat) : Int) := by omega
        rw [shiftDown] at hE
        generalize hk : j + 1 = k at *
        have k3 : k < d3.size := by omega
        have k4 : (k : Int) < L := by omega
        have j3 : j < d3.size := by omega
        have j4 : (j : Int) < L := by omega
        have hcmp := cmpG (gt d3 k) (gt d3 j)
        have F := (aand @t11 @e5); refine tFa ?_; (try clear F)
        repeat (first | refine AW.seq ?_ | refine AW.block ?_ | refine AW.skip ?_ | refine AExit.norT ?_ | refine AExit.norB ?_ | refine AList.nil ?_)
        refine AW.draw [.S, .S, .S, .S, .R, .S, .S, .S, .S, .R, .R, .S, .S] (by decide +kernel) ?_; have F := (aand @t11 (aand @t0 (aand @t3 (aand @e4 (aand @k3 (aand @k4 (aand @j3 (aand @j4 (aand @hn (aand @ar_get @ar_fit)))))))))); refine dS 0 ?_; refine dS 1 ?_; refine dS 2 ?_; refine dS 3 ?_; refine dR 4 ?_; refine dS 5 ?_; refine dS 6 ?_; refine dS 7 ?_; refine dS 8 ?_; refine dR 9 ?_; refine dC ((hcmp)) 10 ?_; refine dS 11 ?_; refine dS 12 ?_; (try clear F); first | refine dN ?_ | refine dB ?_ | refine DA.done (by decide +kernel) ?_
        by_cases hl : cmpV (gt d3 k).1 (gt d3 j).1 < 0
        rotate_left
        · rw [if_pos (by simp only [gt_eq]; simp [ltG]; omega)] at hE
          have F := @hl; refine tFa ?_; (try clear F)
          exact ⟨rfl, by simp [upd_lit, t9], by simp [upd_lit, t10], by simp [upd_lit, t0], by simp [upd_lit, t1], by simp [upd_lit, t2], by simp [upd_lit, t3], by rw [← hE]⟩
        rw [if_neg (by simp only [gt_eq]; simp [ltG]; omega)] at hE
        have F := @hl; refine tFa ?_; (try clear F)
        repeat (first | refine AW.seq ?_ | refine AW.block ?_ | refine AW.skip ?_ | refine AExit.norT ?_ | refine AExit.norB ?_ | refine AList.nil ?_)
        refine AW.draw [.S, .S, .S, .S, .S, .S, .S, .S, .S, .R, .S, .S, .S, .R, .S, .W, .S, .W] (by decide +kernel) ?_; have F := (aand @t11 (aand @t0 (aand @e4 (aand @k3 (aand @k4 (aand @j3 (aand @j4 (aand @hn (aand @ar_get (aand @ar_fit (aand @ar_set @setLoc_setLoc))))))))))); refine dST 0 ?_; refine dST 1 ?_; refine dST 2 ?_; refine dST 3 ?_; refine dST 4 ?_; refine dST 5 ?_; refine dST 6 ?_; refine dST 7 ?_; refine dST 8 ?_; refine dRT 9 ?_; refine dST 10 ?_; refine dST 11 ?_; refine dST 12 ?_; refine dRT 13 ?_; refine dST 14 ?_; refine dW 15 ?_; refine dST 16 ?_; refine dW 17 ?_; (try clear F); first | refine dN ?_ | refine dB ?_ | refine DA.done (by decide +kernel) ?_
        simp only [put]
        rw [swp_gt]
        have F := (aand @t11 @e4); refine tF ?_; (try clear F)
        exact ⟨j, ⟨by omega, by simp [upd_lit], by simp [upd_lit, t9], by simp [upd_lit, t10], by simp [upd_lit, t0], by simp [upd_lit, t1], by simp [upd_lit, t2], by simp [upd_lit, t3], _, by rw [swp_size]; exact hs3, hE, rfl⟩, by omega⟩
    clear t10 t0 t1 t2 t3 t9
    have hs3 : (fixDown ltG a i2 d2).size = L := by rw [fixDown]; split; rw [shiftDown_size]; exact hs2; exact hs2
    generalize fixDown ltG a i2 d2 = d3 at *
    clear hs2
    rintro τ m' ⟨t9, t10, t0, t1, t2, t3, rfl⟩
    refine AExit.norT ?_
    refine AW.step (fun τ m' => τ 9 = vI i2 ∧ τ 10 = vI k10 ∧ τ 0 = mar n L cap ∧ τ 1 = vI a ∧ τ 2 = vI b ∧ τ 3 = cloC ∧ m' = m.setLoc n (ar (fixUp ltG b i2 d3) r)) ?_ ?_
    · rw [fixUp]
      obtain ⟨q, hq⟩ : ∃ q, q = b - i2 := ⟨_, rfl⟩
      have eq : (b : Int) - i2 = (q : Int) := by omega
      by_cases hq2 : (2 : Int) ≤ q
      rotate_left
      · rw [if_neg (by omega)]
        have F := (aand @t9 (aand @t2 (aand @eq @hq2))); refine tFa ?_; (try clear F)
        exact ⟨rfl, by simp [upd_lit, t9], by simp [upd_lit, t10], by simp [upd_lit, t0], by simp [upd_lit, t1], by simp [upd_lit, t2], by simp [upd_lit, t3], rfl⟩
      rw [if_pos (by omega)]
      have F := (aand @t9 (aand @t2 (aand @eq @hq2))); refine tFa ?_; (try clear F)
      refine AW.loop (ι := Nat) (fun j τ m' => i2 + 1 ≤ j ∧ j ≤ b ∧ τ 12 = vI j ∧ τ 9 = vI i2 ∧ τ 10 = vI k10 ∧ τ 0 = mar n L cap ∧ τ 1 = vI a ∧ τ 2 = vI b ∧ τ 3 = cloC ∧ ∃ d', d'.size = L ∧ shiftUp ltG b j d' = shiftUp ltG b (i2 + 1) d3 ∧ m' = m.setLoc n (ar d' r)) (fun j => b - j) (i2 + 1) ?_ ?_
      · exact ⟨Nat.le_refl _, by omega, by simp [upd_lit], by simp [upd_lit, t9], by simp [upd_lit, t10], by simp [upd_lit, t0], by simp [upd_lit, t1], by simp [upd_lit, t2], by simp [upd_lit, t3], d3, hs3, rfl, rfl⟩
      clear t9 t10 t0 t1 t2 t3
      rintro j τ m' ⟨hj, hjb, t12, t9, t10, t0, t1, t2, t3, d4, hs4, hE, rfl⟩
      rw [shiftUp] at hE
      by_cases hlt : j < b
      rotate_left
      · rw [if_neg hlt] at hE
        have F := (aand @t12 (aand @t2 @hlt)); refine tFa ?_; (try clear F)
        exact ⟨rfl, by simp [upd_lit, t9], by simp [upd_lit, t10], by simp [upd_lit, t0], by simp [upd_lit, t1], by simp [upd_lit, t2], by simp [upd_lit, t3], by rw [← hE]⟩
      rw [if_pos hlt] at hE
      obtain ⟨w, rfl⟩ : ∃ w, j = w + 1 := ⟨j - 1, by omega⟩
      have e4 : ((w + 1 : Nat) : Int) - 1 = (w : Int) := by omega
      rw [Nat.add_sub_cancel] at hE
      generalize hk : w + 1 = k at *
      have k3 : k < d4.size := by omega
      have k4 : (k : Int) < L := by omega
      have j3 : w < d4.size := by omega
      have j4 : (w : Int) < L := by omega
      have hcmp := cmpG (gt d4 k) (gt d4 w)
      have F := (aand @t12 (aand @t2 @hlt)); refine tFa ?_; (try clear F)
      repeat (first | refine AW.seq ?_ | refine AW.block ?_ | refine AW.skip ?_ | refine AExit.norT ?_ | refine AExit.norB ?_ | refine AList.nil ?_)
      refine AW.draw [.S, .S, .S, .S, .R, .S, .S, .S, .S, .R, .R, .S, .S] (by decide +kernel) ?_; have F := (aand @t12 (aand @t0 (aand @t3 (aand @e4 (aand @k3 (aand @k4 (aand @j3 (aand @j4 (aand @hn (aand @ar_get @ar_fit)))))))))); refine dS 0 ?_; refine dS 1 ?_; refine dS 2 ?_; refine dS 3 ?_; refine dR 4 ?_; refine dS 5 ?_; refine dS 6 ?_; refine dS 7 ?_; refine dS 8 ?_; refine dR 9 ?_; refine dC ((hcmp)) 10 ?_; refine dS 11 ?_; refine dS 12 ?_; (try clear F); first | refine dN ?_ | refine dB ?_ | refine DA.done (by decide +kernel) ?_
      by_cases hl : cmpV (gt d4 k).1 (gt d4 w).1 < 0
      rotate_left
      · rw [if_pos (by simp only [gt_eq]; simp [ltG]; omega)] at hE
        have F := @hl; refine tFa ?_; (try clear F)
        exact ⟨rfl, by simp [upd_lit, t9], by simp [upd_lit, t10], by simp [upd_lit, t0], by simp [upd_lit, t1], by simp [upd_lit, t2], by simp [upd_lit, t3], by rw [← hE]⟩
      rw [if_neg (by simp only [gt_eq]; simp [ltG]; omega)] at hE
      have F := @hl; refine tFa ?_; (try clear F)
      repeat (first | refine AW.seq ?_ | refine AW.block ?_ | refine AW.skip ?_ | refine AExit.norT ?_ | refine AExit.norB ?_ | refine AList.nil ?_)
      refine AW.draw [.S, .S, .S, .S, .S, .S, .S, .S, .S, .R, .S, .S, .S, .R, .S, .W, .S, .W] (by decide +kernel) ?_; have F := (aand @t12 (aand @t0 (aand @e4 (aand @k3 (aand @k4 (aand @j3 (aand @j4 (aand @hn (aand @ar_get (aand @ar_fit (aand @ar_set @setLoc_setLoc))))))))))); refine dST 0 ?_; refine dST 1 ?_; refine dST 2 ?_; refine dST 3 ?_; refine dST 4 ?_; refine dST 5 ?_; refine dST 6 ?_; refine dST 7 ?_; refine dST 8 ?_; refine dRT 9 ?_; refine dST 10 ?_; refine dST 11 ?_; refine dST 12 ?_; refine dRT 13 ?_; refine dST 14 ?_; refine dW 15 ?_; refine dST 16 ?_; refine dW 17 ?_; (try clear F); first | refine dN ?_ | refine dB ?_ | refine DA.done (by decide +kernel) ?_
      simp only [put]
      rw [swp_gt]
      have F := @t12; refine tF ?_; (try clear F)
      exact ⟨k + 1, ⟨by omega, by omega, by simp [upd_lit], by simp [upd_lit, t9], by simp [upd_lit, t10], by simp [upd_lit, t0], by simp [upd_lit, t1], by simp [upd_lit, t2], by simp [upd_lit, t3], _, by rw [swp_size]; exact hs4, hE, rfl⟩, by omega⟩
    clear t10 t0 t1 t2 t3 t9
    have hs4 : (fixUp ltG b i2 d3).size = L := by rw [fixUp]; split; rw [shiftUp_size]; exact hs3; exact hs3
    generalize fixUp ltG b i2 d3 = d4 at *
    rintro τ m' ⟨t9, t10, t0, t1, t2, t3, rfl⟩
    have F := (aand @t10 @e2); refine tF ?_; (try clear F)
    exact ⟨s, ⟨by omega, by simp [upd_lit], by simp [upd_lit, t0], by simp [upd_lit, t1], by simp [upd_lit, t2], by simp [upd_lit, t3], i2, d4, by omega, by omega, by simp [upd_lit, t9], hs4, hD, rfl⟩, by omega⟩
end Go.Proofs.YtgfadepkiejncaaGreat
namespace Go.Ab
theorem AW.stepX {P : Program} {N : Nat} {Q : APost} {σ : Nat → PV} {m : St} {c : Code} (k : Nat) (I : (Nat → PV) → St → Prop) (h : AW P N c (fun y σ m => y = .exit k ∧ I σ m) σ m) (kk : ∀ σ m, I σ m → Q (.exit k) σ m) : AW P N c Q σ m :=
  AW.mono h fun _ _ _ ⟨e, hi⟩ => e ▸ kk _ _ hi
end Go.Ab
namespace Go.Proofs.YtgfadepkiejncaaGreat
open Go.Ab Go.Sort
set_option maxHeartbeats 0
set_option maxRecDepth 100000
attribute [local irreducible] AW AList ACall DA AExit.then AExit.inBlock YCall DCall
theorem partitionEqualG {m : St} {n L cap : Nat} {d : Array GG} {r : List PV} (H : Arr m n L d r) (a b p : Nat) (hp1 : a ≤ p) (hp2 : p < b) (hb : b ≤ L) :
    GivesTo Tryz.prog 181 [mar n L cap, vI a, vI b, vI p, cloC] m (vI (partitionEqual ltG d a b p).1) (m.setLoc n (ar (partitionEqual ltG d a b p).2 r)) := by
  have hn := H.lt
  have hm := H.loc
  have hL := H.size
  have hS := H.small
  refine ACall.of_aw Tryz.func181 Tryz.ntmps181 rfl rfl (by simp) ?_
  rw [partitionEqual]
  have a1 : a < d.size := by omega
  have a2 : (a : Int) < L := by omega
  have p1 : p < d.size := by omega
  have p2 : (p : Int) < L := by omega
  obtain ⟨j0, hj0⟩ : ∃ j, j + 1 = b := ⟨b - 1, by omega⟩
  rw [show b - 1 = j0 from by omega]
  have ej : (b : Int) - 1 = (j0 : Int) := by omega
  refine tS ?_
  refine AW.draw [.S, .S, .S, .S, .S, .S, .S, .R, .S, .S, .S, .R, .S, .W, .S, .W] (by decide +kernel) ?_; have F := (aand @a1 (aand @a2 (aand @p1 (aand @p2 (aand @hn (aand @hm (aand @ar_get (aand @ar_fit (aand @ar_set @setLoc_setLoc))))))))); refine dST 0 ?_; refine dST 1 ?_; refine dST 2 ?_; refine dST 3 ?_; refine dST 4 ?_; refine dST 5 ?_; refine dST 6 ?_; refine dRT 7 ?_; refine dST 8 ?_; refine dST 9 ?_; refine dST 10 ?_; refine dRT 11 ?_; refine dST 12 ?_; refine dW 13 ?_; refine dST 14 ?_; refine dW 15 ?_; (try clear F); first | refine dN ?_ | refine dB ?_ | refine DA.done (by decide +kernel) ?_
  simp only [put]
  rw [swp_gt]
  have hs0 : (swp d a p).size = L := by rw [swp_size]; exact hL
  generalize swp d a p = d0 at *
  clear a1 p1 p2
  have F := @ej; refine tF ?_; (try clear F)
  refine AW.loop (ι := Nat × Nat) (fun q σ m' => a + 1 ≤ q.1 ∧ q.1 ≤ b + 1 ∧ q.2 < b ∧ σ 11 = vI q.1 ∧ σ 12 = vI q.2 ∧ σ 0 = mar n L cap ∧ σ 1 = vI a ∧ σ 4 = cloC ∧ ∃ d', d'.size = L ∧ partEqLoop ltG a q.1 q.2 d' = partEqLoop ltG a (a + 1) j0 d0 ∧ m' = m.setLoc n (ar d' r)) (fun q => q.2 + 1 - q.1) (a + 1, j0) ?_ ?_
  · exact ⟨Nat.le_refl _, by show a + 1 ≤ b + 1; omega, by show j0 < b; omega, by simp [upd_lit], by simp [upd_lit], by simp [upd_lit], by simp [upd_lit], by simp [upd_lit], d0, hs0, rfl, rfl⟩
  rintro ⟨i, j⟩ σ m' ⟨hi, hib, hj, tI, tJ, t0, t1, t4, d1, hs, hD, rfl⟩
  simp only at hi hib hj tI tJ hD
  rw [partEqLoop_eq] at hD
  repeat (first | refine AW.seq ?_ | refine AW.block ?_ | refine AW.skip ?_ | refine AExit.norT ?_ | refine AExit.norB ?_ | refine AList.nil ?_)
  obtain ⟨u, hu⟩ : ∃ z, z = scanUp (fun x => !ltG d1[a]! x) d1 j i := ⟨_, rfl⟩
  refine AW.stepX 2 (fun τ m3 => τ 11 = vI u ∧ τ 12 = vI j ∧ τ 0 = mar n L cap ∧ τ 1 = vI a ∧ τ 4 = cloC ∧ m3 = m.setLoc n (ar d1 r)) ?_ ?_
  · refine AW.loop (ι := Nat) (fun k τ m3 => i ≤ k ∧ scanUp (fun x => !ltG d1[a]! x) d1 j k = u ∧ τ 11 = vI k ∧ τ 12 = vI j ∧ τ 0 = mar n L cap ∧ τ 1 = vI a ∧ τ 4 = cloC ∧ m3 = m.setLoc n (ar d1 r)) (fun k => j + 1 - k) i ?_ ?_
    · exact ⟨Nat.le_refl _, hu.symm, by simp [upd_lit, tI], by simp [upd_lit, tJ], by simp [upd_lit, t0], by simp [upd_lit, t1], by simp [upd_lit, t4], rfl⟩
    rintro k τ m3 ⟨hk, hE, tI, tJ, t0, t1, t4, rfl⟩
    by_cases hkj : k ≤ j
    rotate_left
    · rw [scanUp, if_neg (by simp; omega)] at hE
      subst hE
      repeat (first | refine AW.seq ?_ | refine AW.block ?_ | refine AW.skip ?_ | refine AExit.norT ?_ | refine AExit.norB ?_ | refine AList.nil ?_)
      refine AW.draw [.S, .S, .S, .S, .S, .S, .S, .S, .R, .S, .S, .S, .R, .R, .S, .S, .S] (by decide +kernel) ?_; have F := (aand @tI (aand @tJ @hkj)); refine dS 0 ?_; refine dS 1 ?_; refine dS 2 ?_; refine dS 3 ?_; refine dXx 4 ?_; refine dXx 5 ?_; refine dXx 6 ?_; refine dXx 7 ?_; refine dXX 8 ?_; refine dXx 9 ?_; refine dXx 10 ?_; refine dXx 11 ?_; refine dXX 12 ?_; refine dXX 13 ?_; refine dXx 14 ?_; refine dXx 15 ?_; refine dS 16 ?_; (try clear F); first | refine dN ?_ | refine dB ?_ | refine DA.done (by decide +kernel) ?_
      refine tSa ?_
      exact ⟨rfl, by simp [upd_lit, tI], by simp [upd_lit, tJ], by simp [upd_lit, t0], by simp [upd_lit, t1], by simp [upd_lit, t4], rfl⟩
    rw [scanUp] at hE
    have k1 : k < d1.size := by omega
    have k2 : (k : Int) < L := by omega
    have a1 : a < d1.size := by omega
    have hcmp := cmpG (gt d1 a) (gt d1 k)
    repeat (first | refine AW.seq ?_ | refine AW.block ?_ | refine AW.skip ?_ | refine AExit.norT ?_ | refine AExit.norB ?_ | refine AList.nil ?_)
    refine AW.draw [.S, .S, .S, .S, .S, .S, .S, .S, .R, .S, .S, .S, .R, .R, .S, .S, .S] (by decide +kernel) ?_; have F := (aand @tI (aand @tJ (aand @t0 (aand @t1 (aand @t4 (aand @hkj (aand @k1 (aand @k2 (aand @a1 (aand @a2 (aand @hn (aand @ar_get @ar_fit)))))))))))); refine dS 0 ?_; refine dS 1 ?_; refine dS 2 ?_; refine dS 3 ?_; refine dSG 4 ?_; refine dSG 5 ?_; refine dSG 6 ?_; refine dSG 7 ?_; refine dRG 8 ?_; refine dSG 9 ?_; refine dSG 10 ?_; refine dSG 11 ?_; refine dRG 12 ?_; refine dCG ((hcmp)) 13 ?_; refine dSG 14 ?_; refine dSG 15 ?_; refine dS 16 ?_; (try clear F); first | refine dN ?_ | refine dB ?_ | refine DA.done (by decide +kernel) ?_
    by_cases hl : cmpV (gt d1 a).1 (gt d1 k).1 < 0
    · rw [if_neg (by simp only [gt_eq]; simp [ltG, hl])] at hE
      subst hE
      have F := @hl; refine tFa ?_; (try clear F)
      exact ⟨rfl, by simp [upd_lit, tI], by simp [upd_lit, tJ], by simp [upd_lit, t0], by simp [upd_lit, t1], by simp [upd_lit, t4], rfl⟩
    · rw [if_pos (by simp only [gt_eq]; simp only [ltG, hl, decide_true, decide_false, Bool.not_true, Bool.not_false, Bool.and_true, decide_eq_true_eq]; omega)] at hE
      have F := (aand @hl @tI); refine tFa ?_; (try clear F)
      exact ⟨k + 1, ⟨by omega, hE, by simp [upd_lit], by simp [upd_lit, tJ], by simp [upd_lit, t0], by simp [upd_lit, t1], by simp [upd_lit, t4], rfl⟩, by omega⟩
  rintro τ m3 ⟨tI, tJ, t0, t1, t4, rfl⟩
  have hu1 : i ≤ u ∧ u ≤ b + 1 := by
    have h1 := scanUp_spec (fun x => !ltG d1[a]! x) d1 j _ i rfl
    rw [← hu] at h1
    by_cases hij : i ≤ j + 1
    · have := h1.2.1 hij; omega
    · have hx : scanUp (fun x => !ltG d1[a]! x) d1 j i = i := by rw [scanUp, if_neg (by simp; omega)]
      omega
  rw [← hu] at hD
  refine AExit.exiB ?_
  repeat (first | refine AW.seq ?_ | refine AW.block ?_ | refine AW.skip ?_ | refine AExit.norT ?_ | refine AExit.norB ?_ | refine AList.nil ?_)
  obtain ⟨v, hv⟩ : ∃ z, z = scanDown (fun x => ltG d1[a]! x) d1 u j := ⟨_, rfl⟩
  refine AW.stepX 4 (fun τ m3 => τ 11 = vI u ∧ τ 12 = vI v ∧ τ 0 = mar n L cap ∧ τ 1 = vI a ∧ τ 4 = cloC ∧ m3 = m.setLoc n (ar d1 r)) ?_ ?_
  · refine AW.loop (ι := Nat) (fun k τ m3 => k ≤ j ∧ scanDown (fun x => ltG d1[a]! x) d1 u k = v ∧ τ 11 = vI u ∧ τ 12 = vI k ∧ τ 0 = mar n L cap ∧ τ 1 = vI a ∧ τ 4 = cloC ∧ m3 = m.setLoc n (ar d1 r)) (fun k => k) j ?_ ?_
    · exact ⟨Nat.le_refl _, hv.symm, by simp [upd_lit, tI], by simp [upd_lit, tJ], by simp [upd_lit, t0], by simp [upd_lit, t1], by simp [upd_lit, t4], rfl⟩
    rintro k τ m3 ⟨hk, hE, tI, tJ, t0, t1, t4, rfl⟩
    by_cases hkj : u ≤ k
    rotate_left
    · have hE2 : scanDown (fun x => ltG d1[a]! x) d1 u k = k := by
        cases k with
        | zero => rfl
        | succ w => rw [scanDown, if_neg (by simp; omega)]
      rw [hE2] at hE
      subst hE
      repeat (first | refine AW.seq ?_ | refine AW.block ?_ | refine AW.skip ?_ | refine AExit.norT ?_ | refine AExit.norB ?_ | refine AList.nil ?_)
      refine AW.draw [.S, .S, .S, .S, .S, .S, .S, .S, .R, .S, .S, .S, .R, .R, .S, .S] (by decide +kernel) ?_; have F := (aand @tI (aand @tJ @hkj)); refine dS 0 ?_; refine dS 1 ?_; refine dS 2 ?_; refine dS 3 ?_; refine dXx 4 ?_; refine dXx 5 ?_; refine dXx 6 ?_; refine dXx 7 ?_; refine dXX 8 ?_; refine dXx 9 ?_; refine dXx 10 ?_; refine dXx 11 ?_; refine dXX 12 ?_; refine dXX 13 ?_; refine dXx 14 ?_; refine dS 15 ?_; (try clear F); first | refine dN ?_ | refine dB ?_ | refine DA.done (by decide +kernel) ?_
      refine tSa ?_
      exact ⟨rfl, by simp [upd_lit, tI], by simp [upd_lit, tJ], by simp [upd_lit, t0], by simp [upd_lit, t1], by simp [upd_lit, t4], rfl⟩
    obtain ⟨w, rfl⟩ : ∃ w, k = w + 1 := ⟨k - 1, by omega⟩
    have e4 : ((w + 1 : Nat) : Int) - 1 = (w : Int) := by omega
    rw [scanDown] at hE
    generalize hkk : w + 1 = k at *
    have k1 : k < d1.size := by omega
    have k2 : (k : Int) < L := by omega
    have a1 : a < d1.size := by omega
    have hcmp := cmpG (gt d1 a) (gt d1 k)
    repeat (first | refine AW.seq ?_ | refine AW.block ?_ | refine AW.skip ?_ | refine AExit.norT ?_ | refine AExit.norB ?_ | refine AList.nil ?_)
    refine AW.draw [.S, .S, .S, .S, .S, .S, .S, .S, .R, .S, .S, .S, .R, .R, .S, .S] (by decide +kernel) ?_; have F := (aand @tI (aand @tJ (aand @t0 (aand @t1 (aand @t4 (aand @hkj (aand @k1 (aand @k2 (aand @a1 (aand @a2 (aand @hn (aand @ar_get @ar_fit)))))))))))); refine dS 0 ?_; refine dS 1 ?_; refine dS 2 ?_; refine dS 3 ?_; refine dSG 4 ?_; refine dSG 5 ?_; refine dSG 6 ?_; refine dSG 7 ?_; refine dRG 8 ?_; refine dSG 9 ?_; refine dSG 10 ?_; refine dSG 11 ?_; refine dRG 12 ?_; refine dCG ((hcmp)) 13 ?_; refine dSG 14 ?_; refine dS 15 ?_; (try clear F); first | refine dN ?_ | refine dB ?_ | refine DA.done (by decide +kernel) ?_
    by_cases hl : cmpV (gt d1 a).1 (gt d1 k).1 < 0
    · rw [if_pos (by simp only [gt_eq]; simp only [ltG, hl, decide_true, decide_false, Bool.not_true, Bool.not_false, Bool.and_true, decide_eq_true_eq]; omega)] at hE
      have F := (aand @hl (aand @tJ @e4)); refine tFa ?_; (try clear F)
      exact ⟨w, ⟨by omega, hE, by simp [upd_lit, tI], by simp [upd_lit], by simp [upd_lit, t0], by simp [upd_lit, t1], by simp [upd_lit, t4], rfl⟩, by omega⟩
    · rw [if_neg (by simp only [gt_eq]; simp [ltG, hl])] at hE
      subst hE
      have F := @hl; refine tFa ?_; (try clear F)
      exact ⟨rfl, by simp [upd_lit, tI], by simp [upd_lit, tJ], by simp [upd_lit, t0], by simp [upd_lit, t1], by simp [upd_lit, t4], rfl⟩
  rintro τ m3 ⟨tI, tJ, t0, t1, t4, rfl⟩
  have hv1 : v ≤ j := by rw [hv]; exact scanDown_le _ _ _ _
  rw [← hv] at hD
  refine AExit.exiB ?_
  by_cases hvu : v < u
  · rw [if_pos hvu] at hD
    rw [← hD]
    have F := (aand @tI (aand @tJ @hvu)); refine tFa ?_; (try clear F)
    exact Fin.here (r := vI u) (by rfl) (.inr rfl) ⟨rfl, rfl⟩
  rw [if_neg (by omega)] at hD
  have u1 : u < d1.size := by omega
  have u2 : (u : Int) < L := by omega
  have v1 : v < d1.size := by omega
  have v2 : (v : Int) < L := by omega
  obtain ⟨w, hw⟩ : ∃ w, w + 1 = v := ⟨v - 1, by omega⟩
  have ew : (v : Int) - 1 = (w : Int) := by omega
  rw [show v - 1 = w from by omega] at hD
  have F := (aand @tI (aand @tJ @hvu)); refine tFa ?_; (try clear F)
  repeat (first | refine AW.seq ?_ | refine AW.block ?_ | refine AW.skip ?_ | refine AExit.norT ?_ | refine AExit.norB ?_ | refine AList.nil ?_)
  refine AW.draw [.S, .S, .S, .S, .S, .S, .S, .R, .S, .S, .S, .R, .S, .W, .S, .W] (by decide +kernel) ?_; have F := (aand @tI (aand @tJ (aand @t0 (aand @u1 (aand @u2 (aand @v1 (aand @v2 (aand @hn (aand @ar_get (aand @ar_fit (aand @ar_set @setLoc_setLoc))))))))))); refine dST 0 ?_; refine dST 1 ?_; refine dST 2 ?_; refine dST 3 ?_; refine dST 4 ?_; refine dST 5 ?_; refine dST 6 ?_; refine dRT 7 ?_; refine dST 8 ?_; refine dST 9 ?_; refine dST 10 ?_; refine dRT 11 ?_; refine dST 12 ?_; refine dW 13 ?_; refine dST 14 ?_; refine dW 15 ?_; (try clear F); first | refine dN ?_ | refine dB ?_ | refine DA.done (by decide +kernel) ?_
  simp only [put]
  rw [swp_gt]
  have F := (aand @tI (aand @tJ @ew)); refine tF ?_; (try clear F)
  exact ⟨(u + 1, w), ⟨by show a + 1 ≤ u + 1; omega, by show u + 1 ≤ b + 1; omega, by show w < b; omega, by simp [upd_lit], by simp [upd_lit], by simp [upd_lit, t0], by simp [upd_lit, t1], by simp [upd_lit, t4], _, by rw [swp_size]; exact hs, hD, rfl⟩, by show w + 1 - (u + 1) < j + 1 - i; omega⟩
theorem partitionG {m : St} {n L cap : Nat} {d : Array GG} {r : List PV} (H : Arr m n L d r) (a b p : Nat) (hp1 : a ≤ p) (hp2 : p < b) (hb : b ≤ L) :
    GivesTo Tryz.prog 182 [mar n L cap, vI a, vI b, vI p, cloC] m (.tup [vI (partition ltG d a b p).1, vB (partition ltG d a b p).2.1]) (m.setLoc n (ar (partition ltG d a b p).2.2 r)) := by
  have hn := H.lt
  have hm := H.loc
  have hL := H.size
  have hS := H.small
  refine ACall.of_aw Tryz.func182 Tryz.ntmps182 rfl rfl (by simp) ?_
  obtain ⟨pt, hpt⟩ : ∃ pt, pt = partition ltG d a b p := ⟨_, rfl⟩
  rw [← hpt]
  rw [partition] at hpt
  dsimp only at hpt
  have a1 : a < d.size := by omega
  have a2 : (a : Int) < L := by omega
  have p1 : p < d.size := by omega
  have p2 : (p : Int) < L := by omega
  obtain ⟨j0, hj0⟩ : ∃ j, j + 1 = b := ⟨b - 1, by omega⟩
  rw [show b - 1 = j0 from by omega] at hpt
  have ej : (b : Int) - 1 = (j0 : Int) := by omega
  refine tS ?_
  refine AW.draw [.S, .S, .S, .S, .S, .S, .S, .R, .S, .S, .S, .R, .S, .W, .S, .W] (by decide +kernel) ?_; have F := (aand @a1 (aand @a2 (aand @p1 (aand @p2 (aand @hn (aand @hm (aand @ar_get (aand @ar_fit (aand @ar_set @setLoc_setLoc))))))))); refine dST 0 ?_; refine dST 1 ?_; refine dST 2 ?_; refine dST 3 ?_; refine dST 4 ?_; refine dST 5 ?_; refine dST 6 ?_; refine dRT 7 ?_; refine dST 8 ?_; refine dST 9 ?_; refine dST 10 ?_; refine dRT 11 ?_; refine dST 12 ?_; refine dW 13 ?_; refine dST 14 ?_; refine dW 15 ?_; (try clear F); first | refine dN ?_ | refine dB ?_ | refine DA.done (by decide +kernel) ?_
  simp only [put]
  rw [swp_gt]
  have hs0 : (swp d a p).size = L := by rw [swp_size]; exact hL
  generalize swp d a p = d0 at *
  clear a1 p1 p2
  have F := @ej; refine tF ?_; (try clear F)
  obtain ⟨u, hu⟩ : ∃ z, z = scanUp (fun x => ltG x d0[a]!) d0 j0 (a + 1) := ⟨_, rfl⟩
  refine AW.stepX 0 (fun τ m3 => τ 12 = vI u ∧ τ 13 = vI j0 ∧ τ 0 = mar n L cap ∧ τ 1 = vI a ∧ τ 4 = cloC ∧ m3 = m.setLoc n (ar d0 r)) ?_ ?_
  · refine AW.loop (ι := Nat) (fun k τ m3 => (a + 1) ≤ k ∧ scanUp (fun x => ltG x d0[a]!) d0 j0 k = u ∧ τ 12 = vI k ∧ τ 13 = vI j0 ∧ τ 0 = mar n L cap ∧ τ 1 = vI a ∧ τ 4 = cloC ∧ m3 = m.setLoc n (ar d0 r)) (fun k => j0 + 1 - k) (a + 1) ?_ ?_
    · exact ⟨Nat.le_refl _, hu.symm, by simp [upd_lit], by simp [upd_lit], by simp [upd_lit], by simp [upd_lit], by simp [upd_lit], rfl⟩
    rintro k τ m3 ⟨hk, hE, tI, tJ, t0, t1, t4, rfl⟩
    by_cases hkj : k ≤ j0
    rotate_left
    · rw [scanUp, if_neg (by simp; omega)] at hE
      subst hE
      repeat (first | refine AW.seq ?_ | refine AW.block ?_ | refine AW.skip ?_ | refine AExit.norT ?_ | refine AExit.norB ?_ | refine AList.nil ?_)
      refine AW.draw [.S, .S, .S, .S, .S, .S, .S, .S, .R, .S, .S, .S, .R, .R, .S, .S] (by decide +kernel) ?_; have F := (aand @tI (aand @tJ @hkj)); refine dS 0 ?_; refine dS 1 ?_; refine dS 2 ?_; refine dS 3 ?_; refine dXx 4 ?_; refine dXx 5 ?_; refine dXx 6 ?_; refine dXx 7 ?_; refine dXX 8 ?_; refine dXx 9 ?_; refine dXx 10 ?_; refine dXx 11 ?_; refine dXX 12 ?_; refine dXX 13 ?_; refine dXx 14 ?_; refine dS 15 ?_; (try clear F); first | refine dN ?_ | refine dB ?_ | refine DA.done (by decide +kernel) ?_
      refine tSa ?_
      exact ⟨rfl, by simp [upd_lit, tI], by simp [upd_lit, tJ], by simp [upd_lit, t0], by simp [upd_lit, t1], by simp [upd_lit, t4], rfl⟩
    rw [scanUp] at hE
    have k1 : k < d0.size := by omega
    have k2 : (k : Int) < L := by omega
    have a1 : a < d0.size := by omega
    have hcmp := cmpG (gt d0 k) (gt d0 a)
    repeat (first | refine AW.seq ?_ | refine AW.block ?_ | refine AW.skip ?_ | refine AExit.norT ?_ | refine AExit.norB ?_ | refine AList.nil ?_)
    refine AW.draw [.S, .S, .S, .S, .S, .S, .S, .S, .R, .S, .S, .S, .R, .R, .S, .S] (by decide +kernel) ?_; have F := (aand @tI (aand @tJ (aand @t0 (aand @t1 (aand @t4 (aand @hkj (aand @k1 (aand @k2 (aand @a1 (aand @a2 (aand @hn (aand @ar_get @ar_fit)))))))))))); refine dS 0 ?_; refine dS 1 ?_; refine dS 2 ?_; refine dS 3 ?_; refine dSG 4 ?_; refine dSG 5 ?_; refine dSG 6 ?_; refine dSG 7 ?_; refine dRG 8 ?_; refine dSG 9 ?_; refine dSG 10 ?_; refine dSG 11 ?_; refine dRG 12 ?_; refine dCG ((hcmp)) 13 ?_; refine dSG 14 ?_; refine dS 15 ?_; (try clear F); first | refine dN ?_ | refine dB ?_ | refine DA.done (by decide +kernel) ?_
    by_cases hl : cmpV (gt d0 k).1 (gt d0 a).1 < 0
    · rw [if_pos (by simp only [gt_eq]; simp only [ltG, hl, decide_true, decide_false, Bool.not_true, Bool.not_false, Bool.and_true, decide_eq_true_eq]; omega)] at hE
      have F := (aand @hl @tI); refine tFa ?_; (try clear F)
      exact ⟨k + 1, ⟨by omega, hE, by simp [upd_lit], by simp [upd_lit, tJ], by simp [upd_lit, t0], by simp [upd_lit, t1], by simp [upd_lit, t4], rfl⟩, by omega⟩
    · rw [if_neg (by simp only [gt_eq]; simp [ltG, hl])] at hE
      subst hE
      have F := @hl; refine tFa ?_; (try clear F)
      exact ⟨rfl, by simp [upd_lit, tI], by simp [upd_lit, tJ], by simp [upd_lit, t0], by simp [upd_lit, t1], by simp [upd_lit, t4], rfl⟩
  rintro τ m3 ⟨tI, tJ, t0, t1, t4, rfl⟩
  have hu1 : a + 1 ≤ u ∧ u ≤ b := by
    have h1 := scanUp_spec (fun x => ltG x d0[a]!) d0 j0 _ (a + 1) rfl
    rw [← hu] at h1
    have := h1.2.1 (by omega); omega
  rw [← hu] at hpt
  refine AExit.exiB ?_
  repeat (first | refine AW.seq ?_ | refine AW.block ?_ | refine AW.skip ?_ | refine AExit.norT ?_ | refine AExit.norB ?_ | refine AList.nil ?_)
  obtain ⟨v, hv⟩ : ∃ z, z = scanDown (fun x => !ltG x d0[a]!) d0 u j0 := ⟨_, rfl⟩
  refine AW.stepX 2 (fun τ m3 => τ 12 = vI u ∧ τ 13 = vI v ∧ τ 0 = mar n L cap ∧ τ 1 = vI a ∧ τ 4 = cloC ∧ m3 = m.setLoc n (ar d0 r)) ?_ ?_
  · refine AW.loop (ι := Nat) (fun k τ m3 => k ≤ j0 ∧ scanDown (fun x => !ltG x d0[a]!) d0 u k = v ∧ τ 12 = vI u ∧ τ 13 = vI k ∧ τ 0 = mar n L cap ∧ τ 1 = vI a ∧ τ 4 = cloC ∧ m3 = m.setLoc n (ar d0 r)) (fun k => k) j0 ?_ ?_
    · exact ⟨Nat.le_refl _, hv.symm, by simp [upd_lit, tI], by simp [upd_lit, tJ], by simp [upd_lit, t0], by simp [upd_lit, t1], by simp [upd_lit, t4], rfl⟩
    rintro k τ m3 ⟨hk, hE, tI, tJ, t0, t1, t4, rfl⟩
    by_cases hkj : u ≤ k
    rotate_left
    · have hE2 : scanDown (fun x => !ltG x d0[a]!) d0 u k = k := by
        cases k with
        | zero => rfl
        | succ w => rw [scanDown, if_neg (by simp; omega)]
      rw [hE2] at hE
      subst hE
      repeat (first | refine AW.seq ?_ | refine AW.block ?_ | refine AW.skip ?_ | refine AExit.norT ?_ | refine AExit.norB ?_ | refine AList.nil ?_)
      refine AW.draw [.S, .S, .S, .S, .S, .S, .S, .S, .R, .S, .S, .S, .R, .R, .S, .S, .S] (by decide +kernel) ?_; have F := (aand @tI (aand @tJ @hkj)); refine dS 0 ?_; refine dS 1 ?_; refine dS 2 ?_; refine dS 3 ?_; refine dXx 4 ?_; refine dXx 5 ?_; refine dXx 6 ?_; refine dXx 7 ?_; refine dXX 8 ?_; refine dXx 9 ?_; refine dXx 10 ?_; refine dXx 11 ?_; refine dXX 12 ?_; refine dXX 13 ?_; refine dXx 14 ?_; refine dXx 15 ?_; refine dS 16 ?_; (try clear F); first | refine dN ?_ | refine dB ?_ | refine DA.done (by decide +kernel) ?_
      refine tSa ?_
      exact ⟨rfl, by simp [upd_lit, tI], by simp [upd_lit, tJ], by simp [upd_lit, t0], by simp [upd_lit, t1], by simp [upd_lit, t4], rfl⟩
    obtain ⟨w, rfl⟩ : ∃ w, k = w + 1 := ⟨k - 1, by omega⟩
    have e4 : ((w + 1 : Nat) : Int) - 1 = (w : Int) := by omega
    rw [scanDown] at hE
    generalize hkk : w + 1 = k at *
    have k1 : k < d0.size := by omega
    have k2 : (k : Int) < L := by omega
    have a1 : a < d0.size := by omega
    have hcmp := cmpG (gt d0 k) (gt d0 a)
    repeat (first | refine AW.seq ?_ | refine AW.block ?_ | refine AW.skip ?_ | refine AExit.norT ?_ | refine AExit.norB ?_ | refine AList.nil ?_)
    refine AW.draw [.S, .S, .S, .S, .S, .S, .S, .S, .R, .S, .S, .S, .R, .R, .S, .S, .S] (by decide +kernel) ?_; have F := (aand @tI (aand @tJ (aand @t0 (aand @t1 (aand @t4 (aand @hkj (aand @k1 (aand @k2 (aand @a1 (aand @a2 (aand @hn (aand @ar_get @ar_fit)))))))))))); refine dS 0 ?_; refine dS 1 ?_; refine dS 2 ?_; refine dS 3 ?_; refine dSG 4 ?_; refine dSG 5 ?_; refine dSG 6 ?_; refine dSG 7 ?_; refine dRG 8 ?_; refine dSG 9 ?_; refine dSG 10 ?_; refine dSG 11 ?_; refine dRG 12 ?_; refine dCG ((hcmp)) 13 ?_; refine dSG 14 ?_; refine dSG 15 ?_; refine dS 16 ?_; (try clear F); first | refine dN ?_ | refine dB ?_ | refine DA.done (by decide +kernel) ?_
    by_cases hl : cmpV (gt d0 k).1 (gt d0 a).1 < 0
    · rw [if_neg (by simp only [gt_eq]; simp [ltG, hl])] at hE
      subst hE
      have F := @hl; refine tFa ?_; (try clear F)
      exact ⟨rfl, by simp [upd_lit, tI], by simp [upd_lit, tJ], by simp [upd_lit, t0], by simp [upd_lit, t1], by simp [upd_lit, t4], rfl⟩
    · rw [if_pos (by simp only [gt_eq]; simp only [ltG, hl, decide_true, decide_false, Bool.not_true, Bool.not_false, Bool.and_true, decide_eq_true_eq]; omega)] at hE
      have F := (aand @hl (aand @tJ @e4)); refine tFa ?_; (try clear F)
      exact ⟨w, ⟨by omega, hE, by simp [upd_lit, tI], by simp [upd_lit], by simp [upd_lit, t0], by simp [upd_lit, t1], by simp [upd_lit, t4], rfl⟩, by omega⟩
  rintro τ m3 ⟨tI, tJ, t0, t1, t4, rfl⟩
  have hv1 : v ≤ j0 := by rw [hv]; exact scanDown_le _ _ _ _
  rw [← hv] at hpt
  refine AExit.exiB ?_
  have v1 : v < d0.size := by omega
  have v2 : (v : Int) < L := by omega
  have a1 : a < d0.size := by omega
  by_cases hvu : v < u
  · rw [if_pos hvu] at hpt
    have F := (aand @tI (aand @tJ @hvu)); refine tFa ?_; (try clear F)
    repeat (first | refine AW.seq ?_ | refine AW.block ?_ | refine AW.skip ?_ | refine AExit.norT ?_ | refine AExit.norB ?_ | refine AList.nil ?_)
    refine AW.draw [.S, .S, .S, .S, .S, .S, .S, .R, .S, .S, .S, .R, .S, .W, .S, .W] (by decide +kernel) ?_; have F := (aand @tJ (aand @t0 (aand @t1 (aand @v1 (aand @v2 (aand @a1 (aand @a2 (aand @hn (aand @ar_get (aand @ar_fit (aand @ar_set @setLoc_setLoc))))))))))); refine dST 0 ?_; refine dST 1 ?_; refine dST 2 ?_; refine dST 3 ?_; refine dST 4 ?_; refine dST 5 ?_; refine dST 6 ?_; refine dRT 7 ?_; refine dST 8 ?_; refine dST 9 ?_; refine dST 10 ?_; refine dRT 11 ?_; refine dST 12 ?_; refine dW 13 ?_; refine dST 14 ?_; refine dW 15 ?_; (try clear F); first | refine dN ?_ | refine dB ?_ | refine DA.done (by decide +kernel) ?_
    simp only [put]
    rw [swp_gt]
    have F := @tJ; refine tF ?_; (try clear F)
    rw [hpt]
    exact Fin.here (r := .tup [vI v, vB true]) (by simp [ResP, ResL, resV, upd_lit, show Tryz.f182.results.toList = [.tmp 10, .tmp 11] from rfl]) (.inr rfl) ⟨rfl, rfl⟩
  rw [if_neg (by omega)] at hpt
  have u1 : u < d0.size := by omega
  have u2 : (u : Int) < L := by omega
  obtain ⟨w, hw⟩ : ∃ w, w + 1 = v := ⟨v - 1, by omega⟩
  have ew : (v : Int) - 1 = (w : Int) := by omega
  rw [show v - 1 = w from by omega] at hpt
  have F := (aand @tI (aand @tJ @hvu)); refine tFa ?_; (try clear F)
  repeat (first | refine AW.seq ?_ | refine AW.block ?_ | refine AW.skip ?_ | refine AExit.norT ?_ | refine AExit.norB ?_ | refine AList.nil ?_)
  refine AW.draw [.S, .S, .S, .S, .S, .S, .S, .R, .S, .S, .S, .R, .S, .W, .S, .W] (by decide +kernel) ?_; have F := (aand @tI (aand @tJ (aand @t0 (aand @u1 (aand @u2 (aand @v1 (aand @v2 (aand @hn (aand @ar_get (aand @ar_fit (aand @ar_set @setLoc_setLoc))))))))))); refine dST 0 ?_; refine dST 1 ?_; refine dST 2 ?_; refine dST 3 ?_; refine dST 4 ?_; refine dST 5 ?_; refine dST 6 ?_; refine dRT 7 ?_; refine dST 8 ?_; refine dST 9 ?_; refine dST 10 ?_; refine dRT 11 ?_; refine dST 12 ?_; refine dW 13 ?_; refine dST 14 ?_; refine dW 15 ?_; (try clear F); first | refine dN ?_ | refine dB ?_ | refine DA.done (by decide +kernel) ?_
  simp only [put]
  rw [swp_gt]
  have F := (aand @tI (aand @tJ @ew)); refine tF ?_; (try clear F)
  have hsS : (swp d0 u v).size = L := by rw [swp_size]; exact hs0
  generalize swp d0 u v = ds0 at *
  clear hu hv hs0 u1 v1 a1 v2 u2
  refine AW.loop (ι := Nat × Nat) (fun q σ m' => a + 1 ≤ q.1 ∧ q.1 ≤ b + 1 ∧ q.2 < b ∧ a ≤ q.2 ∧ σ 12 = vI q.1 ∧ σ 13 = vI q.2 ∧ σ 0 = mar n L cap ∧ σ 1 = vI a ∧ σ 4 = cloC ∧ ∃ d', d'.size = L ∧ partLoop ltG a q.1 q.2 d' = partLoop ltG a (u + 1) w ds0 ∧ m' = m.setLoc n (ar d' r)) (fun q => q.2 + 1 - q.1) (u + 1, w) ?_ ?_
  · exact ⟨by show a + 1 ≤ u + 1; omega, by show u + 1 ≤ b + 1; omega, by show w < b; omega, by show a ≤ w; omega, by simp [upd_lit], by simp [upd_lit], by simp [upd_lit, t0], by simp [upd_lit, t1], by simp [upd_lit, t4], ds0, hsS, rfl, rfl⟩
  clear tI tJ t0 t1 t4
  rintro ⟨i, j⟩ σ m' ⟨hi, hib, hj, haj, tI, tJ, t0, t1, t4, d1, hs, hD, rfl⟩
  simp only at hi hib hj haj tI tJ hD
  rw [← hD, partLoop_eq] at hpt
  rw [partLoop_eq] at hD
  repeat (first | refine AW.seq ?_ | refine AW.block ?_ | refine AW.skip ?_ | refine AExit.norT ?_ | refine AExit.norB ?_ | refine AList.nil ?_)
  obtain ⟨x, hx⟩ : ∃ z, z = scanUp (fun x => ltG x d1[a]!) d1 j i := ⟨_, rfl⟩
  refine AW.stepX 6 (fun τ m3 => τ 12 = vI x ∧ τ 13 = vI j ∧ τ 0 = mar n L cap ∧ τ 1 = vI a ∧ τ 4 = cloC ∧ m3 = m.setLoc n (ar d1 r)) ?_ ?_
  · refine AW.loop (ι := Nat) (fun k τ m3 => i ≤ k ∧ scanUp (fun x => ltG x d1[a]!) d1 j k = x ∧ τ 12 = vI k ∧ τ 13 = vI j ∧ τ 0 = mar n L cap ∧ τ 1 = vI a ∧ τ 4 = cloC ∧ m3 = m.setLoc n (ar d1 r)) (fun k => j + 1 - k) i ?_ ?_
    · exact ⟨Nat.le_refl _, hx.symm, by simp [upd_lit, tI], by simp [upd_lit, tJ], by simp [upd_lit, t0], by simp [upd_lit, t1], by simp [upd_lit, t4], rfl⟩
    rintro k τ m3 ⟨hk, hE, tI, tJ, t0, t1, t4, rfl⟩
    by_cases hkj : k ≤ j
    rotate_left
    · rw [scanUp, if_neg (by simp; omega)] at hE
      subst hE
      repeat (first | refine AW.seq ?_ | refine AW.block ?_ | refine AW.skip ?_ | refine AExit.norT ?_ | refine AExit.norB ?_ | refine AList.nil ?_)
      refine AW.draw [.S, .S, .S, .S, .S, .S, .S, .S, .R, .S, .S, .S, .R, .R, .S, .S] (by decide +kernel) ?_; have F := (aand @tI (aand @tJ @hkj)); refine dS 0 ?_; refine dS 1 ?_; refine dS 2 ?_; refine dS 3 ?_; refine dXx 4 ?_; refine dXx 5 ?_; refine dXx 6 ?_; refine dXx 7 ?_; refine dXX 8 ?_; refine dXx 9 ?_; refine dXx 10 ?_; refine dXx 11 ?_; refine dXX 12 ?_; refine dXX 13 ?_; refine dXx 14 ?_; refine dS 15 ?_; (try clear F); first | refine dN ?_ | refine dB ?_ | refine DA.done (by decide +kernel) ?_
      refine tSa ?_
      exact ⟨rfl, by simp [upd_lit, tI], by simp [upd_lit, tJ], by simp [upd_lit, t0], by simp [upd_lit, t1], by simp [upd_lit, t4], rfl⟩
    rw [scanUp] at hE
    have k1 : k < d1.size := by omega
    have k2 : (k : Int) < L := by omega
    have a1 : a < d1.size := by omega
    have hcmp := cmpG (gt d1 k) (gt d1 a)
    repeat (first | refine AW.seq ?_ | refine AW.block ?_ | refine AW.skip ?_ | refine AExit.norT ?_ | refine AExit.norB ?_ | refine AList.nil ?_)
    refine AW.draw [.S, .S, .S, .S, .S, .S, .S, .S, .R, .S, .S, .S, .R, .R, .S, .S] (by decide +kernel) ?_; have F := (aand @tI (aand @tJ (aand @t0 (aand @t1 (aand @t4 (aand @hkj (aand @k1 (aand @k2 (aand @a1 (aand @a2 (aand @hn (aand @ar_get @ar_fit)))))))))))); refine dS 0 ?_; refine dS 1 ?_; refine dS 2 ?_; refine dS 3 ?_; refine dSG 4 ?_; refine dSG 5 ?_; refine dSG 6 ?_; refine dSG 7 ?_; refine dRG 8 ?_; refine dSG 9 ?_; refine dSG 10 ?_; refine dSG 11 ?_; refine dRG 12 ?_; refine dCG ((hcmp)) 13 ?_; refine dSG 14 ?_; refine dS 15 ?_; (try clear F); first | refine dN ?_ | refine dB ?_ | refine DA.done (by decide +kernel) ?_
    by_cases hl : cmpV (gt d1 k).1 (gt d1 a).1 < 0
    · rw [if_pos (by simp only [gt_eq]; simp only [ltG, hl, decide_true, decide_false, Bool.not_true, Bool.not_false, Bool.and_true, decide_eq_true_eq]; omega)] at hE
      have F := (aand @hl @tI); refine tFa ?_; (try clear F)
      exact ⟨k + 1, ⟨by omega, hE, by simp [upd_lit], by simp [upd_lit, tJ], by simp [upd_lit, t0], by simp [upd_lit, t1], by simp [upd_lit, t4], rfl⟩, by omega⟩
    · rw [if_neg (by simp only [gt_eq]; simp [ltG, hl])] at hE
      subst hE
      have F := @hl; refine tFa ?_; (try clear F)
      exact ⟨rfl, by simp [upd_lit, tI], by simp [upd_lit, tJ], by simp [upd_lit, t0], by simp [upd_lit, t1], by simp [upd_lit, t4], rfl⟩
  rintro τ m3 ⟨tI, tJ, t0, t1, t4, rfl⟩
  have hu1 : i ≤ x ∧ x ≤ b + 1 := by
    have h1 := scanUp_spec (fun x => ltG x d1[a]!) d1 j _ i rfl
    rw [← hx] at h1
    by_cases hij : i ≤ j + 1
    · have := h1.2.1 hij; omega
    · have hx : scanUp (fun x => ltG x d1[a]!) d1 j i = i := by rw [scanUp, if_neg (by simp; omega)]
      omega
  rw [← hx] at hD hpt
  refine AExit.exiB ?_
  repeat (first | refine AW.seq ?_ | refine AW.block ?_ | refine AW.skip ?_ | refine AExit.norT ?_ | refine AExit.norB ?_ | refine AList.nil ?_)
  obtain ⟨y, hy⟩ : ∃ z, z = scanDown (fun x => !ltG x d1[a]!) d1 x j := ⟨_, rfl⟩
  refine AW.stepX 8 (fun τ m3 => τ 12 = vI x ∧ τ 13 = vI y ∧ τ 0 = mar n L cap ∧ τ 1 = vI a ∧ τ 4 = cloC ∧ m3 = m.setLoc n (ar d1 r)) ?_ ?_
  · refine AW.loop (ι := Nat) (fun k τ m3 => k ≤ j ∧ scanDown (fun x => !ltG x d1[a]!) d1 x k = y ∧ τ 12 = vI x ∧ τ 13 = vI k ∧ τ 0 = mar n L cap ∧ τ 1 = vI a ∧ τ 4 = cloC ∧ m3 = m.setLoc n (ar d1 r)) (fun k => k) j ?_ ?_
    · exact ⟨Nat.le_refl _, hy.symm, by simp [upd_lit, tI], by simp [upd_lit, tJ], by simp [upd_lit, t0], by simp [upd_lit, t1], by simp [upd_lit, t4], rfl⟩
    rintro k τ m3 ⟨hk, hE, tI, tJ, t0, t1, t4, rfl⟩
    by_cases hkj : x ≤ k
    rotate_left
    · have hE2 : scanDown (fun x => !ltG x d1[a]!) d1 x k = k := by
        cases k with
        | zero => rfl
        | succ w => rw [scanDown, if_neg (by simp; omega)]
      rw [hE2] at hE
      subst hE
      repeat (first | refine AW.seq ?_ | refine AW.block ?_ | refine AW.skip ?_ | refine AExit.norT ?_ | refine AExit.norB ?_ | refine AList.nil ?_)
      refine AW.draw [.S, .S, .S, .S, .S, .S, .S, .S, .R, .S, .S, .S, .R, .R, .S, .S, .S] (by decide +kernel) ?_; have F := (aand @tI (aand @tJ @hkj)); refine dS 0 ?_; refine dS 1 ?_; refine dS 2 ?_; refine dS 3 ?_; refine dXx 4 ?_; refine dXx 5 ?_; refine dXx 6 ?_; refine dXx 7 ?_; refine dXX 8 ?_; refine dXx 9 ?_; refine dXx 10 ?_; refine dXx 11 ?_; refine dXX 12 ?_; refine dXX 13 ?_; refine dXx 14 ?_; refine dXx 15 ?_; refine dS 16 ?_; (try clear F); first | refine dN ?_ | refine dB ?_ | refine DA.done (by decide +kernel) ?_
      refine tSa ?_
      exact ⟨rfl, by simp [upd_lit, tI], by simp [upd_lit, tJ], by simp [upd_lit, t0], by simp [upd_lit, t1], by simp [upd_lit, t4], rfl⟩
    obtain ⟨w, rfl⟩ : ∃ w, k = w + 1 := ⟨k - 1, by omega⟩
    have e4 : ((w + 1 : Nat) : Int) - 1 = (w : Int) := by omega
    rw [scanDown] at hE
    generalize hkk : w + 1 = k at *
    have k1 : k < d1.size := by omega
    have k2 : (k : Int) < L := by omega
    have a1 : a < d1.size := by omega
    have hcmp := cmpG (gt d1 k) (gt d1 a)
    repeat (first | refine AW.seq ?_ | refine AW.block ?_ | refine AW.skip ?_ | refine AExit.norT ?_ | refine AExit.norB ?_ | refine AList.nil ?_)
    refine AW.draw [.S, .S, .S, .S, .S, .S, .S, .S, .R, .S, .S, .S, .R, .R, .S, .S, .S] (by decide +kernel) ?_; have F := (aand @tI (aand @tJ (aand @t0 (aand @t1 (aand @t4 (aand @hkj (aand @k1 (aand @k2 (aand @a1 (aand @a2 (aand @hn (aand @ar_get @ar_fit)))))))))))); refine dS 0 ?_; refine dS 1 ?_; refine dS 2 ?_; refine dS 3 ?_; refine dSG 4 ?_; refine dSG 5 ?_; refine dSG 6 ?_; refine dSG 7 ?_; refine dRG 8 ?_; refine dSG 9 ?_; refine dSG 10 ?_; refine dSG 11 ?_; refine dRG 12 ?_; refine dCG ((hcmp)) 13 ?_; refine dSG 14 ?_; refine dSG 15 ?_; refine dS 16 ?_; (try clear F); first | refine dN ?_ | refine dB ?_ | refine DA.done (by decide +kernel) ?_
    by_cases hl : cmpV (gt d1 k).1 (gt d1 a).1 < 0
    · rw [if_neg (by simp only [gt_eq]; simp [ltG, hl])] at hE
      subst hE
      have F := @hl; refine tFa ?_; (try clear F)
      exact ⟨rfl, by simp [upd_lit, tI], by simp [upd_lit, tJ], by simp [upd_lit, t0], by simp [upd_lit, t1], by simp [upd_lit, t4], rfl⟩
    · rw [if_pos (by simp only [gt_eq]; simp only [ltG, hl, decide_true, decide_false, Bool.not_true, Bool.not_false, Bool.and_true, decide_eq_true_eq]; omega)] at hE
      have F := (aand @hl (aand @tJ @e4)); refine tFa ?_; (try clear F)
      exact ⟨w, ⟨by omega, hE, by simp [upd_lit, tI], by simp [upd_lit], by simp [upd_lit, t0], by simp [upd_lit, t1], by simp [upd_lit, t4], rfl⟩, by omega⟩
  rintro τ m3 ⟨tI, tJ, t0, t1, t4, rfl⟩
  have hy1 : y ≤ j := by rw [hy]; exact scanDown_le _ _ _ _
  have hy2 : a ≤ y := by
    have h1 := (scanDown_spec (fun x => !ltG x d1[a]!) d1 x j).2.1
    rw [← hy] at h1
    by_cases hxj : x ≤ j + 1
    · have := h1 hxj; omega
    · have : scanDown (fun x => !ltG x d1[a]!) d1 x j = j := by
        cases j with
        | zero => rfl
        | succ w => rw [scanDown, if_neg (by simp; omega)]
      omega
  rw [← hy] at hD hpt
  refine AExit.exiB ?_
  have y1 : y < d1.size := by omega
  have y2 : (y : Int) < L := by omega
  have a1 : a < d1.size := by omega
  by_cases hyx : y < x
  · rw [if_pos hyx] at hpt
    have F := (aand @tI (aand @tJ @hyx)); refine tFa ?_; (try clear F)
    repeat (first | refine AW.seq ?_ | refine AW.block ?_ | refine AW.skip ?_ | refine AExit.norT ?_ | refine AExit.norB ?_ | refine AList.nil ?_)
    refine AW.draw [.S, .S, .S, .S, .S, .S, .S, .R, .S, .S, .S, .R, .S, .W, .S, .W] (by decide +kernel) ?_; have F := (aand @tJ (aand @t0 (aand @t1 (aand @y1 (aand @y2 (aand @a1 (aand @a2 (aand @hn (aand @ar_get (aand @ar_fit (aand @ar_set @setLoc_setLoc))))))))))); refine dST 0 ?_; refine dST 1 ?_; refine dST 2 ?_; refine dST 3 ?_; refine dST 4 ?_; refine dST 5 ?_; refine dST 6 ?_; refine dRT 7 ?_; refine dST 8 ?_; refine dST 9 ?_; refine dST 10 ?_; refine dRT 11 ?_; refine dST 12 ?_; refine dW 13 ?_; refine dST 14 ?_; refine dW 15 ?_; (try clear F); first | refine dN ?_ | refine dB ?_ | refine DA.done (by decide +kernel) ?_
    simp only [put]
    rw [swp_gt]
    have F := @tJ; refine tF ?_; (try clear F)
    rw [hpt]
    exact Fin.here (r := .tup [vI y, vB false]) (by simp [ResP, ResL, resV, upd_lit, show Tryz.f182.results.toList = [.tmp 10, .tmp 11] from rfl]) (.inr rfl) ⟨rfl, rfl⟩
  rw [if_neg (by omega)] at hD
  have x1 : x < d1.size := by omega
  have x2 : (x : Int) < L := by omega
  obtain ⟨z, hz⟩ : ∃ z, z + 1 = y := ⟨y - 1, by omega⟩
  have ez : (y : Int) - 1 = (z : Int) := by omega
  rw [show y - 1 = z from by omega] at hD
  have F := (aand @tI (aand @tJ @hyx)); refine tFa ?_; (try clear F)
  repeat (first | refine AW.seq ?_ | refine AW.block ?_ | refine AW.skip ?_ | refine AExit.norT ?_ | refine AExit.norB ?_ | refine AList.nil ?_)
  refine AW.draw [.S, .S, .S, .S, .S, .S, .S, .R, .S, .S, .S, .R, .S, .W, .S, .W] (by decide +kernel) ?_; have F := (aand @tI (aand @tJ (aand @t0 (aand @x1 (aand @x2 (aand @y1 (aand @y2 (aand @hn (aand @ar_get (aand @ar_fit (aand @ar_set @setLoc_setLoc))))))))))); refine dST 0 ?_; refine dST 1 ?_; refine dST 2 ?_; refine dST 3 ?_; refine dST 4 ?_; refine dST 5 ?_; refine dST 6 ?_; refine dRT 7 ?_; refine dST 8 ?_; refine dST 9 ?_; refine dST 10 ?_; refine dRT 11 ?_; refine dST 12 ?_; refine dW 13 ?_; refine dST 14 ?_; refine dW 15 ?_; (try clear F); first | refine dN ?_ | refine dB ?_ | refine DA.done (by decide +kernel) ?_
  simp only [put]
  rw [swp_gt]
  have F := (aand @tI (aand @tJ @ez)); refine tF ?_; (try clear F)
  exact ⟨(x + 1, z), ⟨by show a + 1 ≤ x + 1; omega, by show x + 1 ≤ b + 1; omega, by show z < b; omega, by show a ≤ z; omega, by simp [upd_lit], by simp [upd_lit], by simp [upd_lit, t0], by simp [upd_lit, t1], by simp [upd_lit, t4], _, by rw [swp_size]; exact hs, hD, rfl⟩, by show z + 1 - (x + 1) < j + 1 - i; omega⟩
end Go.Proofs.YtgfadepkiejncaaGreat
namespace Go.Ab
theorem AW.stepR {P : Program} {N : Nat} {Q : APost} {σ : Nat → PV} {m : St} {c : Code} (I J : (Nat → PV) → St → Prop) (h : AW P N c (fun y σ m => (y = .normal ∧ I σ m) ∨ (y = .ret ∧ J σ m)) σ m) (k : ∀ σ m, I σ m → Q .normal σ m) (kr : ∀ σ m, J σ m → Q .ret σ m) : AW P N c Q σ m :=
  AW.mono h fun _ _ _ hx => by
    rcases hx with ⟨e, hi⟩ | ⟨e, hi⟩
    · exact e ▸ k _ _ hi
    · exact e ▸ kr _ _ hi
end Go.Ab
namespace Go.Proofs.YtgfadepkiejncaaGreat
open Go.Ab Go.Sort
set_option maxHeartbeats 0
set_option maxRecDepth 100000
attribute [local irreducible] AW AList ACall DA AExit.then AExit.inBlock YCall DCall
def PdqOK (k : Nat) : Prop := ∀ {m : St} {n L cap : Nat} {d : Array GG} {r : List PV}, Arr m n L d r → (∀ k t, PV.scL k t r) → ∀ a b limit : Nat, b - a = k → a ≤ b → b ≤ L → limit ≤ 1099511627776 → Below ltG a b d →
  ACall Tryz.prog 165 [mar n L cap, vI a, vI b, vI limit, cloC] m (fun r' m' => ∃ R, PermIn a b d R ∧ SortedIn ltG a b R ∧ r' = .ret (.tup []) ∧ m' = m.setLoc n (ar R r))
theorem pdqG (k : Nat) : PdqOK k := by
  induction k using Nat.strongRecOn with
  | ind k ih =>
  intro m n L cap d r H hr a b limit hk hab hb hlim hBe
  have hn := H.lt
  have hm := H.loc
  have hL := H.size
  have hS := H.small
  refine ACall.of_aw Tryz.func165 Tryz.ntmps165 rfl rfl (by simp) ?_
  refine tS ?_
  refine AW.loop (ι := Nat) (fun l σ m' => ∃ (a1 b1 lim : Nat) (wb wp : Bool) (d1 : Array GG), b1 - a1 = l ∧ l ≤ k ∧ a1 ≤ b1 ∧ b1 ≤ L ∧ lim ≤ 1099511627776 ∧ PermIn 0 L d d1 ∧ Below ltG a1 b1 d1 ∧ (∀ R, PermIn a1 b1 d1 R → SortedIn ltG a1 b1 R → PermIn a b d R ∧ SortedIn ltG a b R) ∧
    σ 10 = vB wb ∧ σ 11 = vB wp ∧ σ 0 = mar n L cap ∧ σ 1 = vI a1 ∧ σ 2 = vI b1 ∧ σ 3 = vI lim ∧ σ 4 = cloC ∧ m' = m.setLoc n (ar d1 r)) (fun l => l) k ?_ ?_
  · exact ⟨a, b, limit, true, true, d, hk, Nat.le_refl _, hab, hb, hlim, permIn_refl _ _ _, hBe, fun R h1 h2 => ⟨h1, h2⟩, by simp [upd_lit], by simp [upd_lit], by simp [upd_lit], by simp [upd_lit], by simp [upd_lit], by simp [upd_lit], by simp [upd_lit], (setLoc_self hm).symm⟩
  rintro l σ m' ⟨a1, b1, lim, wb, wp, d1, hl, hlk, hab1, hb1, hlim1, hP1, hB1, hfin, t10, t11, t0, t1, t2, t3, t4, rfl⟩
  have hs1 : d1.size = L := by rw [hP1.1]; exact hL
  have H1 := H.set d1 hs1
  have el : (b1 : Int) - a1 = (l : Int) := by omega
  have F := (aand @t1 (aand @t2 @el)); refine tF ?_; (try clear F)
  by_cases h12 : (l : Int) ≤ 12
  · have F := @h12; refine tFa ?_; (try clear F)
    have F := (aand @t0 (aand @t1 (aand @t2 @t4))); refine tF1 fun K Kp hK hKp => ?_; (try clear F); refine GivesTo.at (insertion H1 a1 b1 (by omega) (by omega)) ?_; apply hK; clear hK hKp K Kp
    refine tSa ?_
    have hI := insertionSort_holds ltG_swo d1 a1 b1 hab1 (by omega)
    exact Fin.here (r := .tup []) (by exact ⟨[], rfl, rfl⟩) (.inr rfl) ⟨_, (hfin _ hI.1 hI.2).1, (hfin _ hI.1 hI.2).2, rfl, by rw [setLoc_setLoc]⟩
  by_cases hlz : lim = 0
  · have hlz2 : (lim : Int) = 0 := by omega
    have F := (aand @h12 (aand @t3 (aand @hlz @hlz2))); refine tFa ?_; (try clear F)
    have F := (aand @t0 (aand @t1 (aand @t2 @t4))); refine tF1 fun K Kp hK hKp => ?_; (try clear F); refine GivesTo.at (heap H1 a1 b1 (by omega) (by omega)) ?_; apply hK; clear hK hKp K Kp
    refine tSa ?_
    have hI := heapSort_holds ltG_swo d1 a1 b1 hab1 (by omega)
    exact Fin.here (r := .tup []) (by exact ⟨[], rfl, rfl⟩) (.inr rfl) ⟨_, (hfin _ hI.1 hI.2).1, (hfin _ hI.1 hI.2).2, rfl, by rw [setLoc_setLoc]⟩
  have hlz2 : ¬ (lim : Int) = 0 := by omega
  have F := (aand @h12 (aand @t3 (aand @hlz @hlz2))); refine tFa ?_; (try clear F)
  have hlt : a1 < b1 := by omega
  have F := @t10; refine tF ?_; (try clear F)
  refine AW.step (fun τ m' => ∃ (d2 : Array GG) (lim2 : Nat), lim2 ≤ 1099511627776 ∧ PermIn a1 b1 d1 d2 ∧ τ 13 = σ 13 ∧ τ 10 = vB wb ∧ τ 11 = vB wp ∧ τ 0 = mar n L cap ∧ τ 1 = vI a1 ∧ τ 2 = vI b1 ∧ τ 3 = vI lim2 ∧ τ 4 = cloC ∧ τ 12 = vI l ∧ m' = m.setLoc n (ar d2 r)) ?_ ?_
  · cases wb with
    | true =>
      have F := @t10; refine tFa ?_; (try clear F)
      exact ⟨rfl, d1, lim, hlim1, permIn_refl _ _ _, by simp [upd_lit], by simp [upd_lit, t10], by simp [upd_lit, t11], by simp [upd_lit, t0], by simp [upd_lit, t1], by simp [upd_lit, t2], by simp [upd_lit, t3], by simp [upd_lit, t4], by simp [upd_lit], rfl⟩
    | false =>
      obtain ⟨lim2, hl2⟩ : ∃ x, x + 1 = lim := ⟨lim - 1, by omega⟩
      have e2 : (lim : Int) - 1 = (lim2 : Int) := by omega
      have F := @t10; refine tFa ?_; (try clear F)
      have F := (aand @t0 (aand @t1 (aand @t2 @t4))); refine tF1 fun K Kp hK hKp => ?_; (try clear F); refine ACall.mono (breakG H1 hr a1 b1 (by omega) (by omega)) ?_
      rintro _ _ ⟨d2, hp2, rfl, rfl⟩
      refine hK _ _ ?_; clear hK hKp K Kp
      have F := (aand @t3 @e2); refine tF ?_; (try clear F)
      exact ⟨rfl, d2, lim2, by omega, hp2, by simp [upd_lit], by simp [upd_lit, t10], by simp [upd_lit, t11], by simp [upd_lit, t0], by simp [upd_lit, t1], by simp [upd_lit, t2], by simp [upd_lit, t3], by simp [upd_lit, t4], by simp [upd_lit], by rw [setLoc_setLoc]⟩
  clear t10 t11 t0 t1 t2 t3 t4
  rintro τ m' ⟨d2, lim2, hlim2, hp12, -, t10, t11, t0, t1, t2, t3, t4, t12, rfl⟩
  have hs2 : d2.size = L := by rw [hp12.1]; exact hs1
  have H2 := H.set d2 hs2
  have F := (aand @t0 (aand @t1 (aand @t2 @t4))); refine tF ?_; (try clear F)
  refine tS1 fun K Kp hK hKp => ?_; refine ACall.mono (choosePivotG H2 a1 b1 hlt (by omega)) ?_
  rintro _ _ ⟨x, h, hx1, hx2, hh, rfl, rfl⟩
  refine hK _ _ ?_; clear hK hKp K Kp
  refine tS ?_
  refine AW.step (fun τ m' => ∃ (d3 : Array GG) (piv h2 : Nat), PermIn a1 b1 d1 d3 ∧ a1 ≤ piv ∧ piv < b1 ∧ τ 13 = vI piv ∧ τ 14 = vI h2 ∧ τ 10 = vB wb ∧ τ 11 = vB wp ∧ τ 0 = mar n L cap ∧ τ 1 = vI a1 ∧ τ 2 = vI b1 ∧ τ 3 = vI lim2 ∧ τ 4 = cloC ∧ τ 12 = vI l ∧ m' = m.setLoc n (ar d3 r)) ?_ ?_
  · by_cases hh2 : (h : Int) = 2
    · have F := @hh2; refine tFa ?_; (try clear F)
      have F := (aand @t0 (aand @t1 (aand @t2 @t4))); refine tF1 fun K Kp hK hKp => ?_; (try clear F); refine GivesTo.at (reverseG H2 a1 b1 hlt (by omega)) ?_; apply hK; clear hK hKp K Kp
      obtain ⟨q1, hq1⟩ : ∃ q, q + 1 = b1 := ⟨b1 - 1, by omega⟩
      have eq1 : (b1 : Int) - 1 = (q1 : Int) := by omega
      obtain ⟨q2, hq2⟩ : ∃ q, q = x - a1 := ⟨_, rfl⟩
      have eq2 : (x : Int) - a1 = (q2 : Int) := by omega
      obtain ⟨q3, hq3⟩ : ∃ q, q = q1 - q2 := ⟨_, rfl⟩
      have eq3 : (q1 : Int) - q2 = (q3 : Int) := by omega
      have F := (aand @t2 (aand @t1 (aand @eq1 (aand @eq2 @eq3)))); refine tF ?_; (try clear F)
      exact ⟨rfl, _, q3, 1, permIn_trans _ _ _ _ _ hp12 (reverseRange_holds d2 a1 b1 hab1 (by omega)), by omega, by omega, by simp [upd_lit], by simp [upd_lit], by simp [upd_lit, t10], by simp [upd_lit, t11], by simp [upd_lit, t0], by simp [upd_lit, t1], by simp [upd_lit, t2], by simp [upd_lit, t3], by simp [upd_lit, t4], by simp [upd_lit, t12], by rw [setLoc_setLoc]⟩
    · have F := @hh2; refine tFa ?_; (try clear F)
      exact ⟨rfl, d2, x, h, hp12, hx1, hx2, by simp [upd_lit], by simp [upd_lit], by simp [upd_lit, t10], by simp [upd_lit, t11], by simp [upd_lit, t0], by simp [upd_lit, t1], by simp [upd_lit, t2], by simp [upd_lit, t3], by simp [upd_lit, t4], by simp [upd_lit, t12], rfl⟩
  clear t10 t11 t0 t1 t2 t3 t4 t12 hs2 H2 hp12 hh hx1 hx2 d2
  rintro τ m' ⟨d3, piv, h2, hp13, hv1, hv2, t13, t14, t10, t11, t0, t1, t2, t3, t4, t12, rfl⟩
  have hs3 : d3.size = L := by rw [hp13.1]; exact hs1
  have H3 := H.set d3 hs3
  have hB3 := hB1.perm (by omega) hp13
  refine AExit.norT ?_
  refine AW.seq ?_
  refine AW.stepR (fun τ m' => ∃ (d4 : Array GG), PermIn a1 b1 d1 d4 ∧ τ 13 = vI piv ∧ τ 10 = vB wb ∧ τ 11 = vB wp ∧ τ 0 = mar n L cap ∧ τ 1 = vI a1 ∧ τ 2 = vI b1 ∧ τ 3 = vI lim2 ∧ τ 4 = cloC ∧ τ 12 = vI l ∧ m' = m.setLoc n (ar d4 r)) (fun τ m' => ∃ R, PermIn a1 b1 d1 R ∧ SortedIn ltG a1 b1 R ∧ m' = m.setLoc n (ar R r)) ?_ ?_ ?_
  · have skip : ∀ ρ : Nat → PV, ρ 13 = vI piv → (ρ 10 = vB wb ∧ ρ 11 = vB wp ∧ ρ 0 = mar n L cap ∧ ρ 1 = vI a1 ∧ ρ 2 = vI b1 ∧ ρ 3 = vI lim2 ∧ ρ 4 = cloC ∧ ρ 12 = vI l) → ∃ (d4 : Array GG), PermIn a1 b1 d1 d4 ∧ ρ 13 = vI piv ∧ ρ 10 = vB wb ∧ ρ 11 = vB wp ∧ ρ 0 = mar n L cap ∧ ρ 1 = vI a1 ∧ ρ 2 = vI b1 ∧ ρ 3 = vI lim2 ∧ ρ 4 = cloC ∧ ρ 12 = vI l ∧ m.setLoc n (ar d3 r) = m.setLoc n (ar d4 r) :=
      fun ρ h13 ⟨h10, h11, h0, h1, h2, h3, h4, h12⟩ => ⟨d3, hp13, h13, h10, h11, h0, h1, h2, h3, h4, h12, rfl⟩
    cases wb with
    | false =>
      have F := @t10; refine tFa ?_; (try clear F)
      exact .inl ⟨rfl, skip _ (by simp [upd_lit, t13]) ⟨by simp [upd_lit, t10], by simp [upd_lit, t11], by simp [upd_lit, t0], by simp [upd_lit, t1], by simp [upd_lit, t2], by simp [upd_lit, t3], by simp [upd_lit, t4], by simp [upd_lit, t12]⟩⟩
    | true =>
    cases wp with
    | false =>
      have F := (aand @t10 @t11); refine tFa ?_; (try clear F)
      exact .inl ⟨rfl, skip _ (by simp [upd_lit, t13]) ⟨by simp [upd_lit, t10], by simp [upd_lit, t11], by simp [upd_lit, t0], by simp [upd_lit, t1], by simp [upd_lit, t2], by simp [upd_lit, t3], by simp [upd_lit, t4], by simp [upd_lit, t12]⟩⟩
    | true =>
    by_cases hh1 : h2 = 1
    rotate_left
    · have hh1' : ¬ (h2 : Int) = 1 := by omega
      have F := (aand @t10 (aand @t11 (aand @t14 (aand @hh1 @hh1')))); refine tFa ?_; (try clear F)
      exact .inl ⟨rfl, skip _ (by simp [upd_lit, t13]) ⟨by simp [upd_lit, t10], by simp [upd_lit, t11], by simp [upd_lit, t0], by simp [upd_lit, t1], by simp [upd_lit, t2], by simp [upd_lit, t3], by simp [upd_lit, t4], by simp [upd_lit, t12]⟩⟩
    have hh1' : (h2 : Int) = 1 := by omega
    have F := (aand @t10 (aand @t11 (aand @t14 @hh1'))); refine tFa ?_; (try clear F)
    have F := (aand @t0 (aand @t1 (aand @t2 @t4))); refine tF1 fun K Kp hK hKp => ?_; (try clear F); refine GivesTo.at (partialG H3 a1 b1 hlt (by omega)) ?_; apply hK; clear hK hKp K Kp
    have hpi := partialInsertionSort_holds ltG_swo d3 a1 b1 hlt (by omega) hB3
    cases hres : (partialInsertionSort ltG d3 a1 b1).2 with
    | true =>
      refine tSa ?_
      exact .inr ⟨rfl, _, permIn_trans _ _ _ _ _ hp13 hpi.1, hpi.2 hres, by rw [setLoc_setLoc]⟩
    | false =>
      refine tSa ?_
      exact .inl ⟨rfl, _, permIn_trans _ _ _ _ _ hp13 hpi.1, by simp [upd_lit, t13], by simp [upd_lit, t10], by simp [upd_lit, t11], by simp [upd_lit, t0], by simp [upd_lit, t1], by simp [upd_lit, t2], by simp [upd_lit, t3], by simp [upd_lit, t4], by simp [upd_lit, t12], by rw [setLoc_setLoc]⟩
  rotate_left
  · rintro τ m' ⟨R, hR1, hR2, rfl⟩
    have hF := hfin R hR1 hR2
    refine tSa ?_
    exact Fin.here (r := .tup []) (by exact ⟨[], rfl, rfl⟩) (.inr rfl) ⟨R, hF.1, hF.2, rfl, rfl⟩
  clear t10 t11 t0 t1 t2 t3 t4 t12 t13 t14 hs3 H3 hp13 hB3 d3
  rintro τ m' ⟨d4, hp14, t13, t10, t11, t0, t1, t2, t3, t4, t12, rfl⟩
  have hs4 : d4.size = L := by rw [hp14.1]; exact hs1
  have H4 := H.set d4 hs4
  have hB4 := hB1.perm (by omega) hp14
  have hP4 : PermIn 0 L d d4 := permIn_trans _ _ _ _ _ hP1 (permIn_mono _ _ a1 b1 0 L (by omega) hb1 (by omega) hp14)
  refine AExit.norT ?_
  refine AW.seq ?_
  refine AW.seq ?_
  have v1 : piv < d4.size := by omega
  have v2 : (piv : Int) < L := by omega
  refine AW.step (fun τ m' => τ 97 = vB (decide (0 < a1) && !ltG (gt d4 (a1 - 1)) (gt d4 piv)) ∧ τ 13 = vI piv ∧ τ 10 = vB wb ∧ τ 11 = vB wp ∧ τ 0 = mar n L cap ∧ τ 1 = vI a1 ∧ τ 2 = vI b1 ∧ τ 3 = vI lim2 ∧ τ 4 = cloC ∧ τ 12 = vI l ∧ m' = m.setLoc n (ar d4 r)) ?_ ?_
  · by_cases ha0 : 0 < a1
    · have ha0' : (0 : Int) < a1 := by omega
      obtain ⟨w, hw⟩ : ∃ w, w + 1 = a1 := ⟨a1 - 1, by omega⟩
      have ew : (a1 : Int) - 1 = (w : Int) := by omega
      have w1 : w < d4.size := by omega
      have w2 : (w : Int) < L := by omega
      have hcmp := cmpG (gt d4 w) (gt d4 piv)
      rw [show a1 - 1 = w from by omega]
      refine AW.draw [.S, .S, .S, .S, .S, .S, .S, .S, .R, .S, .S, .S, .R, .R, .S, .S, .S] (by decide +kernel) ?_; have F := (aand @t0 (aand @t1 (aand @t4 (aand @t13 (aand @ha0 (aand @ha0' (aand @ew (aand @w1 (aand @w2 (aand @v1 (aand @v2 (aand @hn (aand @ar_get @ar_fit))))))))))))); refine dS 0 ?_; refine dS 1 ?_; refine dS 2 ?_; refine dSG 3 ?_; refine dSG 4 ?_; refine dSG 5 ?_; refine dSG 6 ?_; refine dSG 7 ?_; refine dRG 8 ?_; refine dSG 9 ?_; refine dSG 10 ?_; refine dSG 11 ?_; refine dRG 12 ?_; refine dCG ((hcmp)) 13 ?_; refine dSG 14 ?_; refine dSG 15 ?_; refine dS 16 ?_; (try clear F); first | refine dN ?_ | refine dB ?_ | refine DA.done (by decide +kernel) ?_
      exact ⟨rfl, by simp [upd_lit, ha0, ltG], by simp [upd_lit, t13], by simp [upd_lit, t10], by simp [upd_lit, t11], by simp [upd_lit, t0], by simp [upd_lit, t1], by simp [upd_lit, t2], by simp [upd_lit, t3], by simp [upd_lit, t4], by simp [upd_lit, t12], rfl⟩
    · have ha0' : ¬ (0 : Int) < a1 := by omega
      refine AW.draw [.S, .S, .S, .S, .S, .S, .S, .S, .R, .S, .S, .S, .R, .R, .S, .S, .S] (by decide +kernel) ?_; have F := (aand @t1 (aand @ha0 @ha0')); refine dS 0 ?_; refine dS 1 ?_; refine dS 2 ?_; refine dXx 3 ?_; refine dXx 4 ?_; refine dXx 5 ?_; refine dXx 6 ?_; refine dXx 7 ?_; refine dXX 8 ?_; refine dXx 9 ?_; refine dXx 10 ?_; refine dXx 11 ?_; refine dXX 12 ?_; refine dXX 13 ?_; refine dXx 14 ?_; refine dXx 15 ?_; refine dS 16 ?_; (try clear F); first | refine dN ?_ | refine dB ?_ | refine DA.done (by decide +kernel) ?_
      exact ⟨rfl, by simp [upd_lit, ha0], by simp [upd_lit, t13], by simp [upd_lit, t10], by simp [upd_lit, t11], by simp [upd_lit, t0], by simp [upd_lit, t1], by simp [upd_lit, t2], by simp [upd_lit, t3], by simp [upd_lit, t4], by simp [upd_lit, t12], rfl⟩
  clear t10 t11 t0 t1 t2 t3 t4 t12 t13
  rintro τ m' ⟨t97, t13, t10, t11, t0, t1, t2, t3, t4, t12, rfl⟩
  cases hc : (decide (0 < a1) && !ltG (gt d4 (a1 - 1)) (gt d4 piv)) with
  | true =>
    rw [hc] at t97
    simp only [Bool.and_eq_true, decide_eq_true_eq, Bool.not_eq_true'] at hc
    have F := @t97; refine tFa ?_; (try clear F)
    have F := (aand @t0 (aand @t1 (aand @t2 (aand @t4 @t13)))); refine tF1 fun K Kp hK hKp => ?_; (try clear F); refine GivesTo.at (partitionEqualG H4 a1 b1 piv hv1 hv2 (by omega)) ?_; apply hK; clear hK hKp K Kp
    obtain ⟨mid, d5, hpe⟩ : ∃ mid d5, partitionEqual ltG d4 a1 b1 piv = (mid, d5) := ⟨_, _, rfl⟩
    obtain ⟨g1, g2, g3, g4, g5⟩ := round_eq ltG_swo (partitionEqual_holds ltG) hc.1 hv1 hv2 (by omega) hB4 hc.2 hpe
    rw [hpe]
    dsimp only
    have hPm : PermIn 0 L d d5 := by
      have := partitionEqual_holds ltG ltG_swo d4 a1 b1 piv hv1 hv2 (by omega) (fun i h1 h2 => by
        rcases hB4 with h0 | hB4
        · omega
        · exact ltG_swo.ntrans _ _ _ (hB4 i h1 h2) hc.2)
      rw [hpe] at this
      exact permIn_trans _ _ _ _ _ hP4 (permIn_mono _ _ a1 b1 0 L (by omega) hb1 (by omega) this.2.2.1)
    refine tS ?_
    exact ⟨b1 - mid, ⟨mid, b1, lim2, wb, wp, d5, rfl, by omega, g2, hb1, hlim2, hPm, g4, fun R h1 h2 => by
      have := g5 R h1 h2
      exact hfin R (permIn_trans _ _ _ _ _ hp14 this.1) this.2, by simp [upd_lit, t10], by simp [upd_lit, t11], by simp [upd_lit, t0], by simp [upd_lit], by simp [upd_lit, t2], by simp [upd_lit, t3], by simp [upd_lit, t4], by rw [setLoc_setLoc]⟩, by omega⟩
  | false =>
    rw [hc] at t97
    have F := @t97; refine tFa ?_; (try clear F)
    have F := (aand @t0 (aand @t1 (aand @t2 (aand @t4 @t13)))); refine tF1 fun K Kp hK hKp => ?_; (try clear F); refine GivesTo.at (partitionG H4 a1 b1 piv hv1 hv2 (by omega)) ?_; apply hK; clear hK hKp K Kp
    obtain ⟨mid, ap, d5, hpe⟩ : ∃ mid ap d5, partition ltG d4 a1 b1 piv = (mid, ap, d5) := ⟨_, _, _, rfl⟩
    obtain ⟨g1, g2, g3, g4, g5, g6, g7⟩ := round_part ltG_swo (partition_holds ltG) hv1 hv2 (by omega) hB4 hpe
    have hPm : PermIn 0 L d d5 := by
      have := partition_holds ltG ltG_swo d4 a1 b1 piv hv1 hv2 (by omega)
      rw [hpe] at this
      exact permIn_trans _ _ _ _ _ hP4 (permIn_mono _ _ a1 b1 0 L (by omega) hb1 (by omega) this.2.2.1)
    rw [hpe]
    dsimp only
    have hs5 : d5.size = L := by rw [g3]; exact hs4
    have H5 := H.set d5 hs5
    obtain ⟨x1, hx1⟩ : ∃ x, x = mid - a1 := ⟨_, rfl⟩
    have ex1 : (mid : Int) - a1 = (x1 : Int) := by omega
    obtain ⟨y1, hy1⟩ : ∃ x, x = b1 - mid := ⟨_, rfl⟩
    have ey1 : (b1 : Int) - mid = (y1 : Int) := by omega
    obtain ⟨z1, hz1⟩ : ∃ x, x = l / 8 := ⟨_, rfl⟩
    have ez1 : (l : Int).tdiv 8 = (z1 : Int) := by rw [hz1]; rfl
    obtain ⟨m1, hm1⟩ : ∃ x, x = mid + 1 := ⟨_, rfl⟩
    have em1 : (mid : Int) + 1 = (m1 : Int) := by omega
    rw [setLoc_setLoc]
    have F := (aand @t1 (aand @t2 (aand @t12 (aand @ex1 (aand @ey1 @ez1))))); refine tF ?_; (try clear F)
    by_cases hxy : x1 < y1
    · have F := (aand @hxy (aand @t0 (aand @t1 (aand @t3 @t4)))); refine tFa ?_; (try clear F)
      refine tS1 fun K Kp hK hKp => ?_; refine ACall.mono (ih (mid - a1) (by omega) H5 hr a1 mid lim2 rfl g1 (by omega) hlim2 g4) ?_
      rintro _ _ ⟨d6, hd6, hd6s, rfl, rfl⟩
      refine hK _ _ ?_; clear hK hKp K Kp
      have F := @em1; refine tF ?_; (try clear F)
      have g8 := g6 d6 hd6 hd6s
      exact ⟨b1 - m1, ⟨m1, b1, lim2, decide (z1 ≤ x1), ap, d6, rfl, by omega, by omega, hb1, hlim2, permIn_trans _ _ _ _ _ hPm (permIn_mono _ _ a1 mid 0 L (by omega) (by omega) (by omega) hd6), by rw [hm1]; exact g8.1, fun R h1 h2 => by
        rw [hm1] at h1 h2
        have := g8.2 R h1 h2
        exact hfin R (permIn_trans _ _ _ _ _ hp14 this.1) this.2, by simp [upd_lit], by simp [upd_lit], by simp [upd_lit, t0], by simp [upd_lit], by simp [upd_lit, t2], by simp [upd_lit, t3], by simp [upd_lit, t4], by rw [setLoc_setLoc]⟩, by omega⟩
    · have F := (aand @hxy (aand @t0 (aand @t2 (aand @t3 (aand @t4 @em1))))); refine tFa ?_; (try clear F)
      refine tS1 fun K Kp hK hKp => ?_; refine ACall.mono (ih (b1 - m1) (by omega) H5 hr m1 b1 lim2 rfl (by omega) (by omega) hlim2 (by rw [hm1]; exact g5)) ?_
      rintro _ _ ⟨d6, hd6, hd6s, rfl, rfl⟩
      refine hK _ _ ?_; clear hK hKp K Kp
      refine tS ?_
      rw [hm1] at hd6 hd6s
      have g8 := g7 d6 hd6 hd6s
      exact ⟨mid - a1, ⟨a1, mid, lim2, decide (z1 ≤ y1), ap, d6, rfl, by omega, by omega, by omega, hlim2, permIn_trans _ _ _ _ _ hPm (permIn_mono _ _ (mid + 1) b1 0 L (by omega) (by omega) (by omega) hd6), g8.1, fun R h1 h2 => by
        have := g8.2 R h1 h2
        exact hfin R (permIn_trans _ _ _ _ _ hp14 this.1) this.2, by simp [upd_lit], by simp [upd_lit], by simp [upd_lit, t0], by simp [upd_lit, t1], by simp [upd_lit], by simp [upd_lit, t3], by simp [upd_lit, t4], by rw [setLoc_setLoc]⟩, by omega⟩
end Go.Proofs.YtgfadepkiejncaaGreat
namespace Go.Proofs.YtgfadepkiejncaaGreat
open Go.Ab Go.Sort
set_option maxHeartbeats 0
set_option maxRecDepth 100000
attribute [local irreducible] AW AList ACall DA AExit.then AExit.inBlock YCall DCall
theorem sortG {m : St} {n L cap : Nat} {d : Array GG} {r : List PV} (H : Arr m n L d r) (hr : ∀ k t, PV.scL k t r) :
    ACall Tryz.prog 143 [mar n L cap, cloC] m (fun r' m' => ∃ R, PermIn 0 L d R ∧ SortedIn ltG 0 L R ∧ r' = .ret (.tup []) ∧ m' = m.setLoc n (ar R r)) := by
  refine ACall.of_aw Tryz.func143 Tryz.ntmps143 rfl rfl (by simp) ?_
  have hn := H.lt
  have hS := H.small
  have hL := H.size
  have w64 : IntKind.u64.wrap (L : Int) = L := wrap_u64 _ (by omega) (by omega)
  have hb : bitsLen L ≤ 41 := by rw [bitsLen_le_iff]; omega
  have F := @w64; refine tF ?_; (try clear F)
  refine tS1 fun K Kp hK hKp => ?_; refine Gives.at (bitsLenG L (by omega)) ?_; apply hK; clear hK hKp K Kp
  refine tS ?_
  refine tS1 fun K Kp hK hKp => ?_; refine ACall.mono (pdqG L H hr 0 L (bitsLen L) (by omega) (by omega) (by omega) (by omega) (.inl rfl)) ?_
  rintro _ _ ⟨R, h1, h2, rfl, rfl⟩
  refine hK _ _ ?_; clear hK hKp K Kp
  refine tS ?_
  exact Fin.here (r := .tup []) (by exact ⟨[], rfl, rfl⟩) (.inl rfl) ⟨R, h1, h2, rfl, rfl⟩
end Go.Proofs.YtgfadepkiejncaaGreat
namespace Go.Proofs.YtgfadepkiejncaaGreat
open Go.Ab Go.Sort
set_option maxHeartbeats 0
set_option maxRecDepth 100000
attribute [local irreducible] AW AList ACall DA AExit.then AExit.inBlock YCall DCall
theorem isOm (v : GV) : Gives Tryz.prog 142 [v.pv] (vB (decide (v.kind = 0))) := by
  intro m
  refine ACall.of_aw Tryz.func142 Tryz.ntmps142 rfl rfl (by simp) ?_
  refine tS ?_
  have e0 : (v.cells)[0]? = some (vI v.kind) := by rw [cells_eq]; rfl
  by_cases h : v.kind = 0
  · have h' : (v.kind : Int) = 0 := by omega
    have F := (aand @e0 (aand @h @h')); refine tF ?_; (try clear F)
    exact Fin.gives Same.auto (hq := by simp [upd_lit, h])
  · have h' : ¬ (v.kind : Int) = 0 := by omega
    have F := (aand @e0 (aand @h @h')); refine tF ?_; (try clear F)
    exact Fin.gives Same.auto (hq := by simp [upd_lit, h])
theorem eqG (x y : GV) (hx : good x) (hy : good y) : Gives Tryz.prog 145 [x.pv, y.pv] (vB (decide (cmpV x y = 0))) := by
  intro m
  refine ACall.of_aw Tryz.func145 Tryz.ntmps145 rfl rfl (by simp) ?_
  refine tS ?_
  refine tS1 fun K Kp hK hKp => ?_; refine Gives.at (val_compare x y hx hy) ?_; apply hK; clear hK hKp K Kp
  refine tS ?_
  exact Fin.gives Same.auto
def firstOm (d : Array GG) (i : Nat) : Nat := if h : i < d.size then (if (gt d i).1.kind = 0 then i else firstOm d (i + 1)) else d.size
termination_by d.size - i
theorem firstOm_le (d : Array GG) (i : Nat) (h : i ≤ d.size) : i ≤ firstOm d i ∧ firstOm d i ≤ d.size := by
  fun_induction firstOm d i with
  | case1 i hi hk => omega
  | case2 i hi hk ih => have := ih (by omega); omega
  | case3 i hi => omega
abbrev cloO : PV := .clo 142 [] []
theorem indexG {m : St} {n L cap : Nat} {d : Array GG} {r : List PV} (H : Arr m n L d r) :
    GivesTo Tryz.prog 148 [mar n L cap, cloO] m (vI (if firstOm d 0 < L then (firstOm d 0 : Int) else -1)) m := by
  have hn := H.lt
  have hm := H.loc
  have hS := H.small
  have hL := H.size
  refine ACall.of_aw Tryz.func148 Tryz.ntmps148 rfl rfl (by simp) ?_
  refine tS ?_
  refine AW.loop (ι := Nat) (fun i σ m' => i ≤ L ∧ σ 8 = vI i ∧ σ 7 = vI L ∧ σ 0 = mar n L cap ∧ σ 1 = cloO ∧ firstOm d i = firstOm d 0 ∧ m' = m) (fun i => L - i) 0 ?_ ?_
  · exact ⟨by omega, by simp [upd_lit], by simp [upd_lit], by simp [upd_lit], by simp [upd_lit], rfl, rfl⟩
  rintro i σ m' ⟨hi, t8, t7, t0, t1, hE, rfl⟩
  rw [firstOm] at hE
  by_cases hlt : i < L
  rotate_left
  · rw [dif_neg (by omega)] at hE
    rw [if_neg (by omega)]
    have F := (aand @t8 (aand @t7 @hlt)); refine tFa ?_; (try clear F)
    exact Fin.gives Same.auto
  rw [dif_pos (by omega)] at hE
  have i1 : i < d.size := by omega
  have i2 : (i : Int) < L := by omega
  have F := (aand @t8 (aand @t7 (aand @hlt (aand @t1 (aand @t0 (aand @i1 (aand @i2 (aand @hn (aand @hm (aand @ar_get @ar_fit)))))))))); refine tFa ?_; (try clear F)
  refine tS1 fun K Kp hK hKp => ?_; refine Gives.at (isOm (gt d i).1) ?_; apply hK; clear hK hKp K Kp
  by_cases hk : (gt d i).1.kind = 0
  · rw [if_pos hk] at hE
    rw [← hE, if_pos hlt]
    have F := @hk; refine tFa ?_; (try clear F)
    exact Fin.gives Same.auto
  · rw [if_neg hk] at hE
    have F := (aand @hk @t8); refine tFa ?_; (try clear F)
    exact ⟨i + 1, ⟨by omega, by simp [upd_lit], by simp [upd_lit, t7], by simp [upd_lit, t0], by simp [upd_lit, t1], hE, rfl⟩, by omega⟩
end Go.Proofs.YtgfadepkiejncaaGreat
namespace Go.Proofs.YtgfadepkiejncaaGreat
open Go.Ab Go.Sort
set_option maxHeartbeats 0
set_option maxRecDepth 100000
attribute [local irreducible] AW AList ACall DA AExit.then AExit.inBlock YCall DCall
theorem rows_stripL : ∀ l : List GV, PV.stripL (GV.rows l).flatten = (GV.rows l).flatten
  | [] => rfl
  | v :: l => by
    have h : ∀ xs ys : List PV, PV.stripL (xs ++ ys) = PV.stripL xs ++ PV.stripL ys := by
      intro xs ys
      induction xs with
      | nil => rfl
      | cons x xs ih => simp [PV.stripL, ih]
    simp only [GV.rows, List.flatten_cons]
    rw [h, cells_strip, rows_stripL l]
theorem cloneG (l : List GV) (h0 : l ≠ []) (hl : l.length ≤ 1000000) (m : St) :
    ACall Tryz.prog 141 [GV.pvs l] m (fun r' m' => r' = .ret (.marr m.nloc 0 l.length l.length) ∧ m' = m.newLoc (GV.rows l).flatten) := by
  refine ACall.of_aw Tryz.func141 Tryz.ntmps141 rfl rfl (by simp) ?_
  refine tS ?_
  refine AList.op (by decide) ?_; intro K Kp hK hKp; simp [upd_lit]
  refine ⟨?_, fun h => absurd (List.length_eq_zero_iff.1 (by simpa [GV.rows_eq] using congrArg List.length h)) h0⟩
  apply hK; clear hK hKp K Kp
  refine tSa ?_
  refine AList.opK (by decide) ?_; intro K Kp hK hKp
  have hpos : 0 < l.length := List.length_pos_iff.2 h0
  refine op_appendL (e := 27) (o2 := .no) (rows := []) (news := GV.rows l) rfl rfl rfl rfl (by kernel_rfl) (by kernel_rfl) (by kernel_rfl) (fun r hr => by cases hr) (rows_w l) ?_ ?_ ?_ (by simp [opv, upd_lit]) (by simp [opv, upd_lit]) (hK _ _ ?_)
  · have e : tbytes Tryz.prog 27 ≤ 1000 := by decide +kernel
    have : (GV.rows l).length = l.length := by rw [GV.rows_eq, List.length_map]
    simp only [List.length_nil, Nat.zero_add, this]
    exact Nat.le_trans (Nat.mul_le_mul hl e) (by omega)
  · simp [GV.rows_eq] <;> omega
  · simp [GV.rows_eq] <;> omega
  clear hK hKp K Kp
  refine tS ?_
  refine Fin.here (r := .marr m.nloc 0 l.length l.length) (by simp [ResP, ResL, resV, upd_lit, show Tryz.f141.results.toList = [.tmp 2] from rfl, GV.rows_eq]) (.inr rfl) ⟨rfl, ?_⟩
  rw [rows_stripL]
end Go.Proofs.YtgfadepkiejncaaGreat
namespace Go.Ab
theorem Same.setBoth {m m' : St} (h : Same m m') (n : Nat) (cs : List PV) : Same (m.setLoc n cs) (m'.setLoc n cs) :=
  Same.mk h.lloc h.ltok (fun i hi => by rw [setLoc_loc, setLoc_loc]; by_cases e : i = n; rw [if_pos e, if_pos e]; rw [if_neg e, if_neg e]; exact h.get hi) (fun k hk => ⟨(h.top k hk).1.symm, (h.top k hk).2.symm⟩) (fun n hn => h.getL hn) (fun n hn => h.getI hn) (fun k cs hk hd hc => h.getA hk hd hc)
end Go.Ab
namespace Go.Proofs.YtgfadepkiejncaaGreat
open Go.Ab Go.Sort
set_option maxHeartbeats 0
set_option maxRecDepth 100000
attribute [local irreducible] AW AList ACall DA AExit.then AExit.inBlock YCall DCall
def nzG (x : GG) : Bool := decide (x.1.kind ≠ 0)
theorem firstOm_none (d : Array GG) : ∀ i, i ≤ d.size → firstOm d i = d.size → ∀ k, i ≤ k → k < d.size → nzG (gt d k) = true := by
  intro i hi h k hk hk2
  fun_induction firstOm d i with
  | case1 i hi2 hk0 => omega
  | case2 i hi2 hk0 ih =>
    by_cases e : i = k
    · subst e; simp [nzG, hk0]
    · exact ih (by omega) h (by omega)
  | case3 i hi2 => omega
theorem firstOm_pre (d : Array GG) : ∀ i, ∀ k, i ≤ k → k < firstOm d i → nzG (gt d k) = true := by
  intro i k hk hk2
  fun_induction firstOm d i with
  | case1 i hi2 hk0 => omega
  | case2 i hi2 hk0 ih =>
    by_cases e : i = k
    · subst e; simp [nzG, hk0]
    · exact ih (by omega) hk2
  | case3 i hi2 =>
    omega
theorem firstOm_at (d : Array GG) : ∀ i, firstOm d i < d.size → nzG (gt d (firstOm d i)) = false := by
  intro i h
  fun_induction firstOm d i with
  | case1 i hi2 hk0 => simp [nzG, hk0]
  | case2 i hi2 hk0 ih => exact ih h
  | case3 i hi2 => omega
theorem gt_toList (d : Array GG) (i : Nat) (h : i < d.size) : d.toList[i]'(by simpa using h) = gt d i := by simp [gt, h]
theorem take_succ_filter (d : Array GG) (i : Nat) (h : i < d.size) : (d.toList.take (i + 1)).filter nzG = (d.toList.take i).filter nzG ++ (if nzG (gt d i) then [gt d i] else []) := by
  rw [List.take_add_one, List.filter_append]
  congr 1
  rw [List.getElem?_eq_getElem (by simpa using h), gt_toList d i h]
  simp [List.filter_cons]
theorem gt_set_ne (d : Array GG) (i k : Nat) (x : GG) (h : k ≠ i) : gt (d.setIfInBounds i x) k = gt d k := by
  simp [gt, getElem!_def, Array.getElem?_setIfInBounds, Ne.symm h]
theorem take_set (d : Array GG) (i : Nat) (x : GG) (h : i < d.size) : (d.setIfInBounds i x).toList.take (i + 1) = d.toList.take i ++ [x] := by
  rw [Array.toList_setIfInBounds, List.take_add_one, List.take_set_of_le (Nat.le_refl _)]
  simp [h]
theorem sliceLo (n L i cap : Nat) (hi : i ≤ L) (hc : L ≤ cap) (hlt : i < cap) (m : St) (K : PV → St → Prop) : aslice Tryz.prog 25 (mar n L cap) (some (vI i)) none none m K ↔ K (.marr n (i * 6) (L - i) (cap - i)) m := by
  have h1 : ((L : Int) - i).toNat = L - i := by omega
  simp [aslice, abnd, h1]
  constructor
  · intro h; exact h.2.2.2
  · intro h; exact ⟨by omega, by omega, by omega, h⟩
theorem sliceHi (n L i cap : Nat) (hi : i ≤ L) (hc : L ≤ cap) (h0 : 0 < cap) (m : St) (K : PV → St → Prop) : aslice Tryz.prog 25 (mar n L cap) none (some (vI i)) none m K ↔ K (.marr n 0 i cap) m := by
  simp [aslice, abnd]
  constructor
  · intro h; exact h.2.2.2
  · intro h; exact ⟨by omega, by omega, by omega, h⟩
theorem flat_take : ∀ (l : List GV) (i : Nat) (r : List PV), i ≤ l.length → ((GV.rows l).flatten ++ r).take (i * 6) = (GV.rows (l.take i)).flatten
  | l, 0, r, _ => by simp [GV.rows]
  | v :: l, i + 1, r, h => by
    have := flat_take l i r (by simpa using h)
    simp only [GV.rows, List.flatten_cons, List.append_assoc, List.take_succ_cons]
    rw [show (i + 1) * 6 = v.cells.length + i * 6 from by rw [cells_len]; omega, List.take_length_add_append, this]
theorem clear_ar (d : Array GG) (r zs : List PV) (i : Nat) (hi : i ≤ d.size) (hz : zs.length = (d.size - i) * 6) : setL (ar d r) (i * 6) zs = ar (d.toList.take i).toArray (zs ++ r) := by
  rw [setL_eq _ _ _ (by rw [ar_len, hz]; omega), hz, show i * 6 + (d.size - i) * 6 = d.size * 6 from by omega]
  have h1 : (ar d r).take (i * 6) = (GV.rows ((d.toList.take i).map (·.1))).flatten := by
    rw [ar, flat_take _ _ _ (by simpa using hi), List.map_take]
  have h2 : (ar d r).drop (d.size * 6) = r := by
    rw [ar, List.drop_left' (by rw [rows_flat_len]; simp)]
  rw [h1, h2, ar]
  simp
theorem zrow_scL (zc : List PV) (n : Nat) (h : ∀ x ∈ zc, ∀ k t, x.sc k t) (k t : Nat) : PV.scL k t (zrow zc n) := by
  have key : ∀ l : List PV, (∀ x ∈ l, x.sc k t) → PV.scL k t l := by
    intro l
    induction l with
    | nil => intro _; trivial
    | cons x l ih => intro h; exact ⟨h x (by simp), ih fun y hy => h y (by simp [hy])⟩
  refine key _ fun x hx => ?_
  obtain ⟨i, _, rfl⟩ := List.mem_map.1 hx
  rw [List.getD_eq_getElem?_getD]
  cases e : zc[i % zc.length]? with
  | none => trivial
  | some y => exact h y (List.mem_of_getElem? e) k t
theorem deleteG {m : St} {n L cap : Nat} {d : Array GG} {r : List PV} (H : Arr m n L d r) (hr : ∀ k t, PV.scL k t r) (hLc : L ≤ cap) :
    ACall Tryz.prog 140 [mar n L cap, cloO] m (fun r' m' => ∃ (D : Array GG) (r2 : List PV), D.toList = d.toList.filter nzG ∧ (∀ k t, PV.scL k t r2) ∧ r' = .ret (mar n D.size cap) ∧ m' = m.setLoc n (ar D r2)) := by
  have hn := H.lt
  have hm := H.loc
  have hS := H.small
  have hL := H.size
  refine ACall.of_aw Tryz.func140 Tryz.ntmps140 rfl rfl (by simp) ?_
  have hf := firstOm_le d 0 (by omega)
  refine tS ?_
  refine tS1 fun K Kp hK hKp => ?_; refine GivesTo.at (indexG H) ?_; apply hK; clear hK hKp K Kp
  by_cases hf0 : firstOm d 0 < L
  rotate_left
  · rw [if_neg hf0]
    refine tSa ?_
    refine Fin.here (r := mar n L cap) (by rfl) (.inr rfl) ⟨d, r, ?_, hr, by rw [hL], (setLoc_self hm).symm⟩
    rw [List.filter_eq_self.2]
    intro x hx
    obtain ⟨k, hk, rfl⟩ := List.getElem_of_mem hx
    rw [gt_toList d k (by simpa using hk)]
    exact firstOm_none d 0 (by omega) (by omega) k (by omega) (by simpa using hk)
  rw [if_pos hf0]
  obtain ⟨f, hfe⟩ : ∃ f, f = firstOm d 0 := ⟨_, rfl⟩
  rw [← hfe]
  rw [← hfe] at hf0 hf
  have hne : ¬ (f : Int) = -1 := by omega
  have F := @hne; refine tFa ?_; (try clear F)
  have hz := firstOm_at d 0 (by omega)
  rw [← hfe] at hz
  refine AW.loop (ι := Nat) (fun j σ m' => f + 1 ≤ j ∧ j ≤ L ∧ ∃ (i : Nat) (d1 : Array GG), i < j ∧ σ 5 = vI i ∧ σ 6 = vI j ∧ σ 0 = mar n L cap ∧ σ 1 = cloO ∧ d1.size = L ∧ d1.toList.take i = (d.toList.take j).filter nzG ∧ (∀ k, j ≤ k → gt d1 k = gt d k) ∧ Same (m.setLoc n (ar d1 r)) m' ∧ m'.loc n = some (ar d1 r)) (fun j => L - j) (f + 1) ?_ ?_
  · refine ⟨Nat.le_refl _, by omega, f, d, by omega, by simp [upd_lit], by simp [upd_lit], by simp [upd_lit], by simp [upd_lit], hL, ?_, fun _ _ => rfl, by rw [setLoc_self hm]; exact Same.refl m, hm⟩
    rw [take_succ_filter d f (by omega), hz]
    simp only [Bool.false_eq_true, if_false, List.append_nil]
    symm
    rw [List.filter_eq_self]
    intro x hx
    obtain ⟨k, hk, rfl⟩ := List.getElem_of_mem hx
    rw [List.getElem_take, gt_toList d k (by simp at hk; omega)]
    exact firstOm_pre d 0 k (by omega) (by simp at hk; omega)
  rintro j σ m' ⟨hj1, hj2, i, d1, hij, t5, t6, t0, t1, hs, hpre, hrest, hsame, hloc⟩
  have hn2 : n < m'.nloc := Nat.lt_of_lt_of_le hn hsame.lloc
  by_cases hjl : j < L
  rotate_left
  · have hjL : j = L := by omega
    subst hjL
    have F := (aand @t6 (aand @t0 @hjl)); refine tFa ?_; (try clear F)
    have sl := sliceLo n j i cap (by omega) hLc (by omega)
    have sh := sliceHi n j i cap (by omega) hLc (by omega)
    have F := (aand @t5 @sl); refine tF ?_; (try clear F)
    refine AList.step rfl rfl ?_
    obtain ⟨z, hz1⟩ : ∃ z, tzero Tryz.prog 27 = some z := ⟨_, rfl⟩
    have hzl : (zcells z).length = 6 := by
      have : (tzero Tryz.prog 27).map (fun z => (zcells z).length) = some 6 := by kernel_rfl
      rw [hz1] at this; simpa using this
    have hzo : zOK z = true := by
      have : (tzero Tryz.prog 27).map zOK = some true := by kernel_rfl
      rw [hz1] at this; simpa using this
    refine op_clear (e := 27) (z := z) (n := n) (off := i * 6) (len := j - i) (cap := cap - i) (cs := ar d1 r) rfl rfl rfl rfl rfl hz1 hzo (by omega) (by simp [opv, upd_lit]) hn2 hloc (by rw [ar_len, hzl]; omega) ?_
    have hzs : ∀ x ∈ zcells z, ∀ k t, PV.sc k t x := by
      have : (tzero Tryz.prog 27).map zcells = some [vI 0, vI 0, vB false, .list .full [], .v (.string ⟨#[]⟩), .list .full []] := by kernel_rfl
      rw [hz1] at this
      simp only [Option.map_some, Option.some.injEq] at this
      rw [this]
      intro x hx k t
      simp at hx
      rcases hx with rfl | rfl | rfl | rfl | rfl <;> trivial
    simp only [put]
    rw [hzl, clear_ar d1 r _ i (by omega) (by rw [zrow_len, hs])]
    have hr2 : ∀ k t, PV.scL k t (zrow (zcells z) ((j - i) * 6) ++ r) := fun k t => scL_app _ _ _ _ (zrow_scL _ _ hzs k t) (hr k t)
    generalize zrow (zcells z) ((j - i) * 6) ++ r = r2 at *
    have hDs : (d1.toList.take i).toArray.size = i := by simp; omega
    have hDl : (d1.toList.take i).toArray.toList = d.toList.filter nzG := by
      rw [List.toList_toArray, hpre, List.take_of_length_le (by simp; omega)]
    generalize (d1.toList.take i).toArray = D at *
    have hsame3 := hsame.setBoth n (ar D r2)
    rw [setLoc_setLoc] at hsame3
    have F := (aand @t0 (aand @t5 @sh)); refine tF ?_; (try clear F)
    exact Fin.leaves (r := mar n i cap) (m2 := m.setLoc n (ar D r2)) (by rfl) (.inr rfl) (Leaves.ofSet hsame3 (ar_scL _ _ _ _ (hr2 _ _))) ⟨D, r2, hDl, hr2, by rw [hDs], rfl⟩ (hs := by show n < m.nloc; exact hn)
  have j1 : j < d1.size := by omega
  have j2 : (j : Int) < L := by omega
  have i1 : i < d1.size := by omega
  have i2 : (i : Int) < L := by omega
  have hnn : n ≠ m'.nloc := by omega
  have hn3 : n < m'.nloc + 1 := by omega
  have F := (aand @t6 (aand @t0 (aand @t1 (aand @hjl (aand @j1 (aand @j2 (aand @hn2 (aand @hloc (aand @ar_get @ar_fit))))))))); refine tFa ?_; (try clear F)
  have F := @t1; refine tF1 fun K Kp hK hKp => ?_; (try clear F); refine Gives.at (isOm (gt d1 j).1) ?_; apply hK; clear hK hKp K Kp
  have hsame2 : Same (m.setLoc n (ar d1 r)) ((m'.newLoc [vI 0, vI 0, vB false, .list .full [], .v (.string ⟨#[]⟩), .list .full []]).setLoc m'.nloc (gt d1 j).1.cells) := (hsame.newLoc _).setLoc hsame.lloc _
  have hgj := hrest j (Nat.le_refl _)
  by_cases hk : (gt d1 j).1.kind = 0
  · have F := (aand @hk @t6); refine tFa ?_; (try clear F)
    refine ⟨j + 1, ⟨by omega, by omega, i, d1, by omega, by simp [upd_lit, t5], by simp [upd_lit], by simp [upd_lit, t0], by simp [upd_lit, t1], hs, ?_, fun k hk => hrest k (by omega), hsame2, by simp [hnn, hloc]⟩, by omega⟩
    rw [take_succ_filter d j (by omega), hpre, if_neg (by rw [← hgj]; simp [nzG, hk])]; simp
  · have F := (aand @hk (aand @t6 (aand @t5 (aand @t0 (aand @i1 (aand @i2 (aand @hn3 (aand @hnn (aand @hloc (aand @ar_fit @ar_set)))))))))); refine tFa ?_; (try clear F)
    refine ⟨j + 1, ⟨by omega, by omega, i + 1, d1.setIfInBounds i (gt d1 j), by omega, by simp [upd_lit], by simp [upd_lit], by simp [upd_lit, t0], by simp [upd_lit, t1], by simp [hs], ?_, fun k hk => by rw [gt_set_ne _ _ _ _ (by omega)]; exact hrest k (by omega), ?_, by simp⟩, by omega⟩
    · rw [take_set d1 i _ i1, take_succ_filter d j (by omega), hpre, if_pos (by rw [← hgj]; simp [nzG, hk]), hgj]
    · have := hsame2.setBoth n (ar (d1.setIfInBounds i (gt d1 j)) r)
      rw [setLoc_setLoc] at this
      exact this
end Go.Proofs.YtgfadepkiejncaaGreat
namespace Go.Proofs.YtgfadepkiejncaaGreat
open Go.Ab Go.Sort
set_option maxHeartbeats 0
set_option maxRecDepth 100000
attribute [local irreducible] AW AList ACall DA AExit.then AExit.inBlock YCall DCall
def keepTo (d : Array GG) : Nat → List GG
  | 0 => []
  | a + 1 => keepTo d a ++ (if a = 0 ∨ cmpV (gt d a).1 (gt d (a - 1)).1 ≠ 0 then [gt d a] else [])
abbrev cloE : PV := .clo 145 [] []
theorem take_succ_gt (d : Array GG) (i : Nat) (h : i < d.size) : d.toList.take (i + 1) = d.toList.take i ++ [gt d i] := by
  rw [List.take_add_one, List.getElem?_eq_getElem (by simpa using h), gt_toList d i h]; rfl
theorem compactG {m : St} {n L cap : Nat} {d : Array GG} {r : List PV} (H : Arr m n L d r) (hr : ∀ k t, PV.scL k t r) (hLc : L ≤ cap) :
    ACall Tryz.prog 144 [mar n L cap, cloE] m (fun r' m' => ∃ (D : Array GG) (r2 : List PV), D.toList = keepTo d L ∧ (∀ k t, PV.scL k t r2) ∧ r' = .ret (mar n D.size cap) ∧ m' = m.setLoc n (ar D r2)) := by
  have hn := H.lt
  have hm := H.loc
  have hS := H.small
  have hL := H.size
  refine ACall.of_aw Tryz.func144 Tryz.ntmps144 rfl rfl (by simp) ?_
  have hend : d.toList = keepTo d L → d.toList = keepTo d L := id
  refine tS ?_
  by_cases h2 : (L : Int) < 2
  · have F := @h2; refine tFa ?_; (try clear F)
    refine Fin.here (r := mar n L cap) (by rfl) (.inr rfl) ⟨d, r, ?_, hr, by rw [hL], (setLoc_self hm).symm⟩
    rw [← List.take_of_length_le (l := d.toList) (i := L) (by simp; omega)]
    rcases (by omega : L = 0 ∨ L = 1) with rfl | rfl
    · rfl
    · rw [take_succ_gt d 0 (by omega)]; rfl
  have F := @h2; refine tFa ?_; (try clear F)
  refine AW.loop (ι := Nat) (fun k σ m' => 1 ≤ k ∧ k ≤ L ∧ σ 5 = vI k ∧ σ 0 = mar n L cap ∧ σ 1 = cloE ∧ keepTo d k = d.toList.take k ∧ m = m') (fun k => L - k) 1 ?_ ?_
  · refine ⟨Nat.le_refl _, by omega, by simp [upd_lit], by simp [upd_lit], by simp [upd_lit], ?_, rfl⟩
    rw [take_succ_gt d 0 (by omega)]; rfl
  rintro k σ m' ⟨hk1, hk2, t5, t0, t1, hkeep, rfl⟩
  by_cases hkl : k < L
  rotate_left
  · have hkL : k = L := by omega
    subst hkL
    have F := (aand @t5 (aand @t0 @hkl)); refine tFa ?_; (try clear F)
    refine Fin.here (r := mar n k cap) (by simp [ResP, ResL, resV, upd_lit, t0, show Tryz.f144.results.toList = [.tmp 4] from rfl]) (.inr rfl) ⟨d, r, ?_, hr, by rw [hL], (setLoc_self hm).symm⟩
    rw [hkeep, List.take_of_length_le (by simp; omega)]
  obtain ⟨p, hp⟩ : ∃ p, p + 1 = k := ⟨k - 1, by omega⟩
  have ep : (k : Int) - 1 = (p : Int) := by omega
  have k1 : k < d.size := by omega
  have k2 : (k : Int) < L := by omega
  have p1 : p < d.size := by omega
  have p2 : (p : Int) < L := by omega
  have heq := eqG (gt d k).1 (gt d p).1 (gt d k).2 (gt d p).2
  have F := (aand @t5 (aand @t0 @hkl)); refine tFa ?_; (try clear F)
  repeat (first | refine AW.seq ?_ | refine AW.block ?_ | refine AW.skip ?_ | refine AExit.norT ?_ | refine AExit.norB ?_ | refine AList.nil ?_)
  refine AW.draw [.S, .S, .S, .S, .R, .S, .S, .S, .S, .R, .R] (by decide +kernel) ?_; have F := (aand @t5 (aand @t0 (aand @t1 (aand @ep (aand @k1 (aand @k2 (aand @p1 (aand @p2 (aand @hn (aand @hm (aand @ar_get @ar_fit))))))))))); refine dS 0 ?_; refine dS 1 ?_; refine dS 2 ?_; refine dS 3 ?_; refine dR 4 ?_; refine dS 5 ?_; refine dS 6 ?_; refine dS 7 ?_; refine dS 8 ?_; refine dR 9 ?_; refine dC ((heq)) 10 ?_; (try clear F); first | refine dN ?_ | refine dB ?_ | refine DA.done (by decide +kernel) ?_
  have hks : keepTo d (k + 1) = keepTo d k ++ (if cmpV (gt d k).1 (gt d p).1 ≠ 0 then [gt d k] else []) := by
    rw [keepTo, show k - 1 = p from by omega]; simp [show k ≠ 0 from by omega]
  by_cases hc : cmpV (gt d k).1 (gt d p).1 = 0
  rotate_left
  · have F := (aand @hc @t5); refine tFa ?_; (try clear F)
    refine ⟨k + 1, ⟨by omega, by omega, by simp [upd_lit], by simp [upd_lit, t0], by simp [upd_lit, t1], ?_, rfl⟩, by omega⟩
    rw [hks, if_pos hc, take_succ_gt d k k1, hkeep]
  rw [if_neg (by simp [hc]), List.append_nil, hkeep] at hks
  have sl := sliceLo n L k cap (by omega) hLc (by omega)
  have F := (aand @hc (aand @t5 (aand @t0 @sl))); refine tFa ?_; (try clear F)
  obtain ⟨l2, hl2⟩ : ∃ l2, l2 = L - k := ⟨_, rfl⟩
  rw [← hl2]
  refine AW.loop (ι := Nat) (fun q σ m' => 1 ≤ q ∧ q ≤ l2 ∧ ∃ (i : Nat) (d1 : Array GG), i < k + q ∧ σ 7 = vI q ∧ σ 5 = vI i ∧ σ 6 = .marr n (k * 6) l2 (cap - k) ∧ σ 0 = mar n L cap ∧ σ 1 = cloE ∧ d1.size = L ∧ d1.toList.take i = keepTo d (k + q) ∧ (∀ x, k + q - 1 ≤ x → gt d1 x = gt d x) ∧ m' = m.setLoc n (ar d1 r)) (fun q => l2 - q) 1 ?_ ?_
  · exact ⟨Nat.le_refl _, by omega, k, d, by omega, by simp [upd_lit], by simp [upd_lit, t5], by simp [upd_lit, hl2], by simp [upd_lit, t0], by simp [upd_lit, t1], hL, hks.symm, fun _ _ => rfl, (setLoc_self hm).symm⟩
  clear t5 t0 t1 sl
  rintro q τ m2 ⟨hq1, hq2, i, d1, hi, t7, t5, t6, t0, t1, hs, hpre, hrest, rfl⟩
  by_cases hql : q < l2
  rotate_left
  · have hql2 : k + q = L := by omega
    rw [hql2] at hpre
    have F := (aand @t7 (aand @t6 @hql)); refine tFa ?_; (try clear F)
    have sl := sliceLo n L i cap (by omega) hLc (by omega)
    have sh := sliceHi n L i cap (by omega) hLc (by omega)
    have F := (aand @t5 (aand @t0 @sl)); refine tF ?_; (try clear F)
    refine AList.step rfl rfl ?_
    obtain ⟨z, hz1⟩ : ∃ z, tzero Tryz.prog 27 = some z := ⟨_, rfl⟩
    have hz6 : zcells z = [vI 0, vI 0, vB false, .list .full [], .v (.string ⟨#[]⟩), .list .full []] := by
      have : (tzero Tryz.prog 27).map zcells = some [vI 0, vI 0, vB false, .list .full [], .v (.string ⟨#[]⟩), .list .full []] := by kernel_rfl
      rw [hz1] at this
      simpa using this
    have hzl : (zcells z).length = 6 := by rw [hz6]; rfl
    have hzo : zOK z = true := by
      have : (tzero Tryz.prog 27).map zOK = some true := by kernel_rfl
      rw [hz1] at this; simpa using this
    refine op_clear (e := 27) (z := z) (n := n) (off := i * 6) (len := L - i) (cap := cap - i) (cs := ar d1 r) rfl rfl rfl rfl rfl hz1 hzo (by omega) (by simp [opv, upd_lit]) (by exact hn) (by simp) (by rw [ar_len, hzl]; omega) ?_
    have hzs : ∀ x ∈ zcells z, ∀ k t, PV.sc k t x := by
      rw [hz6]
      intro x hx k t
      simp at hx
      rcases hx with rfl | rfl | rfl | rfl | rfl <;> trivial
    simp only [put]
    rw [hzl, clear_ar d1 r _ i (by omega) (by rw [zrow_len, hs]), setLoc_setLoc]
    have hr2 : ∀ k t, PV.scL k t (zrow (zcells z) ((L - i) * 6) ++ r) := fun k t => scL_app _ _ _ _ (zrow_scL _ _ hzs k t) (hr k t)
    generalize zrow (zcells z) ((L - i) * 6) ++ r = r2 at *
    have hDs : (d1.toList.take i).toArray.size = i := by simp; omega
    have hDl : (d1.toList.take i).toArray.toList = keepTo d L := by rw [List.toList_toArray, hpre]
    generalize (d1.toList.take i).toArray = D at *
    have F := (aand @t0 (aand @t5 @sh)); refine tF ?_; (try clear F)
    exact Fin.here (r := mar n i cap) (by simp [ResP, ResL, resV, upd_lit, show Tryz.f144.results.toList = [.tmp 4] from rfl]) (.inr rfl) ⟨D, r2, hDl, hr2, by rw [hDs], rfl⟩
  obtain ⟨a, ha⟩ : ∃ a, a = k + q := ⟨_, rfl⟩
  obtain ⟨q0, hq0⟩ : ∃ q0, q0 + 1 = q := ⟨q - 1, by omega⟩
  obtain ⟨b, hb⟩ : ∃ b, b = k + q0 := ⟨_, rfl⟩
  have eq0 : (q : Int) - 1 = (q0 : Int) := by omega
  have a1 : a < d1.size := by omega
  have b1 : b < d1.size := by omega
  have i1 : i < d1.size := by omega
  have i2 : (i : Int) < L := by omega
  have q2 : (q : Int) < l2 := by omega
  have q3 : (q0 : Int) < l2 := by omega
  have oa : k * 6 + q * 6 = a * 6 := by omega
  have ob : k * 6 + q0 * 6 = b * 6 := by omega
  have heq := eqG (gt d1 a).1 (gt d1 b).1 (gt d1 a).2 (gt d1 b).2
  have F := (aand @t7 (aand @t6 @hql)); refine tFa ?_; (try clear F)
  repeat (first | refine AW.seq ?_ | refine AW.block ?_ | refine AW.skip ?_ | refine AExit.norT ?_ | refine AExit.norB ?_ | refine AList.nil ?_)
  refine AW.draw [.S, .S, .S, .S, .R, .S, .S, .S, .S, .R, .R, .S] (by decide +kernel) ?_; have F := (aand @t7 (aand @t6 (aand @t1 (aand @eq0 (aand @q2 (aand @q3 (aand @oa (aand @ob (aand @a1 (aand @b1 (aand @hn (aand @ar_get @ar_fit)))))))))))); refine dS 0 ?_; refine dS 1 ?_; refine dS 2 ?_; refine dS 3 ?_; refine dR 4 ?_; refine dS 5 ?_; refine dS 6 ?_; refine dS 7 ?_; refine dS 8 ?_; refine dR 9 ?_; refine dC ((heq)) 10 ?_; refine dS 11 ?_; (try clear F); first | refine dN ?_ | refine dB ?_ | refine DA.done (by decide +kernel) ?_
  have hga := hrest a (by omega)
  have hgb := hrest b (by omega)
  have hka : keepTo d (a + 1) = keepTo d a ++ (if cmpV (gt d a).1 (gt d b).1 ≠ 0 then [gt d a] else []) := by
    rw [keepTo, show a - 1 = b from by omega]; simp [show a ≠ 0 from by omega]
  rw [← ha] at hpre
  by_cases hc2 : cmpV (gt d1 a).1 (gt d1 b).1 = 0
  · have F := (aand @hc2 @t7); refine tFa ?_; (try clear F)
    refine ⟨q + 1, ⟨by omega, by omega, i, d1, by omega, by simp [upd_lit], by simp [upd_lit, t5], by simp [upd_lit, t6], by simp [upd_lit, t0], by simp [upd_lit, t1], hs, ?_, fun x hx => hrest x (by omega), rfl⟩, by omega⟩
    rw [show k + (q + 1) = a + 1 from by omega, hka, if_neg (by rw [← hga, ← hgb]; simp [hc2]), List.append_nil]; exact hpre
  · have F := (aand @hc2 (aand @t7 (aand @t5 (aand @t6 (aand @t0 (aand @q2 (aand @oa (aand @a1 (aand @i1 (aand @i2 (aand @hn (aand @ar_get (aand @ar_fit (aand @ar_set @setLoc_setLoc)))))))))))))); refine tFa ?_; (try clear F)
    refine ⟨q + 1, ⟨by omega, by omega, i + 1, d1.setIfInBounds i (gt d1 a), by omega, by simp [upd_lit], by simp [upd_lit], by simp [upd_lit, t6], by simp [upd_lit, t0], by simp [upd_lit, t1], by simp [hs], ?_, fun x hx => by rw [gt_set_ne _ _ _ _ (by omega)]; exact hrest x (by omega), rfl⟩, by omega⟩
    rw [show k + (q + 1) = a + 1 from by omega, hka, if_pos (by rw [← hga, ← hgb]; exact hc2), take_set d1 i _ i1, hpre, hga]
end Go.Proofs.YtgfadepkiejncaaGreat
