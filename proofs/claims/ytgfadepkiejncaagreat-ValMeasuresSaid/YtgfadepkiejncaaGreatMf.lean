/- Texts of the proof, part Mf: they prove nothing by themselves that is claimed. -/
import Derived.Test.YtgfadepkiejncaaGreatMe
import Derived.Test.YtgfadepkiejncaaGreatLc
import Derived.Test.YtgfadepkiejncaaGreatLe
set_option linter.unusedVariables false
set_option linter.unusedSimpArgs false
namespace Go.Proofs.YtgfadepkiejncaaGreat
open Go.Ab
set_option pp.maxSteps 1500
set_option maxHeartbeats 0
attribute [local irreducible] AW AList ACall DA AExit.then AExit.inBlock YCall

/-! val.all -/
theorem val_all (v : GV) : Gives Tryz.prog 92 [v.pv] (.clo 138 [] [.ro v.cells]) := by
  intro m
  refine ACall.of_aw Tryz.func92 Tryz.ntmps92 rfl rfl (by simp) ?_
  repeat (first | (refine AList.op (by decide) ?_; intro K Kp hK hKp; simp [↓aop, ↓Ab.opv, ↓upd_lit, ↓map_ta, ↓List.map_cons, ↓List.map_nil, Nat.add_assoc]; (try (simp (disch := omega) only [wrap_i64]; try simp [↓aop, ↓Ab.opv, ↓upd_lit, ↓map_ta, ↓List.map_cons, ↓List.map_nil, Nat.add_assoc])); apply hK; clear hK hKp K Kp) | (refine AList.op0 ?_; intro K Kp hK hKp; simp [↓aop, ↓Ab.opv, ↓upd_lit, ↓map_ta, ↓List.map_cons, ↓List.map_nil, Nat.add_assoc]; (try (simp (disch := omega) only [wrap_i64]; try simp [↓aop, ↓Ab.opv, ↓upd_lit, ↓map_ta, ↓List.map_cons, ↓List.map_nil, Nat.add_assoc])); apply hK; clear hK hKp K Kp) | refine AList.nil ?_ | refine AW.seq ?_ | refine AW.regionL ?_ | refine AW.block ?_ | refine AW.skip ?_ | refine AW.exit ?_ | refine AW.label ?_ | refine AExit.norT ?_ | refine AExit.norB ?_ | refine AExit.retT ?_ | refine AExit.retB ?_ | refine AExit.exiT ?_ | refine AExit.exiB ?_ | refine AExit.exiN (by decide) ?_)
  refine AW.frz (n := m.nloc) (d := 2) (cs := v.cells) (by simp) (by simp) ?_
  repeat (first | (refine AList.op (by decide) ?_; intro K Kp hK hKp; simp [↓aop, ↓Ab.opv, ↓upd_lit, ↓map_ta, ↓List.map_cons, ↓List.map_nil, Nat.add_assoc]; (try (simp (disch := omega) only [wrap_i64]; try simp [↓aop, ↓Ab.opv, ↓upd_lit, ↓map_ta, ↓List.map_cons, ↓List.map_nil, Nat.add_assoc])); apply hK; clear hK hKp K Kp) | (refine AList.op0 ?_; intro K Kp hK hKp; simp [↓aop, ↓Ab.opv, ↓upd_lit, ↓map_ta, ↓List.map_cons, ↓List.map_nil, Nat.add_assoc]; (try (simp (disch := omega) only [wrap_i64]; try simp [↓aop, ↓Ab.opv, ↓upd_lit, ↓map_ta, ↓List.map_cons, ↓List.map_nil, Nat.add_assoc])); apply hK; clear hK hKp K Kp) | refine AList.nil ?_ | refine AW.seq ?_ | refine AW.regionL ?_ | refine AW.block ?_ | refine AW.skip ?_ | refine AW.exit ?_ | refine AW.ret ?_ | refine AW.label ?_ | refine AExit.norT ?_ | refine AExit.norB ?_ | refine AExit.retT ?_ | refine AExit.retB ?_ | refine AExit.exiT ?_ | refine AExit.exiB ?_ | refine AExit.exiN (by decide) ?_)
  exact Fin.ret rfl ((Same.newLoc (Same.refl m) _).dropLoc (Nat.le_refl _)) (by simp [upd_lit]) (by simp) ⟨rfl, rfl⟩

/-! the iterator of val.all -/
/-- Memories that agree below a number. -/
structure Agr (b : Nat) (m m' : St) : Prop where
  lo : b ≤ m.nloc
  lo' : b ≤ m'.nloc
  loc : ∀ n, n < b → m'.loc n = m.loc n
  lp : ∀ n, n < b → m'.lp n = m.lp n
  it : ∀ n, n < b → m'.it n = m.it n
  ntok : m'.ntok = m.ntok
  top : m'.top = m.top
  wd : m'.wd = m.wd
  arr : m'.arr = m.arr
/-- What changed among the old variables lies below a number. -/
structure Only (b : Nat) (m m' : St) : Prop where
  nloc : m.nloc ≤ m'.nloc
  loc : ∀ n, b ≤ n → n < m.nloc → m'.loc n = m.loc n
  lp : ∀ n, n < m.nloc → m'.lp n = m.lp n
  it : ∀ n, n < m.nloc → m'.it n = m.it n
  ntok : m.ntok ≤ m'.ntok
theorem Only.refl (b : Nat) (m : St) : Only b m m := ⟨Nat.le_refl _, fun _ _ _ => rfl, fun _ _ => rfl, fun _ _ => rfl, Nat.le_refl _⟩
theorem Only.trans {b : Nat} {m m' m'' : St} (h : Only b m m') (k : Only b m' m'') : Only b m m'' :=
  ⟨Nat.le_trans h.nloc k.nloc, fun n a c => (k.loc n a (Nat.lt_of_lt_of_le c h.nloc)).trans (h.loc n a c), fun n c => (k.lp n (Nat.lt_of_lt_of_le c h.nloc)).trans (h.lp n c), fun n c => (k.it n (Nat.lt_of_lt_of_le c h.nloc)).trans (h.it n c), Nat.le_trans h.ntok k.ntok⟩
theorem Only.same {b : Nat} {m m' : St} (h : Same m m') : Only b m m' :=
  ⟨h.lloc, fun n _ c => h.get c, fun n c => h.getL c, fun n c => h.getI c, h.ltok⟩
theorem Agr.same {b : Nat} {m m' : St} (h : Same m m') (hb : b ≤ m.nloc) (h1 : m'.ntok = m.ntok) (h2 : m'.top = m.top) (h3 : m'.wd = m.wd) (h4 : m'.arr = m.arr := by rfl) : Agr b m m' :=
  ⟨hb, Nat.le_trans hb h.lloc, fun n c => h.get (by omega), fun n c => h.getL (by omega), fun n c => h.getI (by omega), h1, h2, h3, h4⟩

/-- What the yields of an iterator do to memory: an invariant by the number of yields, on variables below b alone. -/
structure Yields (P : Program) (n b : Nat) (m0 : St) (xs : List (List PV)) (I : Nat → St → Prop) : Prop where
  nb : n < b
  agr : ∀ j m m', Agr b m m' → I j m → I j m'
  sc : ∀ i, i < b → (∀ j m', I j m' → m'.loc i = m0.loc i) ∨ (∀ j m' cs, I j m' → m'.loc i = some cs → PV.scL b m'.ntok cs)
  scA : ∀ k, (k < m0.ntok ∧ ∀ j m', I j m' → m'.arr k = m0.arr k ∧ m0.ntok ≤ m'.ntok) ∨ (∀ j m' cs, I j m' → k < m'.ntok → m'.arr k = some cs → PV.scL b m'.ntok cs)
  call : ∀ j (h : j < xs.length) m', b ≤ m'.nloc → I j m' → YCall P n xs[j] m' (fun r m'' => r = .ret (vB true) ∧ I (j + 1) m'' ∧ Only b m' m'' ∧ m''.nloc = m'.nloc)
/-- What is left of a memory as a function returns, whose own variables are those behind m's. -/
theorem leaves_of {b : Nat} {m0 : St} {I : Nat → St → Prop} (sc : ∀ i, i < b → (∀ j m', I j m' → m'.loc i = m0.loc i) ∨ (∀ j m' cs, I j m' → m'.loc i = some cs → PV.scL b m'.ntok cs))
    (scA : ∀ k, (k < m0.ntok ∧ ∀ j m', I j m' → m'.arr k = m0.arr k ∧ m0.ntok ≤ m'.ntok) ∨ (∀ j m' cs, I j m' → k < m'.ntok → m'.arr k = some cs → PV.scL b m'.ntok cs))
    {m m' : St} {j j' : Nat} (hb : b ≤ m.nloc) (h : I j m) (h' : I j' m') (o : Only b m m') : Ab.Leaves m m' { m' with nloc := m.nloc } := by
  refine ⟨rfl, o.ntok, o.nloc, Nat.le_refl _, fun i hi => ⟨rfl, ?_⟩, fun k _ => ⟨rfl, rfl⟩, fun i hi => ⟨rfl, o.lp i hi⟩, fun i hi => rfl, fun k cs hk _ hc => ⟨hc, ?_⟩⟩
  rotate_left
  · rcases scA k with ⟨k1, k2⟩ | k2
    · obtain ⟨a1, a2⟩ := k2 _ _ h
      exact .inl ⟨by omega, by rw [a1, ← (k2 _ _ h').1]; exact hc⟩
    · exact .inr (PV.scL_mono hb (Nat.le_refl _) cs (k2 j' m' cs h' hk hc))
  by_cases hib : i < b
  · rcases sc i hib with k | k
    · exact .inl ((k _ _ h').trans (k _ _ h).symm)
    · exact .inr fun cs hc => PV.scL_mono hb (Nat.le_refl _) cs (k j' m' cs h' hc)
  · exact .inl (o.loc i (by omega) hi)
/-- What such an iterator leaves as it ends. -/
theorem Yields.leaves {P : Program} {n b : Nat} {m0 : St} {xs : List (List PV)} {I : Nat → St → Prop} (y : Yields P n b m0 xs I) {m m' : St} {j j' : Nat} (hb : b ≤ m.nloc) (h : I j m) (h' : I j' m') (o : Only b m m') :
    ∃ m'', Ab.Leaves m m' m'' ∧ I j' m'' ∧ Only b m m'' ∧ m''.nloc = m.nloc :=
  ⟨_, leaves_of y.sc y.scA hb h h' o, y.agr _ m' _ ⟨Nat.le_trans hb o.nloc, hb, fun _ _ => rfl, fun _ _ => rfl, fun _ _ => rfl, rfl, rfl, rfl, rfl⟩ h', ⟨Nat.le_refl _, o.loc, o.lp, o.it, o.ntok⟩, rfl⟩

theorem walkL_get : ∀ (l : List GV) (i : Nat) (h : i < l.length) (j : Nat), j < (walkV l[i]).length → (walkL l)[nodesL (l.take i) + j]? = (walkV l[i])[j]?
  | v :: l, 0, _, j, hj => by
    simp only [List.getElem_cons_zero] at hj
    simp only [walkL, List.take_zero, nodesL, Nat.zero_add, List.getElem_cons_zero]
    rw [List.getElem?_append_left hj]
  | v :: l, i + 1, h, j, hj => by
    simp only [List.getElem_cons_succ] at hj
    simp only [walkL, List.take_succ_cons, nodesL, List.getElem_cons_succ]
    rw [List.getElem?_append_right (by rw [walk_len]; omega), walk_len, show nodes v + nodesL (l.take i) + j - nodes v = nodesL (l.take i) + j from by omega]
    exact walkL_get l i (by simpa using h) j hj
theorem val_iter {n b : Nat} {m0 : St} {xs : List GV} {I : Nat → St → Prop} (y : Yields Tryz.prog n b m0 (xs.map fun x => [x.pv]) I) (v : GV) (hv : nodes v < 1152921504606846976) (k : Nat) (hseg : ∀ i (h : i < (walkV v).length), xs[k + i]? = some (walkV v)[i]) (p q : Nat) (m : St)
    (hI : I k m) (hb : b ≤ m.nloc) (hp : m.loc p = some [.yld n]) (hq : m.loc q = some [.clo 139 [] [.loc p 0, .loc q 0]]) (hpb : b ≤ p ∧ p < m.nloc) (hqb : b ≤ q ∧ q < m.nloc) :
    ACall Tryz.prog 139 [v.pv, .loc p 0, .loc q 0] m (fun r m' => r = .ret (vB true) ∧ I (k + nodes v) m' ∧ Only b m m' ∧ m'.nloc = m.nloc) := by
  induction hk : nodes v using Nat.strongRecOn generalizing v k m with
  | _ N ih =>
  subst hk
  have hn := nodes_eq v
  have hl := nodesL_len v.els
  have pm : p ≠ m.nloc := by omega
  have qm : q ≠ m.nloc := by omega
  refine ACall.of_aw Tryz.func139 Tryz.ntmps139 rfl rfl (by simp) ?_
  have hp1 : p < m.nloc + 1 := by omega
  have hq1 : q < m.nloc + 1 := by omega
  have o1 : Only b m (m.newLoc v.cells) := .same ((Same.refl m).newLoc _)
  have hI1 : I k (m.newLoc v.cells) := y.agr _ m _ (.same ((Same.refl m).newLoc _) hb rfl rfl rfl) hI
  have hx0 : xs[k]? = some v := by have := hseg 0 (by rw [walk_len]; omega); simpa [walk_eq] using this
  obtain ⟨hk0, hk1⟩ := List.getElem?_eq_some_iff.1 hx0
  repeat (first | (refine AList.op (by decide) ?_; intro K Kp hK hKp; simp [↓aop, ↓Ab.opv, ↓upd_lit, ↓map_ta, ↓List.map_cons, ↓List.map_nil, Nat.add_assoc, hp, pm, hp1]; (try (simp (disch := omega) only [wrap_i64]; try simp [↓aop, ↓Ab.opv, ↓upd_lit, ↓map_ta, ↓List.map_cons, ↓List.map_nil, Nat.add_assoc, hp, pm, hp1])); apply hK; clear hK hKp K Kp) | (refine AList.op0 ?_; intro K Kp hK hKp; simp [↓aop, ↓Ab.opv, ↓upd_lit, ↓map_ta, ↓List.map_cons, ↓List.map_nil, Nat.add_assoc, hp, pm, hp1]; (try (simp (disch := omega) only [wrap_i64]; try simp [↓aop, ↓Ab.opv, ↓upd_lit, ↓map_ta, ↓List.map_cons, ↓List.map_nil, Nat.add_assoc, hp, pm, hp1])); apply hK; clear hK hKp K Kp) | refine AList.nil ?_ | refine AW.seq ?_ | refine AW.regionL ?_ | refine AW.block ?_ | refine AW.skip ?_ | refine AW.exit ?_ | refine AW.ret ?_ | refine AW.label ?_ | refine AExit.norT ?_ | refine AExit.norB ?_ | refine AExit.retT ?_ | refine AExit.retB ?_ | refine AExit.exiT ?_ | refine AExit.exiB ?_ | refine AExit.exiN (by decide) ?_)
  refine AList.op (by decide) ?_; intro K Kp hK hKp; simp [upd_lit]
  have hc := y.call k (by simpa using hk0) (m.newLoc v.cells) (by simp; omega) hI1
  simp only [List.getElem_map, hk1] at hc
  refine hc.mono ?_
  rintro _ m1 ⟨rfl, hI2, o2, n2⟩
  apply hK; clear hK hKp K Kp
  have n2' : m1.nloc = m.nloc + 1 := by rw [n2]; rfl
  have e3 : m1.loc m.nloc = some v.cells := (o2.loc _ (by omega) (by simp)).trans (by simp)
  have ep : m1.loc p = some [.yld n] := (o2.loc _ hpb.1 (by simp; omega)).trans (by simp [pm, hp])
  have eq : m1.loc q = some [.clo 139 [] [.loc p 0, .loc q 0]] := (o2.loc _ hqb.1 (by simp; omega)).trans (by simp [qm, hq])
  repeat (first | (refine AList.op (by decide) ?_; intro K Kp hK hKp; simp [↓aop, ↓Ab.opv, ↓upd_lit, ↓map_ta, ↓List.map_cons, ↓List.map_nil, Nat.add_assoc]; (try (simp (disch := omega) only [wrap_i64]; try simp [↓aop, ↓Ab.opv, ↓upd_lit, ↓map_ta, ↓List.map_cons, ↓List.map_nil, Nat.add_assoc])); apply hK; clear hK hKp K Kp) | (refine AList.op0 ?_; intro K Kp hK hKp; simp [↓aop, ↓Ab.opv, ↓upd_lit, ↓map_ta, ↓List.map_cons, ↓List.map_nil, Nat.add_assoc]; (try (simp (disch := omega) only [wrap_i64]; try simp [↓aop, ↓Ab.opv, ↓upd_lit, ↓map_ta, ↓List.map_cons, ↓List.map_nil, Nat.add_assoc])); apply hK; clear hK hKp K Kp) | refine AList.nil ?_ | refine AW.seq ?_ | refine AW.regionL ?_ | refine AW.block ?_ | refine AW.skip ?_ | refine AW.exit ?_ | refine AW.ret ?_ | refine AW.label ?_ | refine AExit.norT ?_ | refine AExit.norB ?_ | refine AExit.retT ?_ | refine AExit.retB ?_ | refine AExit.exiT ?_ | refine AExit.exiB ?_ | refine AExit.exiN (by decide) ?_)
  refine AW.cond (t := false) (by simp [upd_lit]) (fun h => by cases h) (fun _ => ?_)
  repeat (first | (refine AList.op (by decide) ?_; intro K Kp hK hKp; simp [↓aop, ↓Ab.opv, ↓upd_lit, ↓map_ta, ↓List.map_cons, ↓List.map_nil, Nat.add_assoc, e3, n2']; (try (simp (disch := omega) only [wrap_i64]; try simp [↓aop, ↓Ab.opv, ↓upd_lit, ↓map_ta, ↓List.map_cons, ↓List.map_nil, Nat.add_assoc, e3, n2'])); apply hK; clear hK hKp K Kp) | (refine AList.op0 ?_; intro K Kp hK hKp; simp [↓aop, ↓Ab.opv, ↓upd_lit, ↓map_ta, ↓List.map_cons, ↓List.map_nil, Nat.add_assoc, e3, n2']; (try (simp (disch := omega) only [wrap_i64]; try simp [↓aop, ↓Ab.opv, ↓upd_lit, ↓map_ta, ↓List.map_cons, ↓List.map_nil, Nat.add_assoc, e3, n2'])); apply hK; clear hK hKp K Kp) | refine AList.nil ?_ | refine AW.seq ?_ | refine AW.regionL ?_ | refine AW.block ?_ | refine AW.skip ?_ | refine AW.exit ?_ | refine AW.ret ?_ | refine AW.label ?_ | refine AExit.norT ?_ | refine AExit.norB ?_ | refine AExit.retT ?_ | refine AExit.retB ?_ | refine AExit.exiT ?_ | refine AExit.exiB ?_ | refine AExit.exiN (by decide) ?_)
  refine AW.loop (ι := Nat) (fun i σ m' => i ≤ v.els.length ∧ I (k + 1 + nodesL (v.els.take i)) m' ∧ Only b m1 m' ∧ σ 14 = vI i ∧ σ 13 = vI v.els.length ∧ σ 12 = GV.pvs v.els ∧ σ 2 = .loc q 0) (fun i => v.els.length - i) 0 ?_ ?_
  · exact ⟨by simp, by simpa [nodesL] using hI2, .refl _ _, by simp [upd_lit], by simp [upd_lit], by simp [upd_lit], by simp [upd_lit]⟩
  rintro i σ m' ⟨hi, hIi, oi, s14, s13, s12, s2⟩
  repeat (first | (refine AList.op (by decide) ?_; intro K Kp hK hKp; simp [↓aop, ↓Ab.opv, ↓upd_lit, ↓map_ta, ↓List.map_cons, ↓List.map_nil, Nat.add_assoc, s14, s13, s12, s2]; (try (simp (disch := omega) only [wrap_i64]; try simp [↓aop, ↓Ab.opv, ↓upd_lit, ↓map_ta, ↓List.map_cons, ↓List.map_nil, Nat.add_assoc, s14, s13, s12, s2])); apply hK; clear hK hKp K Kp) | (refine AList.op0 ?_; intro K Kp hK hKp; simp [↓aop, ↓Ab.opv, ↓upd_lit, ↓map_ta, ↓List.map_cons, ↓List.map_nil, Nat.add_assoc, s14, s13, s12, s2]; (try (simp (disch := omega) only [wrap_i64]; try simp [↓aop, ↓Ab.opv, ↓upd_lit, ↓map_ta, ↓List.map_cons, ↓List.map_nil, Nat.add_assoc, s14, s13, s12, s2])); apply hK; clear hK hKp K Kp) | refine AList.nil ?_ | refine AW.seq ?_ | refine AW.regionL ?_ | refine AW.block ?_ | refine AW.skip ?_ | refine AW.exit ?_ | refine AW.ret ?_ | refine AW.label ?_ | refine AExit.norT ?_ | refine AExit.norB ?_ | refine AExit.retT ?_ | refine AExit.retB ?_ | refine AExit.exiT ?_ | refine AExit.exiB ?_ | refine AExit.exiN (by decide) ?_)
  refine AW.condD (p := i < v.els.length) (by simp [upd_lit]) (fun hlt => ?_) (fun hge => ?_)
  · have hg := nodes_get v.els i hlt
    have ht := nodesL_take v.els i hlt
    repeat (first | (refine AList.op (by decide) ?_; intro K Kp hK hKp; simp [↓aop, ↓Ab.opv, ↓upd_lit, ↓map_ta, ↓List.map_cons, ↓List.map_nil, Nat.add_assoc, s14, s13, s12, s2, rows_getD, hlt]; (try (simp (disch := omega) only [wrap_i64]; try simp [↓aop, ↓Ab.opv, ↓upd_lit, ↓map_ta, ↓List.map_cons, ↓List.map_nil, Nat.add_assoc, s14, s13, s12, s2, rows_getD, hlt])); apply hK; clear hK hKp K Kp) | (refine AList.op0 ?_; intro K Kp hK hKp; simp [↓aop, ↓Ab.opv, ↓upd_lit, ↓map_ta, ↓List.map_cons, ↓List.map_nil, Nat.add_assoc, s14, s13, s12, s2, rows_getD, hlt]; (try (simp (disch := omega) only [wrap_i64]; try simp [↓aop, ↓Ab.opv, ↓upd_lit, ↓map_ta, ↓List.map_cons, ↓List.map_nil, Nat.add_assoc, s14, s13, s12, s2, rows_getD, hlt])); apply hK; clear hK hKp K Kp) | refine AList.nil ?_ | refine AW.seq ?_ | refine AW.regionL ?_ | refine AW.block ?_ | refine AW.skip ?_ | refine AW.exit ?_ | refine AW.ret ?_ | refine AW.label ?_ | refine AExit.norT ?_ | refine AExit.norB ?_ | refine AExit.retT ?_ | refine AExit.retB ?_ | refine AExit.exiT ?_ | refine AExit.exiB ?_ | refine AExit.exiN (by decide) ?_)
    have nl' : m.nloc + 1 ≤ m'.nloc := by have := oi.nloc; omega
    have qn : q ≠ m'.nloc := by omega
    have pn : p ≠ m'.nloc := by omega
    have qn1 : q < m'.nloc + 1 := by omega
    have eq' : m'.loc q = some [.clo 139 [] [.loc p 0, .loc q 0]] := (oi.loc _ hqb.1 (by omega)).trans eq
    have ep' : m'.loc p = some [.yld n] := (oi.loc _ hpb.1 (by omega)).trans ep
    repeat (first | (refine AList.op (by decide) ?_; intro K Kp hK hKp; simp [↓aop, ↓Ab.opv, ↓upd_lit, ↓map_ta, ↓List.map_cons, ↓List.map_nil, Nat.add_assoc, s2, qn, qn1, eq']; (try (simp (disch := omega) only [wrap_i64]; try simp [↓aop, ↓Ab.opv, ↓upd_lit, ↓map_ta, ↓List.map_cons, ↓List.map_nil, Nat.add_assoc, s2, qn, qn1, eq'])); apply hK; clear hK hKp K Kp) | (refine AList.op0 ?_; intro K Kp hK hKp; simp [↓aop, ↓Ab.opv, ↓upd_lit, ↓map_ta, ↓List.map_cons, ↓List.map_nil, Nat.add_assoc, s2, qn, qn1, eq']; (try (simp (disch := omega) only [wrap_i64]; try simp [↓aop, ↓Ab.opv, ↓upd_lit, ↓map_ta, ↓List.map_cons, ↓List.map_nil, Nat.add_assoc, s2, qn, qn1, eq'])); apply hK; clear hK hKp K Kp) | refine AList.nil ?_ | refine AW.seq ?_ | refine AW.regionL ?_ | refine AW.block ?_ | refine AW.skip ?_ | refine AW.exit ?_ | refine AW.ret ?_ | refine AW.label ?_ | refine AExit.norT ?_ | refine AExit.norB ?_ | refine AExit.retT ?_ | refine AExit.retB ?_ | refine AExit.exiT ?_ | refine AExit.exiB ?_ | refine AExit.exiN (by decide) ?_)
    refine AList.op (by decide) ?_; intro K Kp hK hKp; simp [upd_lit]
    have sm2 : Same m' ((m'.newLoc [.v (.int .i64 0), .v (.int .i64 0), .v (.bool false), .list .full [], .v (.string ⟨#[]⟩), .list .full []]).setLoc m'.nloc v.els[i].cells) := ((Same.refl m').newLoc _).setLoc (Nat.le_refl _) _
    have hc := ih _ (by omega) v.els[i] (by omega) (k + 1 + nodesL (v.els.take i)) (fun j hj => ?_) _ (y.agr _ m' _ (.same sm2 (by omega) rfl rfl rfl) hIi) (by simp; omega) (by simp [pn, ep']) (by simp [qn, eq']) ⟨hpb.1, by simp; omega⟩ ⟨hqb.1, by simp; omega⟩ rfl
    · refine hc.mono ?_
      rintro _ m2 ⟨rfl, hI3, o3, n3⟩
      apply hK; clear hK hKp K Kp
      repeat (first | (refine AList.op (by decide) ?_; intro K Kp hK hKp; simp [↓aop, ↓Ab.opv, ↓upd_lit, ↓map_ta, ↓List.map_cons, ↓List.map_nil, Nat.add_assoc]; (try (simp (disch := omega) only [wrap_i64]; try simp [↓aop, ↓Ab.opv, ↓upd_lit, ↓map_ta, ↓List.map_cons, ↓List.map_nil, Nat.add_assoc])); apply hK; clear hK hKp K Kp) | (refine AList.op0 ?_; intro K Kp hK hKp; simp [↓aop, ↓Ab.opv, ↓upd_lit, ↓map_ta, ↓List.map_cons, ↓List.map_nil, Nat.add_assoc]; (try (simp (disch := omega) only [wrap_i64]; try simp [↓aop, ↓Ab.opv, ↓upd_lit, ↓map_ta, ↓List.map_cons, ↓List.map_nil, Nat.add_assoc])); apply hK; clear hK hKp K Kp) | refine AList.nil ?_ | refine AW.seq ?_ | refine AW.regionL ?_ | refine AW.block ?_ | refine AW.skip ?_ | refine AW.exit ?_ | refine AW.ret ?_ | refine AW.label ?_ | refine AExit.norT ?_ | refine AExit.norB ?_ | refine AExit.retT ?_ | refine AExit.retB ?_ | refine AExit.exiT ?_ | refine AExit.exiB ?_ | refine AExit.exiN (by decide) ?_)
      refine AW.cond (t := false) (by simp [upd_lit]) (fun h => by cases h) (fun _ => ?_)
      repeat (first | (refine AList.op (by decide) ?_; intro K Kp hK hKp; simp [↓aop, ↓Ab.opv, ↓upd_lit, ↓map_ta, ↓List.map_cons, ↓List.map_nil, Nat.add_assoc, s14]; (try (simp (disch := omega) only [wrap_i64]; try simp [↓aop, ↓Ab.opv, ↓upd_lit, ↓map_ta, ↓List.map_cons, ↓List.map_nil, Nat.add_assoc, s14])); apply hK; clear hK hKp K Kp) | (refine AList.op0 ?_; intro K Kp hK hKp; simp [↓aop, ↓Ab.opv, ↓upd_lit, ↓map_ta, ↓List.map_cons, ↓List.map_nil, Nat.add_assoc, s14]; (try (simp (disch := omega) only [wrap_i64]; try simp [↓aop, ↓Ab.opv, ↓upd_lit, ↓map_ta, ↓List.map_cons, ↓List.map_nil, Nat.add_assoc, s14])); apply hK; clear hK hKp K Kp) | refine AList.nil ?_ | refine AW.seq ?_ | refine AW.regionL ?_ | refine AW.block ?_ | refine AW.skip ?_ | refine AW.exit ?_ | refine AW.ret ?_ | refine AW.label ?_ | refine AExit.norT ?_ | refine AExit.norB ?_ | refine AExit.retT ?_ | refine AExit.retB ?_ | refine AExit.exiT ?_ | refine AExit.exiB ?_ | refine AExit.exiN (by decide) ?_)
      refine ⟨i + 1, ⟨by omega, ?_, (oi.trans (.same sm2)).trans o3, by simp [upd_lit], by simp [upd_lit, s13], by simp [upd_lit, s12], by simp [upd_lit, s2]⟩, by omega⟩
      rw [ht, ← Nat.add_assoc]; exact hI3
    · have hb2 := nodesL_take_le v.els (i + 1)
      rw [walk_len] at hj
      have h1 := hseg (1 + nodesL (v.els.take i) + j) (by rw [walk_len]; omega)
      have h2 := walkL_get v.els i hlt j (by rw [walk_len]; exact hj)
      rw [show k + 1 + nodesL (v.els.take i) + j = k + (1 + nodesL (v.els.take i) + j) from by omega, h1, ← List.getElem?_eq_getElem, walk_eq, show 1 + nodesL (v.els.take i) + j = (nodesL (v.els.take i) + j) + 1 from by omega, List.getElem?_cons_succ, h2, List.getElem?_eq_getElem]
  · repeat (first | (refine AList.op (by decide) ?_; intro K Kp hK hKp; simp [↓aop, ↓Ab.opv, ↓upd_lit, ↓map_ta, ↓List.map_cons, ↓List.map_nil, Nat.add_assoc]; (try (simp (disch := omega) only [wrap_i64]; try simp [↓aop, ↓Ab.opv, ↓upd_lit, ↓map_ta, ↓List.map_cons, ↓List.map_nil, Nat.add_assoc])); apply hK; clear hK hKp K Kp) | (refine AList.op0 ?_; intro K Kp hK hKp; simp [↓aop, ↓Ab.opv, ↓upd_lit, ↓map_ta, ↓List.map_cons, ↓List.map_nil, Nat.add_assoc]; (try (simp (disch := omega) only [wrap_i64]; try simp [↓aop, ↓Ab.opv, ↓upd_lit, ↓map_ta, ↓List.map_cons, ↓List.map_nil, Nat.add_assoc])); apply hK; clear hK hKp K Kp) | refine AList.nil ?_ | refine AW.seq ?_ | refine AW.regionL ?_ | refine AW.block ?_ | refine AW.skip ?_ | refine AW.exit ?_ | refine AW.ret ?_ | refine AW.label ?_ | refine AExit.norT ?_ | refine AExit.norB ?_ | refine AExit.retT ?_ | refine AExit.retB ?_ | refine AExit.exiT ?_ | refine AExit.exiB ?_ | refine AExit.exiN (by decide) ?_)
    have e : i = v.els.length := by omega
    subst e
    rw [List.take_length] at hIi
    obtain ⟨m'', l1, l2, l3, l4⟩ := y.leaves hb hI hIi (o1.trans (o2.trans oi))
    exact ⟨_, m'', rfl, .inr ⟨l1.lv, by simp [upd_lit]⟩, by simp [upd_lit], by rw [hn, ← Nat.add_assoc]; exact l2, l3, l4⟩

theorem val_all1 {n b : Nat} {m0 : St} (v : GV) {I : Nat → St → Prop} (y : Yields Tryz.prog n b m0 ((walkV v).map fun x => [x.pv]) I) (hv : nodes v < 1152921504606846976) (m : St) (hI : I 0 m) (hb : b ≤ m.nloc) :
    ACall Tryz.prog 138 [.yld n, .ro v.cells] m (fun r m' => r = .ret (.tup []) ∧ I (nodes v) m' ∧ Only b m m' ∧ m'.nloc = m.nloc) := by
  have hnb := y.nb
  refine ACall.of_aw Tryz.func138 Tryz.ntmps138 rfl rfl (by simp) ?_
  repeat (first | (refine AList.op (by decide) ?_; intro K Kp hK hKp; simp [↓aop, ↓Ab.opv, ↓upd_lit, ↓map_ta, ↓List.map_cons, ↓List.map_nil, Nat.add_assoc]; (try (simp (disch := omega) only [wrap_i64]; try simp [↓aop, ↓Ab.opv, ↓upd_lit, ↓map_ta, ↓List.map_cons, ↓List.map_nil, Nat.add_assoc])); apply hK; clear hK hKp K Kp) | (refine AList.op0 ?_; intro K Kp hK hKp; simp [↓aop, ↓Ab.opv, ↓upd_lit, ↓map_ta, ↓List.map_cons, ↓List.map_nil, Nat.add_assoc]; (try (simp (disch := omega) only [wrap_i64]; try simp [↓aop, ↓Ab.opv, ↓upd_lit, ↓map_ta, ↓List.map_cons, ↓List.map_nil, Nat.add_assoc])); apply hK; clear hK hKp K Kp) | refine AList.nil ?_ | refine AW.seq ?_ | refine AW.regionL ?_ | refine AW.block ?_ | refine AW.skip ?_ | refine AW.exit ?_ | refine AW.ret ?_ | refine AW.label ?_ | refine AExit.norT ?_ | refine AExit.norB ?_ | refine AExit.retT ?_ | refine AExit.retB ?_ | refine AExit.exiT ?_ | refine AExit.exiB ?_ | refine AExit.exiN (by decide) ?_)
  refine AList.op (by decide) ?_; intro K Kp hK hKp; simp [upd_lit]
  have sm : Same m (((m.newLoc [.yld n]).newLoc [.v .nilFunc]).setLoc (m.nloc + 1) [.clo 139 [] [.loc m.nloc 0, .loc (m.nloc + 1) 0]]) := (by repeat (first | exact Same.refl _ | assumption | refine Same.newLoc ?_ _ | refine Same.setLoc ?_ (by first | omega | (simp; done) | (simp; omega)) _))
  have hc := val_iter y v hv 0 (fun i h => by rw [Nat.zero_add, List.getElem?_eq_getElem h]) m.nloc (m.nloc + 1) _ (y.agr _ m _ (.same sm hb rfl rfl rfl) hI) (by simp; omega) (by simp) (by simp) ⟨hb, by simp; omega⟩ ⟨by omega, by simp⟩
  refine hc.mono ?_
  rintro _ m1 ⟨rfl, h1, h2, h3⟩
  apply hK; clear hK hKp K Kp
  repeat (first | (refine AList.op (by decide) ?_; intro K Kp hK hKp; simp [↓aop, ↓Ab.opv, ↓upd_lit, ↓map_ta, ↓List.map_cons, ↓List.map_nil, Nat.add_assoc]; (try (simp (disch := omega) only [wrap_i64]; try simp [↓aop, ↓Ab.opv, ↓upd_lit, ↓map_ta, ↓List.map_cons, ↓List.map_nil, Nat.add_assoc])); apply hK; clear hK hKp K Kp) | (refine AList.op0 ?_; intro K Kp hK hKp; simp [↓aop, ↓Ab.opv, ↓upd_lit, ↓map_ta, ↓List.map_cons, ↓List.map_nil, Nat.add_assoc]; (try (simp (disch := omega) only [wrap_i64]; try simp [↓aop, ↓Ab.opv, ↓upd_lit, ↓map_ta, ↓List.map_cons, ↓List.map_nil, Nat.add_assoc])); apply hK; clear hK hKp K Kp) | refine AList.nil ?_ | refine AW.seq ?_ | refine AW.regionL ?_ | refine AW.block ?_ | refine AW.skip ?_ | refine AW.exit ?_ | refine AW.ret ?_ | refine AW.label ?_ | refine AExit.norT ?_ | refine AExit.norB ?_ | refine AExit.retT ?_ | refine AExit.retB ?_ | refine AExit.exiT ?_ | refine AExit.exiB ?_ | refine AExit.exiN (by decide) ?_)
  obtain ⟨m'', l1, l2, l3, l4⟩ := y.leaves hb hI h1 ((Only.same sm).trans h2)
  exact ⟨.tup [], m'', ⟨[], rfl, rfl⟩, .inr ⟨l1.lv, by simp⟩, by simp, by simpa using l2, l3, l4⟩
end Go.Proofs.YtgfadepkiejncaaGreat
namespace Go.Proofs.YtgfadepkiejncaaGreat
open Go.Ab
set_option pp.maxSteps 1500
set_option maxHeartbeats 0
attribute [local irreducible] AW AList ACall DA AExit.then AExit.inBlock YCall

theorem Agr.trans {b : Nat} {m m' m'' : St} (h : Agr b m m') (k : Agr b m' m'') : Agr b m m'' :=
  ⟨h.lo, k.lo', fun n c => (k.loc n c).trans (h.loc n c), fun n c => (k.lp n c).trans (h.lp n c), fun n c => (k.it n c).trans (h.it n c), k.ntok.trans h.ntok, k.top.trans h.top, k.wd.trans h.wd, k.arr.trans h.arr⟩
theorem Agr.refl {b : Nat} {m : St} (h : b ≤ m.nloc) : Agr b m m := ⟨h, h, fun _ _ => rfl, fun _ _ => rfl, fun _ _ => rfl, rfl, rfl, rfl, rfl⟩
/-- Yields that count, or add, into variables of plain values: variable c holds f j after j yields. -/
theorem Yields.ofVar {P : Program} {c b : Nat} {mm : St} {L : LoopA} {xs : List (List PV)} {f : Nat → List PV} (hc : c < mm.nloc) (hb : b = mm.nloc + 1) (hst : L.st = .ready) (hp : L.pend = none) (hps : ∀ x ∈ xs, x.length = L.params.length) (hlt : ∀ t ∈ L.params, t < L.N)
    (hsc : ∀ j a t, PV.scL a t (f j))
    (h : ∀ j (h : j < xs.length) m', Agr b ((mm.newLp L).setLoc c (f j)) m' → AW P L.N L.assign (AExit.then (fun σ' m'' => m'' = m' ∧ AW P L.N L.body (fun x _ m₂ => x = .normal ∧ ∃ m₃, m₂ = (m'.setLp mm.nloc { L with st := .busy }).setLoc c m₃ ∧ m₃ = f (j + 1)) σ' (m'.setLp mm.nloc { L with st := .busy })) (fun _ _ _ => False)) (parm L.σ L.params xs[j]) m') :
    Yields P mm.nloc b (mm.newLp L) xs (fun j m' => Agr b ((mm.newLp L).setLoc c (f j)) m') := by
  subst hb
  refine ⟨by omega, fun j m m' a i => i.trans a, fun i hi => ?_, fun k => ?_, fun j hj m' hb' hI => ?_⟩
  · by_cases e : i = c
    · subst e
      refine .inr fun j m' cs hI hcs => ?_
      have := hI.loc i hi
      rw [setLoc_loc, if_pos rfl, hcs] at this
      cases this
      exact hsc _ _ _
    · refine .inl fun j m' hI => ?_
      rw [hI.loc i hi, setLoc_loc, if_neg e]
  · by_cases hk : k < mm.ntok
    · exact .inl ⟨hk, fun j m' hI => ⟨by rw [hI.arr]; rfl, Nat.le_of_eq hI.ntok.symm⟩⟩
    · exact .inr fun j m' cs hI hk' _ => by rw [hI.ntok] at hk'; exact absurd hk' hk
  · have hn : mm.nloc < m'.nloc := by omega
    have hL : m'.lp mm.nloc = some L := by rw [hI.lp _ (by omega)]; simp
    refine YCall.of_aw hn hL hst hp (hps _ (List.getElem_mem hj)) hlt ?_
    refine (h j hj m' hI).mono fun x σ m₁ hx => ?_
    cases x <;> simp only [AExit.then] at hx ⊢
    obtain ⟨rfl, hx⟩ := hx
    refine ⟨hn, hL, hx.mono fun x σ m₂ hq => ?_⟩
    obtain ⟨rfl, m₃, rfl, rfl⟩ := hq
    refine ⟨m₁.setLoc c (f (j + 1)), by simp, ?_, rfl, ?_, ⟨Nat.le_refl _, fun n h1 h2 => by rw [setLoc_loc, if_neg (by omega)], fun _ _ => rfl, fun _ _ => rfl, Nat.le_refl _⟩, rfl⟩
    · refine ⟨rfl, Nat.le_refl _, Nat.le_refl _, Nat.le_refl _, fun n hn' => ⟨rfl, ?_⟩, fun _ _ => ⟨rfl, rfl⟩, fun n hn' => ⟨?_, ?_⟩, fun _ _ => rfl, fun k cs hk _ hc => ⟨hc, .inl ⟨hk, hc⟩⟩⟩
      · by_cases e : n = c
        · subst e; refine .inr fun cs hcs => ?_
          simp at hcs; subst hcs; exact hsc _ _ _
        · exact .inl (by simp [e])
      · by_cases e : n = mm.nloc
        · simp [e, hL]
        · simp [e]
      · by_cases e : n = mm.nloc
        · simp [e, hL]
        · simp [e]
    · refine ⟨hI.lo, hI.lo', fun i hi => ?_, fun i hi => hI.lp i hi, fun i hi => hI.it i hi, hI.ntok, hI.top, hI.wd, hI.arr⟩
      simp only [setLoc_loc]
      split
      · rfl
      · rename_i e; have := hI.loc i hi; rw [setLoc_loc, if_neg e] at this; exact this

/-! val.Nodes -/
theorem val_nodes (v : GV) (hv : nodes v < 1152921504606846976) : Gives Tryz.prog 30 [v.pv] (vI (nodes v)) := by
  intro m
  refine ACall.of_aw Tryz.func30 Tryz.ntmps30 rfl rfl (by simp) ?_
  repeat (first | (refine AList.op (by decide) ?_; intro K Kp hK hKp; simp [↓aop, ↓Ab.opv, ↓upd_lit, ↓map_ta, ↓List.map_cons, ↓List.map_nil, Nat.add_assoc]; (try (simp (disch := omega) only [wrap_i64]; try simp [↓aop, ↓Ab.opv, ↓upd_lit, ↓map_ta, ↓List.map_cons, ↓List.map_nil, Nat.add_assoc])); apply hK; clear hK hKp K Kp) | (refine AList.op0 ?_; intro K Kp hK hKp; simp [↓aop, ↓Ab.opv, ↓upd_lit, ↓map_ta, ↓List.map_cons, ↓List.map_nil, Nat.add_assoc]; (try (simp (disch := omega) only [wrap_i64]; try simp [↓aop, ↓Ab.opv, ↓upd_lit, ↓map_ta, ↓List.map_cons, ↓List.map_nil, Nat.add_assoc])); apply hK; clear hK hKp K Kp) | refine AList.nil ?_ | refine AW.seq ?_ | refine AW.regionL ?_ | refine AW.block ?_ | refine AW.skip ?_ | refine AW.exit ?_ | refine AW.ret ?_ | refine AW.label ?_ | refine AExit.norT ?_ | refine AExit.norB ?_ | refine AExit.retT ?_ | refine AExit.retB ?_ | refine AExit.exiT ?_ | refine AExit.exiB ?_ | refine AExit.exiN (by decide) ?_)
  refine AList.op (by decide) ?_; intro K Kp hK hKp; simp [↓aop, ↓Ab.opv, ↓upd_lit, ↓map_ta, ↓List.map_cons, ↓List.map_nil, Nat.add_assoc]; (try (simp (disch := omega) only [wrap_i64]; try simp [↓aop, ↓Ab.opv, ↓upd_lit, ↓map_ta, ↓List.map_cons, ↓List.map_nil, Nat.add_assoc])); refine Gives.at (val_all v) ?_; apply hK; clear hK hKp K Kp
  repeat (first | (refine AList.op (by decide) ?_; intro K Kp hK hKp; simp [↓aop, ↓Ab.opv, ↓upd_lit, ↓map_ta, ↓List.map_cons, ↓List.map_nil, Nat.add_assoc]; (try (simp (disch := omega) only [wrap_i64]; try simp [↓aop, ↓Ab.opv, ↓upd_lit, ↓map_ta, ↓List.map_cons, ↓List.map_nil, Nat.add_assoc])); apply hK; clear hK hKp K Kp) | (refine AList.op0 ?_; intro K Kp hK hKp; simp [↓aop, ↓Ab.opv, ↓upd_lit, ↓map_ta, ↓List.map_cons, ↓List.map_nil, Nat.add_assoc]; (try (simp (disch := omega) only [wrap_i64]; try simp [↓aop, ↓Ab.opv, ↓upd_lit, ↓map_ta, ↓List.map_cons, ↓List.map_nil, Nat.add_assoc])); apply hK; clear hK hKp K Kp) | refine AList.nil ?_ | refine AW.seq ?_ | refine AW.regionL ?_ | refine AW.block ?_ | refine AW.skip ?_ | refine AW.exit ?_ | refine AW.ret ?_ | refine AW.label ?_ | refine AExit.norT ?_ | refine AExit.norB ?_ | refine AExit.retT ?_ | refine AExit.retB ?_ | refine AExit.exiT ?_ | refine AExit.exiB ?_ | refine AExit.exiN (by decide) ?_)
  refine AW.rangeFunc (f := 138) (first := []) (caps := [.ro v.cells]) (by simp [upd_lit]) (fun fn => ?_)
  have n1 : (((m.newLoc v.cells).newLoc [vI 0]).setLoc (m.nloc + 1) [vI 0]).nloc = m.nloc + 2 := rfl
  have sm : Same m (((m.newLoc v.cells).newLoc [vI 0]).setLoc (m.nloc + 1) [vI 0]) := (by repeat (first | exact Same.refl _ | assumption | refine Same.newLoc ?_ _ | refine Same.setLoc ?_ (by first | omega | (simp; done) | (simp; omega)) _))
  have hnl := walk_len v
  generalize hL : LoopA.mk _ _ _ _ _ _ _ _ = L
  refine ACall.mono (val_all1 v (Yields.ofVar (L := L) (P := Tryz.prog) (c := m.nloc + 1) (mm := ((m.newLoc v.cells).newLoc [vI 0]).setLoc (m.nloc + 1) [vI 0]) (f := fun j => [vI j]) (by rw [n1]; omega) rfl (by rw [← hL]) (by rw [← hL]) ?_ ?_ ?_ ?_) hv _ ?_ (by simp)) ?_
  · intro x hx
    obtain ⟨y, _, rfl⟩ := List.mem_map.1 hx
    rw [← hL]; rfl
  · rw [← hL]; intro t ht; simp at ht; subst ht; exact (by decide : (6 : Nat) < 10)
  · intro j a t; exact ⟨trivial, trivial⟩
  · intro j hj m' hI
    have hj' : j < nodes v := by simpa [hnl] using hj
    have e1 : m'.loc (m.nloc + 1) = some [vI j] := by rw [hI.loc _ (by rw [n1]; omega)]; simp
    have e2 : m.nloc + 1 < m'.nloc := by have := hI.lo'; rw [n1] at this; omega
    subst hL
    simp only [List.getElem_map, parm]
    refine AW.skip ?_
    refine AExit.norT ⟨rfl, ?_⟩
    repeat (first | (refine AList.op (by decide) ?_; intro K Kp hK hKp; simp [↓aop, ↓Ab.opv, ↓upd_lit, ↓map_ta, ↓List.map_cons, ↓List.map_nil, Nat.add_assoc, e1, e2]; (try (simp (disch := omega) only [wrap_i64]; try simp [↓aop, ↓Ab.opv, ↓upd_lit, ↓map_ta, ↓List.map_cons, ↓List.map_nil, Nat.add_assoc, e1, e2])); apply hK; clear hK hKp K Kp) | (refine AList.op0 ?_; intro K Kp hK hKp; simp [↓aop, ↓Ab.opv, ↓upd_lit, ↓map_ta, ↓List.map_cons, ↓List.map_nil, Nat.add_assoc, e1, e2]; (try (simp (disch := omega) only [wrap_i64]; try simp [↓aop, ↓Ab.opv, ↓upd_lit, ↓map_ta, ↓List.map_cons, ↓List.map_nil, Nat.add_assoc, e1, e2])); apply hK; clear hK hKp K Kp) | refine AList.nil ?_ | refine AW.seq ?_ | refine AW.regionL ?_ | refine AW.block ?_ | refine AW.skip ?_ | refine AW.exit ?_ | refine AW.ret ?_ | refine AW.label ?_ | refine AExit.norT ?_ | refine AExit.norB ?_ | refine AExit.retT ?_ | refine AExit.retB ?_ | refine AExit.exiT ?_ | refine AExit.exiB ?_ | refine AExit.exiN (by decide) ?_)
    exact ⟨rfl, _, rfl, by simp⟩
  · refine ⟨by simp, by simp, fun i hi => ?_, fun i hi => rfl, fun i hi => rfl, rfl, rfl, rfl, rfl⟩
    by_cases e : i = m.nloc + 1 <;> simp [e]
  · rintro _ m' ⟨rfl, hI, ho, hn'⟩
    refine ⟨_, _, rfl, by rw [hn']; simp, by rw [hI.lp _ (by simp)]; simp; rfl, by rw [← hL]; simp, by rw [← hL], ?_⟩
    have e1 : m'.loc (m.nloc + 1) = some [vI (nodes v)] := by rw [hI.loc _ (by rw [n1]; omega)]; simp
    have e2 : m.nloc + 1 < m'.nloc := by have := hI.lo'; rw [n1] at this; omega
    repeat (first | (refine AList.op (by decide) ?_; intro K Kp hK hKp; simp [↓aop, ↓Ab.opv, ↓upd_lit, ↓map_ta, ↓List.map_cons, ↓List.map_nil, Nat.add_assoc, e1, e2]; (try (simp (disch := omega) only [wrap_i64]; try simp [↓aop, ↓Ab.opv, ↓upd_lit, ↓map_ta, ↓List.map_cons, ↓List.map_nil, Nat.add_assoc, e1, e2])); apply hK; clear hK hKp K Kp) | (refine AList.op0 ?_; intro K Kp hK hKp; simp [↓aop, ↓Ab.opv, ↓upd_lit, ↓map_ta, ↓List.map_cons, ↓List.map_nil, Nat.add_assoc, e1, e2]; (try (simp (disch := omega) only [wrap_i64]; try simp [↓aop, ↓Ab.opv, ↓upd_lit, ↓map_ta, ↓List.map_cons, ↓List.map_nil, Nat.add_assoc, e1, e2])); apply hK; clear hK hKp K Kp) | refine AList.nil ?_ | refine AW.seq ?_ | refine AW.regionL ?_ | refine AW.block ?_ | refine AW.skip ?_ | refine AW.exit ?_ | refine AW.ret ?_ | refine AW.label ?_ | refine AExit.norT ?_ | refine AExit.norB ?_ | refine AExit.retT ?_ | refine AExit.retB ?_ | refine AExit.exiT ?_ | refine AExit.exiB ?_ | refine AExit.exiN (by decide) ?_)
    refine Fin.ret rfl ?_ (by simp [upd_lit]) (by simp) ⟨rfl, rfl⟩
    have hs := hI.lo'
    rw [n1] at hs
    refine Same.mk (by simp; omega) (by simp [hI.ntok]) (fun i hi => ?_) (fun k hk => ?_) (fun i hi => ?_) (fun i hi => ?_) (fun k cs _ _ hc => (congrFun hI.arr k).trans hc)
    · simp; rw [hI.loc i (by rw [n1]; omega)]; simp [Nat.add_assoc, show i ≠ m.nloc + 2 from by omega, show i ≠ m.nloc + 1 from by omega, show i ≠ m.nloc from by omega]
    · simp [hI.top, hI.wd]
    · simp; rw [if_neg (by omega), hI.lp i (by rw [n1]; omega)]; simp [Nat.add_assoc, show i ≠ m.nloc + 2 from by omega, show i ≠ m.nloc + 1 from by omega, show i ≠ m.nloc from by omega]
    · rw [show (m'.dropLp (m.nloc + 2)).it = m'.it from rfl, hI.it i (by rw [n1]; omega)]; simp [upd_lit, St.newLp, Nat.add_assoc, show i ≠ m.nloc + 2 from by omega, show i ≠ m.nloc + 1 from by omega, show i ≠ m.nloc from by omega]
end Go.Proofs.YtgfadepkiejncaaGreat
namespace Go.Proofs.YtgfadepkiejncaaGreat
open Go.Ab
set_option pp.maxSteps 1500
set_option maxHeartbeats 0
attribute [local irreducible] AW AList ACall DA AExit.then AExit.inBlock YCall

/-! val.Deep -/
theorem val_deep (v : GV) (hv : nodes v < 1152921504606846976) : Gives Tryz.prog 32 [v.pv] (vI (deep v)) := by
  induction hk : nodes v using Nat.strongRecOn generalizing v with
  | _ k ih =>
  subst hk
  have hn := nodes_eq v
  have hl := nodesL_len v.els
  intro m
  refine ACall.of_aw Tryz.func32 Tryz.ntmps32 rfl rfl (by simp) ?_
  repeat (first | (refine AList.op (by decide) ?_; intro K Kp hK hKp; simp [↓aop, ↓Ab.opv, ↓upd_lit, ↓map_ta, ↓List.map_cons, ↓List.map_nil, Nat.add_assoc]; (try (simp (disch := omega) only [wrap_i64]; try simp [↓aop, ↓Ab.opv, ↓upd_lit, ↓map_ta, ↓List.map_cons, ↓List.map_nil, Nat.add_assoc])); apply hK; clear hK hKp K Kp) | (refine AList.op0 ?_; intro K Kp hK hKp; simp [↓aop, ↓Ab.opv, ↓upd_lit, ↓map_ta, ↓List.map_cons, ↓List.map_nil, Nat.add_assoc]; (try (simp (disch := omega) only [wrap_i64]; try simp [↓aop, ↓Ab.opv, ↓upd_lit, ↓map_ta, ↓List.map_cons, ↓List.map_nil, Nat.add_assoc])); apply hK; clear hK hKp K Kp) | refine AList.nil ?_ | refine AW.seq ?_ | refine AW.regionL ?_ | refine AW.block ?_ | refine AW.skip ?_ | refine AW.exit ?_ | refine AW.ret ?_ | refine AW.label ?_ | refine AExit.norT ?_ | refine AExit.norB ?_ | refine AExit.retT ?_ | refine AExit.retB ?_ | refine AExit.exiT ?_ | refine AExit.exiB ?_ | refine AExit.exiN (by decide) ?_)
  refine AW.loop (ι := Nat) (fun i σ m' => i ≤ v.els.length ∧ σ 3 = vI (deepL (v.els.take i)) ∧ σ 9 = vI i ∧ σ 8 = vI v.els.length ∧ σ 7 = GV.pvs v.els ∧ Same m m') (fun i => v.els.length - i) 0 ?_ ?_
  · exact ⟨by simp, by simp [upd_lit, deepL], by simp [upd_lit], by simp [upd_lit], by simp [upd_lit], (by repeat (first | exact Same.refl _ | assumption | refine Same.newLoc ?_ _ | refine Same.setLoc ?_ (by first | omega | (simp; done) | (simp; omega)) _))⟩
  rintro i σ m' ⟨hi, h3, h9, h8, h7, sm⟩
  have hnb := nodesL_take_le v.els i
  have hdb := deepL_le (v.els.take i)
  repeat (first | (refine AList.op (by decide) ?_; intro K Kp hK hKp; simp [↓aop, ↓Ab.opv, ↓upd_lit, ↓map_ta, ↓List.map_cons, ↓List.map_nil, Nat.add_assoc, h3, h7, h8, h9]; (try (simp (disch := omega) only [wrap_i64]; try simp [↓aop, ↓Ab.opv, ↓upd_lit, ↓map_ta, ↓List.map_cons, ↓List.map_nil, Nat.add_assoc, h3, h7, h8, h9])); apply hK; clear hK hKp K Kp) | (refine AList.op0 ?_; intro K Kp hK hKp; simp [↓aop, ↓Ab.opv, ↓upd_lit, ↓map_ta, ↓List.map_cons, ↓List.map_nil, Nat.add_assoc, h3, h7, h8, h9]; (try (simp (disch := omega) only [wrap_i64]; try simp [↓aop, ↓Ab.opv, ↓upd_lit, ↓map_ta, ↓List.map_cons, ↓List.map_nil, Nat.add_assoc, h3, h7, h8, h9])); apply hK; clear hK hKp K Kp) | refine AList.nil ?_ | refine AW.seq ?_ | refine AW.regionL ?_ | refine AW.block ?_ | refine AW.skip ?_ | refine AW.exit ?_ | refine AW.ret ?_ | refine AW.label ?_ | refine AExit.norT ?_ | refine AExit.norB ?_ | refine AExit.retT ?_ | refine AExit.retB ?_ | refine AExit.exiT ?_ | refine AExit.exiB ?_ | refine AExit.exiN (by decide) ?_)
  refine AW.condD (p := i < v.els.length) (by simp [upd_lit]) (fun hlt => ?_) (fun hge => ?_)
  · have hg := nodes_get v.els i hlt
    have ht := deepL_take v.els i hlt
    have hd := deep_le v.els[i]
    repeat (first | (refine AList.op (by decide) ?_; intro K Kp hK hKp; simp [↓aop, ↓Ab.opv, ↓upd_lit, ↓map_ta, ↓List.map_cons, ↓List.map_nil, Nat.add_assoc, h3, h7, h8, h9, hlt, rows_getD]; (try (simp (disch := omega) only [wrap_i64]; try simp [↓aop, ↓Ab.opv, ↓upd_lit, ↓map_ta, ↓List.map_cons, ↓List.map_nil, Nat.add_assoc, h3, h7, h8, h9, hlt, rows_getD])); apply hK; clear hK hKp K Kp) | (refine AList.op0 ?_; intro K Kp hK hKp; simp [↓aop, ↓Ab.opv, ↓upd_lit, ↓map_ta, ↓List.map_cons, ↓List.map_nil, Nat.add_assoc, h3, h7, h8, h9, hlt, rows_getD]; (try (simp (disch := omega) only [wrap_i64]; try simp [↓aop, ↓Ab.opv, ↓upd_lit, ↓map_ta, ↓List.map_cons, ↓List.map_nil, Nat.add_assoc, h3, h7, h8, h9, hlt, rows_getD])); apply hK; clear hK hKp K Kp) | refine AList.nil ?_ | refine AW.seq ?_ | refine AW.regionL ?_ | refine AW.block ?_ | refine AW.skip ?_ | refine AW.exit ?_ | refine AW.ret ?_ | refine AW.label ?_ | refine AExit.norT ?_ | refine AExit.norB ?_ | refine AExit.retT ?_ | refine AExit.retB ?_ | refine AExit.exiT ?_ | refine AExit.exiB ?_ | refine AExit.exiN (by decide) ?_)
    refine AList.op (by decide) ?_; intro K Kp hK hKp; simp [↓aop, ↓Ab.opv, ↓upd_lit, ↓map_ta, ↓List.map_cons, ↓List.map_nil, Nat.add_assoc, h3, h9]; (try (simp (disch := omega) only [wrap_i64]; try simp [↓aop, ↓Ab.opv, ↓upd_lit, ↓map_ta, ↓List.map_cons, ↓List.map_nil, Nat.add_assoc, h3, h9])); refine Gives.at (ih _ (by omega) v.els[i] (by omega) rfl) ?_; apply hK; clear hK hKp K Kp
    repeat (first | (refine AList.op (by decide) ?_; intro K Kp hK hKp; simp [↓aop, ↓Ab.opv, ↓upd_lit, ↓map_ta, ↓List.map_cons, ↓List.map_nil, Nat.add_assoc, h3, h9]; (try (simp (disch := omega) only [wrap_i64]; try simp [↓aop, ↓Ab.opv, ↓upd_lit, ↓map_ta, ↓List.map_cons, ↓List.map_nil, Nat.add_assoc, h3, h9])); apply hK; clear hK hKp K Kp) | (refine AList.op0 ?_; intro K Kp hK hKp; simp [↓aop, ↓Ab.opv, ↓upd_lit, ↓map_ta, ↓List.map_cons, ↓List.map_nil, Nat.add_assoc, h3, h9]; (try (simp (disch := omega) only [wrap_i64]; try simp [↓aop, ↓Ab.opv, ↓upd_lit, ↓map_ta, ↓List.map_cons, ↓List.map_nil, Nat.add_assoc, h3, h9])); apply hK; clear hK hKp K Kp) | refine AList.nil ?_ | refine AW.seq ?_ | refine AW.regionL ?_ | refine AW.block ?_ | refine AW.skip ?_ | refine AW.exit ?_ | refine AW.ret ?_ | refine AW.label ?_ | refine AExit.norT ?_ | refine AExit.norB ?_ | refine AExit.retT ?_ | refine AExit.retB ?_ | refine AExit.exiT ?_ | refine AExit.exiB ?_ | refine AExit.exiN (by decide) ?_)
    refine ⟨i + 1, ⟨by omega, ?_, by simp [upd_lit], by simp [upd_lit, h8], by simp [upd_lit, h7], (sm.newLoc _).setLoc sm.lloc _⟩, by omega⟩
    simp [upd_lit, ht]; (try omega)
  · have hge : i = v.els.length := by omega
    subst hge
    rw [List.take_length] at h3 hdb
    repeat (first | (refine AList.op (by decide) ?_; intro K Kp hK hKp; simp [↓aop, ↓Ab.opv, ↓upd_lit, ↓map_ta, ↓List.map_cons, ↓List.map_nil, Nat.add_assoc, h3]; (try (simp (disch := omega) only [wrap_i64]; try simp [↓aop, ↓Ab.opv, ↓upd_lit, ↓map_ta, ↓List.map_cons, ↓List.map_nil, Nat.add_assoc, h3])); apply hK; clear hK hKp K Kp) | (refine AList.op0 ?_; intro K Kp hK hKp; simp [↓aop, ↓Ab.opv, ↓upd_lit, ↓map_ta, ↓List.map_cons, ↓List.map_nil, Nat.add_assoc, h3]; (try (simp (disch := omega) only [wrap_i64]; try simp [↓aop, ↓Ab.opv, ↓upd_lit, ↓map_ta, ↓List.map_cons, ↓List.map_nil, Nat.add_assoc, h3])); apply hK; clear hK hKp K Kp) | refine AList.nil ?_ | refine AW.seq ?_ | refine AW.regionL ?_ | refine AW.block ?_ | refine AW.skip ?_ | refine AW.exit ?_ | refine AW.ret ?_ | refine AW.label ?_ | refine AExit.norT ?_ | refine AExit.norB ?_ | refine AExit.retT ?_ | refine AExit.retB ?_ | refine AExit.exiT ?_ | refine AExit.exiB ?_ | refine AExit.exiN (by decide) ?_)
    exact Fin.ret rfl sm (by simp [upd_lit]; rfl) (by simp) ⟨by rw [deep_eq]; simp [Int.add_comm], rfl⟩
end Go.Proofs.YtgfadepkiejncaaGreat
namespace Go.Proofs.YtgfadepkiejncaaGreat
open Go.Ab
set_option pp.maxSteps 1500
set_option maxHeartbeats 0
attribute [local irreducible] AW AList ACall DA AExit.then AExit.inBlock YCall

/-! slices.Clone on limbs -/
theorem clone22 (a : List Int) (la : a.length ≤ 1099511627776) : Gives Tryz.prog 94 [.list .no (limbs a)] (.list .no (limbs a)) := by
  intro m
  refine ACall.of_aw Tryz.func94 Tryz.ntmps94 rfl rfl (by simp) ?_
  repeat (first | (refine AList.op (by decide) ?_; intro K Kp hK hKp; simp [↓aop, ↓Ab.opv, ↓upd_lit, ↓map_ta, ↓List.map_cons, ↓List.map_nil, Nat.add_assoc]; (try (simp (disch := omega) only [wrap_i64]; try simp [↓aop, ↓Ab.opv, ↓upd_lit, ↓map_ta, ↓List.map_cons, ↓List.map_nil, Nat.add_assoc])); apply hK; clear hK hKp K Kp) | (refine AList.op0 ?_; intro K Kp hK hKp; simp [↓aop, ↓Ab.opv, ↓upd_lit, ↓map_ta, ↓List.map_cons, ↓List.map_nil, Nat.add_assoc]; (try (simp (disch := omega) only [wrap_i64]; try simp [↓aop, ↓Ab.opv, ↓upd_lit, ↓map_ta, ↓List.map_cons, ↓List.map_nil, Nat.add_assoc])); apply hK; clear hK hKp K Kp) | refine AList.nil ?_ | refine AW.seq ?_ | refine AW.regionL ?_ | refine AW.block ?_ | refine AW.skip ?_ | refine AW.exit ?_ | refine AW.ret ?_ | refine AW.label ?_ | refine AExit.norT ?_ | refine AExit.norB ?_ | refine AExit.retT ?_ | refine AExit.retB ?_ | refine AExit.exiT ?_ | refine AExit.exiB ?_ | refine AExit.exiN (by decide) ?_)
  refine AList.op (by decide) ?_; intro K Kp hK hKp; simp [upd_lit]
  refine ⟨?_, fun h0 => ?_⟩
  · apply hK; clear hK hKp K Kp
    repeat (first | (refine AList.op (by decide) ?_; intro K Kp hK hKp; simp [↓aop, ↓Ab.opv, ↓upd_lit, ↓map_ta, ↓List.map_cons, ↓List.map_nil, Nat.add_assoc]; (try (simp (disch := omega) only [wrap_i64]; try simp [↓aop, ↓Ab.opv, ↓upd_lit, ↓map_ta, ↓List.map_cons, ↓List.map_nil, Nat.add_assoc])); apply hK; clear hK hKp K Kp) | (refine AList.op0 ?_; intro K Kp hK hKp; simp [↓aop, ↓Ab.opv, ↓upd_lit, ↓map_ta, ↓List.map_cons, ↓List.map_nil, Nat.add_assoc]; (try (simp (disch := omega) only [wrap_i64]; try simp [↓aop, ↓Ab.opv, ↓upd_lit, ↓map_ta, ↓List.map_cons, ↓List.map_nil, Nat.add_assoc])); apply hK; clear hK hKp K Kp) | refine AList.nil ?_ | refine AW.seq ?_ | refine AW.regionL ?_ | refine AW.block ?_ | refine AW.skip ?_ | refine AW.exit ?_ | refine AW.ret ?_ | refine AW.label ?_ | refine AExit.norT ?_ | refine AExit.norB ?_ | refine AExit.retT ?_ | refine AExit.retB ?_ | refine AExit.exiT ?_ | refine AExit.exiB ?_ | refine AExit.exiN (by decide) ?_)
    refine AW.cond (t := false) (by simp [upd_lit]) (fun h => by cases h) (fun _ => ?_)
    repeat (first | (refine AList.op (by decide) ?_; intro K Kp hK hKp; simp [↓aop, ↓Ab.opv, ↓upd_lit, ↓map_ta, ↓List.map_cons, ↓List.map_nil, Nat.add_assoc]; (try (simp (disch := omega) only [wrap_i64]; try simp [↓aop, ↓Ab.opv, ↓upd_lit, ↓map_ta, ↓List.map_cons, ↓List.map_nil, Nat.add_assoc])); apply hK; clear hK hKp K Kp) | (refine AList.op0 ?_; intro K Kp hK hKp; simp [↓aop, ↓Ab.opv, ↓upd_lit, ↓map_ta, ↓List.map_cons, ↓List.map_nil, Nat.add_assoc]; (try (simp (disch := omega) only [wrap_i64]; try simp [↓aop, ↓Ab.opv, ↓upd_lit, ↓map_ta, ↓List.map_cons, ↓List.map_nil, Nat.add_assoc])); apply hK; clear hK hKp K Kp) | refine AList.nil ?_ | refine AW.seq ?_ | refine AW.regionL ?_ | refine AW.block ?_ | refine AW.skip ?_ | refine AW.exit ?_ | refine AW.ret ?_ | refine AW.label ?_ | refine AExit.norT ?_ | refine AExit.norB ?_ | refine AExit.retT ?_ | refine AExit.retB ?_ | refine AExit.exiT ?_ | refine AExit.exiB ?_ | refine AExit.exiN (by decide) ?_)
    refine AList.op (by decide) ?_; intro K Kp hK hKp; simp [upd_lit]
    refine app22 (l := []) (m0 := m) (.full (Same.refl m)) rfl (by simpa using la) fun o' m'' ho' _ => hK _ _ ?_; clear hK hKp K Kp
    repeat (first | (refine AList.op (by decide) ?_; intro K Kp hK hKp; simp [↓aop, ↓Ab.opv, ↓upd_lit, ↓map_ta, ↓List.map_cons, ↓List.map_nil, Nat.add_assoc]; (try (simp (disch := omega) only [wrap_i64]; try simp [↓aop, ↓Ab.opv, ↓upd_lit, ↓map_ta, ↓List.map_cons, ↓List.map_nil, Nat.add_assoc])); apply hK; clear hK hKp K Kp) | (refine AList.op0 ?_; intro K Kp hK hKp; simp [↓aop, ↓Ab.opv, ↓upd_lit, ↓map_ta, ↓List.map_cons, ↓List.map_nil, Nat.add_assoc]; (try (simp (disch := omega) only [wrap_i64]; try simp [↓aop, ↓Ab.opv, ↓upd_lit, ↓map_ta, ↓List.map_cons, ↓List.map_nil, Nat.add_assoc])); apply hK; clear hK hKp K Kp) | refine AList.nil ?_ | refine AW.seq ?_ | refine AW.regionL ?_ | refine AW.block ?_ | refine AW.skip ?_ | refine AW.exit ?_ | refine AW.ret ?_ | refine AW.label ?_ | refine AExit.norT ?_ | refine AExit.norB ?_ | refine AExit.retT ?_ | refine AExit.retB ?_ | refine AExit.exiT ?_ | refine AExit.exiB ?_ | refine AExit.exiN (by decide) ?_)
    exact Fin.ret rfl ho'.1 (by simp [upd_lit]) (by simp) ⟨rfl, rfl⟩
  · apply hK; clear hK hKp K Kp
    repeat (first | (refine AList.op (by decide) ?_; intro K Kp hK hKp; simp [↓aop, ↓Ab.opv, ↓upd_lit, ↓map_ta, ↓List.map_cons, ↓List.map_nil, Nat.add_assoc]; (try (simp (disch := omega) only [wrap_i64]; try simp [↓aop, ↓Ab.opv, ↓upd_lit, ↓map_ta, ↓List.map_cons, ↓List.map_nil, Nat.add_assoc])); apply hK; clear hK hKp K Kp) | (refine AList.op0 ?_; intro K Kp hK hKp; simp [↓aop, ↓Ab.opv, ↓upd_lit, ↓map_ta, ↓List.map_cons, ↓List.map_nil, Nat.add_assoc]; (try (simp (disch := omega) only [wrap_i64]; try simp [↓aop, ↓Ab.opv, ↓upd_lit, ↓map_ta, ↓List.map_cons, ↓List.map_nil, Nat.add_assoc])); apply hK; clear hK hKp K Kp) | refine AList.nil ?_ | refine AW.seq ?_ | refine AW.regionL ?_ | refine AW.block ?_ | refine AW.skip ?_ | refine AW.exit ?_ | refine AW.ret ?_ | refine AW.label ?_ | refine AExit.norT ?_ | refine AExit.norB ?_ | refine AExit.retT ?_ | refine AExit.retB ?_ | refine AExit.exiT ?_ | refine AExit.exiB ?_ | refine AExit.exiN (by decide) ?_)
    refine AW.cond (t := true) (by simp [upd_lit]) (fun _ => ?_) (fun h => by cases h)
    repeat (first | (refine AList.op (by decide) ?_; intro K Kp hK hKp; simp [↓aop, ↓Ab.opv, ↓upd_lit, ↓map_ta, ↓List.map_cons, ↓List.map_nil, Nat.add_assoc]; (try (simp (disch := omega) only [wrap_i64]; try simp [↓aop, ↓Ab.opv, ↓upd_lit, ↓map_ta, ↓List.map_cons, ↓List.map_nil, Nat.add_assoc])); apply hK; clear hK hKp K Kp) | (refine AList.op0 ?_; intro K Kp hK hKp; simp [↓aop, ↓Ab.opv, ↓upd_lit, ↓map_ta, ↓List.map_cons, ↓List.map_nil, Nat.add_assoc]; (try (simp (disch := omega) only [wrap_i64]; try simp [↓aop, ↓Ab.opv, ↓upd_lit, ↓map_ta, ↓List.map_cons, ↓List.map_nil, Nat.add_assoc])); apply hK; clear hK hKp K Kp) | refine AList.nil ?_ | refine AW.seq ?_ | refine AW.regionL ?_ | refine AW.block ?_ | refine AW.skip ?_ | refine AW.exit ?_ | refine AW.label ?_ | refine AExit.norT ?_ | refine AExit.norB ?_ | refine AExit.retT ?_ | refine AExit.retB ?_ | refine AExit.exiT ?_ | refine AExit.exiB ?_ | refine AExit.exiN (by decide) ?_)
    refine AW.nilS (d := 2) (by simp [upd_lit]) ?_
    repeat (first | (refine AList.op (by decide) ?_; intro K Kp hK hKp; simp [↓aop, ↓Ab.opv, ↓upd_lit, ↓map_ta, ↓List.map_cons, ↓List.map_nil, Nat.add_assoc]; (try (simp (disch := omega) only [wrap_i64]; try simp [↓aop, ↓Ab.opv, ↓upd_lit, ↓map_ta, ↓List.map_cons, ↓List.map_nil, Nat.add_assoc])); apply hK; clear hK hKp K Kp) | (refine AList.op0 ?_; intro K Kp hK hKp; simp [↓aop, ↓Ab.opv, ↓upd_lit, ↓map_ta, ↓List.map_cons, ↓List.map_nil, Nat.add_assoc]; (try (simp (disch := omega) only [wrap_i64]; try simp [↓aop, ↓Ab.opv, ↓upd_lit, ↓map_ta, ↓List.map_cons, ↓List.map_nil, Nat.add_assoc])); apply hK; clear hK hKp K Kp) | refine AList.nil ?_ | refine AW.seq ?_ | refine AW.regionL ?_ | refine AW.block ?_ | refine AW.skip ?_ | refine AW.exit ?_ | refine AW.ret ?_ | refine AW.label ?_ | refine AExit.norT ?_ | refine AExit.norB ?_ | refine AExit.retT ?_ | refine AExit.retB ?_ | refine AExit.exiT ?_ | refine AExit.exiB ?_ | refine AExit.exiN (by decide) ?_)
    exact Fin.ret rfl (Same.refl m) (by simp [upd_lit]; rfl) (by simp) ⟨by rw [h0], rfl⟩
end Go.Proofs.YtgfadepkiejncaaGreat
namespace Go.Proofs.YtgfadepkiejncaaGreat
open Go.Ab
set_option pp.maxSteps 1500
set_option maxHeartbeats 0
attribute [local irreducible] AW AList ACall DA AExit.then AExit.inBlock YCall

theorem walkL_mem {x : GV} : ∀ {l : List GV} {i : Nat} (h : i < l.length), x ∈ walkV l[i] → x ∈ walkL l
  | v :: l, 0, _, hx => by simp only [walkL]; exact List.mem_append_left _ hx
  | v :: l, i + 1, h, hx => by simp only [walkL]; exact List.mem_append_right _ (walkL_mem (by simpa using h) hx)
theorem walk_mem {x v : GV} {i : Nat} (h : i < v.els.length) (hx : x ∈ walkV v.els[i]) : x ∈ walkV v := by rw [walk_eq]; exact List.mem_cons_of_mem _ (walkL_mem h hx)
theorem walk_self (v : GV) : v ∈ walkV v := by rw [walk_eq]; exact List.mem_cons_self
/-! val.Copy -/
theorem val_copy (v : GV) (hv : nodes v < 1099511627776) (hab : ∀ x ∈ walkV v, x.abs.length ≤ 1099511627776) : Gives Tryz.prog 35 [v.pv] v.pv := by
  induction hk : nodes v using Nat.strongRecOn generalizing v with
  | _ k ih =>
  subst hk
  have hn := nodes_eq v
  have hl := nodesL_len v.els
  intro m
  refine ACall.of_aw Tryz.func35 Tryz.ntmps35 rfl rfl (by simp) ?_
  repeat (first | (refine AList.op (by decide) ?_; intro K Kp hK hKp; simp [↓aop, ↓Ab.opv, ↓upd_lit, ↓map_ta, ↓List.map_cons, ↓List.map_nil, Nat.add_assoc]; (try (simp (disch := omega) only [wrap_i64]; try simp [↓aop, ↓Ab.opv, ↓upd_lit, ↓map_ta, ↓List.map_cons, ↓List.map_nil, Nat.add_assoc])); apply hK; clear hK hKp K Kp) | (refine AList.op0 ?_; intro K Kp hK hKp; simp [↓aop, ↓Ab.opv, ↓upd_lit, ↓map_ta, ↓List.map_cons, ↓List.map_nil, Nat.add_assoc]; (try (simp (disch := omega) only [wrap_i64]; try simp [↓aop, ↓Ab.opv, ↓upd_lit, ↓map_ta, ↓List.map_cons, ↓List.map_nil, Nat.add_assoc])); apply hK; clear hK hKp K Kp) | refine AList.nil ?_ | refine AW.seq ?_ | refine AW.regionL ?_ | refine AW.block ?_ | refine AW.skip ?_ | refine AW.exit ?_ | refine AW.ret ?_ | refine AW.label ?_ | refine AExit.norT ?_ | refine AExit.norB ?_ | refine AExit.retT ?_ | refine AExit.retB ?_ | refine AExit.exiT ?_ | refine AExit.exiB ?_ | refine AExit.exiN (by decide) ?_)
  refine AList.op (by decide) ?_; intro K Kp hK hKp; simp [↓aop, ↓Ab.opv, ↓upd_lit, ↓map_ta, ↓List.map_cons, ↓List.map_nil, Nat.add_assoc]; (try (simp (disch := omega) only [wrap_i64]; try simp [↓aop, ↓Ab.opv, ↓upd_lit, ↓map_ta, ↓List.map_cons, ↓List.map_nil, Nat.add_assoc])); refine Gives.at (clone22 v.abs (hab v (walk_self v))) ?_; apply hK; clear hK hKp K Kp
  repeat (first | (refine AList.op (by decide) ?_; intro K Kp hK hKp; simp [↓aop, ↓Ab.opv, ↓upd_lit, ↓map_ta, ↓List.map_cons, ↓List.map_nil, Nat.add_assoc]; (try (simp (disch := omega) only [wrap_i64]; try simp [↓aop, ↓Ab.opv, ↓upd_lit, ↓map_ta, ↓List.map_cons, ↓List.map_nil, Nat.add_assoc])); apply hK; clear hK hKp K Kp) | (refine AList.op0 ?_; intro K Kp hK hKp; simp [↓aop, ↓Ab.opv, ↓upd_lit, ↓map_ta, ↓List.map_cons, ↓List.map_nil, Nat.add_assoc]; (try (simp (disch := omega) only [wrap_i64]; try simp [↓aop, ↓Ab.opv, ↓upd_lit, ↓map_ta, ↓List.map_cons, ↓List.map_nil, Nat.add_assoc])); apply hK; clear hK hKp K Kp) | refine AList.nil ?_ | refine AW.seq ?_ | refine AW.regionL ?_ | refine AW.block ?_ | refine AW.skip ?_ | refine AW.exit ?_ | refine AW.ret ?_ | refine AW.label ?_ | refine AExit.norT ?_ | refine AExit.norB ?_ | refine AExit.retT ?_ | refine AExit.retB ?_ | refine AExit.exiT ?_ | refine AExit.exiB ?_ | refine AExit.exiN (by decide) ?_)
  refine AW.nilC (n := m.nloc) (i := 5) (cs := (v.cells.set 3 (.list .no (limbs v.abs))).set 5 (.v (.slice none 0 0))) (by simp; omega) (by simp) (by simp) ?_
  have hcell : ((v.cells.set 3 (.list .no (limbs v.abs))).set 5 (.v (.slice none 0 0))).set 5 (.list .full []) = [vI v.kind, vI v.num, vB v.neg, .list .no (limbs v.abs), vS v.str, .list .full []] := by cases v; rfl
  rw [hcell]
  refine AW.loop (ι := Nat) (fun i σ m' => i ≤ v.els.length ∧ (∃ o, m'.loc m.nloc = some [vI v.kind, vI v.num, vB v.neg, .list .no (limbs v.abs), vS v.str, .list o (GV.rows (v.els.take i))] ∧ Ow m m' o 6 i) ∧ m'.loc (m.nloc + 1) = some [vI 0, vI 0, vB false, .list .full [], vS ⟨#[]⟩, .list .full []] ∧ m.nloc + 2 ≤ m'.nloc ∧ σ 17 = vI i ∧ σ 16 = vI v.els.length ∧ σ 15 = GV.pvs v.els ∧ σ 1 = .loc m.nloc 0 ∧ σ 2 = .loc (m.nloc + 1) 0) (fun i => v.els.length - i) 0 ?_ ?_
  · exact ⟨by simp, ⟨.full, by simp [GV.rows], .full (by repeat (first | exact Same.refl _ | assumption | refine Same.newLoc ?_ _ | refine Same.setLoc ?_ (by first | omega | (simp; done) | (simp; omega)) _))⟩, by simp, by simp [Nat.add_assoc], by simp [upd_lit], by simp [upd_lit], by simp [upd_lit], by simp [upd_lit], by simp [upd_lit]⟩
  rintro i σ m' ⟨hi, ⟨o, e0, ow⟩, e1, hnl, h17, h16, h15, h1, h2⟩
  have hn0 : m.nloc < m'.nloc := by omega
  have hn1 : m.nloc + 1 < m'.nloc := by omega
  repeat (first | (refine AList.op (by decide) ?_; intro K Kp hK hKp; simp [↓aop, ↓Ab.opv, ↓upd_lit, ↓map_ta, ↓List.map_cons, ↓List.map_nil, Nat.add_assoc, h17, h16, h15]; (try (simp (disch := omega) only [wrap_i64]; try simp [↓aop, ↓Ab.opv, ↓upd_lit, ↓map_ta, ↓List.map_cons, ↓List.map_nil, Nat.add_assoc, h17, h16, h15])); apply hK; clear hK hKp K Kp) | (refine AList.op0 ?_; intro K Kp hK hKp; simp [↓aop, ↓Ab.opv, ↓upd_lit, ↓map_ta, ↓List.map_cons, ↓List.map_nil, Nat.add_assoc, h17, h16, h15]; (try (simp (disch := omega) only [wrap_i64]; try simp [↓aop, ↓Ab.opv, ↓upd_lit, ↓map_ta, ↓List.map_cons, ↓List.map_nil, Nat.add_assoc, h17, h16, h15])); apply hK; clear hK hKp K Kp) | refine AList.nil ?_ | refine AW.seq ?_ | refine AW.regionL ?_ | refine AW.block ?_ | refine AW.skip ?_ | refine AW.exit ?_ | refine AW.ret ?_ | refine AW.label ?_ | refine AExit.norT ?_ | refine AExit.norB ?_ | refine AExit.retT ?_ | refine AExit.retB ?_ | refine AExit.exiT ?_ | refine AExit.exiB ?_ | refine AExit.exiN (by decide) ?_)
  refine AW.condD (p := i < v.els.length) (by simp [upd_lit]) (fun hlt => ?_) (fun hge => ?_)
  · repeat (first | (refine AList.op (by decide) ?_; intro K Kp hK hKp; simp [↓aop, ↓Ab.opv, ↓upd_lit, ↓map_ta, ↓List.map_cons, ↓List.map_nil, Nat.add_assoc, h17, h16, h15, hlt, rows_getD]; (try (simp (disch := omega) only [wrap_i64]; try simp [↓aop, ↓Ab.opv, ↓upd_lit, ↓map_ta, ↓List.map_cons, ↓List.map_nil, Nat.add_assoc, h17, h16, h15, hlt, rows_getD])); apply hK; clear hK hKp K Kp) | (refine AList.op0 ?_; intro K Kp hK hKp; simp [↓aop, ↓Ab.opv, ↓upd_lit, ↓map_ta, ↓List.map_cons, ↓List.map_nil, Nat.add_assoc, h17, h16, h15, hlt, rows_getD]; (try (simp (disch := omega) only [wrap_i64]; try simp [↓aop, ↓Ab.opv, ↓upd_lit, ↓map_ta, ↓List.map_cons, ↓List.map_nil, Nat.add_assoc, h17, h16, h15, hlt, rows_getD])); apply hK; clear hK hKp K Kp) | refine AList.nil ?_ | refine AW.seq ?_ | refine AW.regionL ?_ | refine AW.block ?_ | refine AW.skip ?_ | refine AW.exit ?_ | refine AW.ret ?_ | refine AW.label ?_ | refine AExit.norT ?_ | refine AExit.norB ?_ | refine AExit.retT ?_ | refine AExit.retB ?_ | refine AExit.exiT ?_ | refine AExit.exiB ?_ | refine AExit.exiN (by decide) ?_)
    have hg := nodes_get v.els i hlt
    have hne : m.nloc ≠ m'.nloc := by omega
    have hn0' : m.nloc < m'.nloc + 1 := by omega
    have ow2 : Ow m ((m'.newLoc [PV.v (Value.int IntKind.i64 0), PV.v (Value.int IntKind.i64 0), PV.v (Value.bool false), PV.list Own.full [], PV.v (Value.string { data := #[] }), PV.list Own.full []]).setLoc m'.nloc v.els[i].cells) o 6 i := ⟨(ow.1.newLoc _).setLoc (by have := ow.1.lloc; omega) _, ow.2⟩
    refine AW.draw [.S, .R, .R, .R, .S, .W, .S, .W] (by decide +kernel) ?_; refine DA.ST 0 rfl (by decide +kernel) (by decide) (by intro m K hK; simp [↓aop, ↓Ab.opv, ↓upd_lit, ↓map_ta, ↓List.map_cons, ↓List.map_nil, Nat.add_assoc, h1, h2, e0, hn0, hne, hn0']; (try (simp (disch := omega) only [wrap_i64]; try simp [↓aop, ↓Ab.opv, ↓upd_lit, ↓map_ta, ↓List.map_cons, ↓List.map_nil, Nat.add_assoc, h1, h2, e0, hn0, hne, hn0'])); exact hK) ?_; refine DA.RT 1 rfl (by decide +kernel) (by decide) (by intro K hK; simp [↓aop, ↓Ab.opv, ↓upd_lit, ↓map_ta, ↓List.map_cons, ↓List.map_nil, Nat.add_assoc, h1, h2, e0, hn0, hne, hn0']; (try (simp (disch := omega) only [wrap_i64]; try simp [↓aop, ↓Ab.opv, ↓upd_lit, ↓map_ta, ↓List.map_cons, ↓List.map_nil, Nat.add_assoc, h1, h2, e0, hn0, hne, hn0'])); exact hK) ?_; refine DA.RT 2 rfl (by decide +kernel) (by decide) (by intro K hK; simp [↓aop, ↓Ab.opv, ↓upd_lit, ↓map_ta, ↓List.map_cons, ↓List.map_nil, Nat.add_assoc, h1, h2, e0, hn0, hne, hn0']; (try (simp (disch := omega) only [wrap_i64]; try simp [↓aop, ↓Ab.opv, ↓upd_lit, ↓map_ta, ↓List.map_cons, ↓List.map_nil, Nat.add_assoc, h1, h2, e0, hn0, hne, hn0'])); exact hK) ?_; refine DA.RT 3 rfl (by decide +kernel) (by decide) (by intro K hK; simp [↓aop, ↓Ab.opv, ↓upd_lit, ↓map_ta, ↓List.map_cons, ↓List.map_nil, Nat.add_assoc, h1, h2, e0, hn0, hne, hn0']; (try (simp (disch := omega) only [wrap_i64]; try simp [↓aop, ↓Ab.opv, ↓upd_lit, ↓map_ta, ↓List.map_cons, ↓List.map_nil, Nat.add_assoc, h1, h2, e0, hn0, hne, hn0'])); exact Gives.at ((ih _ (by omega) v.els[i] (by omega) (fun x hx => hab x (walk_mem hlt hx)) rfl)) hK) ?_; refine DA.ST 4 rfl (by decide +kernel) (by decide) (by intro m K hK; simp [↓aop, ↓Ab.opv, ↓upd_lit, ↓map_ta, ↓List.map_cons, ↓List.map_nil, Nat.add_assoc, h1, h2, e0, hn0, hne, hn0']; (try (simp (disch := omega) only [wrap_i64]; try simp [↓aop, ↓Ab.opv, ↓upd_lit, ↓map_ta, ↓List.map_cons, ↓List.map_nil, Nat.add_assoc, h1, h2, e0, hn0, hne, hn0'])); exact hK) ?_; refine DA.W (oi := ?oi) 5 ?a ?b ?c ?d ?e ?f; (case a => rfl); (case b => decide +kernel); (case c => rfl); (case d => rfl); (case e => decide); intro K Kp hK hKp; (simp [h1, h2, upd_lit]; refine app25 (l' := [v.els[i]]) ow2 (by simp; omega) (by simp; omega) fun o' m'' ho' hs => hK _ _ ?_; clear hK hKp K Kp)
    have hn0'' : m.nloc < m''.nloc := by rw [hs.nloc]; simp; omega
    have e0'' : m''.loc m.nloc = some [vI v.kind, vI v.num, vB v.neg, .list .no (limbs v.abs), vS v.str, .list o (GV.rows (v.els.take i))] := by rw [hs.loc]; simp [hne, e0]
    skip; refine DA.ST 6 rfl (by decide +kernel) (by decide) (by intro m K hK; simp [↓aop, ↓Ab.opv, ↓upd_lit, ↓map_ta, ↓List.map_cons, ↓List.map_nil, Nat.add_assoc, h1, h2, e0'', hn0'']; (try (simp (disch := omega) only [wrap_i64]; try simp [↓aop, ↓Ab.opv, ↓upd_lit, ↓map_ta, ↓List.map_cons, ↓List.map_nil, Nat.add_assoc, h1, h2, e0'', hn0''])); exact hK) ?_; refine DA.W 7 rfl (by decide +kernel) rfl rfl (by decide) ?_; intro K Kp hK hKp; simp [↓aop, ↓Ab.opv, ↓upd_lit, ↓map_ta, ↓List.map_cons, ↓List.map_nil, Nat.add_assoc, h1, h2, e0'', hn0'']; (try (simp (disch := omega) only [wrap_i64]; try simp [↓aop, ↓Ab.opv, ↓upd_lit, ↓map_ta, ↓List.map_cons, ↓List.map_nil, Nat.add_assoc, h1, h2, e0'', hn0''])); apply hK; clear hK hKp K Kp; refine DA.done (by decide +kernel) ?_; (first | (refine AExit.norT ?_) | (refine AExit.norB ?_))
    repeat (first | (refine AList.op (by decide) ?_; intro K Kp hK hKp; simp [↓aop, ↓Ab.opv, ↓upd_lit, ↓map_ta, ↓List.map_cons, ↓List.map_nil, Nat.add_assoc, h17]; (try (simp (disch := omega) only [wrap_i64]; try simp [↓aop, ↓Ab.opv, ↓upd_lit, ↓map_ta, ↓List.map_cons, ↓List.map_nil, Nat.add_assoc, h17])); apply hK; clear hK hKp K Kp) | (refine AList.op0 ?_; intro K Kp hK hKp; simp [↓aop, ↓Ab.opv, ↓upd_lit, ↓map_ta, ↓List.map_cons, ↓List.map_nil, Nat.add_assoc, h17]; (try (simp (disch := omega) only [wrap_i64]; try simp [↓aop, ↓Ab.opv, ↓upd_lit, ↓map_ta, ↓List.map_cons, ↓List.map_nil, Nat.add_assoc, h17])); apply hK; clear hK hKp K Kp) | refine AList.nil ?_ | refine AW.seq ?_ | refine AW.regionL ?_ | refine AW.block ?_ | refine AW.skip ?_ | refine AW.exit ?_ | refine AW.ret ?_ | refine AW.label ?_ | refine AExit.norT ?_ | refine AExit.norB ?_ | refine AExit.retT ?_ | refine AExit.retB ?_ | refine AExit.exiT ?_ | refine AExit.exiB ?_ | refine AExit.exiN (by decide) ?_)
    refine ⟨i + 1, ⟨by omega, ⟨o', by simp, ⟨ho'.1.setLoc (Nat.le_refl _) _, ho'.2⟩⟩, ?_, ?_, by simp [upd_lit], by simp [upd_lit, h16], by simp [upd_lit, h15], by simp [upd_lit, h1], by simp [upd_lit, h2]⟩, by omega⟩
    · simp [hs.loc, e1, hn1, show m.nloc + 1 ≠ m'.nloc from by omega]
    · simp [hs.nloc]; omega
  · have : i = v.els.length := by omega
    subst this
    rw [List.take_length] at e0
    repeat (first | (refine AList.op (by decide) ?_; intro K Kp hK hKp; simp [↓aop, ↓Ab.opv, ↓upd_lit, ↓map_ta, ↓List.map_cons, ↓List.map_nil, Nat.add_assoc, h1, h2, e0, e1, hn0, hn1]; (try (simp (disch := omega) only [wrap_i64]; try simp [↓aop, ↓Ab.opv, ↓upd_lit, ↓map_ta, ↓List.map_cons, ↓List.map_nil, Nat.add_assoc, h1, h2, e0, e1, hn0, hn1])); apply hK; clear hK hKp K Kp) | (refine AList.op0 ?_; intro K Kp hK hKp; simp [↓aop, ↓Ab.opv, ↓upd_lit, ↓map_ta, ↓List.map_cons, ↓List.map_nil, Nat.add_assoc, h1, h2, e0, e1, hn0, hn1]; (try (simp (disch := omega) only [wrap_i64]; try simp [↓aop, ↓Ab.opv, ↓upd_lit, ↓map_ta, ↓List.map_cons, ↓List.map_nil, Nat.add_assoc, h1, h2, e0, e1, hn0, hn1])); apply hK; clear hK hKp K Kp) | refine AList.nil ?_ | refine AW.seq ?_ | refine AW.regionL ?_ | refine AW.block ?_ | refine AW.skip ?_ | refine AW.exit ?_ | refine AW.ret ?_ | refine AW.label ?_ | refine AExit.norT ?_ | refine AExit.norB ?_ | refine AExit.retT ?_ | refine AExit.retB ?_ | refine AExit.exiT ?_ | refine AExit.exiB ?_ | refine AExit.exiN (by decide) ?_)
    exact Fin.retC (p := .agg [vI v.kind, vI v.num, vB v.neg, .list .no (limbs v.abs), vS v.str, .list o (GV.rows v.els)]) (q := v.pv) rfl (by simp [upd_lit, h2, hn1]) (ow.1.setLoc (by omega) _) (by simp [cells_eq]) (by simp) ⟨rfl, rfl⟩
end Go.Proofs.YtgfadepkiejncaaGreat
namespace Go.Proofs.YtgfadepkiejncaaGreat
open Go.Ab
set_option pp.maxSteps 1500
set_option maxHeartbeats 0
set_option maxRecDepth 100000
attribute [local irreducible] AW AList ACall DA AExit.then AExit.inBlock YCall

/-- Yields that change variables and arrays: S j is the memory after j yields, as far as it lies below b. -/
theorem Yields.ofSt {P : Program} {b : Nat} {mm : St} {L : LoopA} {xs : List (List PV)} {S : Nat → St} (hb : b = mm.nloc + 1) (hst : L.st = .ready) (hp : L.pend = none) (hps : ∀ x ∈ xs, x.length = L.params.length) (hlt : ∀ t ∈ L.params, t < L.N)
    (hL : ∀ j, (S j).lp mm.nloc = some L)
    (sc : ∀ i, i < b → (∀ j, (S j).loc i = (mm.newLp L).loc i) ∨ (∀ j cs, (S j).loc i = some cs → PV.scL b (S j).ntok cs))
    (scA : ∀ k, (k < mm.ntok ∧ ∀ j, (S j).arr k = mm.arr k ∧ mm.ntok ≤ (S j).ntok) ∨ (∀ j cs, k < (S j).ntok → (S j).arr k = some cs → PV.scL b (S j).ntok cs))
    (h : ∀ j (h : j < xs.length) m', Agr b (S j) m' → AW P L.N L.assign (AExit.then (fun σ' m'' => mm.nloc < m''.nloc ∧ m''.lp mm.nloc = some L ∧ AW P L.N L.body (fun x _ m₂ => x = .normal ∧ m₂.lp mm.nloc = some { L with st := .busy } ∧ Agr b (S (j + 1)) (m₂.setLp mm.nloc L) ∧ Only b m' (m₂.setLp mm.nloc L)) σ' (m''.setLp mm.nloc { L with st := .busy })) (fun _ _ _ => False)) (parm L.σ L.params xs[j]) m') :
    Yields P mm.nloc b (mm.newLp L) xs (fun j m' => Agr b (S j) m') := by
  have sc' : ∀ i, i < b → (∀ j m', Agr b (S j) m' → m'.loc i = (mm.newLp L).loc i) ∨ (∀ j m' cs, Agr b (S j) m' → m'.loc i = some cs → PV.scL b m'.ntok cs) := fun i hi => by
    rcases sc i hi with k | k
    · exact .inl fun j m' a => (a.loc i hi).trans (k j)
    · exact .inr fun j m' cs a hc => by rw [a.ntok]; exact k j cs (by rw [← a.loc i hi]; exact hc)
  have scA' : ∀ k, (k < (mm.newLp L).ntok ∧ ∀ j m', Agr b (S j) m' → m'.arr k = (mm.newLp L).arr k ∧ (mm.newLp L).ntok ≤ m'.ntok) ∨ (∀ j m' cs, Agr b (S j) m' → k < m'.ntok → m'.arr k = some cs → PV.scL b m'.ntok cs) := fun k => by
    rcases scA k with ⟨k1, k2⟩ | k2
    · exact .inl ⟨k1, fun j m' a => ⟨by rw [a.arr]; exact (k2 j).1, by rw [a.ntok]; exact (k2 j).2⟩⟩
    · exact .inr fun j m' cs a hk hc => by rw [a.ntok] at hk ⊢; exact k2 j cs hk (by rw [← a.arr]; exact hc)
  subst hb
  refine ⟨by omega, fun j m m' a i => i.trans a, sc', scA', fun j hj m' hb' hI => ?_⟩
  have hn : mm.nloc < m'.nloc := by omega
  have hL' : m'.lp mm.nloc = some L := by rw [hI.lp _ (by omega)]; exact hL j
  refine YCall.of_aw hn hL' hst hp (hps _ (List.getElem_mem hj)) hlt ?_
  refine (h j hj m' hI).mono fun x σ m₁ hx => ?_
  cases x <;> simp only [AExit.then] at hx ⊢
  obtain ⟨h1, h2, hx⟩ := hx
  refine ⟨h1, h2, hx.mono fun x σ m₂ hq => ?_⟩
  obtain ⟨rfl, q1, q2, q3⟩ := hq
  refine ⟨_, q1, leaves_of (I := fun j m' => Agr (mm.nloc + 1) (S j) m') sc' scA' hb' hI q2 q3, rfl, ?_, ⟨Nat.le_refl _, q3.loc, q3.lp, q3.it, q3.ntok⟩, rfl⟩
  exact q2.trans ⟨q2.lo', hb', fun _ _ => rfl, fun _ _ => rfl, fun _ _ => rfl, rfl, rfl, rfl, rfl⟩

/-! val.Walk -/
theorem St.putA_putA (m : St) (k t t' : Nat) (cs cs' : List PV) : (m.putA k t cs).putA k t' cs' = m.putA k t' cs' := by
  have e1 : upd (upd m.arr k (some cs)) k (some cs') = upd m.arr k (some cs') := by funext i; simp only [upd]; split <;> rfl
  have e2 : upd (upd m.top k t) k t' = upd m.top k t' := by funext i; simp only [upd]; split <;> rfl
  simp [St.putA, e1, e2]
/-- The memory after j elements have been appended: c the variable of the slice. -/
def walkS (m0 : St) (c : Nat) (xs : List GV) : Nat → St
  | 0 => m0
  | j + 1 => ((m0.newTok 0 6).putA m0.ntok (j + 1) (GV.rows (xs.take (j + 1))).flatten).setLoc c [.mtok m0.ntok (j + 1)]

section
variable (m0 : St) (c : Nat) (xs : List GV) (j : Nat)
theorem walkS_arr : (walkS m0 c xs (j + 1)).arr = upd (upd m0.arr m0.ntok none) m0.ntok (some (GV.rows (xs.take (j + 1))).flatten) := rfl
theorem walkS_top : (walkS m0 c xs (j + 1)).top = upd (upd m0.top m0.ntok 0) m0.ntok (j + 1) := rfl
theorem walkS_wd : (walkS m0 c xs (j + 1)).wd = upd m0.wd m0.ntok 6 := rfl
theorem walkS_ntok : (walkS m0 c xs (j + 1)).ntok = m0.ntok + 1 := rfl
theorem walkS_loc : (walkS m0 c xs (j + 1)).loc = upd m0.loc c (some [.mtok m0.ntok (j + 1)]) := rfl
theorem walkS_nloc : ∀ j, (walkS m0 c xs j).nloc = m0.nloc
  | 0 => rfl
  | _ + 1 => rfl
theorem walkS_lp : ∀ j, (walkS m0 c xs j).lp = m0.lp
  | 0 => rfl
  | _ + 1 => rfl
theorem walkS_it : ∀ j, (walkS m0 c xs j).it = m0.it
  | 0 => rfl
  | _ + 1 => rfl
theorem upd_upd {α : Type} (f : Nat → α) (n : Nat) (x y : α) : upd (upd f n x) n y = upd f n y := by funext i; simp only [upd]; split <;> rfl
end
theorem PV.scL_append {a b : Nat} : ∀ {xs ys : List PV}, PV.scL a b xs → PV.scL a b ys → PV.scL a b (xs ++ ys)
  | [], _, _, h => h
  | _ :: _, _, h, k => ⟨h.1, PV.scL_append h.2 k⟩
theorem rowsF_sc (a b : Nat) : ∀ l : List GV, PV.scL a b (GV.rows l).flatten
  | [] => trivial
  | v :: l => PV.scL_append (cells_sc a b v) (rowsF_sc a b l)
mutual
theorem walk_sub : ∀ v x : GV, x ∈ walkV v → nodes x ≤ nodes v ∧ ∀ y ∈ walkV x, y ∈ walkV v
  | .mk k n ng a s l, x, h => by
    rcases List.mem_cons.1 h with rfl | h
    · exact ⟨Nat.le_refl _, fun _ h => h⟩
    · obtain ⟨h1, h2⟩ := walkL_sub l x h
      exact ⟨by simp only [nodes]; omega, fun y hy => List.mem_cons_of_mem _ (h2 y hy)⟩
theorem walkL_sub : ∀ (l : List GV) (x : GV), x ∈ walkL l → nodes x ≤ nodesL l ∧ ∀ y ∈ walkV x, y ∈ walkL l
  | [], x, h => by cases h
  | v :: l, x, h => by
    rcases List.mem_append.1 h with h | h
    · obtain ⟨h1, h2⟩ := walk_sub v x h
      exact ⟨by simp only [nodesL]; omega, fun y hy => List.mem_append_left _ (h2 y hy)⟩
    · obtain ⟨h1, h2⟩ := walkL_sub l x h
      exact ⟨by simp only [nodesL]; omega, fun y hy => List.mem_append_right _ (h2 y hy)⟩
end
abbrev zeroV : GV := .mk 0 0 false [] ⟨#[]⟩ []
theorem bs25_z (m : St) (K : PV → St → Prop) : abuildSlice Tryz.prog 25 1 [(0, .agg [.v (.int .i64 0), .v (.int .i64 0), .v (.bool false), .list .full [], .v (.string ⟨#[]⟩), .list .full []])] m K ↔ K (.list .full [zeroV.cells]) m :=
  abuildSlice_all (s := 6) (e := 27) (z := .agg #[.int .i64 0, .int .i64 0, .bool false, .slice none 0 0, .string ⟨#[]⟩, .slice none 0 0]) (xs := [.agg [.v (.int .i64 0), .v (.int .i64 0), .v (.bool false), .list .full [], .v (.string ⟨#[]⟩), .list .full []]]) (by simp) (by simp) (by simp) (by decide) (by decide) (by simp) (by decide) (.cons rfl rfl .nil)
theorem val_walk (v : GV) (hv : nodes v < 1099511627776) (hab : ∀ x ∈ walkV v, x.abs.length ≤ 1099511627776) : Gives Tryz.prog 37 [v.pv] (.list .no (GV.rows (walkV v))) := by
  intro m
  refine ACall.of_aw Tryz.func37 Tryz.ntmps37 rfl rfl (by simp) ?_
  repeat (first | (refine AList.op (by decide) ?_; intro K Kp hK hKp; simp [↓aop, ↓Ab.opv, ↓upd_lit, ↓map_ta, ↓List.map_cons, ↓List.map_nil, Nat.add_assoc]; (try (simp (disch := omega) only [wrap_i64]; try simp [↓aop, ↓Ab.opv, ↓upd_lit, ↓map_ta, ↓List.map_cons, ↓List.map_nil, Nat.add_assoc])); apply hK; clear hK hKp K Kp) | (refine AList.op0 ?_; intro K Kp hK hKp; simp [↓aop, ↓Ab.opv, ↓upd_lit, ↓map_ta, ↓List.map_cons, ↓List.map_nil, Nat.add_assoc]; (try (simp (disch := omega) only [wrap_i64]; try simp [↓aop, ↓Ab.opv, ↓upd_lit, ↓map_ta, ↓List.map_cons, ↓List.map_nil, Nat.add_assoc])); apply hK; clear hK hKp K Kp) | refine AList.nil ?_ | refine AW.seq ?_ | refine AW.regionL ?_ | refine AW.block ?_ | refine AW.skip ?_ | refine AW.exit ?_ | refine AW.ret ?_ | refine AW.label ?_ | refine AExit.norT ?_ | refine AExit.norB ?_ | refine AExit.retT ?_ | refine AExit.retB ?_ | refine AExit.exiT ?_ | refine AExit.exiB ?_ | refine AExit.exiN (by decide) ?_)
  refine AList.op (by decide) ?_; intro K Kp hK hKp; simp [↓aop, ↓Ab.opv, ↓upd_lit, ↓map_ta, ↓List.map_cons, ↓List.map_nil, Nat.add_assoc]; (try (simp (disch := omega) only [wrap_i64]; try simp [↓aop, ↓Ab.opv, ↓upd_lit, ↓map_ta, ↓List.map_cons, ↓List.map_nil, Nat.add_assoc])); refine Gives.at (val_all v) ?_; apply hK; clear hK hKp K Kp
  repeat (first | (refine AList.op (by decide) ?_; intro K Kp hK hKp; simp [↓aop, ↓Ab.opv, ↓upd_lit, ↓map_ta, ↓List.map_cons, ↓List.map_nil, Nat.add_assoc]; (try (simp (disch := omega) only [wrap_i64]; try simp [↓aop, ↓Ab.opv, ↓upd_lit, ↓map_ta, ↓List.map_cons, ↓List.map_nil, Nat.add_assoc])); apply hK; clear hK hKp K Kp) | (refine AList.op0 ?_; intro K Kp hK hKp; simp [↓aop, ↓Ab.opv, ↓upd_lit, ↓map_ta, ↓List.map_cons, ↓List.map_nil, Nat.add_assoc]; (try (simp (disch := omega) only [wrap_i64]; try simp [↓aop, ↓Ab.opv, ↓upd_lit, ↓map_ta, ↓List.map_cons, ↓List.map_nil, Nat.add_assoc])); apply hK; clear hK hKp K Kp) | refine AList.nil ?_ | refine AW.seq ?_ | refine AW.regionL ?_ | refine AW.block ?_ | refine AW.skip ?_ | refine AW.exit ?_ | refine AW.ret ?_ | refine AW.label ?_ | refine AExit.norT ?_ | refine AExit.norB ?_ | refine AExit.retT ?_ | refine AExit.retB ?_ | refine AExit.exiT ?_ | refine AExit.exiB ?_ | refine AExit.exiN (by decide) ?_)
  refine AW.rangeFunc (f := 138) (first := []) (caps := [.ro v.cells]) (by simp [upd_lit]) (fun fn => ?_)
  generalize hL : LoopA.mk _ _ _ _ _ _ _ _ = L
  have n1 : (((m.newLoc v.cells).newLoc [.list .full []])).nloc = m.nloc + 2 := rfl
  have hlen := walk_len v
  refine ACall.mono (val_all1 v (Yields.ofSt (L := L) (P := Tryz.prog) (mm := (m.newLoc v.cells).newLoc [.list .full []]) (S := walkS (((m.newLoc v.cells).newLoc [.list .full []]).newLp L) (m.nloc + 1) (walkV v)) rfl (by rw [← hL]) (by rw [← hL]) ?_ ?_ ?_ ?_ ?_ ?_) (by omega) _ ?_ (by simp)) ?_
  · intro x hx
    obtain ⟨y, _, rfl⟩ := List.mem_map.1 hx
    rw [← hL]; rfl
  · rw [← hL]; intro t ht; simp at ht; subst ht; exact (by decide : (7 : Nat) < 16)
  · intro j
    rw [walkS_lp]; simp
  · intro i hi
    by_cases e : i = m.nloc + 1
    · refine .inr fun j cs hc => ?_
      subst e
      cases j with
      | zero => simp [walkS, n1] at hc; subst hc; exact ⟨⟨trivial, trivial⟩, trivial⟩
      | succ j => rw [walkS_loc, upd_same] at hc; cases hc; exact ⟨Nat.lt_succ_self _, trivial⟩
    · refine .inl fun j => ?_
      cases j with
      | zero => rfl
      | succ j => rw [walkS_loc, upd_ne _ _ _ _ e]
  · intro k
    by_cases hk : k < m.ntok
    · refine .inl ⟨hk, fun j => ?_⟩
      cases j with
      | zero => exact ⟨rfl, Nat.le_refl _⟩
      | succ j =>
        have e : k ≠ (((m.newLoc v.cells).newLoc [.list .full []]).newLp L).ntok := Nat.ne_of_lt hk
        exact ⟨by rw [walkS_arr, upd_ne _ _ _ _ e, upd_ne _ _ _ _ e]; rfl, Nat.le_succ _⟩
    · refine .inr fun j cs hk' hc => ?_
      cases j with
      | zero => exact absurd hk' hk
      | succ j =>
        have hk2 : k < m.ntok + 1 := hk'
        have : k = (((m.newLoc v.cells).newLoc [.list .full []]).newLp L).ntok := by show k = m.ntok; omega
        rw [walkS_arr, this, upd_same] at hc
        cases hc
        exact rowsF_sc _ _ _
  · intro j hj m' hI
    have hj' : j < nodes v := by simpa [hlen] using hj
    have hb' : m.nloc + 3 ≤ m'.nloc := hI.lo'
    have hx := walk_sub v (walkV v)[j] (List.getElem_mem _)
    have eA := congrArg LoopA.assign hL
    have eB := congrArg LoopA.body hL
    have eσ := congrArg LoopA.σ hL
    have eN := congrArg LoopA.N hL
    have eP := congrArg LoopA.params hL
    simp only at eA eB eσ eN eP
    rw [← eA, ← eB, ← eσ, ← eN, ← eP]
    clear eA eB eσ eN eP
    simp only [List.getElem_map, parm]
    repeat (first | (refine AList.op (by decide) ?_; intro K Kp hK hKp; simp [↓aop, ↓Ab.opv, ↓upd_lit, ↓map_ta, ↓List.map_cons, ↓List.map_nil, Nat.add_assoc]; (try (simp (disch := omega) only [wrap_i64]; try simp [↓aop, ↓Ab.opv, ↓upd_lit, ↓map_ta, ↓List.map_cons, ↓List.map_nil, Nat.add_assoc])); apply hK; clear hK hKp K Kp) | (refine AList.op0 ?_; intro K Kp hK hKp; simp [↓aop, ↓Ab.opv, ↓upd_lit, ↓map_ta, ↓List.map_cons, ↓List.map_nil, Nat.add_assoc]; (try (simp (disch := omega) only [wrap_i64]; try simp [↓aop, ↓Ab.opv, ↓upd_lit, ↓map_ta, ↓List.map_cons, ↓List.map_nil, Nat.add_assoc])); apply hK; clear hK hKp K Kp) | refine AList.nil ?_ | refine AW.seq ?_ | refine AW.regionL ?_ | refine AW.block ?_ | refine AW.skip ?_ | refine AW.exit ?_ | refine AW.ret ?_ | refine AW.label ?_ | refine AExit.norT ?_ | refine AExit.norB ?_ | refine AExit.retT ?_ | refine AExit.retB ?_ | refine AExit.exiT ?_ | refine AExit.exiB ?_ | refine AExit.exiN (by decide) ?_)
    refine ⟨by simp; omega, ?_, ?_⟩
    · show upd m'.lp m'.nloc none (m.nloc + 2) = _
      rw [upd_ne _ _ _ _ (by omega), hI.lp _ (by show m.nloc + 2 < m.nloc + 3; omega), walkS_lp]
      exact upd_same _ _ _
    obtain ⟨x, ex⟩ : ∃ x, x = (walkV v)[j] := ⟨_, rfl⟩
    rw [← ex] at hx ⊢
    refine AW.block ?_
    generalize hby : LoopA.mk LoopState.busy _ _ _ _ _ _ _ = lby
    generalize hmB : ((m'.newLoc [PV.v (Value.int IntKind.i64 0), PV.v (Value.int IntKind.i64 0), PV.v (Value.bool false), PV.list Own.full [], PV.v (Value.string { data := #[] }), PV.list Own.full []]).setLoc m'.nloc x.cells).setLp ((m.newLoc v.cells).newLoc [PV.list Own.full []]).nloc _ = mB
    have b1 : mB.loc = upd (upd m'.loc m'.nloc (some [PV.v (Value.int IntKind.i64 0), PV.v (Value.int IntKind.i64 0), PV.v (Value.bool false), PV.list Own.full [], PV.v (Value.string { data := #[] }), PV.list Own.full []])) m'.nloc (some x.cells) := by rw [← hmB]; rfl
    have b2 : mB.nloc = m'.nloc + 1 := by rw [← hmB]; rfl
    have b3 : mB.ntok = m'.ntok ∧ mB.top = m'.top ∧ mB.wd = m'.wd ∧ mB.arr = m'.arr := by rw [← hmB]; exact ⟨rfl, rfl, rfl, rfl⟩
    have b4 : mB.lp = upd (upd m'.lp m'.nloc none) (m.nloc + 2) (some lby) := by rw [← hmB]; rfl
    have b5 : mB.it = upd m'.it m'.nloc none := by rw [← hmB]; rfl
    have f2 : mB.loc m'.nloc = some x.cells := by rw [b1, upd_same]
    have f3 : m'.nloc < mB.nloc := by omega
    have f4 : m.nloc + 1 < mB.nloc := by omega
    have f1 : mB.loc (m.nloc + 1) = (walkS (((m.newLoc v.cells).newLoc [PV.list Own.full []]).newLp L) (m.nloc + 1) (walkV v) j).loc (m.nloc + 1) := by
      rw [b1, upd_ne _ _ _ _ (by omega), upd_ne _ _ _ _ (by omega), hI.loc _ (by show m.nloc + 1 < m.nloc + 3; omega)]
    have hnt' : m'.ntok ≤ m.ntok + 1 := by
      rw [hI.ntok]
      cases j with
      | zero => exact Nat.le_succ _
      | succ j => exact Nat.le_refl _
    have hoff : ∀ i, i < m.nloc + 3 → i ≠ m.nloc + 1 → m'.loc i = (((m.newLoc v.cells).newLoc [PV.list Own.full []]).newLp L).loc i := fun i hi e => by
      rw [hI.loc i hi]
      cases j with
      | zero => rfl
      | succ j => rw [walkS_loc, upd_ne _ _ _ _ e]
    have hlpn : m'.lp (m.nloc + 2) = some L := by rw [hI.lp _ (by show m.nloc + 2 < m.nloc + 3; omega), walkS_lp]; exact upd_same _ _ _
    have hlpi : ∀ i, i < m'.nloc → upd (upd (upd m'.lp m'.nloc none) (m.nloc + 2) (some lby)) (m.nloc + 2) (some L) i = m'.lp i := fun i hi => by
      by_cases e : i = m.nloc + 2
      · rw [e, upd_same, hlpn]
      · rw [upd_ne _ _ _ _ e, upd_ne _ _ _ _ e, upd_ne _ _ _ _ (by omega)]
    have fin : ∀ M : St, M.loc = upd mB.loc (m.nloc + 1) (some [.mtok m.ntok (j + 1)]) → M.lp = mB.lp → M.it = mB.it → M.nloc = mB.nloc → M.ntok = m.ntok + 1 → M.top = upd m.top m.ntok (j + 1) → M.wd = upd m.wd m.ntok 6 →
        M.arr = upd m.arr m.ntok (some (GV.rows ((walkV v).take (j + 1))).flatten) →
        M.lp (m.nloc + 2) = some lby ∧ Agr (m.nloc + 3) (walkS (((m.newLoc v.cells).newLoc [PV.list Own.full []]).newLp L) (m.nloc + 1) (walkV v) (j + 1)) (M.setLp (m.nloc + 2) L) ∧ Only (m.nloc + 3) m' (M.setLp (m.nloc + 2) L) := by
      intro M g1 g2 g3 g4 g5 g6 g7 g8
      have glp : (M.setLp (m.nloc + 2) L).lp = upd (upd (upd m'.lp m'.nloc none) (m.nloc + 2) (some lby)) (m.nloc + 2) (some L) := by show upd M.lp _ _ = _; rw [g2, b4]
      refine ⟨by rw [g2, b4, upd_same], ⟨Nat.le_refl _, ?_, fun i hi => ?_, fun i hi => ?_, fun i hi => ?_, ?_, ?_, ?_, ?_⟩, ⟨?_, fun i h1 h2 => ?_, fun i hi => ?_, fun i hi => ?_, ?_⟩⟩
      · show _ ≤ M.nloc; omega
      · show M.loc i = _
        rw [g1, walkS_loc]
        by_cases e : i = m.nloc + 1
        · rw [e, upd_same, upd_same]; rfl
        · rw [upd_ne _ _ _ _ e, upd_ne _ _ _ _ e, b1, upd_ne _ _ _ _ (by omega), upd_ne _ _ _ _ (by omega)]
          exact hoff i hi e
      · rw [glp, hlpi i (by omega), hI.lp i hi, walkS_lp, walkS_lp]
      · show M.it i = _
        rw [g3, b5, upd_ne _ _ _ _ (by omega), hI.it i hi, walkS_it, walkS_it]
      · show M.ntok = _; rw [g5, walkS_ntok]; rfl
      · show M.top = _; rw [g6, walkS_top, upd_upd]; rfl
      · show M.wd = _; rw [g7, walkS_wd]; rfl
      · show M.arr = _; rw [g8, walkS_arr, upd_upd]; rfl
      · show _ ≤ M.nloc; omega
      · show M.loc i = _
        rw [g1, upd_ne _ _ _ _ (by omega), b1, upd_ne _ _ _ _ (by omega), upd_ne _ _ _ _ (by omega)]
      · rw [glp, hlpi i hi]
      · show M.it i = _
        rw [g3, b5, upd_ne _ _ _ _ (by omega)]
      · show _ ≤ M.ntok; omega
    cases j with
    | zero =>
      replace f1 : mB.loc (m.nloc + 1) = some [.list .full []] := f1.trans (by simp [walkS])
      refine AW.draw [.R, .R, .R, .S, .S, .W, .S, .W, .W] (by decide +kernel) ?_; refine DA.RT 0 rfl (by decide +kernel) (by decide) (by intro K hK; simp [↓aop, ↓Ab.opv, ↓upd_lit, ↓map_ta, ↓List.map_cons, ↓List.map_nil, Nat.add_assoc, f1, f2, f3, f4]; (try (simp (disch := omega) only [wrap_i64]; try simp [↓aop, ↓Ab.opv, ↓upd_lit, ↓map_ta, ↓List.map_cons, ↓List.map_nil, Nat.add_assoc, f1, f2, f3, f4])); exact hK) ?_; refine DA.RT 1 rfl (by decide +kernel) (by decide) (by intro K hK; simp [↓aop, ↓Ab.opv, ↓upd_lit, ↓map_ta, ↓List.map_cons, ↓List.map_nil, Nat.add_assoc, f1, f2, f3, f4]; (try (simp (disch := omega) only [wrap_i64]; try simp [↓aop, ↓Ab.opv, ↓upd_lit, ↓map_ta, ↓List.map_cons, ↓List.map_nil, Nat.add_assoc, f1, f2, f3, f4])); exact hK) ?_; refine DA.RT 2 rfl (by decide +kernel) (by decide) (by intro K hK; simp [↓aop, ↓Ab.opv, ↓upd_lit, ↓map_ta, ↓List.map_cons, ↓List.map_nil, Nat.add_assoc, f1, f2, f3, f4]; (try (simp (disch := omega) only [wrap_i64]; try simp [↓aop, ↓Ab.opv, ↓upd_lit, ↓map_ta, ↓List.map_cons, ↓List.map_nil, Nat.add_assoc, f1, f2, f3, f4])); exact Gives.at ((val_copy x (by omega) (fun y hy => hab y (hx.2 y hy)))) hK) ?_; refine DA.ST 3 rfl (by decide +kernel) (by decide) (by intro m K hK; simp [↓aop, ↓Ab.opv, ↓upd_lit, ↓map_ta, ↓List.map_cons, ↓List.map_nil, Nat.add_assoc, f1, f2, f3, f4]; (try (simp (disch := omega) only [wrap_i64]; try simp [↓aop, ↓Ab.opv, ↓upd_lit, ↓map_ta, ↓List.map_cons, ↓List.map_nil, Nat.add_assoc, f1, f2, f3, f4])); exact hK) ?_
      refine DA.SK (p := .list .full [zeroV.cells]) 4 rfl (by decide +kernel) (by decide) (by intro m K hK; refine aop_cv ?_; simp only [aop, opv, cv, List.map_cons, List.map_nil, ofV]; exact (bs25_z m K).2 hK) ?_
      refine DA.K 5 rfl (by decide +kernel) rfl (by decide) ?_
      intro K Kp hK hKp
      refine OpOKo.of fun ρ' hρ => op_append0 (t := 25) (e := 27) (news := [zeroV.cells]) (o2 := .full) rfl rfl rfl rfl (by simp) (by simp) (by simp) ((hρ (.tmp 8) (by simp [Op.operands, Call.operands])).trans (by simp [opv, upd_lit])) ((hρ (.tmp 12) (by simp [Op.operands, Call.operands])).trans (by simp [opv, upd_lit])) (by simp [RowsW]) (by simp) (by simp) (by simp) (hK _ _ ?_)
      clear hK hKp K Kp
      simp only [put, List.length_singleton, List.flatten_cons, List.flatten_nil, List.append_nil]
      refine DA.SK (p := .mptr mB.ntok 0 1) 6 rfl (by decide +kernel) (by decide) (by
        intro m K hK
        refine OpOKo.of fun ρ' hρ => op_indexAddrA (t := 25) (e := 27) (k := mB.ntok) (len := 1) (n := 0) (j := .i64) rfl (by simp) (by simp) ((hρ (.tmp 13) (by simp [Op.operands])).trans (by simp [opv, upd_lit])) ((hρ (.tmp 11) (by simp [Op.operands])).trans (by simp [opv, upd_lit])) (by omega) (by omega) ?_
        simpa using hK) ?_
      have hn0 : mB.ntok = m.ntok := by rw [b3.1, hI.ntok]; rfl
      refine DA.stores (i := 7) (j := 8) (off := 0) (k := mB.ntok) (n := m.nloc + 1) (o2 := 0) (cs := PV.stripL zeroV.cells) (xs := x.cells) (ds := [.list .full []]) (ys := [.mtok mB.ntok 1]) rfl rfl (by decide +kernel) (by decide +kernel) (by decide +kernel) (by decide +kernel) (by decide +kernel) rfl rfl (by simp) (by simp)
        (by simp [upd_lit, St.putA, upd_same]) (by simp [upd_lit]) (by show _ < mB.ntok + 1; omega) (by show upd _ _ _ _ < _; rw [upd_same]; decide) (by show upd _ _ _ _ = _; rw [upd_same]) (by simp) (by simp [PV.stripL_length]) (by simp [upd_lit]) (by simp [upd_lit, cells1, cell1]) f4 f1 (by simp) (by simp) ?_
      refine AExit.norB ?_
      refine ⟨rfl, fin _ ?_ ?_ ?_ ?_ ?_ ?_ ?_ ?_⟩
      · show upd mB.loc _ _ = _; simp [setL, hn0]
      · rfl
      · rfl
      · rfl
      · show mB.ntok + 1 = _; rw [hn0]
      · show upd (upd (upd mB.top _ _) _ _) _ (upd (upd mB.top _ _) _ _ _) = _
        rw [upd_same, upd_upd, upd_upd, hn0, b3.2.1, hI.top]; rfl
      · show upd mB.wd _ _ = _; simp [hn0, b3.2.2.1, hI.wd, walkS, St.newLp, St.newLoc]
      · show upd (upd (upd mB.arr _ _) _ _) _ _ = _
        rw [upd_upd, upd_upd, hn0, b3.2.2.2, hI.arr, setL_eq _ _ _ (by simp [PV.stripL_length])]
        obtain ⟨l, hl⟩ : ∃ l, walkV v = x :: l := by
          cases hw : walkV v with
          | nil => rw [hw] at hj; simp at hj
          | cons y l => simp [hw] at ex; exact ⟨l, by rw [ex]⟩
        rw [hl]
        simp [PV.stripL_length, GV.rows]
        rw [show List.drop 6 zeroV.cells = [] from rfl, List.append_nil]
        rfl
    | succ j =>
      replace f1 : mB.loc (m.nloc + 1) = some [.mtok m.ntok (j + 1)] := f1.trans (by rw [walkS_loc, upd_same]; rfl)
      have hn0 : mB.ntok = m.ntok + 1 := by rw [b3.1, hI.ntok]; rfl
      have ht0 : mB.top m.ntok = j + 1 := by rw [b3.2.1, hI.top, walkS_top]; exact upd_same _ _ _
      have hw0 : mB.wd m.ntok = 6 := by rw [b3.2.2.1, hI.wd, walkS_wd]; exact upd_same _ _ _
      have ha0 : mB.arr m.ntok = some (GV.rows ((walkV v).take (j + 1))).flatten := by rw [b3.2.2.2, hI.arr, walkS_arr]; exact upd_same _ _ _
      have hfl : (GV.rows ((walkV v).take (j + 1))).flatten.length = (j + 1) * 6 := by
        rw [(rows_w _).flat]; simp; omega
      refine AW.draw [.R, .R, .R, .S, .S, .W, .S, .W, .W] (by decide +kernel) ?_; refine DA.RT 0 rfl (by decide +kernel) (by decide) (by intro K hK; simp [↓aop, ↓Ab.opv, ↓upd_lit, ↓map_ta, ↓List.map_cons, ↓List.map_nil, Nat.add_assoc, f1, f2, f3, f4]; (try (simp (disch := omega) only [wrap_i64]; try simp [↓aop, ↓Ab.opv, ↓upd_lit, ↓map_ta, ↓List.map_cons, ↓List.map_nil, Nat.add_assoc, f1, f2, f3, f4])); exact hK) ?_; refine DA.RT 1 rfl (by decide +kernel) (by decide) (by intro K hK; simp [↓aop, ↓Ab.opv, ↓upd_lit, ↓map_ta, ↓List.map_cons, ↓List.map_nil, Nat.add_assoc, f1, f2, f3, f4]; (try (simp (disch := omega) only [wrap_i64]; try simp [↓aop, ↓Ab.opv, ↓upd_lit, ↓map_ta, ↓List.map_cons, ↓List.map_nil, Nat.add_assoc, f1, f2, f3, f4])); exact hK) ?_; refine DA.RT 2 rfl (by decide +kernel) (by decide) (by intro K hK; simp [↓aop, ↓Ab.opv, ↓upd_lit, ↓map_ta, ↓List.map_cons, ↓List.map_nil, Nat.add_assoc, f1, f2, f3, f4]; (try (simp (disch := omega) only [wrap_i64]; try simp [↓aop, ↓Ab.opv, ↓upd_lit, ↓map_ta, ↓List.map_cons, ↓List.map_nil, Nat.add_assoc, f1, f2, f3, f4])); exact Gives.at ((val_copy x (by omega) (fun y hy => hab y (hx.2 y hy)))) hK) ?_
      refine DA.SK (p := vI ((j + 1 : Nat) : Int)) 3 rfl (by decide +kernel) (by decide) (by
        intro m' K hK
        exact OpOKo.of fun ρ' hρ => op_lenA (t := 25) (k := m.ntok) (len := j + 1) rfl rfl rfl rfl (by simp) ((hρ (.tmp 8) (by simp [Op.operands, Call.operands])).trans (by simp [opv, upd_lit])) hK) ?_
      refine DA.SK (p := .list .full [zeroV.cells]) 4 rfl (by decide +kernel) (by decide) (by intro m K hK; refine aop_cv ?_; simp only [aop, opv, cv, List.map_cons, List.map_nil, ofV]; exact (bs25_z m K).2 hK) ?_
      refine DA.K 5 rfl (by decide +kernel) rfl (by decide) ?_
      intro K Kp hK hKp
      refine OpOKo.of fun ρ' hρ => op_appendA (t := 25) (e := 27) (k := m.ntok) (len := j + 1) (cs := (GV.rows ((walkV v).take (j + 1))).flatten) (news := [zeroV.cells]) (o2 := .full) rfl rfl rfl rfl (by simp) (by simp) (by simp) ((hρ (.tmp 8) (by simp [Op.operands, Call.operands])).trans (by simp [opv, upd_lit])) ((hρ (.tmp 12) (by simp [Op.operands, Call.operands])).trans (by simp [opv, upd_lit]))
        (by omega) (by rw [ht0]; show j + 1 < 4611686018427387904; omega) ha0 ht0.symm (by rw [hw0]; simp) (by simp [RowsW]) (by simp; omega) (by simp; omega) (by simp) (hK _ _ ?_)
      clear hK hKp K Kp
      simp only [put, List.length_singleton, List.flatten_cons, List.flatten_nil, List.append_nil]
      refine DA.SK (p := .mptr m.ntok ((j + 1) * 6) (j + 2)) 6 rfl (by decide +kernel) (by decide) (by
        intro m' K hK
        refine OpOKo.of fun ρ' hρ => op_indexAddrA (t := 25) (e := 27) (k := m.ntok) (len := j + 2) (n := ((j + 1 : Nat) : Int)) (j := .i64) rfl (by simp) (by simp) ((hρ (.tmp 13) (by simp [Op.operands])).trans (by simp [opv, upd_lit])) ((hρ (.tmp 11) (by simp [Op.operands])).trans (by simp [opv, upd_lit])) (by omega) (by omega) ?_
        rw [Int.toNat_natCast, show tsize Tryz.prog 27 = 6 by simp]; exact hK) ?_
      refine DA.stores (i := 7) (j := 8) (off := (j + 1) * 6) (k := m.ntok) (n := m.nloc + 1) (o2 := 0) (cs := (GV.rows ((walkV v).take (j + 1))).flatten ++ PV.stripL zeroV.cells) (xs := x.cells) (ds := [.mtok m.ntok (j + 1)]) (ys := [.mtok m.ntok (j + 2)]) rfl rfl (by decide +kernel) (by decide +kernel) (by decide +kernel) (by decide +kernel) (by decide +kernel) rfl rfl (by simp) (by simp)
        (by simp [upd_lit, St.putA, upd_same]) (by simp [upd_lit]) (by show _ < mB.ntok; omega) (by show upd _ _ _ _ < _; rw [upd_same]; show j + 1 + 1 < 4611686018427387904; omega) (by show upd _ _ _ _ = _; rw [upd_same]) (by simp) (by simp [PV.stripL_length, hfl]) (by simp [upd_lit]) (by simp [upd_lit, cells1, cell1]) f4 f1 (by simp) (by simp) ?_
      refine AExit.norB ?_
      refine ⟨rfl, fin _ ?_ ?_ ?_ ?_ ?_ ?_ ?_ ?_⟩
      · show upd mB.loc _ _ = _; simp [setL]
      · rfl
      · rfl
      · rfl
      · exact hn0
      · show upd (upd mB.top _ _) _ (upd mB.top _ _ _) = _
        rw [upd_same, upd_upd, b3.2.1, hI.top, walkS_top]
        show upd (upd (upd m.top m.ntok 0) m.ntok (j + 1)) m.ntok (j + 1 + 1) = _
        rw [upd_upd, upd_upd]
      · show mB.wd = _; rw [b3.2.2.1, hI.wd, walkS_wd]; rfl
      · show upd (upd mB.arr _ _) _ _ = _
        rw [upd_upd, b3.2.2.2, hI.arr, walkS_arr]
        show upd (upd (upd m.arr m.ntok none) m.ntok _) m.ntok _ = _
        rw [upd_upd, upd_upd, setL_eq _ _ _ (by simp [PV.stripL_length, hfl])]
        have e1 : (walkV v).take (j + 1 + 1) = (walkV v).take (j + 1) ++ [x] := by rw [List.take_succ_eq_append_getElem (by omega), ex]
        rw [e1, rows_append, List.flatten_append, ← hfl, List.take_left, List.drop_eq_nil_of_le (by simp [PV.stripL_length]), List.append_nil]
        simp [GV.rows]
  · exact Agr.refl (Nat.le_refl _)
  · rintro _ m' ⟨rfl, hI, ho, hn'⟩
    have hn1 := nodes_eq v
    obtain ⟨N, hN⟩ : ∃ N, nodes v = N + 1 := ⟨nodes v - 1, by omega⟩
    rw [hN] at hI
    have hlo := hI.lo'
    rw [n1] at hlo
    refine ⟨_, _, rfl, by rw [hn']; simp, by rw [hI.lp _ (by simp), walkS_lp]; exact upd_same _ _ _, by rw [← hL]; simp, by rw [← hL], ?_⟩
    have e1 : m'.loc (m.nloc + 1) = some [.mtok m.ntok (N + 1)] := by rw [hI.loc _ (by rw [n1]; omega), walkS_loc, upd_same]; rfl
    have e2 : m.nloc + 1 < m'.nloc := by omega
    have e3 : m'.ntok = m.ntok + 1 := hI.ntok
    have e4 : m'.top m.ntok = N + 1 := by rw [hI.top, walkS_top]; exact upd_same _ _ _
    have e5 : m'.arr m.ntok = some (GV.rows ((walkV v).take (N + 1))).flatten := by rw [hI.arr, walkS_arr]; exact upd_same _ _ _
    have e6 : (walkV v).take (N + 1) = walkV v := List.take_of_length_le (by rw [hlen]; omega)
    repeat (first | (refine AList.op (by decide) ?_; intro K Kp hK hKp; simp [↓aop, ↓Ab.opv, ↓upd_lit, ↓map_ta, ↓List.map_cons, ↓List.map_nil, Nat.add_assoc, e1, e2]; (try (simp (disch := omega) only [wrap_i64]; try simp [↓aop, ↓Ab.opv, ↓upd_lit, ↓map_ta, ↓List.map_cons, ↓List.map_nil, Nat.add_assoc, e1, e2])); apply hK; clear hK hKp K Kp) | (refine AList.op0 ?_; intro K Kp hK hKp; simp [↓aop, ↓Ab.opv, ↓upd_lit, ↓map_ta, ↓List.map_cons, ↓List.map_nil, Nat.add_assoc, e1, e2]; (try (simp (disch := omega) only [wrap_i64]; try simp [↓aop, ↓Ab.opv, ↓upd_lit, ↓map_ta, ↓List.map_cons, ↓List.map_nil, Nat.add_assoc, e1, e2])); apply hK; clear hK hKp K Kp) | refine AList.nil ?_ | refine AW.seq ?_ | refine AW.regionL ?_ | refine AW.block ?_ | refine AW.skip ?_ | refine AW.exit ?_ | refine AW.label ?_ | refine AExit.norT ?_ | refine AExit.norB ?_ | refine AExit.retT ?_ | refine AExit.retB ?_ | refine AExit.exiT ?_ | refine AExit.exiB ?_ | refine AExit.exiN (by decide) ?_)
    refine AW.sees (d := 2) (p' := .list .no (GV.rows (walkV v))) (m' := (m'.dropLp (m.nloc + 2)).noA m.ntok) ?_ ?_
    · simp only [upd_lit]
      exact Sees.fzA (by show _ < m'.ntok; omega) (by show m'.top m.ntok < _; rw [e4]; show N + 1 < 4611686018427387904; omega) (by show m'.arr m.ntok = _; exact e5) (by show N + 1 = m'.top m.ntok; rw [e4]) (by rw [e6]) (by simp [hlen]; omega)
    repeat (first | (refine AList.op (by decide) ?_; intro K Kp hK hKp; simp [↓aop, ↓Ab.opv, ↓upd_lit, ↓map_ta, ↓List.map_cons, ↓List.map_nil, Nat.add_assoc]; (try (simp (disch := omega) only [wrap_i64]; try simp [↓aop, ↓Ab.opv, ↓upd_lit, ↓map_ta, ↓List.map_cons, ↓List.map_nil, Nat.add_assoc])); apply hK; clear hK hKp K Kp) | (refine AList.op0 ?_; intro K Kp hK hKp; simp [↓aop, ↓Ab.opv, ↓upd_lit, ↓map_ta, ↓List.map_cons, ↓List.map_nil, Nat.add_assoc]; (try (simp (disch := omega) only [wrap_i64]; try simp [↓aop, ↓Ab.opv, ↓upd_lit, ↓map_ta, ↓List.map_cons, ↓List.map_nil, Nat.add_assoc])); apply hK; clear hK hKp K Kp) | refine AList.nil ?_ | refine AW.seq ?_ | refine AW.regionL ?_ | refine AW.block ?_ | refine AW.skip ?_ | refine AW.exit ?_ | refine AW.ret ?_ | refine AW.label ?_ | refine AExit.norT ?_ | refine AExit.norB ?_ | refine AExit.retT ?_ | refine AExit.retB ?_ | refine AExit.exiT ?_ | refine AExit.exiB ?_ | refine AExit.exiN (by decide) ?_)
    refine Fin.ret rfl ?_ (by simp [upd_lit, PV.strip]) (by simp [PV.sc]) ⟨rfl, rfl⟩
    refine Same.mk (by show _ ≤ m'.nloc; omega) (by show _ ≤ m'.ntok; omega) (fun i hi => ?_) (fun k hk => ?_) (fun i hi => ?_) (fun i hi => ?_) (fun k cs hk _ hc => ?_)
    · show m'.loc i = _
      rw [hI.loc i (by rw [n1]; omega), walkS_loc, upd_ne _ _ _ _ (by omega)]
      simp [St.newLp, St.newLoc, upd, show i ≠ m.nloc + 2 from by omega, show i ≠ m.nloc + 1 from by omega, show i ≠ m.nloc from by omega]
    · show m'.top k = _ ∧ m'.wd k = _
      rw [hI.top, hI.wd, walkS_top, walkS_wd, upd_upd]
      exact ⟨upd_ne _ _ _ _ (Nat.ne_of_lt hk), upd_ne _ _ _ _ (Nat.ne_of_lt hk)⟩
    · show upd m'.lp (m.nloc + 2) none i = _
      rw [upd_ne _ _ _ _ (by omega), hI.lp i (by rw [n1]; omega), walkS_lp]
      simp [St.newLp, St.newLoc, upd, show i ≠ m.nloc + 2 from by omega, show i ≠ m.nloc + 1 from by omega, show i ≠ m.nloc from by omega]
    · show m'.it i = _
      rw [hI.it i (by rw [n1]; omega), walkS_it]
      simp [St.newLp, St.newLoc, upd, show i ≠ m.nloc + 2 from by omega, show i ≠ m.nloc + 1 from by omega, show i ≠ m.nloc from by omega]
    · show upd m'.arr m.ntok none k = _
      rw [upd_ne _ _ _ _ (Nat.ne_of_lt hk), hI.arr, walkS_arr, upd_upd]
      exact (upd_ne _ _ _ _ (Nat.ne_of_lt hk)).trans hc
end Go.Proofs.YtgfadepkiejncaaGreat
