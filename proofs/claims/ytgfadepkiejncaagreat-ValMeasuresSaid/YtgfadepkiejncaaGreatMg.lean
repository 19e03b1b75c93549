/- Texts of the proof, part Mg: they prove nothing by themselves that is claimed. -/
import Derived.Test.YtgfadepkiejncaaGreatMf
import Derived.Test.YtgfadepkiejncaaGreatLe
set_option linter.unusedVariables false
set_option linter.unusedSimpArgs false
namespace Go.Proofs.YtgfadepkiejncaaGreat
open Go.Ab
set_option pp.maxSteps 1500
set_option maxHeartbeats 0
attribute [local irreducible] AW AList ACall DA AExit.then AExit.inBlock YCall DCall

/-! val.caught -/
theorem caught_none (m : St) (a : PV) : DCall Tryz.prog 82 [a] m none (fun m' => m' = m) := by
  refine DCall.of_rec Tryz.func82 Tryz.ntmps82 (tail := #[]) rfl rfl (by simp) (by decide) rfl (.inl rfl) fun σ h0 h5 _ => ?_
  refine AW.block ?_
  refine AW.seq ?_
  refine AW.regionL ?_
  refine AList.opK (by decide) ?_; intro K Kp hK hKp
  refine op_nilNil rfl (by decide +kernel) (by simpa [recV] using h5) rfl ?_
  apply hK; clear hK hKp K Kp
  repeat (first | (refine AList.op (by decide) ?_; intro K Kp hK hKp; simp [↓aop, ↓Ab.opv, ↓upd_lit, ↓map_ta, ↓List.map_cons, ↓List.map_nil, Nat.add_assoc]; (try (simp (disch := omega) only [wrap_i64]; try simp [↓aop, ↓Ab.opv, ↓upd_lit, ↓map_ta, ↓List.map_cons, ↓List.map_nil, Nat.add_assoc])); apply hK; clear hK hKp K Kp) | (refine AList.op0 ?_; intro K Kp hK hKp; simp [↓aop, ↓Ab.opv, ↓upd_lit, ↓map_ta, ↓List.map_cons, ↓List.map_nil, Nat.add_assoc]; (try (simp (disch := omega) only [wrap_i64]; try simp [↓aop, ↓Ab.opv, ↓upd_lit, ↓map_ta, ↓List.map_cons, ↓List.map_nil, Nat.add_assoc])); apply hK; clear hK hKp K Kp) | refine AList.nil ?_ | refine AW.seq ?_ | refine AW.regionL ?_ | refine AW.block ?_ | refine AW.skip ?_ | refine AW.exit ?_ | refine AW.ret ?_ | refine AW.label ?_ | refine AExit.norT ?_ | refine AExit.norB ?_ | refine AExit.retT ?_ | refine AExit.retB ?_ | refine AExit.exiT ?_ | refine AExit.exiB ?_ | refine AExit.exiN (by decide) ?_)
  refine AW.cond (t := true) (by simp [upd_lit]) (fun _ => ?_) (fun h => by cases h)
  repeat (first | (refine AList.op (by decide) ?_; intro K Kp hK hKp; simp [↓aop, ↓Ab.opv, ↓upd_lit, ↓map_ta, ↓List.map_cons, ↓List.map_nil, Nat.add_assoc, h5]; (try (simp (disch := omega) only [wrap_i64]; try simp [↓aop, ↓Ab.opv, ↓upd_lit, ↓map_ta, ↓List.map_cons, ↓List.map_nil, Nat.add_assoc, h5])); apply hK; clear hK hKp K Kp) | (refine AList.op0 ?_; intro K Kp hK hKp; simp [↓aop, ↓Ab.opv, ↓upd_lit, ↓map_ta, ↓List.map_cons, ↓List.map_nil, Nat.add_assoc, h5]; (try (simp (disch := omega) only [wrap_i64]; try simp [↓aop, ↓Ab.opv, ↓upd_lit, ↓map_ta, ↓List.map_cons, ↓List.map_nil, Nat.add_assoc, h5])); apply hK; clear hK hKp K Kp) | refine AList.nil ?_ | refine AW.seq ?_ | refine AW.regionL ?_ | refine AW.block ?_ | refine AW.skip ?_ | refine AW.exit ?_ | refine AW.ret ?_ | refine AW.label ?_ | refine AExit.norT ?_ | refine AExit.norB ?_ | refine AExit.retT ?_ | refine AExit.retB ?_ | refine AExit.exiT ?_ | refine AExit.exiB ?_ | refine AExit.exiN (by decide) ?_)
  exact ⟨m, (Same.refl m).lv, rfl⟩
set_option maxRecDepth 100000 in
theorem caught_pan (m : St) (n : Nat) (e : Int) (hn : n < m.nloc) (hc : m.loc n = some [vE 0]) : DCall Tryz.prog 82 [.loc n 0] m (some (.iface 117 (.agg [vE e]))) (fun m' => m' = m.setLoc n [vE e]) := by
  refine DCall.of_rec Tryz.func82 Tryz.ntmps82 (tail := #[]) rfl rfl (by simp) (by decide) rfl (.inl rfl) fun σ h0 h5 _ => ?_
  have ha : σ 0 = .loc n 0 := by rw [h0 0 (by decide) (by simp)]; rfl
  refine AW.block ?_
  refine AW.seq ?_
  refine AW.regionL ?_
  refine AList.opK (by decide) ?_; intro K Kp hK hKp
  refine op_ifaceNil rfl (by decide +kernel) (by simpa [recV] using h5) rfl ?_
  apply hK; clear hK hKp K Kp
  repeat (first | (refine AList.op (by decide) ?_; intro K Kp hK hKp; simp [↓aop, ↓Ab.opv, ↓upd_lit, ↓map_ta, ↓List.map_cons, ↓List.map_nil, Nat.add_assoc]; (try (simp (disch := omega) only [wrap_i64]; try simp [↓aop, ↓Ab.opv, ↓upd_lit, ↓map_ta, ↓List.map_cons, ↓List.map_nil, Nat.add_assoc])); apply hK; clear hK hKp K Kp) | (refine AList.op0 ?_; intro K Kp hK hKp; simp [↓aop, ↓Ab.opv, ↓upd_lit, ↓map_ta, ↓List.map_cons, ↓List.map_nil, Nat.add_assoc]; (try (simp (disch := omega) only [wrap_i64]; try simp [↓aop, ↓Ab.opv, ↓upd_lit, ↓map_ta, ↓List.map_cons, ↓List.map_nil, Nat.add_assoc])); apply hK; clear hK hKp K Kp) | refine AList.nil ?_ | refine AW.seq ?_ | refine AW.regionL ?_ | refine AW.block ?_ | refine AW.skip ?_ | refine AW.exit ?_ | refine AW.ret ?_ | refine AW.label ?_ | refine AExit.norT ?_ | refine AExit.norB ?_ | refine AExit.retT ?_ | refine AExit.retB ?_ | refine AExit.exiT ?_ | refine AExit.exiB ?_ | refine AExit.exiN (by decide) ?_)
  refine AW.cond (t := false) (by simp [upd_lit]) (fun h => by cases h) (fun _ => ?_)
  refine AW.seq ?_
  refine AW.regionL ?_
  refine AList.opK (by decide) ?_; intro K Kp hK hKp
  have h5' : opv (upd σ 7 (.v (.bool false))) (.tmp 5) = .iface 117 (.agg [vE e]) := by simpa [recV, upd_lit] using h5
  have hoa : ∀ pos, K (.tup [.agg [vE e], vB true]) m → OpOK Tryz.prog ⟨some 8, .typeAssert (.tmp 5) 20 117 true, 0, pos, #[], none⟩ (opv (upd σ 7 (.v (.bool false)))) m K Kp := fun pos h => @op_assert Tryz.prog m K Kp ⟨some 8, .typeAssert (.tmp 5) 20 117 true, 0, pos, #[], none⟩ (.tmp 5) 20 117 (.agg [vE e]) _ rfl (by simp) h5' h
  refine hoa _ ?_
  apply hK; clear hK hKp K Kp hoa
  repeat (first | (refine AList.op (by decide) ?_; intro K Kp hK hKp; simp [↓aop, ↓Ab.opv, ↓upd_lit, ↓map_ta, ↓List.map_cons, ↓List.map_nil, Nat.add_assoc]; (try (simp (disch := omega) only [wrap_i64]; try simp [↓aop, ↓Ab.opv, ↓upd_lit, ↓map_ta, ↓List.map_cons, ↓List.map_nil, Nat.add_assoc])); apply hK; clear hK hKp K Kp) | (refine AList.op0 ?_; intro K Kp hK hKp; simp [↓aop, ↓Ab.opv, ↓upd_lit, ↓map_ta, ↓List.map_cons, ↓List.map_nil, Nat.add_assoc]; (try (simp (disch := omega) only [wrap_i64]; try simp [↓aop, ↓Ab.opv, ↓upd_lit, ↓map_ta, ↓List.map_cons, ↓List.map_nil, Nat.add_assoc])); apply hK; clear hK hKp K Kp) | refine AList.nil ?_ | refine AW.seq ?_ | refine AW.regionL ?_ | refine AW.block ?_ | refine AW.skip ?_ | refine AW.exit ?_ | refine AW.ret ?_ | refine AW.label ?_ | refine AExit.norT ?_ | refine AExit.norB ?_ | refine AExit.retT ?_ | refine AExit.retB ?_ | refine AExit.exiT ?_ | refine AExit.exiB ?_ | refine AExit.exiN (by decide) ?_)
  refine AW.cond (t := true) (by simp [upd_lit]) (fun _ => ?_) (fun h => by cases h)
  have n1 : n ≠ m.nloc := by omega
  have n2 : n < m.nloc + 1 := by omega
  repeat (first | (refine AList.op (by decide) ?_; intro K Kp hK hKp; simp [↓aop, ↓Ab.opv, ↓upd_lit, ↓map_ta, ↓List.map_cons, ↓List.map_nil, Nat.add_assoc, ha, n1, n2, hc]; (try (simp (disch := omega) only [wrap_i64]; try simp [↓aop, ↓Ab.opv, ↓upd_lit, ↓map_ta, ↓List.map_cons, ↓List.map_nil, Nat.add_assoc, ha, n1, n2, hc])); apply hK; clear hK hKp K Kp) | (refine AList.op0 ?_; intro K Kp hK hKp; simp [↓aop, ↓Ab.opv, ↓upd_lit, ↓map_ta, ↓List.map_cons, ↓List.map_nil, Nat.add_assoc, ha, n1, n2, hc]; (try (simp (disch := omega) only [wrap_i64]; try simp [↓aop, ↓Ab.opv, ↓upd_lit, ↓map_ta, ↓List.map_cons, ↓List.map_nil, Nat.add_assoc, ha, n1, n2, hc])); apply hK; clear hK hKp K Kp) | refine AList.nil ?_ | refine AW.seq ?_ | refine AW.regionL ?_ | refine AW.block ?_ | refine AW.skip ?_ | refine AW.exit ?_ | refine AW.ret ?_ | refine AW.label ?_ | refine AExit.norT ?_ | refine AExit.norB ?_ | refine AExit.retT ?_ | refine AExit.retB ?_ | refine AExit.exiT ?_ | refine AExit.exiB ?_ | refine AExit.exiN (by decide) ?_)
  refine ⟨m.setLoc n [vE e], ⟨Nat.le_refl _, Nat.le_refl _, by simp, Nat.le_refl _, fun k cs hk hq => ?_, fun _ _ => ⟨rfl, rfl⟩, fun k L hk hq => ?_, fun k x hk hq => ?_, fun k cs hk hd hq => ⟨hq, .inl ⟨hk, hq⟩⟩⟩, rfl⟩
  · have hk' : k < m.nloc := hk
    have k1 : k ≠ m.nloc := by omega
    by_cases hkn : k = n
    · subst hkn
      simp at hq ⊢
      subst hq
      exact ⟨rfl, .inr ⟨trivial, trivial⟩⟩
    · simp [hkn] at hq
      simp [hkn, k1, hq, hk']
  · have hk' : k < m.nloc := hk
    have k1 : k ≠ m.nloc := by omega
    simp [k1] at hq ⊢
    exact ⟨hk', hq⟩
  · have hk' : k < m.nloc := hk
    have k1 : k ≠ m.nloc := by omega
    simp [k1] at hq ⊢
    exact hq
theorem check_of {v : GV} {r : RR} {m' : EM} {callM : CallM} (hM : CallMOK Tryz.prog callM) {e : Int} (hr : r = .ret (.tup []) ∧ e = 0 ∨ r = .pan (.iface 117 (.agg [vE e]))) (hm' : m'.cells 1 = some [vE 0] ∧ 1 < m'.nloc)
    (h : callM 83 [.loc 2 0, v.pv, vI 1] (((EM.empty.new (.cells v.cells)).new (.cells [vE 0])).new (.cells [vI 3000, vI 20, vI 0])) = .ok (r, m')) : ∀ m, ACall Tryz.prog 19 [v.pv] m (fun r' s' => r' = .ret (vE e) ∧ s' = m) := by
  refine ACall.closed (r0 := .ret (vE e)) ?_ ⟨cells_sc 0 0 v, trivial⟩ trivial
  refine ACall.of_defer Tryz.func19 Tryz.ntmps19 (pre := []) rfl rfl rfl (by simp) ?_
  repeat (first | (refine AList.op (by decide) ?_; intro K Kp hK hKp; simp [↓aop, ↓Ab.opv, ↓upd_lit, ↓map_ta, ↓List.map_cons, ↓List.map_nil, Nat.add_assoc]; (try (simp (disch := omega) only [wrap_i64]; try simp [↓aop, ↓Ab.opv, ↓upd_lit, ↓map_ta, ↓List.map_cons, ↓List.map_nil, Nat.add_assoc])); apply hK; clear hK hKp K Kp) | (refine AList.op0 ?_; intro K Kp hK hKp; simp [↓aop, ↓Ab.opv, ↓upd_lit, ↓map_ta, ↓List.map_cons, ↓List.map_nil, Nat.add_assoc]; (try (simp (disch := omega) only [wrap_i64]; try simp [↓aop, ↓Ab.opv, ↓upd_lit, ↓map_ta, ↓List.map_cons, ↓List.map_nil, Nat.add_assoc])); apply hK; clear hK hKp K Kp) | refine AList.nil ?_ | refine AW.seq ?_ | refine AW.regionL ?_ | refine AW.block ?_ | refine AW.skip ?_ | refine AW.exit ?_ | refine AW.ret ?_ | refine AW.label ?_ | refine AExit.norT ?_ | refine AExit.norB ?_ | refine AExit.retT ?_ | refine AExit.retB ?_ | refine AExit.exiT ?_ | refine AExit.exiB ?_ | refine AExit.exiN (by decide) ?_)
  refine ⟨82, [], [], rfl, ?_⟩
  have hcall := hM _ _ _ _ _ h
  rw [st_new_cells, st_new_cells, st_new_cells, st_empty] at hcall
  have z0 : St.empty.nloc = 0 := rfl
  repeat (first | (refine AList.op (by decide) ?_; intro K Kp hK hKp; simp [↓aop, ↓Ab.opv, ↓upd_lit, ↓map_ta, ↓List.map_cons, ↓List.map_nil, Nat.add_assoc, z0]; (try (simp (disch := omega) only [wrap_i64]; try simp [↓aop, ↓Ab.opv, ↓upd_lit, ↓map_ta, ↓List.map_cons, ↓List.map_nil, Nat.add_assoc, z0])); apply hK; clear hK hKp K Kp) | (refine AList.op0 ?_; intro K Kp hK hKp; simp [↓aop, ↓Ab.opv, ↓upd_lit, ↓map_ta, ↓List.map_cons, ↓List.map_nil, Nat.add_assoc, z0]; (try (simp (disch := omega) only [wrap_i64]; try simp [↓aop, ↓Ab.opv, ↓upd_lit, ↓map_ta, ↓List.map_cons, ↓List.map_nil, Nat.add_assoc, z0])); apply hK; clear hK hKp K Kp) | refine AList.nil ?_ | refine AW.seq ?_ | refine AW.regionL ?_ | refine AW.block ?_ | refine AW.skip ?_ | refine AW.exit ?_ | refine AW.ret ?_ | refine AW.label ?_ | refine AExit.norT ?_ | refine AExit.norB ?_ | refine AExit.retT ?_ | refine AExit.retB ?_ | refine AExit.exiT ?_ | refine AExit.exiB ?_ | refine AExit.exiN (by decide) ?_)
  refine AList.op (by decide) ?_; intro K Kp hK hKp; simp [upd_lit]
  refine hcall.mono ?_
  obtain ⟨hc1, hc2⟩ := hm'
  replace hc1 : m'.st.loc 1 = some [vE 0] := hc1
  replace hc2 : 1 < m'.st.nloc := hc2
  rintro r' s' ⟨rfl, rfl⟩
  rcases hr with ⟨rfl, rfl⟩ | rfl
  · simp only [RR.toA]
    apply hK; clear hK hKp K Kp
    repeat (first | (refine AList.op (by decide) ?_; intro K Kp hK hKp; simp [↓aop, ↓Ab.opv, ↓upd_lit, ↓map_ta, ↓List.map_cons, ↓List.map_nil, Nat.add_assoc, z0, hc1, hc2]; (try (simp (disch := omega) only [wrap_i64]; try simp [↓aop, ↓Ab.opv, ↓upd_lit, ↓map_ta, ↓List.map_cons, ↓List.map_nil, Nat.add_assoc, z0, hc1, hc2])); apply hK; clear hK hKp K Kp) | (refine AList.op0 ?_; intro K Kp hK hKp; simp [↓aop, ↓Ab.opv, ↓upd_lit, ↓map_ta, ↓List.map_cons, ↓List.map_nil, Nat.add_assoc, z0, hc1, hc2]; (try (simp (disch := omega) only [wrap_i64]; try simp [↓aop, ↓Ab.opv, ↓upd_lit, ↓map_ta, ↓List.map_cons, ↓List.map_nil, Nat.add_assoc, z0, hc1, hc2])); apply hK; clear hK hKp K Kp) | refine AList.nil ?_ | refine AW.seq ?_ | refine AW.regionL ?_ | refine AW.block ?_ | refine AW.skip ?_ | refine AW.exit ?_ | refine AW.ret ?_ | refine AW.label ?_ | refine AExit.norT ?_ | refine AExit.norB ?_ | refine AExit.retT ?_ | refine AExit.retB ?_ | refine AExit.exiT ?_ | refine AExit.exiB ?_ | refine AExit.exiN (by decide) ?_)
    refine (caught_none _ _).mono ?_
    rintro s' rfl
    refine ⟨vE 0, _, ?_, .inl rfl, rfl⟩
    simp [ResP, resV, upd_lit, z0, hc2, show Tryz.f19.results.toList = [.cell 2 30] from rfl]
  · simp only [RR.toA]
    apply hKp; clear hK hKp K Kp
    refine AExit.panT ?_
    refine (caught_pan _ 1 e hc2 hc1).mono ?_
    rintro s' rfl
    refine ⟨vE e, _, ?_, .inl rfl, rfl⟩
    simp [ResP, resV, upd_lit, z0, hc2, show Tryz.f19.results.toList = [.cell 2 30] from rfl]
end Go.Proofs.YtgfadepkiejncaaGreat
namespace Go.Proofs.YtgfadepkiejncaaGreat
open Go.Ab
set_option maxHeartbeats 0

/-! the law's examples, by computation -/
mutual
def GV.ofC : List PV → Option GV
  | [.v (.int .i64 k), .v (.int .i64 n), .v (.bool b), .list .no a, .v (.string s), .list .no r] => match limbsOf a, GV.ofR r with | some a, some l => some (.mk k n b a s l) | _, _ => none
  | _ => none
def GV.ofR : List (List PV) → Option (List GV)
  | [] => some []
  | r :: rs => match GV.ofC r, GV.ofR rs with | some v, some l => some (v :: l) | _, _ => none
def limbsOf : List (List PV) → Option (List Int)
  | [] => some []
  | [.v (.int .u32 x)] :: l => match limbsOf l with | some l => some (x :: l) | none => none
  | _ => none
end
theorem limbsOf_spec : ∀ (l : List (List PV)) (xs : List Int), limbsOf l = some xs → l = limbs xs := by
  intro l
  induction l with
  | nil => intro xs h; simp [limbsOf] at h; subst h; rfl
  | cons r l ih =>
    intro xs h
    unfold limbsOf at h
    split at h
    · rename_i e; cases e
    · rename_i x l' e
      cases e
      split at h
      · rename_i ys hy; cases h
        rw [ih _ hy]; rfl
      · cases h
    · cases h
mutual
theorem ofC_spec : ∀ (cs : List PV) (v : GV), GV.ofC cs = some v → cs = v.cells
  | cs, v, h => by
    unfold GV.ofC at h
    split at h
    · rename_i k n b a s r
      split at h
      · rename_i xs l hx hl; cases h
        rw [limbsOf_spec _ _ hx, ofR_spec _ _ hl]
        rfl
      · cases h
    · cases h
termination_by cs => SizeOf.sizeOf cs
theorem ofR_spec : ∀ (rs : List (List PV)) (l : List GV), GV.ofR rs = some l → rs = GV.rows l
  | [], l, h => by simp [GV.ofR] at h; subst h; rfl
  | r :: rs, l, h => by
    unfold GV.ofR at h
    split at h
    · rename_i v l' hv hl; cases h
      rw [ofC_spec _ _ hv, ofR_spec _ _ hl]; rfl
    · cases h
termination_by rs => SizeOf.sizeOf rs
end
def spc1 : CallM → FuncId → List PV → Option (ER PV) := fun callM f args =>
  match f, args with
  | 30, [.agg cs] => match GV.ofC cs with | some v => if nodes v < 1152921504606846976 then some (.ok (vI (nodes v))) else none | none => none
  | 94, [.list .no r] => match limbsOf r with | some l => if l.length ≤ 1099511627776 then some (.ok (.list .no (limbs l))) else none | none => none
  | 19, [.agg cs] => match GV.ofC cs with
    | some v => match callM 83 [.loc 2 0, v.pv, vI 1] (((EM.empty.new (.cells v.cells)).new (.cells [vE 0])).new (.cells [vI 3000, vI 20, vI 0])) with
      | .ok (r, m') => match m'.cells 1 with
        | some [.v (.int .i64 0)] => if 1 < m'.nloc then (match r with
          | .pan (.iface 117 (.agg [.v (.int .i64 e)])) => some (.ok (vE e))
          | .ret (.tup []) => some (.ok (vE 0))
          | _ => some (.error "check")) else some (.error "check nloc")
        | _ => some (.error "check cell")
      | .error s => some (.error s)
    | none => none
  | _, _ => none
def cfg1 : ECfg := ⟨spc1, [141], [(96, 6)]⟩
theorem spc1_ok : SpcOK Tryz.prog cfg1 := by
  intro callM hM f args p h s
  replace h : spc1 callM f args = some (.ok p) := h
  unfold spc1 at h
  split at h
  · rename_i cs
    split at h
    · rename_i v hv
      split at h
      · rename_i hq; cases h
        have := ofC_spec _ _ hv
        subst this
        exact val_nodes v hq s
      · cases h
    · cases h
  · rename_i r
    split at h
    · rename_i l hl
      split at h
      · rename_i hq; cases h
        have := limbsOf_spec _ _ hl
        subst this
        exact clone22 l hq s
      · cases h
    · cases h
  · rename_i cs
    split at h
    · rename_i v hv
      have := ofC_spec _ _ hv
      subst this
      split at h
      · rename_i r m' hc
        split at h
        · rename_i hcell
          split at h
          · rename_i hn
            split at h
            · rename_i e; cases h
              exact check_of hM (.inr rfl) ⟨hcell, hn⟩ hc s
            · cases h
              exact check_of hM (.inl ⟨rfl, rfl⟩) ⟨hcell, hn⟩ hc s
            · cases h
          · cases h
        · cases h
      · cases h
    · cases h
  · cases h
/-- The law's examples come out as they should. -/
theorem sanity : Gives Tryz.prog 18 [] (vB true) := fun m =>
  ecall_sound spc1_ok (n := 1000) (r := .ret (vB true)) (by kernel_rfl) m
end Go.Proofs.YtgfadepkiejncaaGreat
