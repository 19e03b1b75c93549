/- Texts of the proof, part Lf: they prove nothing by themselves that is claimed. -/
import Derived.Test.YtgfadepkiejncaaGreatLc
import Derived.Test.YtgfadepkiejncaaGreatLe
set_option linter.unusedVariables false
set_option linter.unusedSimpArgs false
namespace Go.Ab
theorem adopt_new {m m1 : St} {n : Nat} (h : m.nloc ≤ n) : (m.adopt m1).loc n = m1.loc n := if_neg (by omega)
theorem adopt_same {m m1 : St} (h : m.nloc ≤ m1.nloc) : Same m (m.adopt m1) :=
  Same.mk h (Nat.le_refl _) (fun n hn => if_pos hn) (fun _ _ => ⟨rfl, rfl⟩) (fun n hn => if_pos hn) (fun n hn => if_pos hn) (fun _ _ _ _ h => h)
theorem adopt_free {m m1 : St} (h : FreeN m m1) : FreeN m (m.adopt m1) := fun n cs h1 h2 hc => h n cs h1 h2 (by rw [← adopt_new h1]; exact hc)
end Go.Ab
namespace Go.Proofs.YtgfadepkiejncaaGreat
open Go.Ab Go.Sort
set_option maxHeartbeats 0
set_option maxRecDepth 100000
attribute [local irreducible] AW AList ACall DA AExit.then AExit.inBlock YCall DCall
theorem lendA {f : FuncId} {args args' : List PV} {m : St} {a : List Int} (h : ∀ m, ACall Tryz.prog f args' m (fun r m' => ∃ A, r = .ret A ∧ MTa m' m.nloc m'.nloc a A ∧ Same m m' ∧ FreeN m m'))
    (ha : ∀ Γ w us, MemSim Γ m w → LRep Γ w args us → LRep (Γ.lend m w) w args' us) : ACall Tryz.prog f args m (fun r m' => ∃ A, r = .ret A ∧ MTa m' m.nloc m'.nloc a A ∧ Same m m' ∧ FreeN m m') := by
  refine (ACall.lend (R := fun p m1 => MTa m1 m.nloc m1.nloc a p ∧ FreeN m m1) ((h m.void).mono ?_) ha).mono ?_
  · rintro _ m1 ⟨A, rfl, h1, h2, h3⟩
    exact ⟨A, rfl, h1.free, h3, h1, h3⟩
  · rintro _ _ ⟨p, m1, rfl, ⟨h1, h3⟩, h2, rfl⟩
    exact ⟨p, rfl, h1.mono (Nat.le_refl _) fun n q _ => adopt_new q, adopt_same h2, adopt_free h3⟩
theorem lendV {f : FuncId} {args args' : List PV} {m : St} {v : GV} (h : ∀ m, ACall Tryz.prog f args' m (Makes m v))
    (ha : ∀ Γ w us, MemSim Γ m w → LRep Γ w args us → LRep (Γ.lend m w) w args' us) : ACall Tryz.prog f args m (Makes m v) := by
  refine (ACall.lend (R := fun p m1 => ∃ cs, p = .agg cs ∧ MTc m1 m.nloc m1.nloc v cs ∧ FreeN m m1) ((h m.void).mono ?_) ha).mono ?_
  · rintro _ m1 ⟨cs, rfl, h1, h2, h3⟩
    exact ⟨_, rfl, h1.free, h3, cs, rfl, h1, h3⟩
  · rintro _ _ ⟨p, m1, rfl, ⟨cs, rfl, h1, h3⟩, h2, rfl⟩
    exact ⟨cs, rfl, h1.mono (Nat.le_refl _) fun n q _ => adopt_new q, adopt_same h2, adopt_free h3⟩
theorem lendE {f : FuncId} {args args' : List PV} {m : St} {v : GV} {e : Int} (h : ∀ m, ACall Tryz.prog f args' m (MakesE m v e))
    (ha : ∀ Γ w us, MemSim Γ m w → LRep Γ w args us → LRep (Γ.lend m w) w args' us) : ACall Tryz.prog f args m (MakesE m v e) := by
  refine (ACall.lend (R := fun p m1 => ∃ cs, p = .tup [.agg cs, vE e] ∧ MTc m1 m.nloc m1.nloc v cs ∧ FreeN m m1) ((h m.void).mono ?_) ha).mono ?_
  · rintro _ m1 ⟨cs, rfl, h1, h2, h3⟩
    exact ⟨_, rfl, ⟨h1.free, trivial, trivial⟩, h3, cs, rfl, h1, h3⟩
  · rintro _ _ ⟨p, m1, rfl, ⟨cs, rfl, h1, h3⟩, h2, rfl⟩
    exact ⟨cs, rfl, h1.mono (Nat.le_refl _) fun n q _ => adopt_new q, adopt_same h2, adopt_free h3⟩
theorem cloneL {a : List Int} {A : PV} {m : St} {lo hi : Nat} (la : a.length ≤ 1099511627776) (h : MTa m lo hi a A) : ACall Tryz.prog 94 [A] m (fun r m' => ∃ A, r = .ret A ∧ MTa m' m.nloc m'.nloc a A ∧ Same m m' ∧ FreeN m m') := by
  refine lendA (cloneM a la) ?_
  rintro Γ w us hm ⟨u, us, rfl, h1, rfl⟩
  exact ⟨u, [], rfl, h.lend hm u h1, rfl⟩
theorem fz_limbs {a : List Int} {A : PV} {m m1 : St} (h : MTa m1 m.nloc m1.nloc a A) (s : Same m m1) : ∃ m2, Sees A m1 (.list .no (limbs a)) m2 ∧ Same m m2 ∧ m2.nloc = m1.nloc := by
  rcases h with ⟨rfl, rfl, _⟩ | ⟨n, h0, rfl, h1, h2, h3, h4⟩
  · exact ⟨m1, Sees.refl _ _, s, rfl⟩
  · refine ⟨m1.dropLoc n, ?_, s.dropLoc h1, rfl⟩
    have := Sees.fz (p := .marr n 0 a.length a.length) (s := 1) h3 h4
    rw [PV.fz, if_pos ⟨rfl, Nat.le_refl _, by rw [limbs_flat_len]; omega⟩, List.drop_zero, List.take_of_length_le (by rw [limbs_flat_len]; omega)] at this
    have e := chunk_flat (s := 1) (limbs a) (limbs_w a)
    rw [limbs_len] at e
    rw [e] at this
    exact this
theorem row_flat {s : Nat} : ∀ (rows : List (List PV)) (i : Nat) (h : i < rows.length), (∀ r ∈ rows, r.length = s) → ((rows.flatten.drop (i * s)).take s) = rows[i]
  | r :: rs, 0, _, w => by simp [List.take_append_of_le_length, w r]
  | r :: rs, i + 1, h, w => by
    have e : (i + 1) * s = r.length + i * s := by rw [w r (by simp), Nat.add_mul]; omega
    rw [List.flatten_cons, e, ← List.drop_drop, List.drop_left]
    exact row_flat rs i (by simpa using h) fun r hr => w r (by simp [hr])
theorem at1 {P : Program} {f : FuncId} {args : List PV} {r : PV} {m : St} {K Kp : PV → St → Prop} (h : ACall P f args m (fun q m' => q = .ret r ∧ m' = m)) (k : K r m) :
    ACall P f args m (fun r m' => match r with | .ret p => K p m' | .pan p => Kp p m') :=
  h.mono (by rintro _ _ ⟨rfl, rfl⟩; exact k)
theorem MTr.get {m : St} : ∀ {l : List GV} {lo hi : Nat} {rows : List (List PV)}, MTr m lo hi l rows → ∀ (i : Nat) (h : i < l.length) (h' : i < rows.length), ∃ a b, lo ≤ a ∧ b ≤ hi ∧ MTc m a b l[i] rows[i]
  | v :: l, lo, hi, rows, h, 0, _, _ => by
    obtain ⟨r, rs, md, rfl, h1, h2⟩ := h
    exact ⟨lo, md, Nat.le_refl _, MTr.le h2, h1⟩
  | v :: l, lo, hi, rows, h, i + 1, q, q' => by
    obtain ⟨r, rs, md, rfl, h1, h2⟩ := h
    obtain ⟨a, b, h3, h4, h5⟩ := MTr.get h2 i (by simpa using q) (by simpa using q')
    exact ⟨a, b, Nat.le_trans (MTc.le h1) h3, h4, h5⟩
theorem renamed1M (v : GV) (gv : good v) (hv : nodes v < 1000000) : ∀ (m : St) (lo hi : Nat) (cs : List PV), MTc m lo hi v cs → hi ≤ m.nloc → ACall Tryz.prog 111 [.agg cs, intsP [], intsP []] m (fun r m' => r = .ret (ren [] [] v).pv ∧ m' = m) := by
  induction hk : nodes v using Nat.strongRecOn generalizing v with
  | _ k ih =>
  subst hk
  have hn := nodes_eq v
  have hl := nodesL_len v.els
  obtain ⟨i1, i2, i3, i4⟩ := renL_ok (xs := []) (ys := []) (by intro x hx; cases hx) (by intro x hx; cases hx) v.els gv.els (by omega)
  have il := renL_len [] [] v.els
  have hnum := node_num gv.1.node
  intro m lo hi cs hc hh
  obtain ⟨A, L, rows, l1, l2, rfl, hA, hR, hL⟩ : ∃ A L rows l1 l2, cs = [vI v.kind, vI v.num, vB v.neg, A, vS v.str, L] ∧ MTa m lo l1 v.abs A ∧ MTr m l1 l2 v.els rows ∧ MTl m l2 hi v.els.length rows L := by cases v; exact hc
  have cA : cell1 A = true := by rcases hA with ⟨_, rfl, _⟩ | ⟨q, _, rfl, _⟩ <;> rfl
  have cL : cell1 L = true := by rcases hL with ⟨_, rfl, _⟩ | ⟨q, _, rfl, _⟩ <;> rfl
  have sA : A.strip = A := by rcases hA with ⟨_, rfl, _⟩ | ⟨q, _, rfl, _⟩ <;> rfl
  have sL : L.strip = L := by rcases hL with ⟨_, rfl, _⟩ | ⟨q, _, rfl, _⟩ <;> rfl
  simp only [cell1] at cA cL
  refine ACall.of_aw Tryz.func111 Tryz.ntmps111 rfl rfl (by simp) ?_
  refine AW.cuts4 (I := fun σ m' => σ 1 = intsP [] ∧ σ 2 = intsP [] ∧ σ 3 = .loc m.nloc 0 ∧ σ 6 = .loc (m.nloc + 1) 0 ∧ σ 7 = .loc (m.nloc + 2) 0 ∧ m'.loc m.nloc = some [vI v.kind, vI v.num, vB v.neg, A, vS v.str, L] ∧ m'.loc (m.nloc + 1) = some zcV ∧
    m'.loc (m.nloc + 2) = some [vI v.kind, vI v.num, vB v.neg, .list .no (limbs v.abs), vS v.str, L] ∧ m.nloc + 3 ≤ m'.nloc ∧ Same m m') ?_ ?_
  rotate_left
  · simp only [AWs]
    have F := (aand @cA (aand @cL (aand @sA @sL))); refine tF ?_; (try clear F)
    have hA3 : MTa ((((m.newLoc [vI v.kind, vI v.num, vB v.neg, A, vS v.str, L]).newLoc zcV).newLoc zcV).setLoc (m.nloc + 2) [vI v.kind, vI v.num, vB v.neg, A, vS v.str, L]) lo l1 v.abs A := by
      have a1 := MTr.le hR
      have a2 := hL.le
      exact hA.mono (by simp; omega) fun n h1 h2 => Same.get (m := m) Same.auto (by omega)
    have F := @sA; refine tF1 fun K Kp hK hKp => ?_; (try clear F); refine ACall.mono (cloneL (node_small gv) hA3) ?_
    rintro _ m1 ⟨A', rfl, hA', s1, f1⟩
    refine hK _ _ ?_; clear hK hKp K Kp
    obtain ⟨m2, see, s2, n2⟩ := fz_limbs hA' s1
    refine AList.sees (d := 14) (p' := .list .no (limbs v.abs)) (m' := m2) (by simpa [upd_lit] using see) ?_
    have b0 : m2.loc m.nloc = some [vI v.kind, vI v.num, vB v.neg, A, vS v.str, L] := (s2.get (by simp; omega)).trans (by simp; omega)
    have b1 : m2.loc (m.nloc + 1) = some zcV := (s2.get (by simp)).trans (by simp)
    have b2 : m2.loc (m.nloc + 2) = some [vI v.kind, vI v.num, vB v.neg, A, vS v.str, L] := (s2.get (by simp)).trans (by simp)
    have k3 : m.nloc + 3 ≤ m2.nloc := by have := s2.lloc; simpa using this
    have k0 : m.nloc < m2.nloc := by omega
    have k2 : m.nloc + 2 < m2.nloc := by omega
    have hne : m.nloc ≠ m.nloc + 2 := by omega
    have sm : Same m m2 := Same.trans Same.auto s2
    clear see s1 f1 hA' n2 s2
    have fin : ∀ σ : Nat → PV, σ 1 = intsP [] → σ 2 = intsP [] → σ 3 = .loc m.nloc 0 → σ 6 = .loc (m.nloc + 1) 0 → σ 7 = .loc (m.nloc + 2) 0 → ∀ m3, m3 = m2.setLoc (m.nloc + 2) [vI v.kind, vI v.num, vB v.neg, .list .no (limbs v.abs), vS v.str, L] → (σ 1 = intsP [] ∧ σ 2 = intsP [] ∧ σ 3 = .loc m.nloc 0 ∧ σ 6 = .loc (m.nloc + 1) 0 ∧ σ 7 = .loc (m.nloc + 2) 0 ∧ m3.loc m.nloc = some [vI v.kind, vI v.num, vB v.neg, A, vS v.str, L] ∧ m3.loc (m.nloc + 1) = some zcV ∧
    m3.loc (m.nloc + 2) = some [vI v.kind, vI v.num, vB v.neg, .list .no (limbs v.abs), vS v.str, L] ∧ m.nloc + 3 ≤ m3.nloc ∧ Same m m3) := by
      rintro σ h1 h2 h3 h4 h5 _ rfl
      exact ⟨h1, h2, h3, h4, h5, by rw [setLoc_loc, if_neg hne]; exact b0, by rw [setLoc_loc, if_neg (by omega)]; exact b1, by rw [setLoc_loc, if_pos rfl], k3, sm.setLoc (by omega) _⟩
    have q5 : v.kind = 5 → ¬ v.num ≤ 0 := fun h => by have := hnum.1 h; omega
    have q6 : v.kind = 6 → ¬ v.num < 0 := fun h => by have := hnum.2 h; omega
    by_cases h5 : v.kind = 5
    · have hle := q5 h5
      have F := (aand @h5 (aand @b0 (aand @b2 (aand @k0 (aand @k2 @hne))))); refine tFg ?_; (try clear F)
      have F := (aand @h5 @hle); refine tFa ?_; (try clear F)
      have F := (aand @h5 (aand @b0 (aand @b2 (aand @k0 (aand @k2 (aand @hne @hle)))))); refine tFa ?_; (try clear F)
      exact fin _ (by simp [upd_lit]) (by simp [upd_lit]) (by simp [upd_lit]) (by simp [upd_lit]) (by simp [upd_lit]) _ (by first | rfl | rw [h5] | rw [h6])
    by_cases h6 : v.kind = 6
    · have hle := q6 h6
      have F := (aand @h5 (aand @b0 (aand @b2 (aand @k0 (aand @k2 @hne))))); refine tFg ?_; (try clear F)
      have F := (aand @h5 (aand @b0 (aand @b2 (aand @k0 (aand @k2 @hne))))); refine tFa ?_; (try clear F)
      have F := (aand @h6 (aand @b0 (aand @b2 (aand @k0 (aand @k2 @hne))))); refine tFg ?_; (try clear F)
      have F := (aand @h6 (aand @b0 (aand @b2 (aand @k0 (aand @k2 (aand @hne @hle)))))); refine tFa ?_; (try clear F)
      exact fin _ (by simp [upd_lit]) (by simp [upd_lit]) (by simp [upd_lit]) (by simp [upd_lit]) (by simp [upd_lit]) _ (by first | rfl | rw [h5] | rw [h6])
    · have F := (aand @h5 (aand @b0 (aand @b2 (aand @k0 (aand @k2 @hne))))); refine tFg ?_; (try clear F)
      have F := (aand @h5 (aand @b0 (aand @b2 (aand @k0 (aand @k2 @hne))))); refine tFa ?_; (try clear F)
      have F := (aand @h6 (aand @b0 (aand @b2 (aand @k0 (aand @k2 @hne))))); refine tFg ?_; (try clear F)
      have F := (aand @h6 (aand @b0 (aand @b2 (aand @k0 (aand @k2 @hne))))); refine tFa ?_; (try clear F)
      exact fin _ (by simp [upd_lit]) (by simp [upd_lit]) (by simp [upd_lit]) (by simp [upd_lit]) (by simp [upd_lit]) _ (by first | rfl | rw [h5] | rw [h6])
  · rintro σ m' ⟨t1, t2, t3, t6, t7, g0, g1, g2, n1, sm⟩
    have q0 : m.nloc < m'.nloc := by omega
    have q1 : m.nloc + 1 < m'.nloc := by omega
    have q2 : m.nloc + 2 < m'.nloc := by omega
    have hLen : ∀ (m : St) (K : PV → St → Prop), alen Tryz.prog [25] L m K ↔ K (vI v.els.length) m := fun m K => by
      rcases hL with ⟨h0, rfl, _⟩ | ⟨q, _, rfl, _⟩
      · simp [h0]
      · simp
    simp only [alen] at hLen
    have F := (aand @t7 (aand @g2 (aand @q2 (aand @t3 (aand @g0 (aand @q0 @hLen)))))); refine tF ?_; (try clear F)
    refine AW.nilC (m := m'.setLoc (m.nloc + 2) ([vI v.kind, vI v.num, vB v.neg, .list .no (limbs v.abs), vS v.str, .v (.slice none 0 0)])) (n := m.nloc + 2) (i := 5) (cs := [vI v.kind, vI v.num, vB v.neg, .list .no (limbs v.abs), vS v.str, .v (.slice none 0 0)]) q2 (by rw [setLoc_loc, if_pos rfl]) (by rfl) ?_
    rw [setLoc_setLoc]
    simp only [List.set]
    refine AW.loop (ι := Nat) (fun i σ m'' => i ≤ v.els.length ∧ (∃ o, m''.loc (m.nloc + 2) = some ([vI v.kind, vI v.num, vB v.neg, .list .no (limbs v.abs), vS v.str, .list o (GV.rows (renL [] [] (v.els.take i)))]) ∧ Ow m m'' o 6 i) ∧ m''.loc m.nloc = some [vI v.kind, vI v.num, vB v.neg, A, vS v.str, L] ∧ m''.loc (m.nloc + 1) = some zcV ∧ m.nloc + 3 ≤ m''.nloc ∧ σ 56 = vI i ∧ σ 55 = vI v.els.length ∧ σ 54 = L ∧ σ 1 = intsP [] ∧ σ 2 = intsP [] ∧ σ 3 = .loc m.nloc 0 ∧ σ 6 = .loc (m.nloc + 1) 0 ∧ σ 7 = .loc (m.nloc + 2) 0) (fun i => v.els.length - i) 0 ?_ ?_
    · exact ⟨by simp, ⟨.full, by simp [GV.rows, renL], .full (sm.setLoc (by omega) _)⟩, by simp [g0], by simp [g1], by simp; omega, by simp [upd_lit], by simp [upd_lit], by simp [upd_lit], by simp [upd_lit, t1], by simp [upd_lit, t2], by simp [upd_lit, t3], by simp [upd_lit, t6], by simp [upd_lit, t7]⟩
    clear t1 t2 t3 t6 t7 g0 g1 g2 q0 q1 q2 n1 sm hLen
    rintro i σ m' ⟨hile, ⟨o, g2, ow⟩, g0, g1, hnl, t56, t55, t54, t1, t2, t3, t6, t7⟩
    have q0 : m.nloc < m'.nloc := by omega
    have q1 : m.nloc + 1 < m'.nloc := by omega
    have q2 : m.nloc + 2 < m'.nloc := by omega
    by_cases hlt : i < v.els.length
    · have ht := renL_take [] [] v.els i hlt
      have hlr := renL_len [] [] (v.els.take i)
      have hlt' : (v.els.take i).length = i := by simp; omega
      have hg := nodes_get v.els i hlt
      have gx := gv.els _ (List.getElem_mem hlt)
      have hne : m.nloc + 2 ≠ m'.nloc := by omega
      have hn0' : m.nloc + 2 < m'.nloc + 1 := by omega
      obtain ⟨q, eL, w1, w2, w3, w4⟩ : ∃ q, L = .marr q 0 v.els.length v.els.length ∧ l2 ≤ q ∧ q < hi ∧ q < m.nloc ∧ m.loc q = some rows.flatten := by
        rcases hL with ⟨h0, _⟩ | ⟨q, _, h1, h2, h3, h4, h5⟩
        · omega
        · exact ⟨q, h1, h2, h3, h4, h5⟩
      have hrl : i < rows.length := by rw [hR.len]; exact hlt
      obtain ⟨a, b, y1, y2, hcc⟩ := hR.get i hlt hrl
      obtain ⟨ds, eds⟩ : ∃ ds, ds = rows[i] := ⟨_, rfl⟩
      rw [← eds] at hcc
      have gq : m'.loc q = some rows.flatten := (ow.1.get w3).trans w4
      have kq : q < m'.nloc := by omega
      have hrow : (rows.flatten.drop (i * 6)).take 6 = ds := by rw [row_flat rows i hrl hR.w, eds]
      have hfl : i * 6 + 6 ≤ rows.flatten.length := by rw [hR.flat]; omega
      obtain ⟨c, ec⟩ : ∃ c, c = v.els[i] := ⟨_, rfl⟩
      rw [← ec] at hcc ht hg gx
      obtain ⟨A2, L2, rfl, cA2, cL2, sA2, sL2⟩ := hcc.inv
      clear eds
      simp only [cell1] at cA2 cL2
      obtain ⟨R, eR⟩ : ∃ R, R = rows.flatten := ⟨_, rfl⟩
      rw [← eR] at gq hrow hfl
      have F := (aand @t56 (aand @t55 @hlt)); refine tFa ?_; (try clear F)
      have F := (aand @t54 (aand @t56 (aand @hlt (aand @eL (aand @gq (aand @kq (aand @hrow (aand @hfl (aand @cA2 @cL2))))))))); refine tF ?_; (try clear F)
      repeat (first | refine AW.seq ?_ | refine AW.block ?_ | refine AW.skip ?_ | refine AExit.norT ?_ | refine AExit.norB ?_ | refine AList.nil ?_)
      have ow2 : Ow m ((m'.newLoc zcV).setLoc m'.nloc [vI c.kind, vI c.num, vB c.neg, A2, vS c.str, L2]) o 6 i := ⟨(ow.1.newLoc _).setLoc (by have := ow.1.lloc; omega) _, ow.2⟩
      refine AW.draw [.S, .R, .R, .S, .S, .R, .S, .W, .S, .W] (by decide +kernel) ?_; have F := (aand @t1 (aand @t2 (aand @t7 (aand @g2 (aand @hne (aand @hn0' @hlt)))))); refine dST 0 ?_; refine dRT 1 ?_; refine dRT 2 ?_; refine dST 3 ?_; refine dST 4 ?_; (try clear F)
      refine DA.RT (p := (ren [] [] c).pv) 5 rfl (by decide +kernel) (by decide) (by intro K hK; simp [upd_lit, sA2, sL2]; exact at1 (ih _ (by omega) c gx (by omega) rfl _ a b _ (hcc.mono (by simp; omega) fun n h1 h2 => ow2.1.get (by omega)) (by simp; omega)) hK) ?_
      skip; have F := (aand @t1 (aand @t2 (aand @t7 (aand @g2 (aand @hne (aand @hn0' @hlt)))))); refine dST 6 ?_; (try clear F); refine DA.W (oi := ?oiw1) 7 ?aw1 ?bw1 ?cw1 ?dw1 ?ew1 ?fw1; (case aw1 => rfl); (case bw1 => decide +kernel); (case cw1 => rfl); (case dw1 => rfl); (case ew1 => decide); intro K Kp hK hKp; (simp [t7, upd_lit]; refine app25 (l' := [ren [] [] c]) ow2 (by rw [renL_len]; simp; omega) (by rw [renL_len]; simp; omega) fun o' m'' ho' hs => hK _ _ ?_; clear hK hKp K Kp); have F := (aand @t1 (aand @t2 (aand @t7 (aand @g2 (aand @hne (aand @hn0' @hlt)))))); (try clear F)
      have q2'' : m.nloc + 2 < m''.nloc := by rw [hs.nloc]; simp; omega
      have g2'' : m''.loc (m.nloc + 2) = some ([vI v.kind, vI v.num, vB v.neg, .list .no (limbs v.abs), vS v.str, .list o (GV.rows (renL [] [] (v.els.take i)))]) := by rw [hs.loc]; simp [hne, g2]
      skip; have F := (aand @t7 (aand @g2'' @q2'')); refine dST 8 ?_; refine dW 9 ?_; (try clear F); first | refine dN ?_ | refine dB ?_ | refine DA.done (by decide +kernel) ?_
      have F := @t56; refine tF ?_; (try clear F)
      refine ⟨i + 1, ⟨by omega, ⟨o', by simp [ht], ⟨ho'.1.setLoc (by omega) _, ho'.2⟩⟩, ?_, ?_, by simp [hs.nloc]; omega, by simp [upd_lit], by simp [upd_lit, t55], by simp [upd_lit, t54], by simp [upd_lit, t1], by simp [upd_lit, t2], by simp [upd_lit, t3], by simp [upd_lit, t6], by simp [upd_lit, t7]⟩, by omega⟩
      · simp [hs.loc, g0, show m.nloc ≠ m'.nloc from by omega]
      · simp [hs.loc, g1, show m.nloc + 1 ≠ m'.nloc from by omega]
    · have e : i = v.els.length := by omega
      rw [e, List.take_length] at g2
      have F := (aand @t56 (aand @t55 @hlt)); refine tFa ?_; (try clear F)
      by_cases h8 : v.kind = 8
      · rw [ren_eq, if_pos h8]
        obtain ⟨z1, z2, z3, z4⟩ := node_set gv h8
        have he : (setV (setF (renL [] [] v.els))).els = setF (renL [] [] v.els) := rfl
        have F := (aand @t3 (aand @g0 @q0)); refine tF ?_; (try clear F)
        have F := @h8; refine tFa ?_; (try clear F)
        have F := (aand @t7 (aand @g2 @q2)); refine tF ?_; (try clear F)
        refine tS1 fun K Kp hK hKp => ?_; refine Gives.at (val_sorted (renL [] [] v.els) i1 (by omega)) ?_; apply hK; clear hK hKp K Kp
        have F := (aand @t7 (aand @g2 (aand @q2 (aand @t6 (aand @g1 (aand @q1 @he)))))); refine tF ?_; (try clear F)
        exact Fin.givesC (p := .agg [vI v.kind, vI v.num, vB v.neg, .list .no (limbs v.abs), vS v.str, GV.pvs (setF (renL [] [] v.els))]) rfl (by simp [upd_lit, t6, q1]) ((ow.1.setLoc (by omega) _).setLoc (by omega) _) (by simp [h8, z1, z2, z3, z4, GV.cells, limbs])
      · have hN : renN [] [] v.kind v.num = v.num := by
          rw [renN, if_neg (fun h => by have := hnum.1 h.1; have := h.2; simp at this; omega), if_neg (fun h => by have := hnum.2 h.1; have := h.2; simp at this; omega)]
        rw [ren_eq, if_neg h8, hN]
        have F := (aand @t3 (aand @g0 @q0)); refine tF ?_; (try clear F)
        have F := @h8; refine tFa ?_; (try clear F)
        have F := (aand @t7 (aand @g2 (aand @q2 (aand @t6 (aand @g1 @q1))))); refine tF ?_; (try clear F)
        exact Fin.givesC (p := .agg [vI v.kind, vI v.num, vB v.neg, .list .no (limbs v.abs), vS v.str, .list o (GV.rows (renL [] [] v.els))]) rfl (by simp [upd_lit, t6, q1]) (ow.1.setLoc (by omega) _) (by simp [GV.cells])
end Go.Proofs.YtgfadepkiejncaaGreat
namespace Go.Ab
def St.hole (m : St) (lo hi : Nat) : St := { m with loc := fun n => if lo ≤ n ∧ n < hi then none else m.loc n }
def SameX (lo hi : Nat) (m m' : St) : Prop := Same (m.hole lo hi) (m'.hole lo hi)
theorem SameX.refl (lo hi : Nat) (m : St) : SameX lo hi m m := Same.refl _
theorem SameX.lloc {lo hi : Nat} {m m' : St} (h : SameX lo hi m m') : m.nloc ≤ m'.nloc := Leaves.lloc (m := m.hole lo hi) (m' := m'.hole lo hi) h
theorem SameX.get {lo hi : Nat} {m m' : St} (h : SameX lo hi m m') {n : Nat} (hn : n < m.nloc) (hx : n < lo ∨ hi ≤ n) : m'.loc n = m.loc n := by
  have := Same.get (m := m.hole lo hi) (m' := m'.hole lo hi) h (n := n) hn
  have q : ¬ (lo ≤ n ∧ n < hi) := by omega
  have e1 : (m.hole lo hi).loc n = m.loc n := if_neg q
  have e2 : (m'.hole lo hi).loc n = m'.loc n := if_neg q
  rw [e1, e2] at this
  exact this
theorem hole_setLoc {m : St} {lo hi n : Nat} {cs : List PV} (h1 : lo ≤ n) (h2 : n < hi) : (m.setLoc n cs).hole lo hi = m.hole lo hi := by
  simp only [St.hole, St.setLoc, St.mk.injEq, true_and]
  refine ⟨?_, trivial⟩
  funext i
  by_cases q : lo ≤ i ∧ i < hi
  · rw [if_pos q, if_pos q]
  · rw [if_neg q, if_neg q, upd_ne _ _ _ _ (by omega)]
theorem hole_hole {m : St} {lo hi a b : Nat} (h1 : lo ≤ a) (h2 : b ≤ hi) : (m.hole a b).hole lo hi = m.hole lo hi := by
  simp only [St.hole, St.mk.injEq, true_and]
  refine ⟨?_, trivial⟩
  funext i
  by_cases q : lo ≤ i ∧ i < hi
  · rw [if_pos q, if_pos q]
  · rw [if_neg q, if_neg q, if_neg (by omega)]
theorem SameX.setLoc {lo hi : Nat} {m m' : St} (h : SameX lo hi m m') {n : Nat} (h1 : lo ≤ n) (h2 : n < hi) (cs : List PV) : SameX lo hi m (m'.setLoc n cs) := by
  unfold SameX; rw [hole_setLoc h1 h2]; exact h
theorem SameX.hole {lo hi a b : Nat} {m m' : St} (h : SameX lo hi m m') (h1 : lo ≤ a) (h2 : b ≤ hi) : SameX lo hi m (m'.hole a b) := by
  unfold SameX; rw [hole_hole h1 h2]; exact h
theorem hole_get {m : St} {a b n : Nat} (h : n < a ∨ b ≤ n) : (m.hole a b).loc n = m.loc n := if_neg (by omega)
theorem SameX.of {lo hi : Nat} {m m' : St} (h : Same m m') : SameX lo hi m m' :=
  Same.mk (m := m.hole lo hi) (m' := m'.hole lo hi) h.lloc h.ltok (fun n hn => by
    by_cases q : lo ≤ n ∧ n < hi
    · have e1 : (m.hole lo hi).loc n = none := if_pos q
      have e2 : (m'.hole lo hi).loc n = none := if_pos q
      rw [e1, e2]
    · have e1 : (m.hole lo hi).loc n = m.loc n := if_neg q
      have e2 : (m'.hole lo hi).loc n = m'.loc n := if_neg q
      rw [e1, e2]; exact h.get hn) (fun k hk => ⟨(h.top k hk).1.symm, (h.top k hk).2.symm⟩) (fun n hn => h.getL hn) (fun n hn => h.getI hn) (fun k cs hk hd hc => h.getA hk hd hc)
theorem AList.gen {P : Program} {N : Nat} {ops : Array Oper} {Q : APost} {l : List Oper} {σ : Nat → PV} {m : St} (h : ∀ mm, mm = m → AList P N ops Q l σ mm) : AList P N ops Q l σ m := h m rfl
theorem SameX.lv {lo hi : Nat} {m m' : St} (h : SameX lo hi m m') : Lv m m' (m.hole lo hi) := by
  have h' : Same (m.hole lo hi) (m'.hole lo hi) := h
  refine ⟨Nat.le_refl _, Nat.le_refl _, h.lloc, h'.ltok, fun n cs hn hc => ?_, fun k hk => ?_, fun n L hn hl => ?_, fun n x hn hx => ?_, fun k cs hk hd hc => ?_⟩
  · by_cases q : lo ≤ n ∧ n < hi
    · have : (m.hole lo hi).loc n = none := if_pos q
      rw [this] at hc; cases hc
    · rw [hole_get (by omega)] at hc
      exact ⟨(h.get hn (by omega)).trans hc, .inl ⟨hn, hc⟩⟩
  · exact ⟨(h'.top k hk).1, (h'.top k hk).2⟩
  · exact ⟨hn, (h'.getL (n := n) hn).trans hl, hl⟩
  · exact (h'.getI (n := n) hn).trans hx
  · exact ⟨h'.getA hk hd hc, .inl ⟨hk, hc⟩⟩
end Go.Ab
namespace Go.Proofs.YtgfadepkiejncaaGreat
open Go.Ab Go.Sort
set_option maxHeartbeats 0
set_option maxRecDepth 100000
attribute [local irreducible] AW AList ACall DA AExit.then AExit.inBlock YCall DCall
theorem renamedM (v : GV) (gv : good v) (hv : nodes v < 1000000) (m : St) (lo hi : Nat) (cs : List PV) (hc : MTc m lo hi v cs) (hh : hi ≤ m.nloc) : ACall Tryz.prog 59 [.agg cs, intsP [], intsP []] m (fun r m' => r = .ret (outP (ren [] [] v) 0) ∧ m' = m) := by
  have h1 := contains_int [] _ 109 (by simp) clo109
  have h2 := contains_int [] _ 110 (by simp) clo110
  rw [List.any_nil] at h1 h2
  obtain ⟨A, L, rfl, cA, cL, sA, sL⟩ := hc.inv
  simp only [cell1] at cA cL
  refine ACall.of_aw Tryz.func59 Tryz.ntmps59 rfl rfl (by simp) ?_
  have F := (aand @cA (aand @cL (aand @sA @sL))); refine tF ?_; (try clear F)
  refine tS1 fun K Kp hK hKp => ?_; refine Gives.at (h1) ?_; apply hK; clear hK hKp K Kp
  refine tSg ?_
  refine tSc (h2) ?_
  refine tSa ?_
  refine tS ?_
  refine AList.op (by decide) ?_; intro K Kp hK hKp; simp [upd_lit, sA, sL]
  have sm : Same m ((m.newLoc [vI v.kind, vI v.num, vB v.neg, A, vS v.str, L]).newLoc zcV) := Same.auto
  refine at1 (renamed1M v gv hv _ lo hi _ (hc.mono (by simp; omega) fun n h1 h2 => sm.get (by omega)) (by simp; omega)) ?_
  apply hK; clear hK hKp K Kp
  refine tS ?_
  exact Fin.gives2 Same.auto (by simp [ResP, ResL, resV, upd_lit, show Tryz.f59.results.toList = [.cell 6 27, .tmp 7] from rfl])
theorem spoilM (v : GV) (hv : nodes v < 1000000) (hab : ∀ x ∈ walkV v, x.abs.length ≤ 1099511627776) : ∀ (m : St) (lo hi : Nat) (cs : List PV), MTc m lo hi v cs → hi ≤ m.nloc → ACall Tryz.prog 78 [.agg cs] m (fun r m' => r = .ret (.tup []) ∧ m' = m.hole lo hi) := by
  induction hk : nodes v using Nat.strongRecOn generalizing v with
  | _ k ih =>
  subst hk
  have hn := nodes_eq v
  have hl := nodesL_len v.els
  intro m lo hi cs hc hh
  obtain ⟨A, L, rows, l1, l2, rfl, hA, hR, hL⟩ : ∃ A L rows l1 l2, cs = [vI v.kind, vI v.num, vB v.neg, A, vS v.str, L] ∧ MTa m lo l1 v.abs A ∧ MTr m l1 l2 v.els rows ∧ MTl m l2 hi v.els.length rows L := by cases v; exact hc
  have cA : cell1 A = true := by rcases hA with ⟨_, rfl, _⟩ | ⟨q, _, rfl, _⟩ <;> rfl
  have cL : cell1 L = true := by rcases hL with ⟨_, rfl, _⟩ | ⟨q, _, rfl, _⟩ <;> rfl
  have sA : A.strip = A := by rcases hA with ⟨_, rfl, _⟩ | ⟨q, _, rfl, _⟩ <;> rfl
  have sL : L.strip = L := by rcases hL with ⟨_, rfl, _⟩ | ⟨q, _, rfl, _⟩ <;> rfl
  simp only [cell1] at cA cL
  have hlen : ∀ (m : St) (K : PV → St → Prop), alen Tryz.prog [25] L m K ↔ K (vI v.els.length) m := fun m K => by
    rcases hL with ⟨h0, rfl, _⟩ | ⟨q, _, rfl, _⟩
    · simp [h0]
    · simp
  have alen' : ∀ (m : St) (K : PV → St → Prop), alen Tryz.prog [22] A m K ↔ K (vI v.abs.length) m := fun m K => by
    rcases hA with ⟨h0, rfl, _⟩ | ⟨q, _, rfl, _⟩
    · simp [h0]
    · simp
  simp only [alen] at hlen alen'
  have la := hab v (walk_self v)
  have o1 := hA.le
  have o2 := MTr.le hR
  have o3 := hL.le
  refine ACall.of_aw Tryz.func78 Tryz.ntmps78 rfl rfl (by simp) ?_
  have F := (aand @cA (aand @cL (aand @sA @sL))); refine tF ?_; (try clear F)
  refine AW.frzL (n := m.nloc) (d := 1) (cs := [vI v.kind, vI v.num, vB v.neg, A, vS v.str, L]) (by simp) (by simp) (by simp [upd_lit]) ?_
  obtain ⟨B, hB⟩ : ∃ B, B = [vI v.kind, vI v.num, vB v.neg, A, vS v.str, L] := ⟨_, rfl⟩
  refine AW.gen fun m1 hm1 => ?_
  have s1 : Same m m1 := by rw [hm1]; exact ((Same.refl m).newLoc _).dropLoc (Nat.le_refl _)
  clear hm1
  refine AW.loop (ι := Nat) (fun i σ m' => i ≤ v.abs.length ∧ σ 2 = vI i ∧ σ 1 = .ro [vI v.kind, vI v.num, vB v.neg, A, vS v.str, L] ∧ m.nloc ≤ m'.nloc ∧ SameX lo hi m m' ∧ (∀ n, l1 ≤ n → n < hi → m'.loc n = m.loc n) ∧ (∀ q, A = .marr q 0 v.abs.length v.abs.length → ∃ ds, m'.loc q = some ds ∧ ds.length = v.abs.length)) (fun i => v.abs.length - i) 0 ?_ ?_
  · refine ⟨by simp, by simp [upd_lit], by simp [upd_lit], s1.lloc, SameX.of s1, fun n h1 h2 => s1.get (by omega), fun q e => ?_⟩
    rcases hA with ⟨_, rfl, _⟩ | ⟨q', _, rfl, h1, h2, h3, h4⟩
    · cases e
    · cases e; exact ⟨_, (s1.get h3).trans h4, limbs_flat_len _⟩
  clear s1
  rintro i σ m' ⟨hile, t2, t1, hnl, sx, hk1, hk2⟩
  by_cases hlt : i < v.abs.length
  · obtain ⟨q, eA, w1, w2, w3⟩ : ∃ q, A = .marr q 0 v.abs.length v.abs.length ∧ lo ≤ q ∧ q < l1 ∧ q < m.nloc := by
      rcases hA with ⟨h0, _⟩ | ⟨q, _, h1, h2, h3, h4, h5⟩
      · rw [h0] at hlt; cases hlt
      · exact ⟨q, h1, h2, h3, h4⟩
    obtain ⟨ds, gq, ld⟩ := hk2 q eA
    have kq : q < m'.nloc := by omega
    have hi1 : i + 1 ≤ ds.length := by omega
    have F := (aand @t1 (aand @t2 (aand @alen' @hlt))); refine tFa ?_; (try clear F)
    have F := (aand @eA (aand @hlt (aand @gq (aand @kq (aand @hi1 @t2))))); refine tF ?_; (try clear F)
    refine ⟨i + 1, ⟨by omega, by simp [upd_lit], by simp [upd_lit, t1, eA], by simp; omega, sx.setLoc w1 (by omega) _, fun n h1 h2 => ?_, fun q' e => ?_⟩, by omega⟩
    · rw [setLoc_loc, if_neg (by omega)]; exact hk1 n h1 h2
    · rw [eA] at e; cases e
      exact ⟨_, by rw [setLoc_loc, if_pos rfl], by simp [ld]⟩
  · have e : i = v.abs.length := by omega
    have F := (aand @t1 (aand @t2 (aand @alen' @hlt))); refine tFa ?_; (try clear F)
    refine tS ?_
    refine AW.loop (ι := Nat) (fun i σ m' => i ≤ v.els.length ∧ σ 3 = vI i ∧ σ 1 = .ro [vI v.kind, vI v.num, vB v.neg, A, vS v.str, L] ∧ m.nloc ≤ m'.nloc ∧ SameX lo hi m m' ∧ ∃ mid, l1 ≤ mid ∧ MTr m' mid l2 (v.els.drop i) (rows.drop i) ∧ (∀ q, L = .marr q 0 v.els.length v.els.length → ∃ ds, m'.loc q = some ds ∧ ds.length = v.els.length * 6 ∧ ds.drop (i * 6) = (rows.drop i).flatten)) (fun i => v.els.length - i) 0 ?_ ?_
    · refine ⟨by simp, by simp [upd_lit], by simp [upd_lit, t1], hnl, sx, l1, Nat.le_refl _, hR.mono (by omega) fun n h1 h2 => hk1 n h1 (by omega), fun q e => ?_⟩
      rcases hL with ⟨_, rfl, _⟩ | ⟨q', _, rfl, h1, h2, h3, h4⟩
      · cases e
      · cases e; exact ⟨_, (hk1 q (by omega) h2).trans h4, hR.flat, by simp⟩
    clear t1 t2 hnl sx hk1 hk2 hlt e hile
    rintro i σ m' ⟨hile, t3, t1, hnl, sx, mid, hmid, hRi, hk⟩
    by_cases hlt : i < v.els.length
    · have hg := nodes_get v.els i hlt
      obtain ⟨q, eL, w1, w2, w3⟩ : ∃ q, L = .marr q 0 v.els.length v.els.length ∧ l2 ≤ q ∧ q < hi ∧ q < m.nloc := by
        rcases hL with ⟨h0, _⟩ | ⟨q, _, h1, h2, h3, h4, h5⟩
        · omega
        · exact ⟨q, h1, h2, h3, h4⟩
      obtain ⟨ds, gq, ld, hd⟩ := hk q eL
      have kq : q < m'.nloc := by omega
      have hrl : i < rows.length := by rw [hR.len]; exact hlt
      have hi6 : i * 6 + 6 ≤ ds.length := by omega
      rw [List.drop_eq_getElem_cons hlt, List.drop_eq_getElem_cons hrl] at hRi
      rw [List.drop_eq_getElem_cons hrl] at hd
      obtain ⟨_, _, mid2, e, hcc, hRn⟩ := hRi
      injection e with e1 e2
      subst e2
      rw [e1] at hd
      obtain ⟨c, ec⟩ : ∃ c, c = v.els[i] := ⟨_, rfl⟩
      rw [← ec] at hcc hg
      obtain ⟨A2, L2, rfl, cA2, cL2, sA2, sL2⟩ := hcc.inv
      have hrow : (ds.drop (i * 6)).take 6 = [vI c.kind, vI c.num, vB c.neg, A2, vS c.str, L2] := by rw [hd]; rfl
      simp only [cell1] at cA2 cL2
      have hd6 : ds.drop (i * 6 + 6) = (rows.drop (i + 1)).flatten := by
        rw [← List.drop_drop, hd]; rfl
      have o4 := MTr.le hRn
      have o5 := MTc.le hcc
      have F := (aand @t1 (aand @t3 (aand @hlen @hlt))); refine tFa ?_; (try clear F)
      have F := (aand @eL (aand @hlt (aand @gq (aand @kq (aand @hrow @hi6))))); refine tF ?_; (try clear F)
      refine AList.op (by decide) ?_; intro K Kp hK hKp; simp [upd_lit, sA2, sL2]
      refine ACall.mono (ih _ (by omega) c (by omega) (fun y hy => hab y (walk_mem hlt (by rw [← ec]; exact hy))) rfl m' mid mid2 _ hcc (by omega)) ?_
      rintro _ _ ⟨rfl, rfl⟩
      refine hK _ _ ?_; clear hK hKp K Kp
      refine AList.gen fun m2 hm2 => ?_
      have n2 : m2.nloc = m'.nloc := by rw [hm2]; rfl
      have l2' : ∀ n, n < mid ∨ mid2 ≤ n → m2.loc n = m'.loc n := fun n h => by rw [hm2]; exact hole_get h
      have s2 : SameX lo hi m m2 := by rw [hm2]; exact sx.hole (by omega) (by omega)
      clear hm2
      have gq2 : m2.loc q = some ds := by rw [l2' q (by omega)]; exact gq
      have kq2 : q < m2.nloc := by omega
      have F := (aand @t1 (aand @t3 (aand @eL (aand @hlt (aand @gq2 (aand @kq2 @hi6)))))); refine tF ?_; (try clear F)
      refine ⟨i + 1, ⟨by omega, by simp [upd_lit], by simp [upd_lit, t1, eL], by simp; omega, s2.setLoc (by omega) w2 _, mid2, by omega, hRn.mono (by simp; omega) fun n h1 h2 => by rw [setLoc_loc, if_neg (by omega)]; exact l2' n (by omega), fun q' e => ?_⟩, by omega⟩
      rw [eL] at e; cases e
      refine ⟨_, by rw [setLoc_loc, if_pos rfl], by simp [ld], ?_⟩
      rw [show (i + 1) * 6 = i * 6 + 6 by omega, ← hd6]
      simp [List.drop_set_of_lt]
    · have e : i = v.els.length := by omega
      have F := (aand @t1 (aand @t3 (aand @hlen @hlt))); refine tFa ?_; (try clear F)
      exact ⟨.tup [], m.hole lo hi, ⟨[], rfl, rfl⟩, .inr ⟨sx.lv, trivial⟩, rfl, rfl⟩
end Go.Proofs.YtgfadepkiejncaaGreat
namespace Go.Ab
open Go.RowKit
theorem freezeR {Γ : Ctx} {m : St} {w : World} (hm : MemSim Γ m w) (lo : Nat) : ∀ hi, hi ≤ m.nloc → ∃ Γ' : Ctx, Γ.le Γ' ∧ MemSim Γ' (m.hole lo hi) w ∧ Γ'.loc = Γ.loc ∧ ∀ n cs, lo ≤ n → n < hi → m.loc n = some cs → CRep Γ' w cs (Γ.loc n) 0
  | 0, _ => by
    refine ⟨Γ, Ctx.le.refl _, ?_, rfl, fun n cs _ h => absurd h (by omega)⟩
    have : m.hole lo 0 = m := by
      simp only [St.hole]
      have : (fun n => if lo ≤ n ∧ n < 0 then none else m.loc n) = m.loc := by funext n; rw [if_neg (by omega)]
      rw [this]
    rw [this]; exact hm
  | hi + 1, hh => by
    obtain ⟨G, l, h1, h2, h3⟩ := freezeR hm lo hi (by omega)
    by_cases q : lo ≤ hi
    · cases e : m.loc hi with
      | none =>
        refine ⟨G, l, ?_, h2, fun n cs a b c => ?_⟩
        · have : m.hole lo (hi + 1) = m.hole lo hi := by
            simp only [St.hole, St.mk.injEq, true_and]
            refine ⟨?_, trivial⟩
            funext n
            by_cases q' : n = hi
            · subst q'; rw [if_pos ⟨q, by omega⟩, if_neg (by omega), e]
            · by_cases q2 : lo ≤ n ∧ n < hi
              · rw [if_pos q2, if_pos ⟨q2.1, by omega⟩]
              · rw [if_neg q2, if_neg (by omega)]
          rw [this]; exact h1
        · by_cases q' : n = hi
          · subst q'; rw [e] at c; cases c
          · exact h3 n cs a (by omega) c
      | some ds =>
        have e' : (m.hole lo hi).loc hi = some ds := (hole_get (by omega)).trans e
        obtain ⟨k1, k2⟩ := MemSim.freeze h1 (n := hi) (by show hi < m.nloc; omega) e'
        have l2 := Ctx.le_newImm G (G.loc hi) ds.length (h1.apart hi ds (by show hi < m.nloc; omega) e').1
        refine ⟨_, l.trans l2, ?_, h2, fun n cs a b c => ?_⟩
        · have : m.hole lo (hi + 1) = (m.hole lo hi).dropLoc hi := by
            simp only [St.hole, St.dropLoc, St.mk.injEq, true_and]
            refine ⟨?_, trivial⟩
            funext n
            by_cases q' : n = hi
            · subst q'; rw [if_pos ⟨q, by omega⟩, upd_same]
            · rw [upd_ne _ _ _ _ q']
              by_cases q2 : lo ≤ n ∧ n < hi
              · rw [if_pos q2, if_pos ⟨q2.1, by omega⟩]
              · rw [if_neg q2, if_neg (by omega)]
          rw [this]; exact k1
        · by_cases q' : n = hi
          · subst q'
            rw [e] at c; injection c with c; subst c
            rw [← h2]; exact k2
          · exact CRep.mono l2 (Keeps.refl _ _) _ _ _ (h3 n cs a (by omega) c)
    · refine ⟨G, l, ?_, h2, fun n cs a b c => h3 n cs a (by omega) c⟩
      have : m.hole lo (hi + 1) = m.hole lo hi := by
        simp only [St.hole, St.mk.injEq, true_and]
        refine ⟨?_, trivial⟩
        funext n
        rw [if_neg (by omega), if_neg (by omega)]
      rw [this]; exact h1
theorem Same.hole {m m' : St} (h : Same m m') {a : Nat} (ha : m.nloc ≤ a) (b : Nat) : Same m (m'.hole a b) :=
  Same.mk h.lloc h.ltok (fun i hi => (hole_get (.inl (by omega))).trans (h.get hi)) (fun k hk => ⟨(h.top k hk).1.symm, (h.top k hk).2.symm⟩) (fun n hn => h.getL hn) (fun n hn => h.getI hn) (fun k cs hk hd hc => h.getA hk hd hc)
end Go.Ab
namespace Go.Proofs.YtgfadepkiejncaaGreat
open Go.Ab Go.RowKit
set_option maxHeartbeats 0
section
variable {m : St} {Γ : Ctx} {w : World}
def Frz (Γ : Ctx) (w : World) (m : St) (lo hi : Nat) : Prop := ∀ n cs, lo ≤ n → n < hi → m.loc n = some cs → CRep Γ w cs (Γ.loc n) 0
theorem conv_c {cs cs' : List PV} {b off : Nat} (h : ∀ us, LRep Γ w cs us → LRep Γ w cs' us) (hc : CRep Γ w cs b off) : CRep Γ w cs' b off := by
  obtain ⟨us, h1, h2, h3⟩ := CRep.read cs b off hc
  exact CRep.mk cs' us b off (h us h3) h2
theorem conv_list {n k : Nat} {rows : List (List PV)} (hk : rows.length = k) (h : CRep Γ w rows.flatten (Γ.loc n) 0) (u : Value) (hu : VRep Γ w (.marr n 0 k k) u) : VRep Γ w (.list .no rows) u := by
  obtain ⟨_, cap, h1, rfl⟩ := hu
  subst hk
  refine ⟨some ⟨Γ.loc n, 0, none⟩, cap, rfl, h1, (fun q => by cases q), fun ad hd => ?_, trivial⟩
  cases hd
  exact ⟨.inr rfl, (SRep.flat _ _ _).2 h⟩
theorem MTa.conv {lo hi : Nat} {a : List Int} {A : PV} (hF : Frz Γ w m lo hi) (h : MTa m lo hi a A) (u : Value) (hu : VRep Γ w A u) : VRep Γ w (.list .no (limbs a)) u := by
  rcases h with ⟨rfl, rfl, _⟩ | ⟨n, _, rfl, h1, h2, hn, hc⟩
  · exact hu
  · exact conv_list (by simp) (hF n _ h1 h2 hc) u hu
mutual
theorem MTc.conv : ∀ {v : GV} {lo hi : Nat} {cs : List PV}, Frz Γ w m lo hi → MTc m lo hi v cs → ∀ us, LRep Γ w cs us → LRep Γ w v.cells us
  | .mk k n ng a s l, lo, hi, cs, hF, h, us, hu => by
    obtain ⟨A, L, rows, l1, l2, rfl, h1, h2, h3⟩ := h
    have o1 := h1.le
    have o2 := MTr.le h2
    have o3 := h3.le
    obtain ⟨u0, us, rfl, e0, u1, us1, rfl, e1, u2, us2, rfl, e2, u3, us3, rfl, e3, u4, us4, rfl, e4, u5, us5, rfl, e5, rfl⟩ := hu
    refine ⟨u0, _, rfl, e0, u1, _, rfl, e1, u2, _, rfl, e2, u3, _, rfl, h1.conv (fun n cs a b c => hF n cs a (by omega) c) u3 e3, u4, _, rfl, e4, u5, _, rfl, ?_, rfl⟩
    rcases h3 with ⟨hk, rfl, _⟩ | ⟨q, _, rfl, w1, w2, hn, hc⟩
    · have : l = [] := List.length_eq_zero_iff.1 hk
      subst this
      exact e5
    · exact conv_list (by simp) (conv_c (MTr.conv (fun n cs a b c => hF n cs (by omega) (by omega) c) h2) (hF q _ (by omega) w2 hc)) u5 e5
theorem MTr.conv : ∀ {l : List GV} {lo hi : Nat} {rows : List (List PV)}, Frz Γ w m lo hi → MTr m lo hi l rows → ∀ us, LRep Γ w rows.flatten us → LRep Γ w (GV.rows l).flatten us
  | [], _, _, _, _, h, us, hu => by rw [h.1] at hu; exact hu
  | v :: l, lo, hi, rows, hF, h, us, hu => by
    obtain ⟨r, rs, md, rfl, h1, h2⟩ := h
    have o1 := MTc.le h1
    have o2 := MTr.le h2
    rw [List.flatten_cons] at hu
    have k1 := LRep.take r.length _ _ hu
    have k2 := LRep.drop r.length _ _ hu
    rw [List.take_left] at k1
    rw [List.drop_left] at k2
    have := LRep.append _ _ _ _ (MTc.conv (fun n cs a b c => hF n cs a (by omega) c) h1 _ k1) (MTr.conv (fun n cs a b c => hF n cs (by omega) b c) h2 _ k2)
    rwa [List.take_append_drop] at this
end
theorem MTc.sees {v : GV} {lo hi : Nat} {cs : List PV} (h : MTc m lo hi v cs) (hh : hi ≤ m.nloc) : Sees (.ro cs) m (.ro v.cells) (m.hole lo hi) := by
  rintro Γ w u hm ⟨b, off, rfl, hC⟩
  obtain ⟨G, l, h1, h2, h3⟩ := freezeR hm lo hi hh
  exact ⟨G, h1, l, b, off, rfl, conv_c (h.conv fun n cs a b c => by rw [h2]; exact h3 n cs a b c) (CRep.mono l (Keeps.refl _ _) _ _ _ hC)⟩
theorem MTc.same {m' : St} {v : GV} {lo hi : Nat} {cs : List PV} (h : MTc m lo hi v cs) (hh : hi ≤ m.nloc) (s : Same m m') : MTc m' lo hi v cs :=
  h.mono (Nat.le_trans hh s.lloc) fun n _ h2 => s.get (by omega)
theorem MTc.hole {v : GV} {lo hi a b : Nat} {cs : List PV} (h : MTc m lo hi v cs) (hh : hi ≤ m.nloc) (q : hi ≤ a ∨ b ≤ lo) : MTc (m.hole a b) lo hi v cs :=
  h.mono hh fun n h1 h2 => hole_get (by omega)
theorem lend_two (hm : MemSim Γ m w) {v v' : GV} {lo hi lo' hi' : Nat} {cs cs' : List PV} (h : MTc m lo hi v cs) (h' : MTc m lo' hi' v' cs') (u : Value) (hu : VRep Γ w (.list .no [cs, cs']) u) : VRep (Γ.lend m w) w (GV.pvs [v, v']) u := by
  obtain ⟨a, cap, e, q1, q2, q3, q4⟩ := hu
  refine ⟨a, cap, e, q1, q2, fun ad hd => ⟨(q3 ad hd).1, ?_⟩, trivial⟩
  have hS := (SRep.flat _ _ _).1 (q3 ad hd).2
  obtain ⟨us, h1, h2, h3⟩ := CRep.read _ _ _ hS
  refine (SRep.flat _ _ _).2 (CRep.mk _ us _ _ ?_ fun i u hi => ⟨(h2 i u hi).1, (h2 i u hi).2.1, .inl (h2 i u hi).2.2⟩)
  have e1 : [cs, cs'].flatten = cs ++ cs' := by simp
  rw [e1] at h3
  have k1 := LRep.take cs.length _ _ h3
  have k2 := LRep.drop cs.length _ _ h3
  rw [List.take_left] at k1
  rw [List.drop_left] at k2
  have := LRep.append _ _ _ _ (h.lend hm _ k1) (h'.lend hm _ k2)
  rw [List.take_append_drop] at this
  have e2 : (GV.rows [v, v']).flatten = v.cells ++ v'.cells := by simp [GV.rows]
  rw [e2]; exact this
end
theorem nil_rep {Γ : Ctx} {w : World} (u : Value) (h : VRep Γ w (.v (.slice none 0 0)) u) : VRep Γ w (intsP []) u := by
  cases h
  exact ⟨none, 0, rfl, Nat.le_refl _, fun _ => rfl, fun ad hd => (by cases hd), trivial⟩
theorem nilArgs {f : FuncId} {p : PV} {m : St} {R : ARes → St → Prop} (h : ACall Tryz.prog f [p, intsP [], intsP []] m R) : ACall Tryz.prog f [p, .v (.slice none 0 0), .v (.slice none 0 0)] m R := by
  refine ⟨h.1, fun Γ w us hm hr => h.2 Γ w us hm ?_⟩
  obtain ⟨u, us, rfl, h1, u1, us1, rfl, h2, u2, us2, rfl, h3, rfl⟩ := hr
  exact ⟨u, _, rfl, h1, u1, _, rfl, nil_rep u1 h2, u2, _, rfl, nil_rep u2 h3, rfl⟩
end Go.Proofs.YtgfadepkiejncaaGreat
namespace Go.Proofs.YtgfadepkiejncaaGreat
open Go.Ab Go.Sort
set_option maxHeartbeats 0
set_option maxRecDepth 100000
attribute [local irreducible] AW AList ACall DA AExit.then AExit.inBlock YCall DCall
end Go.Proofs.YtgfadepkiejncaaGreat
namespace Go.Proofs.YtgfadepkiejncaaGreat
open Go.Ab Go.Sort
set_option maxHeartbeats 0
set_option maxRecDepth 100000
attribute [local irreducible] AW AList ACall DA AExit.then AExit.inBlock YCall DCall
theorem tupV_ok {l : List GV} (g : goods l) (hl : l.length < 1000000) : (tupV l).ok :=
  ⟨by omega, by omega, by decide, by show (0 : Nat) < _; omega, by omega, fun x hx => (by cases hx), (okL_iff l).2 fun x hx => (g x hx).2⟩
end Go.Proofs.YtgfadepkiejncaaGreat
namespace Go.Proofs.YtgfadepkiejncaaGreat
open Go.Ab Go.Sort
set_option maxHeartbeats 0
set_option maxRecDepth 100000
attribute [local irreducible] AW AList ACall DA AExit.then AExit.inBlock YCall DCall
theorem set_eta {a : GV} (h : good a) (h8 : a.kind = 8) : a = setV a.els := by
  have hf := h.1
  rw [fmd_eq] at hf
  have hn := node_fields hf.1
  obtain ⟨f1, f2, f3, f4⟩ := hn
  have e1 := f1 (by omega) (by omega)
  have e2 := f2 (by omega)
  have e4 := f4 (by omega) (by omega) (by omega) (by omega)
  have e3 : a.str = ⟨#[]⟩ := by
    rw [Lib.toList_data] at e2
    have := congrArg List.length e2
    exact ByteArray.ext (Array.eq_empty_of_size_eq_zero (by simpa using this))
  exact gv_ext h8 e4 e1.1 e1.2 e3 rfl
end Go.Proofs.YtgfadepkiejncaaGreat
namespace Go.Proofs.YtgfadepkiejncaaGreat
open Go.Ab Go.Sort
set_option maxHeartbeats 0
set_option maxRecDepth 100000
attribute [local irreducible] AW AList ACall DA AExit.then AExit.inBlock YCall DCall
mutual
theorem ren_nil : ∀ v : GV, good v → ren [] [] v = v
  | .mk k n ng a s l, g => by
    have gl : goods l := g.els
    have hl := renL_nil l gl
    have hnum := node_num g.1.node
    by_cases h8 : k = 8
    · have hI := set_Inc g h8
      have hno := set_nonom g h8
      rw [ren, if_pos h8, hl, ← setF_eq gl hI (fun z => ⟨fun h => ⟨h, hno z h⟩, fun h => h.1⟩)]
      exact (set_eta g h8).symm
    · have e : renN [] [] k n = n := by
        rw [renN, if_neg (fun h => by have := hnum.1 h.1; have := h.2; simp at this; have q := hnum.1 h.1; simp only [GV.num] at q; omega), if_neg (fun h => by have := h.2; simp at this; have q := hnum.2 h.1; simp only [GV.num] at q; omega)]
      rw [ren, if_neg h8, hl, e]
theorem renL_nil : ∀ l : List GV, goods l → renL [] [] l = l
  | [], _ => rfl
  | v :: l, g => by rw [renL, ren_nil v (g v (by simp)), renL_nil l (fun x hx => g x (by simp [hx]))]
end
theorem bs25_mm (cs cs' : List PV) (h1 : cs.length = 6) (h2 : cs.all cell1 = true) (h3 : PV.stripL cs = cs) (h1' : cs'.length = 6) (h2' : cs'.all cell1 = true) (h3' : PV.stripL cs' = cs') (m : St) (K : PV → St → Prop) (h : K (.list .full [cs, cs']) m) : abuildSlice Tryz.prog 25 2 [(0, .agg cs), (1, .agg cs')] m K := by
  refine (abuildSlice_all (s := 6) (e := 27) (z := .agg #[.int .i64 0, .int .i64 0, .bool false, .slice none 0 0, .string ⟨#[]⟩, .slice none 0 0]) (xs := [.agg cs, .agg cs']) (rs := [cs, cs']) (by simp) (by simp) (by simp) (by decide) (by decide) (by simp) (by simp) (.cons (by show (if cs.all cell1 then some cs else none) = _; rw [h2]; rfl) h1 (.cons (by show (if cs'.all cell1 then some cs' else none) = _; rw [h2']; rfl) h1' .nil))).2 ?_
  simpa [h3, h3'] using h
theorem law15 (a b : GV) (ha : a.ok) (hb : b.ok) : Gives Tryz.prog 15 [a.pv, b.pv] (vB true) := by
  intro m
  refine ACall.of_aw Tryz.func15 Tryz.ntmps15 rfl rfl (by simp) ?_
  refine tS ?_
  refine tS1 fun K Kp hK hKp => ?_; refine Gives.at (law_some a ha) ?_; apply hK; clear hK hKp K Kp
  cases h1 : someF a with
  | false =>
    have F := @h1; refine tFa ?_; (try clear F)
    refine tS1 fun K Kp hK hKp => ?_; refine Gives.at (sanity) ?_; apply hK; clear hK hKp K Kp
    refine tS ?_
    exact Fin.gives Same.auto
  | true =>
  have F := @h1; refine tFg ?_; (try clear F)
  have F := @h1; refine tFc (law_some b hb) ?_; (try clear F)
  cases h2 : someF b with
  | false =>
    have F := (aand @h1 @h2); refine tFa ?_; (try clear F)
    refine tS1 fun K Kp hK hKp => ?_; refine Gives.at (sanity) ?_; apply hK; clear hK hKp K Kp
    refine tS ?_
    exact Fin.gives Same.auto
  | true =>
  simp only [someF, Bool.and_eq_true, Bool.not_eq_true', decide_eq_false_iff_not] at h1 h2
  have fa := formed_Fm ha h1.2
  have fb := formed_Fm hb h2.2
  have la := fa.len
  have lb := fb.len
  have ga := fa.good
  have gb := fb.good
  have na := fa.nodes
  have nb := fb.nodes
  have gab : goods [a, b] := fun x hx => by
    rcases List.mem_cons.1 hx with rfl | hx
    · exact ga
    · rw [List.mem_singleton.1 hx]; exact gb
  have nab : nodesL [a, b] < 1000000 := by simp [nodesL]; omega
  obtain ⟨v4, e4, o4, u4, r4⟩ : ∃ v e, v.ok ∧ (∀ m, ACall Tryz.prog 65 [a.pv, b.pv] m (MakesE m v e)) ∧ Gives Tryz.prog 74 [a.pv, b.pv] (made v e) := by
    have hj := fun m => unionM_step a b _ _ (joinedM stU 117 clo117 a b ga gb (by omega) (by omega)) m
    have h2 := ref_union a b ga gb (by omega) (by omega)
    by_cases h8 : a.kind = 8 ∧ b.kind = 8
    · simp only [if_pos h8] at hj h2
      rw [union_eq (set_Inc ga h8.1) (set_Inc gb h8.2) ga.els gb.els (set_nonom ga h8.1) (set_nonom gb h8.2)] at hj
      obtain ⟨_, s2, _⟩ := setF_spec (a.els ++ b.els) (fun x hx => (List.mem_append.1 hx).elim (ga.els x) (gb.els x))
      have := setF_len (a.els ++ b.els)
      exact ⟨_, _, fitV_ok (setV_ok s2 (by simp at *; omega)), hj, h2⟩
    · simp only [if_neg h8] at hj h2
      exact ⟨_, _, omV_ok, hj, h2⟩
  obtain ⟨v5, e5, o5, u5, r5⟩ : ∃ v e, v.ok ∧ (∀ m, ACall Tryz.prog 63 [a.pv, b.pv] m (MakesE m v e)) ∧ Gives Tryz.prog 72 [a.pv, b.pv] (made v e) := by
    have hj := fun m => withM_step a b _ _ (joinedM stU 115 clo115 a (setV [b]) ga (one_good gb h2.1) (by omega) (by simp [nodes, nodesL]; omega)) m
    have h3 := ref_with a b ga gb h2.1 (by omega) (by omega)
    by_cases h8 : a.kind = 8
    · simp only [h8] at hj h3
      simp at hj h3
      rw [show GV.els (setV [b]) = [b] from rfl, with_eq ga gb h2.1 h8] at hj
      obtain ⟨_, s2, _⟩ := setF_spec (a.els ++ [b]) (fun x hx => by
        rcases List.mem_append.1 hx with h | h
        · exact ga.els x h
        · simp at h; rw [h]; exact gb)
      have := setF_len (a.els ++ [b])
      exact ⟨_, _, fitV_ok (setV_ok s2 (by simp at *; omega)), hj, h3⟩
    · have h8' : ¬ (a.kind = 8 ∧ (setV [b]).kind = 8) := fun h => h8 h.1
      simp only [if_neg h8', if_neg h8] at hj h3
      exact ⟨_, _, omV_ok, hj, h3⟩
  obtain ⟨v6, e6, o6, u6, r6⟩ : ∃ v e, v.ok ∧ (∀ m, ACall Tryz.prog 40 [GV.pvs [a, b]] m (MakesE m v e)) ∧ Gives Tryz.prog 43 [GV.pvs [a, b]] (made v e) := by
    have htl := tmF_len [a, b]
    have htl' := tmN_le [a, b] 2
    exact ⟨_, _, fitV_ok (tupV_ok (tm_goods gab) (by simp at *; omega)), tupleM [a, b] gab (by simp) (by omega), ref_tuple [a, b] gab (by simp) (by omega)⟩
  obtain ⟨v7, e7, o7, u7, r7⟩ : ∃ v e, v.ok ∧ (∀ m, ACall Tryz.prog 49 [a.pv] m (MakesE m v e)) ∧ Gives Tryz.prog 58 [a.pv] (made v e) := by
    have h1 := fun m => inverseM fa m
    have h2 := ref_inverse fa
    cases hm : mapB a with
    | false =>
      simp only [hm] at h1 h2
      exact ⟨_, _, omV_ok, h1, h2⟩
    | true =>
      simp only [hm] at h1 h2
      exact ⟨_, _, setS_ok (inv_all fa hm).1 (by simp [invL]; omega), h1, h2⟩
  have hra := ren_nil a ga
  have sma := good_small ga
  have smb := good_small gb
  have k0 := h2.1
  clear h1 h2
  refine tSa ?_
  refine AList.frzL (n := m.nloc) (d := 2) (cs := a.cells) (by simp; omega) (by simp) (by simp [upd_lit]) ?_
  refine AList.frzL (n := m.nloc + 1) (d := 3) (cs := b.cells) (by simp) (by simp) (by simp [upd_lit]) ?_
  refine AList.gen fun m0 hm => ?_
  have s0 : Same m m0 := by rw [hm]; exact (((((Same.refl m).newLoc _).newLoc _)).dropLoc (by omega)).dropLoc (by omega)
  have n0 := s0.lloc
  clear hm
  refine tS1 fun K Kp hK hKp => ?_; refine ACall.mono (refCopyM a (by omega) sma _) ?_
  rintro _ m1 ⟨_, rfl, hc1, s1, f1⟩
  refine hK _ _ ?_; clear hK hKp K Kp f1
  have n1 := s1.lloc
  obtain ⟨A1, L1, rfl, cA1, cL1, sA1, sL1⟩ := hc1.inv
  simp only [cell1] at cA1 cL1
  have F := (aand @cA1 (aand @cL1 (aand @sA1 @sL1))); refine tF ?_; (try clear F)
  refine AList.frzL (n := m1.nloc) (d := 5) (cs := [vI a.kind, vI a.num, vB a.neg, A1, vS a.str, L1]) (by simp) (by simp) (by simp [upd_lit]) ?_
  refine AList.gen fun m2 hm => ?_
  have s2 : Same m1 m2 := by rw [hm]; exact (((Same.refl m1).newLoc _).setLoc (Nat.le_refl _) _).dropLoc (Nat.le_refl _)
  have n2 : m2.nloc = m1.nloc + 1 := by rw [hm]; rfl
  clear hm
  replace hc1 := hc1.same (by omega) s2
  refine tS1 fun K Kp hK hKp => ?_; refine ACall.mono (refCopyM b (by omega) smb _) ?_
  rintro _ m3 ⟨_, rfl, hc2, s3, f3⟩
  refine hK _ _ ?_; clear hK hKp K Kp f3
  have n3 := s3.lloc
  replace hc1 := hc1.same (by omega) s3
  obtain ⟨A2, L2, rfl, cA2, cL2, sA2, sL2⟩ := hc2.inv
  simp only [cell1] at cA2 cL2
  have F := (aand @cA2 (aand @cL2 (aand @sA2 @sL2))); refine tF ?_; (try clear F)
  refine AList.frzL (n := m3.nloc) (d := 6) (cs := [vI b.kind, vI b.num, vB b.neg, A2, vS b.str, L2]) (by simp) (by simp) (by simp [upd_lit]) ?_
  refine AList.gen fun m4 hm => ?_
  have s4 : Same m3 m4 := by rw [hm]; exact (((Same.refl m3).newLoc _).setLoc (Nat.le_refl _) _).dropLoc (Nat.le_refl _)
  have n4 : m4.nloc = m3.nloc + 1 := by rw [hm]; rfl
  clear hm
  replace hc1 := hc1.same (by omega) s4
  replace hc2 := hc2.same (by omega) s4
  have y1 : ∀ m', MTc m' m0.nloc m1.nloc a [vI a.kind, vI a.num, vB a.neg, A1, vS a.str, L1] → True := fun _ _ => trivial
  have F := (aand @sA1 @sL1); refine tF1 fun K Kp hK hKp => ?_; (try clear F); refine ACall.mono (lendV (args' := [a.pv]) (copyM a (by omega) sma) (by rintro Γ w us hm ⟨u, us, rfl, h1, rfl⟩; exact ⟨u, [], rfl, hc1.lendV hm u h1, rfl⟩)) ?_
  rintro _ m5 ⟨_, rfl, hc3, s5, f5⟩
  refine hK _ _ ?_; clear hK hKp K Kp f5
  have n5 := s5.lloc
  replace hc1 := hc1.same (by omega) s5
  replace hc2 := hc2.same (by omega) s5
  obtain ⟨A3, L3, rfl, cA3, cL3, sA3, sL3⟩ := hc3.inv
  simp only [cell1] at cA3 cL3
  have F := (aand @cA3 (aand @cL3 (aand @sA3 @sL3))); refine tF ?_; (try clear F)
  refine AList.frzL (n := m5.nloc) (d := 7) (cs := [vI a.kind, vI a.num, vB a.neg, A3, vS a.str, L3]) (by simp) (by simp) (by simp [upd_lit]) ?_
  refine AList.gen fun m6 hm => ?_
  have s6 : Same m5 m6 := by rw [hm]; exact (((Same.refl m5).newLoc _).setLoc (Nat.le_refl _) _).dropLoc (Nat.le_refl _)
  have n6 : m6.nloc = m5.nloc + 1 := by rw [hm]; rfl
  clear hm
  replace hc1 := hc1.same (by omega) s6
  replace hc2 := hc2.same (by omega) s6
  replace hc3 := hc3.same (by omega) s6
  have F := (aand @sA1 (aand @sL1 (aand @sA2 @sL2))); refine tF1 fun K Kp hK hKp => ?_; (try clear F); refine ACall.mono (lendE (args' := [a.pv, b.pv]) u4 (by rintro Γ w us hm ⟨u, us, rfl, h1, u', us', rfl, h2, rfl⟩; exact ⟨u, _, rfl, hc1.lendV hm u h1, u', [], rfl, hc2.lendV hm u' h2, rfl⟩)) ?_
  rintro _ m7 ⟨_, rfl, hc4, s7, f7⟩
  refine hK _ _ ?_; clear hK hKp K Kp f7
  have n7 := s7.lloc
  replace hc1 := hc1.same (by omega) s7
  replace hc2 := hc2.same (by omega) s7
  replace hc3 := hc3.same (by omega) s7
  obtain ⟨A4, L4, rfl, cA4, cL4, sA4, sL4⟩ := hc4.inv
  simp only [cell1] at cA4 cL4
  have F := (aand @cA4 (aand @cL4 (aand @sA4 @sL4))); refine tF ?_; (try clear F)
  refine AList.frzL (n := m7.nloc) (d := 8) (cs := [vI v4.kind, vI v4.num, vB v4.neg, A4, vS v4.str, L4]) (by simp) (by simp) (by simp [upd_lit]) ?_
  refine AList.gen fun m8 hm => ?_
  have s8 : Same m7 m8 := by rw [hm]; exact (((Same.refl m7).newLoc _).setLoc (Nat.le_refl _) _).dropLoc (Nat.le_refl _)
  have n8 : m8.nloc = m7.nloc + 1 := by rw [hm]; rfl
  clear hm
  replace hc1 := hc1.same (by omega) s8
  replace hc2 := hc2.same (by omega) s8
  replace hc3 := hc3.same (by omega) s8
  replace hc4 := hc4.same (by omega) s8
  have F := (aand @sA1 (aand @sL1 (aand @sA2 @sL2))); refine tF1 fun K Kp hK hKp => ?_; (try clear F); refine ACall.mono (lendE (args' := [a.pv, b.pv]) u5 (by rintro Γ w us hm ⟨u, us, rfl, h1, u', us', rfl, h2, rfl⟩; exact ⟨u, _, rfl, hc1.lendV hm u h1, u', [], rfl, hc2.lendV hm u' h2, rfl⟩)) ?_
  rintro _ m9 ⟨_, rfl, hc5, s9, f9⟩
  refine hK _ _ ?_; clear hK hKp K Kp f9
  have n9 := s9.lloc
  replace hc1 := hc1.same (by omega) s9
  replace hc2 := hc2.same (by omega) s9
  replace hc3 := hc3.same (by omega) s9
  replace hc4 := hc4.same (by omega) s9
  obtain ⟨A5, L5, rfl, cA5, cL5, sA5, sL5⟩ := hc5.inv
  simp only [cell1] at cA5 cL5
  have F := (aand @cA5 (aand @cL5 (aand @sA5 @sL5))); refine tF ?_; (try clear F)
  refine AList.frzL (n := m9.nloc) (d := 10) (cs := [vI v5.kind, vI v5.num, vB v5.neg, A5, vS v5.str, L5]) (by simp) (by simp) (by simp [upd_lit]) ?_
  refine AList.gen fun m10 hm => ?_
  have s10 : Same m9 m10 := by rw [hm]; exact (((Same.refl m9).newLoc _).setLoc (Nat.le_refl _) _).dropLoc (Nat.le_refl _)
  have n10 : m10.nloc = m9.nloc + 1 := by rw [hm]; rfl
  clear hm
  replace hc1 := hc1.same (by omega) s10
  replace hc2 := hc2.same (by omega) s10
  replace hc3 := hc3.same (by omega) s10
  replace hc4 := hc4.same (by omega) s10
  replace hc5 := hc5.same (by omega) s10
  refine AList.op (by decide) ?_; intro K Kp hK hKp; simp [upd_lit]
  refine bs25_mm _ _ rfl hc1.all1 hc1.strip rfl hc2.all1 hc2.strip _ _ ?_
  apply hK; clear hK hKp K Kp
  refine tS ?_
  have F := (aand @sA1 (aand @sL1 (aand @sA2 @sL2))); refine tF1 fun K Kp hK hKp => ?_; (try clear F); refine ACall.mono (lendE (args' := [GV.pvs [a, b]]) u6 (by rintro Γ w us hm ⟨u, us, rfl, h1, rfl⟩; exact ⟨u, [], rfl, lend_two hm hc1 hc2 u h1, rfl⟩)) ?_
  rintro _ m11 ⟨_, rfl, hc6, s11, f11⟩
  refine hK _ _ ?_; clear hK hKp K Kp f11
  have n11 := s11.lloc
  replace hc1 := hc1.same (by omega) s11
  replace hc2 := hc2.same (by omega) s11
  replace hc3 := hc3.same (by omega) s11
  replace hc4 := hc4.same (by omega) s11
  replace hc5 := hc5.same (by omega) s11
  obtain ⟨A6, L6, rfl, cA6, cL6, sA6, sL6⟩ := hc6.inv
  simp only [cell1] at cA6 cL6
  have F := (aand @cA6 (aand @cL6 (aand @sA6 @sL6))); refine tF ?_; (try clear F)
  refine AList.frzL (n := m11.nloc) (d := 12) (cs := [vI v6.kind, vI v6.num, vB v6.neg, A6, vS v6.str, L6]) (by simp) (by simp) (by simp [upd_lit]) ?_
  refine AList.gen fun m12 hm => ?_
  have s12 : Same m11 m12 := by rw [hm]; exact (((Same.refl m11).newLoc _).setLoc (Nat.le_refl _) _).dropLoc (Nat.le_refl _)
  have n12 : m12.nloc = m11.nloc + 1 := by rw [hm]; rfl
  clear hm
  replace hc1 := hc1.same (by omega) s12
  replace hc2 := hc2.same (by omega) s12
  replace hc3 := hc3.same (by omega) s12
  replace hc4 := hc4.same (by omega) s12
  replace hc5 := hc5.same (by omega) s12
  replace hc6 := hc6.same (by omega) s12
  have F := (aand @sA1 @sL1); refine tF1 fun K Kp hK hKp => ?_; (try clear F); refine ACall.mono (lendE (args' := [a.pv]) u7 (by rintro Γ w us hm ⟨u, us, rfl, h1, rfl⟩; exact ⟨u, [], rfl, hc1.lendV hm u h1, rfl⟩)) ?_
  rintro _ m13 ⟨_, rfl, hc7, s13, f13⟩
  refine hK _ _ ?_; clear hK hKp K Kp f13
  have n13 := s13.lloc
  replace hc1 := hc1.same (by omega) s13
  replace hc2 := hc2.same (by omega) s13
  replace hc3 := hc3.same (by omega) s13
  replace hc4 := hc4.same (by omega) s13
  replace hc5 := hc5.same (by omega) s13
  replace hc6 := hc6.same (by omega) s13
  obtain ⟨A7, L7, rfl, cA7, cL7, sA7, sL7⟩ := hc7.inv
  simp only [cell1] at cA7 cL7
  have F := (aand @cA7 (aand @cL7 (aand @sA7 @sL7))); refine tF ?_; (try clear F)
  refine AList.frzL (n := m13.nloc) (d := 14) (cs := [vI v7.kind, vI v7.num, vB v7.neg, A7, vS v7.str, L7]) (by simp) (by simp) (by simp [upd_lit]) ?_
  refine AList.gen fun m14 hm => ?_
  have s14 : Same m13 m14 := by rw [hm]; exact (((Same.refl m13).newLoc _).setLoc (Nat.le_refl _) _).dropLoc (Nat.le_refl _)
  have n14 : m14.nloc = m13.nloc + 1 := by rw [hm]; rfl
  clear hm
  replace hc1 := hc1.same (by omega) s14
  replace hc2 := hc2.same (by omega) s14
  replace hc3 := hc3.same (by omega) s14
  replace hc4 := hc4.same (by omega) s14
  replace hc5 := hc5.same (by omega) s14
  replace hc6 := hc6.same (by omega) s14
  replace hc7 := hc7.same (by omega) s14
  have hren := renamedM a ga (by omega) m14 m0.nloc m1.nloc _ hc1 (by omega)
  rw [hra] at hren
  refine AList.op (by decide) ?_; intro K Kp hK hKp; simp [upd_lit, sA1, sL1]
  refine at1 (nilArgs hren) ?_
  apply hK; clear hK hKp K Kp hren
  refine tS ?_
  refine AList.frzL (n := m14.nloc) (d := 16) (cs := a.cells) (by simp) (by simp) (by simp [upd_lit]) ?_
  refine AList.gen fun m15 hm => ?_
  have s15 : Same m14 m15 := by rw [hm]; exact (((Same.refl m14).newLoc _).setLoc (Nat.le_refl _) _).dropLoc (Nat.le_refl _)
  have n15 : m15.nloc = m14.nloc + 1 := by rw [hm]; rfl
  clear hm
  replace hc1 := hc1.same (by omega) s15
  replace hc2 := hc2.same (by omega) s15
  replace hc3 := hc3.same (by omega) s15
  replace hc4 := hc4.same (by omega) s15
  replace hc5 := hc5.same (by omega) s15
  replace hc6 := hc6.same (by omega) s15
  replace hc7 := hc7.same (by omega) s15
  have sm : Same m m15 := Same.trans s0 (Same.trans s1 (Same.trans s2 (Same.trans s3 (Same.trans s4 (Same.trans s5 (Same.trans s6 (Same.trans s7 (Same.trans s8 (Same.trans s9 (Same.trans s10 (Same.trans s11 (Same.trans s12 (Same.trans s13 (Same.trans s14 (s15)))))))))))))))
  refine AList.op (by decide) ?_; intro K Kp hK hKp; simp [upd_lit, sA1, sL1]
  refine ACall.mono (spoilM a (by omega) sma m15 m0.nloc m1.nloc _ hc1 (by omega)) ?_
  rintro _ _ ⟨rfl, rfl⟩
  refine hK _ _ ?_; clear hK hKp K Kp
  replace hc2 := hc2.hole (a := m0.nloc) (b := m1.nloc) (by omega) (.inr (by omega))
  replace hc3 := hc3.hole (a := m0.nloc) (b := m1.nloc) (by omega) (.inr (by omega))
  replace hc4 := hc4.hole (a := m0.nloc) (b := m1.nloc) (by omega) (.inr (by omega))
  replace hc5 := hc5.hole (a := m0.nloc) (b := m1.nloc) (by omega) (.inr (by omega))
  replace hc6 := hc6.hole (a := m0.nloc) (b := m1.nloc) (by omega) (.inr (by omega))
  replace hc7 := hc7.hole (a := m0.nloc) (b := m1.nloc) (by omega) (.inr (by omega))
  have n16 : (m15.hole m0.nloc m1.nloc).nloc = m15.nloc := rfl
  replace sm := sm.hole (a := m0.nloc) (by omega) m1.nloc
  generalize m15.hole m0.nloc m1.nloc = m16 at *
  refine tS ?_
  refine AList.op (by decide) ?_; intro K Kp hK hKp; simp [upd_lit, sA2, sL2]
  refine ACall.mono (spoilM b (by omega) smb m16 m2.nloc m3.nloc _ hc2 (by omega)) ?_
  rintro _ _ ⟨rfl, rfl⟩
  refine hK _ _ ?_; clear hK hKp K Kp
  replace hc3 := hc3.hole (a := m2.nloc) (b := m3.nloc) (by omega) (.inr (by omega))
  replace hc4 := hc4.hole (a := m2.nloc) (b := m3.nloc) (by omega) (.inr (by omega))
  replace hc5 := hc5.hole (a := m2.nloc) (b := m3.nloc) (by omega) (.inr (by omega))
  replace hc6 := hc6.hole (a := m2.nloc) (b := m3.nloc) (by omega) (.inr (by omega))
  replace hc7 := hc7.hole (a := m2.nloc) (b := m3.nloc) (by omega) (.inr (by omega))
  have n17 : (m16.hole m2.nloc m3.nloc).nloc = m16.nloc := rfl
  replace sm := sm.hole (a := m2.nloc) (by omega) m3.nloc
  generalize m16.hole m2.nloc m3.nloc = m17 at *
  refine tS ?_
  refine AW.sees (d := 7) (p' := .ro a.cells) (m' := m17.hole m4.nloc m5.nloc) (by simpa [upd_lit] using hc3.sees (by omega)) ?_
  replace hc4 := hc4.hole (a := m4.nloc) (b := m5.nloc) (by omega) (.inr (by omega))
  replace hc5 := hc5.hole (a := m4.nloc) (b := m5.nloc) (by omega) (.inr (by omega))
  replace hc6 := hc6.hole (a := m4.nloc) (b := m5.nloc) (by omega) (.inr (by omega))
  replace hc7 := hc7.hole (a := m4.nloc) (b := m5.nloc) (by omega) (.inr (by omega))
  have n18 : (m17.hole m4.nloc m5.nloc).nloc = m17.nloc := rfl
  replace sm := sm.hole (a := m4.nloc) (by omega) m5.nloc
  generalize m17.hole m4.nloc m5.nloc = m18 at *
  refine AW.sees (d := 8) (p' := .ro v4.cells) (m' := m18.hole m6.nloc m7.nloc) (by simpa [upd_lit] using hc4.sees (by omega)) ?_
  replace hc5 := hc5.hole (a := m6.nloc) (b := m7.nloc) (by omega) (.inr (by omega))
  replace hc6 := hc6.hole (a := m6.nloc) (b := m7.nloc) (by omega) (.inr (by omega))
  replace hc7 := hc7.hole (a := m6.nloc) (b := m7.nloc) (by omega) (.inr (by omega))
  have n19 : (m18.hole m6.nloc m7.nloc).nloc = m18.nloc := rfl
  replace sm := sm.hole (a := m6.nloc) (by omega) m7.nloc
  generalize m18.hole m6.nloc m7.nloc = m19 at *
  refine AW.sees (d := 10) (p' := .ro v5.cells) (m' := m19.hole m8.nloc m9.nloc) (by simpa [upd_lit] using hc5.sees (by omega)) ?_
  replace hc6 := hc6.hole (a := m8.nloc) (b := m9.nloc) (by omega) (.inr (by omega))
  replace hc7 := hc7.hole (a := m8.nloc) (b := m9.nloc) (by omega) (.inr (by omega))
  have n20 : (m19.hole m8.nloc m9.nloc).nloc = m19.nloc := rfl
  replace sm := sm.hole (a := m8.nloc) (by omega) m9.nloc
  generalize m19.hole m8.nloc m9.nloc = m20 at *
  refine AW.sees (d := 12) (p' := .ro v6.cells) (m' := m20.hole m10.nloc m11.nloc) (by simpa [upd_lit] using hc6.sees (by omega)) ?_
  replace hc7 := hc7.hole (a := m10.nloc) (b := m11.nloc) (by omega) (.inr (by omega))
  have n21 : (m20.hole m10.nloc m11.nloc).nloc = m20.nloc := rfl
  replace sm := sm.hole (a := m10.nloc) (by omega) m11.nloc
  generalize m20.hole m10.nloc m11.nloc = m21 at *
  refine AW.sees (d := 14) (p' := .ro v7.cells) (m' := m21.hole m12.nloc m13.nloc) (by simpa [upd_lit] using hc7.sees (by omega)) ?_
  have n22 : (m21.hole m12.nloc m13.nloc).nloc = m21.nloc := rfl
  replace sm := sm.hole (a := m12.nloc) (by omega) m13.nloc
  generalize m21.hole m12.nloc m13.nloc = m22 at *
  refine AW.draw [.R, .S, .R, .R, .R, .R, .S, .S, .R, .S, .R, .R, .R, .R, .S, .S, .S, .R, .S, .R, .R, .S, .R, .R, .S, .S] (by decide +kernel) ?_; have F := True.intro; refine dR 0 ?_; refine dS 1 ?_; refine dR 2 ?_; refine dR 3 ?_; refine dC ((r4)) 4 ?_; refine dC ((same_self v4 e4 o4)) 5 ?_; refine dS 6 ?_; refine dS 7 ?_; refine dRG 8 ?_; refine dSG 9 ?_; refine dRG 10 ?_; refine dRG 11 ?_; refine dCG ((r5)) 12 ?_; refine dCG ((same_self v5 e5 o5)) 13 ?_; refine dSG 14 ?_; refine dS 15 ?_; refine dS 16 ?_; refine dRG 17 ?_; refine dSG 18 ?_; refine dRG 19 ?_; refine dRG 20 ?_; refine dSG 21 ?_; refine dCG ((r6)) 22 ?_; refine dCG ((same_self v6 e6 o6)) 23 ?_; refine dSG 24 ?_; refine dS 25 ?_; (try clear F); first | refine dN ?_ | refine dB ?_ | refine DA.done (by decide +kernel) ?_
  refine tSa ?_
  have hsa : Gives Tryz.prog 34 [a.pv, a.pv] (vB true) := by have := ref_same a a ha ha; rwa [sameV_refl] at this
  refine AW.draw [.R, .S, .R, .R, .R, .S, .S, .R, .S, .R, .R, .R, .S, .S, .S, .S, .S, .S, .R, .R, .R, .S, .S] (by decide +kernel) ?_; have F := True.intro; refine dC ((sanity)) 0 ?_; refine dS 1 ?_; refine dRG 2 ?_; refine dRG 3 ?_; refine dCG ((hsa)) 4 ?_; refine dS 5 ?_; refine dS 6 ?_; refine dRG 7 ?_; refine dSG 8 ?_; refine dRG 9 ?_; refine dCG ((r7)) 10 ?_; refine dCG ((same_self v7 e7 o7)) 11 ?_; refine dS 12 ?_; refine dS 13 ?_; refine dSG 14 ?_; refine dSG 15 ?_; refine dS 16 ?_; refine dS 17 ?_; refine dRG 18 ?_; refine dRG 19 ?_; refine dCG ((hsa)) 20 ?_; refine dS 21 ?_; refine dS 22 ?_; (try clear F); first | refine dN ?_ | refine dB ?_ | refine DA.done (by decide +kernel) ?_
  refine tS ?_
  exact Fin.gives sm
end Go.Proofs.YtgfadepkiejncaaGreat
