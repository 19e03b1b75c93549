/- Texts of the proof, part Ld: they prove nothing by themselves that is claimed. -/
import Derived.Test.YtgfadepkiejncaaGreatLc
import Derived.Laws.RangeString
set_option linter.unusedVariables false
set_option linter.unusedSimpArgs false
/- The abstract layer, 16: weaker states; appends with one outcome; an append that makes a variable's block. Over any program. -/
namespace Go.Ab
open Go.RowKit
section
variable {P : Program} {m : St} {K Kp : PV → St → Prop} {Γ : Ctx} {w : World}

theorem OpOK.weak {o : Oper} {ρ ρ' : Operand → PV} (hw : ∀ x Γ w u, VRep Γ w (ρ x) u → VRep Γ w (ρ' x) u) (h : OpOK P o ρ' m K Kp) : OpOK P o ρ m K Kp :=
  fun Γ ev w hm hv => h Γ ev w hm fun x => hw x Γ w _ (hv x)
theorem OpOK.mono {o : Oper} {ρ : Operand → PV} {K' Kp' : PV → St → Prop} (h : OpOK P o ρ m K Kp) (hk : ∀ p m, K p m → K' p m) (hp : ∀ p m, Kp p m → Kp' p m) : OpOK P o ρ m K' Kp' :=
  fun Γ ev w hm hv => Up.mono (h Γ ev w hm hv) (fun _ _ ⟨p, m', Γ', h1, r⟩ => ⟨p, m', Γ', hk _ _ h1, r⟩) (fun _ _ ⟨p, m', Γ', h1, r⟩ => ⟨p, m', Γ', hp _ _ h1, r⟩)

/-- A value and a memory seen as another value and memory. -/
def Sees (p : PV) (m : St) (p' : PV) (m' : St) : Prop := ∀ Γ w v, MemSim Γ m w → VRep Γ w p v → ∃ Γ', MemSim Γ' m' w ∧ Γ.le Γ' ∧ VRep Γ' w p' v
theorem OpOK.sees {o : Oper} {ρ : Operand → PV} (h : OpOK P o ρ m (fun p m => ∃ p' m', Sees p m p' m' ∧ K p' m') Kp) : OpOK P o ρ m K Kp :=
  fun Γ ev w hm hv => Up.mono (h Γ ev w hm hv) (fun _ w' ⟨p, m', Γ', ⟨p', m'', hs, hk⟩, h2, h3, h4, h5⟩ => by
    obtain ⟨Γ'', q1, q2, q3⟩ := hs Γ' w' _ h5 h2
    exact ⟨p', m'', Γ'', hk, q3, h3.trans q2, h4, q1⟩) (fun _ _ h => h)
theorem Sees.refl (p : PV) (m : St) : Sees p m p m := fun Γ w v h1 h2 => ⟨Γ, h1, Ctx.le.refl _, h2⟩

/-! an array that nobody appends to any more -/
def Ctx.killTok (Γ : Ctx) (k : Nat) : Ctx := { Γ with top := upd Γ.top k DEAD }
def St.killTok (m : St) (k : Nat) : St := { m with top := upd m.top k DEAD }
theorem Ctx.le_killTok {Γ : Ctx} {k : Nat} (h : Γ.top k < DEAD) : Γ.le (Γ.killTok k) := by
  refine ⟨rfl, Nat.le_refl _, fun _ _ => rfl, fun _ _ h => h, Nat.le_refl _, fun i _ => ?_, fun _ _ => rfl, CtxX.le.refl _, fun _ _ h => .inl h⟩
  by_cases e : i = k
  · subst e; right; show Γ.top i < upd Γ.top i DEAD i; rw [upd_same]; exact h
  · left; exact ⟨upd_ne _ _ _ _ e, rfl, rfl⟩
theorem MemSim.killTok (h : MemSim Γ m w) {k : Nat} (hk : k < m.ntok) (hl : m.top k < DEAD) : MemSim (Γ.killTok k) (m.killTok k) w ∧ Γ.le (Γ.killTok k) := by
  have l : Γ.le (Γ.killTok k) := Ctx.le_killTok (by rw [(h.top k hk).1]; exact hl)
  have hd : ∀ i, (m.killTok k).top i < DEAD → i ≠ k ∧ m.top i < DEAD := fun i hi => by
    by_cases e : i = k
    · subst e; have : (m.killTok i).top i = DEAD := upd_same _ _ _; omega
    · have : (m.killTok k).top i = m.top i := upd_ne _ _ _ _ e
      exact ⟨e, by omega⟩
  refine ⟨⟨h.nloc, h.ntok, fun i hi => ?_, fun n cs hn hc => ?_, h.apart, h.inj, h.immlt, h.base, fun i hi hd' => h.toks i hi (hd i hd').2, fun i hi hd' => ?_, fun i j a b c d => h.tinj i j a b (hd i c).2 (hd j d).2,
    fun i n cs a b => h.tloc i n cs a (hd i b).2, (fun i ds hi hd' hq => by
      obtain ⟨h0, hl', c, h1, h2, h3⟩ := h.arrs i ds hi (hd i hd').2 hq
      refine ⟨h0, ?_, c, h1, LRep.mono l (Keeps.refl _ _) _ _ h2, h3⟩
      show ds.length = upd m.top k DEAD i * _
      rw [upd_ne _ _ _ _ (hd i hd').1]; exact hl'), h.lps.mono l (Keeps.refl _ _) h.nloc (fun n L a b => ⟨a, b⟩) (fun n L a b => rfl), h.its.mono l h.nloc (fun n x a b => ⟨a, b⟩) (fun _ _ q _ => q), h.xs.mono rfl rfl (fun _ _ q _ => q)⟩, l⟩
  · show upd Γ.top k DEAD i = upd m.top k DEAD i ∧ _
    have := h.top i hi
    by_cases e : i = k
    · subst e; rw [upd_same, upd_same]; exact ⟨rfl, this.2⟩
    · rw [upd_ne _ _ _ _ e, upd_ne _ _ _ _ e]; exact this
  · obtain ⟨c, h1, h2, h3⟩ := h.locs n cs hn hc
    exact ⟨c, h1, LRep.mono l (Keeps.refl _ _) _ _ h2, h3⟩
  · obtain ⟨e, hd'⟩ := hd i hd'
    obtain ⟨h1, h2⟩ := h.tapart i hi hd'
    refine ⟨h1, fun o ho => ?_⟩
    show o < upd Γ.top k DEAD i * _
    rw [upd_ne _ _ _ _ e]; exact h2 o ho
/-- An array under another number. -/
def Ctx.renTok (Γ : Ctx) (k : Nat) : Ctx := { Γ with ntok := Γ.ntok + 1, tok := upd Γ.tok Γ.ntok (Γ.tok k), top := upd (upd Γ.top k DEAD) Γ.ntok (Γ.top k), cp := upd Γ.cp Γ.ntok (Γ.cp k), wd := upd Γ.wd Γ.ntok (Γ.wd k) }
def St.renTok (m : St) (k : Nat) : St := { m with ntok := m.ntok + 1, top := upd (upd m.top k DEAD) m.ntok (m.top k), wd := upd m.wd m.ntok (m.wd k), arr := upd m.arr m.ntok none }
theorem MemSim.renTok (h : MemSim Γ m w) {k : Nat} (hk : k < m.ntok) (hl : m.top k < DEAD) (har : m.arr k = none) : MemSim (Γ.renTok k) (m.renTok k) w ∧ Γ.le (Γ.renTok k) := by
  have hnt : Γ.ntok = m.ntok := h.ntok
  have hkt := h.top k hk
  have hkn : k ≠ m.ntok := by omega
  have l : Γ.le (Γ.renTok k) := by
    refine ⟨rfl, Nat.le_refl _, fun _ _ => rfl, fun _ _ h => h, Nat.le_succ _, fun i hi => ?_, fun i hi => upd_ne _ _ _ _ (by omega), CtxX.le.refl _, fun _ _ h => .inl h⟩
    by_cases e : i = k
    · subst e; right; show Γ.top i < upd (upd Γ.top i DEAD) Γ.ntok (Γ.top i) i; rw [upd_ne _ _ _ _ (by omega), upd_same]; omega
    · left; refine ⟨?_, upd_ne _ _ _ _ (by omega), upd_ne _ _ _ _ (by omega)⟩
      show upd (upd Γ.top k DEAD) Γ.ntok (Γ.top k) i = _
      rw [upd_ne _ _ _ _ (by omega), upd_ne _ _ _ _ e]
  have ht : ∀ i, (m.renTok k).top i = if i = m.ntok then m.top k else if i = k then DEAD else m.top i := fun i => rfl
  have hT : ∀ i, (Γ.renTok k).tok i = if i = m.ntok then Γ.tok k else Γ.tok i := fun i => by show upd Γ.tok Γ.ntok _ i = _; rw [hnt]; rfl
  have hP : ∀ i, (Γ.renTok k).top i = if i = m.ntok then Γ.top k else if i = k then DEAD else Γ.top i := fun i => by show upd (upd Γ.top k DEAD) Γ.ntok _ i = _; rw [hnt]; rfl
  have hC : ∀ i, (Γ.renTok k).cp i = if i = m.ntok then Γ.cp k else Γ.cp i := fun i => by show upd Γ.cp Γ.ntok _ i = _; rw [hnt]; rfl
  have hW : ∀ i, (Γ.renTok k).wd i = if i = m.ntok then Γ.wd k else Γ.wd i := fun i => by show upd Γ.wd Γ.ntok _ i = _; rw [hnt]; rfl
  -- the old number of a live new one
  have key : ∀ i, i < m.ntok + 1 → (m.renTok k).top i < DEAD → ∃ j, j < m.ntok ∧ m.top j < DEAD ∧ (Γ.renTok k).tok i = Γ.tok j ∧ (Γ.renTok k).top i = Γ.top j ∧ (Γ.renTok k).cp i = Γ.cp j ∧ (Γ.renTok k).wd i = Γ.wd j ∧ ((i = m.ntok ∧ j = k) ∨ (i = j ∧ i ≠ k)) := by
    intro i hi hd
    rw [ht] at hd
    by_cases e : i = m.ntok
    · exact ⟨k, hk, hl, by rw [hT, if_pos e], by rw [hP, if_pos e], by rw [hC, if_pos e], by rw [hW, if_pos e], .inl ⟨e, rfl⟩⟩
    · rw [if_neg e] at hd
      by_cases e2 : i = k
      · rw [if_pos e2] at hd; omega
      · rw [if_neg e2] at hd
        exact ⟨i, by omega, hd, by rw [hT, if_neg e], by rw [hP, if_neg e, if_neg e2], by rw [hC, if_neg e], by rw [hW, if_neg e], .inr ⟨rfl, e2⟩⟩
  refine ⟨⟨h.nloc, by show Γ.ntok + 1 = m.ntok + 1; rw [hnt], fun i hi => ?_, fun n cs hn hc => ?_, h.apart, h.inj, h.immlt, h.base, fun i hi hd => ?_, fun i hi hd => ?_, fun i j a b c d hq => ?_,
    fun i n cs a b hn hc => ?_, fun i ds hi hd hq => ?_, h.lps.mono l (Keeps.refl _ _) h.nloc (fun n L a b => ⟨a, b⟩) (fun n L a b => rfl), h.its.mono l h.nloc (fun n x a b => ⟨a, b⟩) (fun _ _ q _ => q), h.xs.mono rfl rfl (fun _ _ q _ => q)⟩, l⟩
  · have hw : ∀ i, (m.renTok k).wd i = if i = m.ntok then m.wd k else m.wd i := fun i => rfl
    rw [hP, ht, hW, hw]
    have hi' : i < m.ntok + 1 := hi
    by_cases e : i = m.ntok
    · simp only [if_pos e]; exact hkt
    · simp only [if_neg e]
      have := h.top i (by omega)
      by_cases e2 : i = k
      · simp only [if_pos e2]; exact ⟨trivial, this.2⟩
      · simp only [if_neg e2]; exact this
  · obtain ⟨c, h1, h2, h3⟩ := h.locs n cs hn hc
    exact ⟨c, h1, LRep.mono l (Keeps.refl _ _) _ _ h2, h3⟩
  · obtain ⟨j, j1, j2, j3, j4, j5, j6, _⟩ := key i hi hd
    rw [j3, j5, j6]; exact h.toks j j1 j2
  · obtain ⟨j, j1, j2, j3, j4, j5, j6, _⟩ := key i hi hd
    rw [j3, j4, j6]; exact h.tapart j j1 j2
  · obtain ⟨i', i1, i2, i3, _, _, _, i7⟩ := key i a c
    obtain ⟨j', j1, j2, j3, _, _, _, j7⟩ := key j b d
    rw [i3, j3] at hq
    have := h.tinj i' j' i1 j1 i2 j2 hq
    omega
  · obtain ⟨j, j1, j2, j3, _⟩ := key i a b
    rw [j3]; exact h.tloc j n cs j1 j2 hn hc
  · replace hq : upd m.arr m.ntok none i = some ds := hq
    obtain ⟨j, j1, j2, j3, j4, j5, j6, j7⟩ := key i hi hd
    rcases j7 with ⟨j7, _⟩ | ⟨j7, j8⟩
    · subst j7; rw [upd_same] at hq; cases hq
    · subst j7
      have hin : i ≠ m.ntok := by omega
      rw [upd_ne _ _ _ _ hin] at hq
      obtain ⟨h0, hl', c, h1, h2, h3⟩ := h.arrs i ds j1 j2 hq
      rw [j3]
      refine ⟨h0, ?_, c, h1, LRep.mono l (Keeps.refl _ _) _ _ h2, h3⟩
      have hw : ∀ i, (m.renTok k).wd i = if i = m.ntok then m.wd k else m.wd i := fun i => rfl
      rw [ht, hw, if_neg hin, if_neg j8, if_neg hin]; exact hl'
theorem VRep.renTok {k : Nat} {rows : List (List PV)} {x : Value} (h : MemSim Γ m w) (hk : k < m.ntok) (hl : m.top k < DEAD) (har : m.arr k = none) (hr : VRep Γ w (.list (.tok k) rows) x) : VRep (Γ.renTok k) w (.list (.tok m.ntok) rows) x := by
  have l := (h.renTok hk hl har).2
  obtain ⟨a, cap, e, h1, h2, h3, h4, h5, h6⟩ := hr
  have hnt : Γ.ntok = m.ntok := h.ntok
  refine ⟨a, cap, e, h1, h2, fun ad hd => ⟨(h3 ad hd).1, SRep.mono l (Keeps.refl _ _) rows _ _ (h3 ad hd).2⟩, by show m.ntok < Γ.ntok + 1; omega, ?_⟩
  show rows.length ≤ upd (upd Γ.top k DEAD) Γ.ntok (Γ.top k) m.ntok ∧ (rows.length = upd (upd Γ.top k DEAD) Γ.ntok (Γ.top k) m.ntok → a = some ⟨upd Γ.tok Γ.ntok (Γ.tok k) m.ntok, 0, none⟩ ∧ cap = upd Γ.cp Γ.ntok (Γ.cp k) m.ntok)
  rw [hnt, upd_same, upd_same, upd_same]
  exact ⟨h5, h6⟩

/-- The memory behind an append to an array with this owner, by one word for all outcomes. -/
def St.appD (m : St) (o : Own) (n s : Nat) : St := match o with | .tok k => (m.newTok n s).killTok k | _ => m.newTok n s
theorem appD_sees {s n q : Nat} {o o' : Own} {m' : St} {rows : List (List PV)} (hok : appOK s m o n) (h62 : n + q < DEAD) (hq : 0 < q) (ha : AppRes s m o n q o' m') : Sees (.list o' rows) m' (.list (.tok m.ntok) rows) (m.appD o (n + q) s) := by
  intro Γ w v hm hv
  rcases ha with ⟨h0, _⟩ | ⟨_, rfl, rfl⟩ | ⟨_, k, rfl, rfl, rfl⟩
  · omega
  · cases o with
    | no => exact ⟨Γ, hm, Ctx.le.refl _, hv⟩
    | full => exact ⟨Γ, hm, Ctx.le.refl _, hv⟩
    | tok k =>
      obtain ⟨k1, k2, k3, k4⟩ := hok
      have e : (m.newTok (n + q) s).top k = m.top k := upd_ne _ _ _ _ (by omega)
      obtain ⟨h1, h2⟩ := hm.killTok (k := k) (by show k < m.ntok + 1; omega) (by rw [e, k2]; omega)
      exact ⟨_, h1, h2, VRep.mono h2 (Keeps.refl _ _) _ _ hv⟩
  · obtain ⟨k1, k2, k3, k4⟩ := hok
    have hs : (m.growTok k q).renTok k = m.appD (.tok k) (n + q) s := by
      have hkn : k ≠ m.ntok := by omega
      simp only [St.appD, St.renTok, St.growTok, St.killTok, St.newTok]
      congr 1
      · funext i
        simp only [upd]
        by_cases e : i = m.ntok
        · subst e; simp [Ne.symm hkn, k2]
        · by_cases e2 : i = k
          · subst e2; simp [e]
          · simp [e, e2]
      · funext i
        simp only [upd, k3]
    have hgt : (m.growTok k q).top k = m.top k + q := upd_same _ _ _
    have hl : (m.growTok k q).top k < DEAD := by rw [hgt, k2]; exact h62
    obtain ⟨h1, h2⟩ := hm.renTok (k := k) k1 hl k4
    rw [hs] at h1
    exact ⟨_, h1, h2, VRep.renTok (m := m.growTok k q) hm k1 hl k4 hv⟩
end
end Go.Ab
/- The abstract layer, 17: what a call hands back seen otherwise; calls of values without references; variables frozen into lists. Over any program. -/
namespace Go.Ab
open Go.RowKit
section
variable {P : Program} {m : St} {K Kp : PV → St → Prop} {Γ Γ' : Ctx} {w w' : World} {f : FuncId} {args : List PV}

def SeesR (r : ARes) (m : St) (r' : ARes) (m' : St) : Prop :=
  match r, r' with
  | .ret p, .ret p' => Sees p m p' m'
  | .pan p, .pan p' => Sees p m p' m'
  | _, _ => False
theorem ACall.sees {R : ARes → St → Prop} (h : ACall P f args m (fun r m' => ∃ r' m'', SeesR r m' r' m'' ∧ R r' m'')) : ACall P f args m R :=
  ⟨h.1, fun Γ w us a b => (h.2 Γ w us a b).mono fun e w' ⟨r, m', Γ', ⟨r', m'', hs, hR⟩, h2, h3, h4, h5⟩ => by
    cases r <;> cases r' <;> simp only [SeesR] at hs <;> cases e <;> simp only [ERep] at h2
    · obtain ⟨Γ'', q1, q2, q3⟩ := hs Γ' w' _ h5 h2
      exact ⟨_, m'', Γ'', hR, q3, h3.trans q2, h4, q1⟩
    · obtain ⟨v, rfl, h2⟩ := h2
      obtain ⟨Γ'', q1, q2, q3⟩ := hs Γ' w' _ h5 h2
      exact ⟨_, m'', Γ'', hR, ⟨v, rfl, q3⟩, h3.trans q2, h4, q1⟩⟩
theorem Sees.trans {p p' p'' : PV} {m m' m'' : St} (h : Sees p m p' m') (k : Sees p' m' p'' m'') : Sees p m p'' m'' := fun Γ w v a b => by
  obtain ⟨Γ', h1, h2, h3⟩ := h Γ w v a b
  obtain ⟨Γ'', k1, k2, k3⟩ := k Γ' w v h1 h3
  exact ⟨Γ'', k1, h2.trans k2, k3⟩

/-- The callee's own variables forgotten. -/
theorem ACall.cut {R : ARes → St → Prop} (h : ACall P f args m (fun r m' => ∃ m'', Lv m m' m'' ∧ (match r with | .ret p => p.sc m''.nloc m''.ntok | .pan p => p.sc m''.nloc m''.ntok) ∧ R r m'')) : ACall P f args m R :=
  ⟨h.1, fun Γ w us a b => (h.2 Γ w us a b).mono fun e w' ⟨r, m', Γ', ⟨m'', hl, hsc, hR⟩, h2, h3, h4, h5⟩ => by
    have hx : (Γ.withX Γ.x).le Γ' := h3
    have hx' : XSim (Γ'.cut Γ.x m''.nloc m''.ntok) w' := by
      have := a.xs.back h3.base h3.x.mark h3.x.lps h4.below.size h5.xs m''.nloc m''.ntok
      exact this
    obtain ⟨k1, k2⟩ := hl.sim a hx hx' h5
    refine ⟨r, m'', _, hR, ?_, k2, h4, k1⟩
    cases r <;> cases e <;> simp only [ERep] at h2 ⊢
    · exact VRep.cut _ _ hsc h2
    · obtain ⟨v, rfl, h2⟩ := h2; exact ⟨v, rfl, VRep.cut _ _ hsc h2⟩⟩

/-! calls of values without references -/
def St.empty : St := ⟨fun _ => none, fun _ => none, 0, fun _ => 0, fun _ => 0, 0, fun _ => none, fun _ => none⟩
mutual
/-- The same, the old immutable cells and the new ones alone. -/
theorem VRep.imm {G : Ctx} (hi : ∀ b o, Γ.imm b o → G.imm b o) : ∀ (p : PV) (u : Value), p.sc 0 0 → VRep Γ w p u → VRep G w p u
  | .any, _, _, _ => trivial
  | .v _, _, _, h => h
  | .agg cs, u, s, h => by
    obtain ⟨us, e, h⟩ := h
    exact ⟨us, e, LRep.imm hi cs _ s h⟩
  | .list o rows, u, s, h => by
    obtain ⟨a, cap, e, h1, h2, h3, h4⟩ := h
    refine ⟨a, cap, e, h1, h2, fun ad hd => ⟨(h3 ad hd).1, SRep.imm hi rows _ _ s.1 (h3 ad hd).2⟩, ?_⟩
    cases o with
    | no => trivial
    | full => exact h4
    | tok k => exact absurd s.2 (Nat.not_lt_zero _)
  | .ro cs, u, s, h => by
    obtain ⟨b, off, e, h⟩ := h
    exact ⟨b, off, e, CRep.imm hi cs _ _ s h⟩
  | .loc n off, u, s, h => absurd s (Nat.not_lt_zero _)
  | .marr n off len cap, u, s, h => absurd s (Nat.not_lt_zero _)
  | .clo f first caps, u, s, h => by
    obtain ⟨fs, us, e, h1, h2⟩ := h
    exact ⟨fs, us, e, LRep.imm hi first _ s.1 h1, LRep.imm hi caps _ s.2 h2⟩
  | .iface t y, u, s, h => by
    obtain ⟨x, e, h⟩ := h
    exact ⟨x, e, VRep.imm hi y _ s h⟩
  | .tup xs, u, s, h => by
    obtain ⟨us, e, h⟩ := h
    exact ⟨us, e, LRep.imm hi xs _ s h⟩
  | .yld n, u, s, h => absurd s (Nat.not_lt_zero _)
  | .mtok k _, u, s, h => absurd s (Nat.not_lt_zero _)
  | .mptr k _ _, u, s, h => absurd s (Nat.not_lt_zero _)
theorem LRep.imm {G : Ctx} (hi : ∀ b o, Γ.imm b o → G.imm b o) : ∀ (xs : List PV) (us : List Value), PV.scL 0 0 xs → LRep Γ w xs us → LRep G w xs us
  | [], _, _, h => h
  | x :: xs, us, s, h => by
    obtain ⟨u, us', e, h1, h2⟩ := h
    exact ⟨u, us', e, VRep.imm hi x _ s.1 h1, LRep.imm hi xs _ s.2 h2⟩
theorem CRep.imm {G : Ctx} (hi : ∀ b o, Γ.imm b o → G.imm b o) : ∀ (xs : List PV) (b off : Nat), PV.scL 0 0 xs → CRep Γ w xs b off → CRep G w xs b off
  | [], _, _, _, h => trivial
  | x :: xs, b, off, s, h => by
    obtain ⟨⟨h0, u, e, hu, h1⟩, h2⟩ := h
    exact ⟨⟨hi _ _ h0, u, e, hu, VRep.imm hi x _ s.1 h1⟩, CRep.imm hi xs _ _ s.2 h2⟩
theorem SRep.imm {G : Ctx} (hi : ∀ b o, Γ.imm b o → G.imm b o) : ∀ (rs : List (List PV)) (b off : Nat), PV.scR 0 0 rs → SRep Γ w rs b off → SRep G w rs b off
  | [], _, _, _, h => trivial
  | r :: rs, b, off, s, h => ⟨CRep.imm hi r _ _ s.1 h.1, SRep.imm hi rs _ _ s.2 h.2⟩
end

/-- The context that knows nothing of memory. -/
def Ctx.bare (Γ : Ctx) (w : World) : Ctx := { Γ with x := ⟨fun _ => False, fun _ => False, w.heap.size, none, []⟩, base := w.heap.size, nloc := 0, ntok := 0 }
theorem MemSim.bare (h : MemSim Γ m w) : MemSim (Γ.bare w) St.empty w := by
  refine ⟨rfl, rfl, fun k hk => absurd hk (Nat.not_lt_zero _), fun n cs hn => absurd hn (Nat.not_lt_zero _), fun n cs hn => absurd hn (Nat.not_lt_zero _), fun n n' cs cs' hn => absurd hn (Nat.not_lt_zero _), h.immlt, Nat.le_refl _,
    fun k hk => absurd hk (Nat.not_lt_zero _), fun k hk => absurd hk (Nat.not_lt_zero _), fun k k' hk => absurd hk (Nat.not_lt_zero _), fun k n cs hk => absurd hk (Nat.not_lt_zero _), fun k cs hk => absurd hk (Nat.not_lt_zero _), ⟨fun n L hn => absurd hn (Nat.not_lt_zero _), fun n n' L L' hn => absurd hn (Nat.not_lt_zero _)⟩, ⟨fun n L hn => absurd hn (Nat.not_lt_zero _), fun n n' L L' hn => absurd hn (Nat.not_lt_zero _)⟩,
    ⟨fun D hD => hD.elim, fun l hl => hl.elim, (fun l hl => by cases hl), Nat.le_refl _⟩⟩

/-- A call that refers to no memory does the same in every memory, and leaves it. -/
def ARes.val : ARes → PV | .ret p => p | .pan p => p
theorem ACall.closed {r0 : ARes} (h : ACall P f args St.empty (fun r _ => r = r0)) (ha : PV.scL 0 0 args) (hp : r0.val.sc 0 0) : ∀ m, ACall P f args m (fun r m' => r = r0 ∧ m' = m) := by
  intro m
  refine ⟨h.1, fun Γ w us hm hr => ?_⟩
  have hr0 : LRep (Γ.bare w) w args us := LRep.imm (Γ := Γ) (G := Γ.bare w) (w := w) (fun b o q => q) args us ha hr
  refine (h.2 (Γ.bare w) w us hm.bare hr0).mono ?_
  rintro e w' ⟨r, m', Γ', rfl, h2, h3, h4, h5⟩
  have hbel : Below w.heap.size w w' := by have := h4.below; exact this
  have himm : ∀ b o, Γ'.imm b o → Γ.imm b o ∨ w.heap.size ≤ b := fun b o q => by have := h3.immb b o q; exact this
  have himm2 : ∀ b o, Γ.imm b o → Γ'.imm b o := h3.imm
  have hheap : ∀ k, k < w.heap.size → w'.heap[k]? = w.heap[k]? := fun k hk => hbel.block k hk
  obtain ⟨G, hG⟩ : ∃ G : Ctx, G = { Γ with imm := Γ'.imm } := ⟨_, rfl⟩
  have hbase := hm.base
  have l : Γ.le G := by
    subst hG
    exact ⟨rfl, Nat.le_refl _, fun _ _ => rfl, himm2, Nat.le_refl _, fun _ _ => .inl ⟨rfl, rfl, rfl⟩, fun _ _ => rfl, CtxX.le.refl _, fun b o q => (himm b o q).imp id (fun r => by omega)⟩
  have hk : Keeps Γ w w' := ⟨⟨hbel.1, hbel.2, hbel.3, hbel.4, fun k hk => hheap k (by omega)⟩, fun b o q => cellAt_of_heap (hheap b (hm.immlt b o q)) o⟩
  have hlt : ∀ n cs, n < m.nloc → m.loc n = some cs → Γ.loc n < w.heap.size := fun n cs hn hc => by obtain ⟨c, h1, _⟩ := hm.locs n cs hn hc; exact h1.lt
  have hltt : ∀ k, k < m.ntok → m.top k < DEAD → Γ.tok k < w.heap.size := fun k hk hd => by obtain ⟨c, h1, _⟩ := hm.toks k hk hd; exact h1.lt
  have hsz : w.heap.size ≤ w'.heap.size := hbel.size
  have hobj : ∀ (k : Nat) (o : Obj), w.heap[k]? = some o → o.isCells = false → w'.heap[k]? = some o := fun k o q _ => by
    have hlt' : k < w.heap.size := (Array.getElem?_eq_some_iff.1 q).1
    rw [hheap k hlt']; exact q
  refine ⟨r, m, G, ⟨rfl, rfl⟩, ?_, l, hk, ?_⟩
  · have hi : ∀ b o, Γ'.imm b o → G.imm b o := by subst hG; exact fun b o q => q
    cases r <;> cases e <;> simp only [ERep] at h2 ⊢
    · exact VRep.imm (Γ := Γ') hi _ _ hp h2
    · obtain ⟨v, rfl, h2⟩ := h2
      exact ⟨v, rfl, VRep.imm (Γ := Γ') hi _ _ hp h2⟩
  · have hGi : G.imm = Γ'.imm := by subst hG; rfl
    have hGl : G.loc = Γ.loc := by subst hG; rfl
    have hGt : G.tok = Γ.tok := by subst hG; rfl
    have hGb : G.base = Γ.base := by subst hG; rfl
    have hGx : G.x = Γ.x := by subst hG; rfl
    refine ⟨by subst hG; exact hm.nloc, by subst hG; exact hm.ntok, by subst hG; exact hm.top, fun n cs hn hc => ?_, fun n cs hn hc => ?_, by rw [hGl]; exact hm.inj, fun b o q => h5.immlt b o (hGi ▸ q), by rw [hGb]; omega, fun k hk' hd => ?_, fun k hk' hd => ?_,
      by rw [hGt]; exact hm.tinj, by rw [hGt, hGl]; exact hm.tloc, fun k ds hk' hd hq => ?_, hm.lps.mono l hk hm.nloc (fun n L a b => ⟨a, b⟩) (fun n L a b => hheap _ (hm.lps.lt a b)), hm.its.mono l hm.nloc (fun n x a b => ⟨a, b⟩) hobj, hm.xs.mono hGx hGb hobj hsz⟩
    · obtain ⟨c, h6, h7, h8⟩ := hm.locs n cs hn hc
      rw [hGl]
      exact ⟨c, h6.of_heap (hheap _ (hlt n cs hn hc)), LRep.mono l hk _ _ h7, h8⟩
    · obtain ⟨h6, h7⟩ := hm.apart n cs hn hc
      rw [hGl, hGb, hGi]
      refine ⟨h6, fun o q => ?_⟩
      rcases himm _ _ q with q | q
      · exact h7 o q
      · have := hlt n cs hn hc; omega
    · obtain ⟨c, h6, h7⟩ := hm.toks k hk' hd
      rw [hGt]
      exact ⟨c, h6.of_heap (hheap _ (hltt k hk' hd)), by subst hG; exact h7⟩
    · obtain ⟨h6, h7⟩ := hm.tapart k hk' hd
      rw [hGt, hGb, hGi]
      refine ⟨h6, fun o q => ?_⟩
      rcases himm _ _ q with q | q
      · subst hG; exact h7 o q
      · have := hltt k hk' hd; omega
    · obtain ⟨h0, hl', c, h6, h7, h8⟩ := hm.arrs k ds hk' hd hq
      rw [hGt, hGi]
      refine ⟨fun o q => ?_, hl', c, h6.of_heap (hheap _ (hltt k hk' hd)), LRep.mono l hk _ _ h7, h8⟩
      rcases himm _ _ q with q | q
      · exact h0 o q
      · have := hltt k hk' hd; omega
end
end Go.Ab
/- The abstract layer, 18: ranges over strings; clear; appends that make a variable's block; variables frozen into lists. Over any program. -/
namespace Go.Ab
open Go.RowKit
section
variable {P : Program} {m : St} {K Kp : PV → St → Prop} {Γ : Ctx} {w : World}

/-! ranges over strings -/
def St.newIt (m : St) (s : ByteArray) (i : Nat) : St := { m with nloc := m.nloc + 1, loc := upd m.loc m.nloc none, lp := upd m.lp m.nloc none, it := upd m.it m.nloc (some (s, i)) }
def St.setIt (m : St) (n : Nat) (s : ByteArray) (i : Nat) : St := { m with it := upd m.it n (some (s, i)) }
theorem MemSim.newIt (h : MemSim Γ m w) (s : ByteArray) (i : Nat) : MemSim (Γ.newLoc w.heap.size) (m.newIt s i) (w.alloc (.stringIter s i)) ∧ Keeps Γ w (w.alloc (.stringIter s i)) := by
  obtain ⟨h', hk⟩ := h.alloc_any (.stringIter s i)
  have l := Ctx.le_newLoc Γ w.heap.size
  have hnl : Γ.nloc = m.nloc := h.nloc
  have old : ∀ n, n < m.nloc → (Γ.newLoc w.heap.size).loc n = Γ.loc n := fun n hn => l.loc n (by rw [hnl]; exact hn)
  have hnew : (Γ.newLoc w.heap.size).loc m.nloc = w.heap.size := by rw [← hnl]; exact upd_same _ _ _
  have hl : ∀ n cs, n < m.nloc + 1 → (m.newIt s i).loc n = some cs → n < m.nloc ∧ m.loc n = some cs := by
    intro n cs hn hc
    replace hc : upd m.loc m.nloc none n = some cs := hc
    by_cases e : n = m.nloc
    · subst e; rw [upd_same] at hc; cases hc
    · rw [upd_ne _ _ _ _ e] at hc; exact ⟨by omega, hc⟩
  have hi : ∀ n x, n < m.nloc + 1 → (m.newIt s i).it n = some x → (n = m.nloc ∧ x = (s, i)) ∨ (n < m.nloc ∧ m.it n = some x) := by
    intro n x hn hc
    replace hc : upd m.it m.nloc (some (s, i)) n = some x := hc
    by_cases e : n = m.nloc
    · subst e; rw [upd_same] at hc; cases hc; exact .inl ⟨rfl, rfl⟩
    · rw [upd_ne _ _ _ _ e] at hc; exact .inr ⟨by omega, hc⟩
  refine ⟨⟨by show Γ.nloc + 1 = m.nloc + 1; rw [h.nloc], h.ntok, h.top, fun n cs hn hc => ?_, fun n cs hn hc => ?_, fun n n' cs cs' hn hn' hc hc' hq => ?_, h'.immlt, h'.base, h'.toks, h.tapart, h.tinj, fun k n cs hk hd hn hc => ?_, (fun k ds hk' hd hq => by obtain ⟨h0, hl, c, h1, h2, h3⟩ := h'.arrs k ds hk' hd hq; exact ⟨h0, hl, c, h1, LRep.mono l (Keeps.refl _ _) _ _ h2, h3⟩), ?_, ⟨fun n x hn hx => ?_, fun n n' x x' hn hn' hx hx' hq => ?_⟩, h'.xs.mono rfl rfl (fun _ _ q _ => q)⟩, hk⟩
  · obtain ⟨a, b⟩ := hl n cs hn hc
    obtain ⟨c, h1, h2, h3⟩ := h'.locs n cs a b
    exact ⟨c, by rw [old n a]; exact h1, LRep.mono l (Keeps.refl _ _) _ _ h2, h3⟩
  · obtain ⟨a, b⟩ := hl n cs hn hc
    rw [old n a]; exact h.apart n cs a b
  · obtain ⟨a, b⟩ := hl n cs hn hc
    obtain ⟨a', b'⟩ := hl n' cs' hn' hc'
    rw [old n a, old n' a'] at hq
    exact h.inj n n' cs cs' a a' b b' hq
  · obtain ⟨a, b⟩ := hl n cs hn hc
    rw [old n a]; exact h.tloc k n cs hk hd a b
  · refine h.lps.mono l hk h.nloc (fun n L a b => ?_) (fun n L a b => Below.heap_alloc _ _ _ (h.lps.lt a b))
    replace b : upd m.lp m.nloc none n = some L := b
    replace a : n < m.nloc + 1 := a
    by_cases e : n = m.nloc
    · subst e; rw [upd_same] at b; cases b
    · rw [upd_ne _ _ _ _ e] at b; exact ⟨by omega, b⟩
  · rcases hi n x hn hx with ⟨rfl, rfl⟩ | ⟨a, b⟩
    · rw [hnew]; exact ⟨h.base, World.alloc_heap_new _ _⟩
    · rw [old n a]; exact ⟨(h.its.at_ n x a b).1, (h'.its.at_ n x a b).2⟩
  · rcases hi n x hn hx with ⟨e1, _⟩ | ⟨a, b⟩ <;> rcases hi n' x' hn' hx' with ⟨e2, _⟩ | ⟨a', b'⟩
    · rw [e1, e2]
    · subst e1
      rw [hnew, old n' a'] at hq
      have := h.its.lt a' b'
      omega
    · subst e2
      rw [hnew, old n a] at hq
      have := h.its.lt a b
      omega
    · rw [old n a, old n' a'] at hq
      exact h.its.inj n n' x x' a a' b b' hq
/-- A range over a string forgotten. -/
def St.dropIt (m : St) (n : Nat) : St := { m with it := upd m.it n none }
theorem MemSim.dropIt (h : MemSim Γ m w) (n : Nat) : MemSim Γ (m.dropIt n) w := by
  have key : ∀ i x, (m.dropIt n).it i = some x → m.it i = some x := by
    intro i x hc
    replace hc : upd m.it n none i = some x := hc
    by_cases e : i = n
    · subst e; rw [upd_same] at hc; cases hc
    · rwa [upd_ne _ _ _ _ e] at hc
  exact { h with its := ⟨fun i x hn hx => h.its.at_ i x hn (key i x hx), fun i j x x' a b c d => h.its.inj i j x x' a b (key _ _ c) (key _ _ d)⟩, lps := ⟨h.lps.at_, h.lps.inj⟩ }
theorem MemSim.setIt (h : MemSim Γ m w) {n : Nat} {s : ByteArray} {i : Nat} (hn : n < m.nloc) (hx : m.it n = some (s, i)) (s' : ByteArray) (j : Nat) :
    MemSim Γ (m.setIt n s' j) (w.putObj (Γ.loc n) (.stringIter s' j)) ∧ Keeps Γ w (w.putObj (Γ.loc n) (.stringIter s' j)) := by
  obtain ⟨hb, hr⟩ := h.its.at_ n _ hn hx
  have hlt := h.its.lt hn hx
  obtain ⟨k1, k2⟩ := (h.dropIt n).putObj (o' := .stringIter s' j) hr rfl rfl hb (fun i L hi hL e => by
      obtain ⟨_, tmps, D, q, _⟩ := h.lps.at_ i L hi hL
      rw [e, hr] at q; cases q) (by
      refine ⟨fun D' hD' => ?_, fun l hl => ?_, h.xs.rnd, by simp; exact h.xs.dlo⟩
      · obtain ⟨a, b⟩ := h.xs.mark D' hD'
        refine ⟨a, (World.putObj_heap_other fun e => ?_).trans b⟩
        rw [e, hr] at b; cases b
      · obtain ⟨a, R, b⟩ := h.xs.lps l hl
        refine ⟨a, R, (World.putObj_heap_other fun e => ?_).trans b⟩
        rw [e, hr] at b; cases b) (fun i x hi hc e => by
      replace hc : upd m.it n none i = some x := hc
      by_cases e2 : i = n
      · subst e2; rw [upd_same] at hc; cases hc
      · rw [upd_ne _ _ _ _ e2] at hc; exact e2 (h.its.inj i n x _ hi hn hc hx e))
  have key : ∀ i x, (m.setIt n s' j).it i = some x → (i = n ∧ x = (s', j)) ∨ (i ≠ n ∧ m.it i = some x) := by
    intro i x hc
    replace hc : upd m.it n (some (s', j)) i = some x := hc
    by_cases e : i = n
    · subst e; rw [upd_same] at hc; cases hc; exact .inl ⟨rfl, rfl⟩
    · rw [upd_ne _ _ _ _ e] at hc; exact .inr ⟨e, hc⟩
  refine ⟨{ k1 with its := ?_, lps := ⟨k1.lps.at_, k1.lps.inj⟩ }, k2⟩
  refine ⟨fun i x hi hc => ?_, fun i j x x' hi hj hc hc' hq => ?_⟩
  · rcases key i x hc with ⟨rfl, rfl⟩ | ⟨a, b⟩
    · exact ⟨hb, World.putObj_heap_same hlt⟩
    · exact k1.its.at_ i x hi (by show upd m.it n none i = _; rw [upd_ne _ _ _ _ a]; exact b)
  · rcases key i x hc with ⟨e1, _⟩ | ⟨a, b⟩ <;> rcases key j x' hc' with ⟨e2, _⟩ | ⟨a', b'⟩
    · rw [e1, e2]
    · subst e1; exact h.its.inj _ _ _ _ hn hj hx b' hq
    · subst e2; exact h.its.inj _ _ _ _ hi hn b hx hq
    · exact h.its.inj _ _ _ _ hi hj b b' hq

theorem op_range {o : Oper} {t : TypeId} {x : Operand} {ρ : Operand → PV} {s : ByteArray} (ho : o.op = .range t x) (ht : tstr P t = true) (hx : ρ x = .v (.string s)) (h : K (.loc m.nloc 0) (m.newIt s 0)) : OpOK P o ρ m K Kp := by
  intro Γ ev w hm hv
  have h1 := hv x
  rw [hx] at h1
  replace h1 : ev x = .string s := h1
  obtain ⟨h2, h3⟩ := hm.newIt s 0
  have hrun := run_range_string (P := P) w t s (tstr_und ht)
  simp only [execOp, ho, h1, Sem.run_bind, hrun, Result.andThen_ok, Sem.run_pure, Up]
  refine ⟨_, _, _, h, ⟨by show m.nloc < Γ.nloc + 1; rw [hm.nloc]; omega, ?_⟩, Ctx.le_newLoc Γ _, h3, h2⟩
  show _ = Value.pointer (some ⟨upd Γ.loc Γ.nloc w.heap.size m.nloc, 0, none⟩)
  rw [hm.nloc, upd_same]
theorem op_next {o : Oper} {x : Operand} {ρ : Operand → PV} {n : Nat} {s : ByteArray} {i : Nat} (ho : o.op = .next x true) (hx : ρ x = .loc n 0) (hn : n < m.nloc) (hi : m.it n = some (s, i))
    (h1 : i < s.size → K (.tup [.v (.bool true), .v (.int .i64 i), .v (.int .i32 (Utf8.decode s i).1)]) (m.setIt n s (i + (Utf8.decode s i).2))) (h2 : ¬ i < s.size → K (.tup [.v (.bool false)]) m) : OpOK P o ρ m K Kp := by
  intro Γ ev w hm hv
  have h3 := hv x
  rw [hx] at h3
  obtain ⟨_, h3⟩ := h3
  obtain ⟨hb, hr⟩ := hm.its.at_ n _ hn hi
  have hlt := hm.its.lt hn hi
  have hg : (getObj (Γ.loc n)).run P w = .ok (.stringIter s i) w := by simp [getObj, Sem.run, hr]
  by_cases hc : i < s.size
  · obtain ⟨k1, k2⟩ := hm.setIt hn hi s (i + (Utf8.decode s i).2)
    have hset : (setObj (Γ.loc n) (.stringIter s (i + (Utf8.decode s i).2))).run P w = .ok () (w.putObj (Γ.loc n) (.stringIter s (i + (Utf8.decode s i).2))) := by
      simp only [setObj, Sem.run, hr]; rfl
    simp only [execOp, ho, h3, Instr.next, Sem.run_bind, hg, Result.andThen_ok, hc, if_true, hset, Sem.run_pure, Up]
    exact ⟨_, _, Γ, h1 hc, ⟨_, rfl, _, _, rfl, rfl, _, _, rfl, rfl, _, _, rfl, rfl, rfl⟩, Ctx.le.refl _, k2, k1⟩
  · simp only [execOp, ho, h3, Instr.next, Sem.run_bind, hg, Result.andThen_ok, hc, if_false, Sem.run_pure, Up]
    exact .same hm (h2 hc) ⟨_, rfl, _, _, rfl, rfl, rfl⟩

/-! clear -/
theorem op_clear {o : Oper} {c : Call} {x : Operand} {t e : TypeId} {z : Value} {ρ : Operand → PV} {n off len cap : Nat} {cs : List PV} (ho : o.op = .call c) (hc : c.callee = .builtin .clear) (ha : c.args.toList = [x]) (ht : c.argTypes.toList = [t]) (he : telem P t = some e)
    (hz : tzero P e = some z) (hz1 : zOK z = true) (hpos : 0 < (zcells z).length) (hx : ρ x = .marr n off len cap) (hn : n < m.nloc) (hl : m.loc n = some cs) (hfit : off + len * (zcells z).length ≤ cs.length)
    (h : K .any (m.setLoc n (setL cs off (zrow (zcells z) (len * (zcells z).length))))) : OpOK P o ρ m K Kp := by
  intro Γ ev w hm hv
  have h3 := hv x
  rw [hx] at h3
  obtain ⟨_, cap', hcap, h3⟩ := h3
  obtain ⟨callee, args, argTypes⟩ := c
  simp only at hc ha ht
  subst hc
  have hargs : args.map ev = #[ev x] := by rw [← Array.toArray_toList (xs := args), ha]; simp
  have htys : argTypes = #[t] := by rw [← Array.toArray_toList (xs := argTypes), ht]
  obtain ⟨c, hb, hr, h4⟩ := hm.locs n cs hn hl
  have hd := telem_und he
  have hcl := LRep.len _ _ hr
  obtain ⟨zr, z1⟩ := zrow_rep (Γ := Γ) (w := w) hpos (len * z.cells.size)
  have hzl : (zcells z).length = z.cells.size := by simp [zcells]
  rw [hzl] at h hfit
  have hzc : (Builtin.zeroCells z.cells len).toList = ((Array.range (len * z.cells.size)).map (z.cells[· % z.cells.size]!)).toList := by simp [Builtin.zeroCells]
  obtain ⟨k1, k2⟩ := hm.setLoc (off := off) hn hl zr (z1 hz1) (by simpa [zrow] using hfit)
  have hst := run_storeCells_cells (P := P) (Γ.loc n) off (Builtin.zeroCells z.cells len).toList 0 w (fun j hj => by
      rw [hzc] at hj
      have hj' : j < len * z.cells.size := by simpa using hj
      show (cellAt w (Γ.loc n) (off + 0 + j)).isSome = true
      rw [cellAt_blk hb (by omega), List.getElem?_eq_getElem (by omega)]; rfl) (fun j hj => hb.frozen _) (by rw [hzc]; exact z1 hz1)
  have hrun : (Builtin.clear_ #[t] o.type #[.slice (some ⟨Γ.loc n, off, none⟩) len cap']).run P w = .ok (.tuple #[]) (setCells w (Γ.loc n) off (Builtin.zeroCells z.cells len).toList) := by
    cases len with
    | zero => simp [-Value.cells, Builtin.clear_, run_underlying hd, Builtin.zeroCells, setCells, World.setCells]
    | succ k =>
      simp only [Nat.add_zero] at hst
      simp [-Value.cells, Builtin.clear_, run_underlying hd, run_zero hz, hst]
  simp only [execOp, ho, resolve, Sem.run_bind, Sem.run_pure, Result.andThen_ok, invoke, builtin, hargs, htys, h3, hrun, Up]
  rw [hzc]
  exact ⟨.any, _, Γ, h, trivial, Ctx.le.refl _, k2, k1⟩
end
end Go.Ab
/- The abstract layer, 19: appends that make a variable's block; variables frozen into lists. Over any program. -/
namespace Go.Ab
open Go.RowKit
section
variable {P : Program} {m : St} {K Kp : PV → St → Prop} {Γ : Ctx} {w : World}

/-- The array has been made anew: it is a variable's. -/
theorem append_newL {e : TypeId} {rows news : List (List PV)} {cap' : Nat} {olds nws : List Value} {rest : Array Value} (hm : MemSim Γ m w)
    (ho : LRep Γ w rows.flatten olds) (hn : LRep Γ w news.flatten nws) (ho1 : ∀ u ∈ olds, u.oneCell' = true) (hn1 : ∀ u ∈ nws, u.oneCell' = true) (hcap : rows.length + news.length ≤ cap')
    (h : K (.marr m.nloc 0 (rows.length + news.length) (rows.length + news.length)) (m.newLoc (rows.flatten ++ PV.stripL news.flatten))) :
    Then Γ w K (.slice (some ⟨w.heap.size, 0, none⟩) (rows.length + news.length) cap') (w.drew.alloc (.cells (olds.toArray ++ nws.toArray ++ rest) e)) := by
  obtain ⟨hmd, hkd⟩ := hm.drew
  have ho' := LRep.mono (Ctx.le.refl Γ) hkd _ _ ho
  have hn' := LRep.mono (Ctx.le.refl Γ) hkd _ _ (LRep.strip _ _ hn)
  have hall : LRep Γ w.drew (rows.flatten ++ PV.stripL news.flatten) (olds ++ nws) := LRep.append _ _ _ _ ho' hn'
  obtain ⟨h3, h4⟩ := hmd.newLocP (us := olds.toArray ++ nws.toArray ++ rest) (c₀ := olds ++ nws) (d₀ := rest.toList) (by simp) hall
    (by intro u hu; rcases List.mem_append.1 hu with hu | hu; exact ho1 u hu; exact hn1 u hu) e
  refine ⟨_, _, _, h, ⟨by show m.nloc < Γ.nloc + 1; rw [hm.nloc]; omega, cap', hcap, ?_⟩, Ctx.le_newLoc Γ _, hkd.trans (Ctx.le.refl _) h4, h3⟩
  show Value.slice (some ⟨w.heap.size, 0, none⟩) _ _ = Value.slice (some ⟨upd Γ.loc Γ.nloc w.heap.size m.nloc, 0, none⟩) _ _
  rw [hm.nloc, upd_same]

theorem sound_appendL {t e : TypeId} {ty : TypeId} {o2 : Own} {rows news : List (List PV)} {u v : Value} (he : telem P t = some e) (ht : tinfo P e = true) (hz : (tzero P e).map (fun z => z.cells.size) = some (tsize P e))
    (hw1 : RowsW (tsize P e) rows) (hw2 : RowsW (tsize P e) news) (hby : (rows.length + news.length) * tbytes P e ≤ 140737488355328) (h62 : rows.length + news.length ≤ 4611686018427387904) (hpos : 0 < news.length)
    (h : K (.marr m.nloc 0 (rows.length + news.length) (rows.length + news.length)) (m.newLoc (rows.flatten ++ PV.stripL news.flatten)))
    (hm : MemSim Γ m w) (hx : VRep Γ w (.list .full rows) u) (hy : VRep Γ w (.list o2 news) v) :
    ∃ r w', (Builtin.append_ #[t, t] ty #[u, v]).run P w = .ok r w' ∧ Then Γ w K r w' := by
  have hd := telem_und he
  obtain ⟨i, hi⟩ := tinfo_info ht
  have hsz : i.size = tsize P e := by simp [tsize, Program.cellsOf, hi]
  have hbt : i.bytes = tbytes P e := by simp [tbytes, Program.bytesOf, hi]
  obtain ⟨z, hz1, hz2⟩ : ∃ z, tzero P e = some z ∧ z.cells.size = tsize P e := by
    cases hq : tzero P e with
    | none => simp [hq] at hz
    | some z => simp [hq] at hz; exact ⟨z, rfl, hz⟩
  have hiz : i.zero = some z := by simpa [tzero, hi] using hz1
  obtain ⟨a, cap, rfl, a1, a2, a3, a4⟩ := hx
  replace a4 : cap = rows.length := a4
  obtain ⟨b, cap2, rfl, b1, b2, b3, b4⟩ := hy
  cases b with
  | none => have := b2 rfl; omega
  | some bd =>
    obtain ⟨hsb, hsr⟩ := b3 bd rfl
    replace hsb := hsb.resolve_left (by omega)
    obtain ⟨bb, boff, bs⟩ := bd
    simp only at hsb hsr
    subst hsb
    obtain ⟨nws, n1, n2, n3, n4⟩ := rows_read hw2 hsr
    have hfit : Builtin.nextslicecap (rows.length + news.length) cap * i.bytes ≤ 281474976710656 := by
      have h1 := nextslicecap_le (need := rows.length + news.length) (old := cap) (by omega)
      have h2 : Builtin.nextslicecap (rows.length + news.length) cap * i.bytes ≤ 2 * (rows.length + news.length) * i.bytes := Nat.mul_le_mul_right _ h1
      rw [hbt] at h2 ⊢
      rw [Nat.mul_assoc] at h2
      omega
    cases a with
    | none =>
      have hc0 := a2 rfl
      subst hc0
      have hr0 : rows = [] := List.eq_nil_of_length_eq_zero (by omega)
      subst hr0
      have hrun := run_append_nil w t ty e i z hd hi hiz ⟨bb, boff, none⟩ news.length cap2 nws (by rw [n1, hsz]) n4 hpos (by omega) (by rw [hbt]; simp at hby; omega)
      have happ := append_newL (e := e) (rows := []) (news := news) (cap' := grownCap w news.length 0 e) (olds := []) (nws := nws) (rest := Builtin.zeroCells z.cells (grownCap w news.length 0 e - news.length)) hm rfl n2 (by simp) n3
        (by have := grownCap_ge w news.length 0 e; simpa using this) h
      refine ⟨_, _, hrun, ?_⟩
      simpa using happ
    | some ad =>
      obtain ⟨hsa, hra⟩ := a3 ad rfl
      obtain ⟨olds, o1, o2', o3, o4⟩ := rows_read' hw1 (hsa.imp (fun q => by omega) id) hra
      have hrun := run_append_grow w t ty e i z hd hi hiz ad rows.length cap olds (by rw [o1, hsz]) o4 ⟨bb, boff, none⟩ news.length cap2 nws (by rw [n1, hsz]) n4 (by omega) (by omega) hfit
      refine ⟨_, _, hrun, ?_⟩
      exact append_newL (e := e) hm o2' n2 o3 n3 (grownCap_ge _ _ _ _) h
theorem op_appendL {o : Oper} {c : Call} {x y : Operand} {t e : TypeId} {o2 : Own} {rows news : List (List PV)} {ρ : Operand → PV} (ho : o.op = .call c) (hc : c.callee = .builtin .append) (ha : c.args.toList = [x, y]) (hts : c.argTypes.toList = [t, t])
    (he : telem P t = some e) (ht : tinfo P e = true) (hz : (tzero P e).map (fun z => z.cells.size) = some (tsize P e))
    (hw1 : RowsW (tsize P e) rows) (hw2 : RowsW (tsize P e) news) (hby : (rows.length + news.length) * tbytes P e ≤ 140737488355328) (h62 : rows.length + news.length ≤ 4611686018427387904) (hpos : 0 < news.length) (hx : ρ x = .list .full rows) (hy : ρ y = .list o2 news)
    (h : K (.marr m.nloc 0 (rows.length + news.length) (rows.length + news.length)) (m.newLoc (rows.flatten ++ PV.stripL news.flatten))) : OpOK P o ρ m K Kp := by
  intro Γ ev w hm hv
  have h1 := hv x
  have h2 := hv y
  rw [hx] at h1
  rw [hy] at h2
  obtain ⟨callee, args, argTypes⟩ := c
  simp only at hc ha hts
  subst hc
  have hargs : args.map ev = #[ev x, ev y] := by rw [← Array.toArray_toList (xs := args), ha]; simp
  have htys : argTypes = #[t, t] := by rw [← Array.toArray_toList (xs := argTypes), hts]
  obtain ⟨r, w', h3, h4⟩ := sound_appendL (ty := o.type) he ht hz hw1 hw2 hby h62 hpos h hm h1 h2
  simp only [execOp, ho, resolve, Sem.run_bind, Sem.run_pure, Result.andThen_ok, invoke, builtin, hargs, htys, h3, Up]
  exact h4

/-! a variable's block seen as a list -/
mutual
/-- The same value, slices and pointers over variable n seen as lists and cells that never change. -/
def PV.fz (n s : Nat) (cs : List PV) : PV → PV
  | .marr k off len c => if k = n ∧ len ≤ c ∧ off + len * s ≤ cs.length then .list .no (chunk s len ((cs.drop off).take (len * s))) else .marr k off len c
  | .loc k off => if k = n then .ro (cs.drop off) else .loc k off
  | .agg xs => .agg (PV.fzL n s cs xs)
  | .tup xs => .tup (PV.fzL n s cs xs)
  | .iface t y => .iface t (y.fz n s cs)
  | .any => .any
  | .v u => .v u
  | .list o r => .list o r
  | .ro c => .ro c
  | .clo f a b => .clo f a b
  | .yld k => .yld k
  | .mtok k len => .mtok k len
  | .mptr k off gen => .mptr k off gen
def PV.fzL (n s : Nat) (cs : List PV) : List PV → List PV
  | [] => []
  | x :: xs => x.fz n s cs :: PV.fzL n s cs xs
end
mutual
theorem VRep.fz {Γ' : Ctx} {n s : Nat} {cs : List PV} (l : Γ.le Γ') (hc : CRep Γ' w cs (Γ.loc n) 0) : ∀ (p : PV) (u : Value), VRep Γ w p u → VRep Γ' w (p.fz n s cs) u
  | .any, _, h => trivial
  | .v _, _, h => h
  | .agg xs, u, h => by
    obtain ⟨us, e, h⟩ := h
    exact ⟨us, e, LRep.fz l hc xs _ h⟩
  | .list o rows, u, h => VRep.mono l (Keeps.refl _ _) (.list o rows) u h
  | .ro c, u, h => VRep.mono l (Keeps.refl _ _) (.ro c) u h
  | .loc k off, u, h => by
    simp only [PV.fz]
    split
    · rename_i e
      subst e
      obtain ⟨_, h⟩ := h
      have := CRep.drop off cs _ _ hc
      exact ⟨_, _, h, by simpa using this⟩
    · exact VRep.mono l (Keeps.refl _ _) (.loc k off) u h
  | .marr k off len c, u, h => by
    simp only [PV.fz]
    split
    · rename_i e
      obtain ⟨rfl, e2, e3⟩ := e
      obtain ⟨_, cap', h4, rfl⟩ := h
      have hl : ((cs.drop off).take (len * s)).length = len * s := by simp; omega
      have h5 := CRep.take (len * s) _ _ _ (CRep.drop off cs _ _ hc)
      refine ⟨some ⟨Γ.loc k, off, none⟩, cap', by rw [chunk_length], by rw [chunk_length]; omega, (fun q => by cases q), (fun ad hd => ?_), trivial⟩
      cases hd
      refine ⟨.inr rfl, (SRep.flat _ _ _).2 ?_⟩
      rw [chunk_flatten _ _ _ hl]
      simpa using h5
    · exact VRep.mono l (Keeps.refl _ _) (.marr k off len c) u h
  | .clo f first caps, u, h => VRep.mono l (Keeps.refl _ _) (.clo f first caps) u h
  | .iface t y, u, h => by
    obtain ⟨x, e, h⟩ := h
    exact ⟨x, e, VRep.fz l hc y _ h⟩
  | .tup xs, u, h => by
    obtain ⟨us, e, h⟩ := h
    exact ⟨us, e, LRep.fz l hc xs _ h⟩
  | .yld k, u, h => VRep.mono l (Keeps.refl _ _) (.yld k) u h
  | .mtok k len, u, h => VRep.mono l (Keeps.refl _ _) (.mtok k len) u h
  | .mptr k off gen, u, h => VRep.mono l (Keeps.refl _ _) (.mptr k off gen) u h
theorem LRep.fz {Γ' : Ctx} {n s : Nat} {cs : List PV} (l : Γ.le Γ') (hc : CRep Γ' w cs (Γ.loc n) 0) : ∀ (xs : List PV) (us : List Value), LRep Γ w xs us → LRep Γ' w (PV.fzL n s cs xs) us
  | [], _, h => h
  | x :: xs, us, h => by
    obtain ⟨u, us', e, h1, h2⟩ := h
    exact ⟨u, us', e, VRep.fz l hc x _ h1, LRep.fz l hc xs _ h2⟩
end
theorem Sees.fz {p : PV} {n s : Nat} {cs : List PV} (hn : n < m.nloc) (hc : m.loc n = some cs) : Sees p m (p.fz n s cs) (m.dropLoc n) := by
  intro Γ w v hm hv
  obtain ⟨h1, h2⟩ := hm.freeze hn hc
  have le := Ctx.le_newImm Γ (Γ.loc n) cs.length (hm.apart n cs hn hc).1
  exact ⟨_, h1, le, VRep.fz le h2 _ _ hv⟩
end
end Go.Ab
/- The abstract layer, 20: a program run on abstract values, by computation. Over any program. -/
namespace Go.Ab
open Go.RowKit

abbrev AL (α : Type) := List (Nat × α)
def AL.get {α : Type} : AL α → Nat → Option α
  | [], _ => none
  | (k, x) :: l, n => if n = k then some x else AL.get l n
def AL.set {α : Type} : AL α → Nat → α → AL α
  | [], n, y => [(n, y)]
  | (k, x) :: l, n, y => if n = k then (k, y) :: l else (k, x) :: AL.set l n y
/-- What a variable's number stands for. -/
inductive Ent where
  | cells (cs : List PV)
  | iter (s : ByteArray) (i : Nat)
  | gone
structure EM where
  locs : AL Ent
  nloc : Nat
  toks : AL (Nat × Nat)
  ntok : Nat
def entC : Option Ent → Option (List PV) | some (.cells cs) => some cs | _ => none
def entI : Option Ent → Option (ByteArray × Nat) | some (.iter s i) => some (s, i) | _ => none
def EM.cells (m : EM) (n : Nat) : Option (List PV) := entC (m.locs.get n)
def EM.iter (m : EM) (n : Nat) : Option (ByteArray × Nat) := entI (m.locs.get n)
def oTop : Option (Nat × Nat) → Nat | some x => x.1 | none => 0
def oWd : Option (Nat × Nat) → Nat | some x => x.2 | none => 0
def EM.st (m : EM) : St := ⟨m.cells, fun _ => none, m.nloc, fun k => oTop (m.toks.get k), fun k => oWd (m.toks.get k), m.ntok, m.iter, fun _ => none⟩
def EM.empty : EM := ⟨[], 0, [], 0⟩
def EM.new (m : EM) (e : Ent) : EM := { m with locs := (m.nloc, e) :: m.locs, nloc := m.nloc + 1 }
def EM.put (m : EM) (n : Nat) (e : Ent) : EM := { m with locs := m.locs.set n e }
def EM.newTok (m : EM) (n w : Nat) : EM := { m with toks := (m.ntok, n, w) :: m.toks, ntok := m.ntok + 1 }
abbrev ER := Except String
def oAny : Option PV → PV | some p => p | none => .any
def slt (σ : AL PV) : Nat → PV := fun t => oAny (σ.get t)
def eput (σ : AL PV) (d : Option Tmp) (p : PV) : AL PV := match d with | some d => σ.set d p | none => σ
/-- The nil slice as an empty list. -/
def nz : PV → PV
  | .v (.slice none 0 0) => .list .full []
  | p => p
def rowsW (s : Nat) (rows : List (List PV)) : Bool := rows.all fun r => r.length == s

def eload (P : Program) (t : TypeId) (x : PV) (m : EM) : ER PV :=
  if tinfo P t then
    match x with
    | .ro cs => if tagg P t then (if tsize P t ≤ cs.length then .ok (.agg (cs.take (tsize P t))) else .error "load ro") else (match cs[0]? with | some c => .ok c | none => .error "load ro")
    | .loc n off => match m.cells n with
      | some cs => if n < m.nloc then (if tagg P t then (if off + tsize P t ≤ cs.length then .ok (.agg ((cs.drop off).take (tsize P t))) else .error "load loc") else (match cs[off]? with | some c => .ok c | none => .error "load loc")) else .error "load"
      | none => .error "load gone"
    | _ => .error "load"
  else .error "load type"
def estore (P : Program) (t : TypeId) (x y : PV) (m : EM) : ER EM :=
  if tinfo P t then
    match x, cells1 y with
    | .loc n off, some xs => match m.cells n with
      | some cs => if n < m.nloc ∧ xs.length = tsize P t ∧ off + tsize P t ≤ cs.length then .ok (m.put n (.cells (setL cs off xs))) else .error "store"
      | none => .error "store gone"
    | _, _ => .error "store"
  else .error "store type"
def ebuild (P : Program) (t : TypeId) (parts : List (Nat × PV)) : ER PV :=
  match tzero P t with
  | some z => if tinfo P t && zOK z then
      (if tfok P t then (match afill (tplace P t) parts (zcells z) with | some cs => .ok (.agg cs) | none => .error "build")
      else match tarr P t with
        | some (_, e) => if tinfo P e then (match afill (aplace P t) parts (zcells z) with | some cs => .ok (.agg cs) | none => .error "build") else .error "build"
        | none => .error "build")
    else .error "build"
  | none => .error "build"
def ebuildSlice (P : Program) (t : TypeId) (len : Nat) (parts : List (Nat × PV)) : ER PV :=
  match telem P t with
  | some e => if tinfo P e ∧ len * tsize P e ≤ 16777216 then
      (match tzero P e with
      | some z => if zOK z ∧ 0 < (zcells z).length then (match afill (fun i => some (i * tsize P e, tsize P e)) parts (zrow (zcells z) (len * tsize P e)) with
        | some cs => .ok (.list .full (chunk (tsize P e) len cs))
        | none => .error "buildSlice") else .error "buildSlice"
      | none => .error "buildSlice")
    else .error "buildSlice"
  | none => .error "buildSlice"
def ebinop (P : Program) (op : BinOp) (t : TypeId) (x y : PV) : ER PV :=
  match x, y with
  | .v (.bool a), .v (.bool b) => if tbool P t then (match op with | .eql => .ok (.v (.bool (a == b))) | .neq => .ok (.v (.bool (!(a == b)))) | _ => .error "binop") else .error "binop"
  | .v a, .v b => match abin op a b with | some r => .ok (.v r) | none => .error "binop"
  | .list _ (_ :: _), .v (.slice none 0 0) => if (telem P t).isSome then (match op with | .eql => .ok (.v (.bool false)) | .neq => .ok (.v (.bool true)) | _ => .error "binop") else .error "binop"
  | _, _ => .error "binop"
def eunop (op : UnOp) (x : PV) : ER PV :=
  match op, x with
  | .not, .v (.bool b) => .ok (.v (.bool (!b)))
  | .neg, .v (.int k n) => .ok (.v (.int k (k.wrap (0 - n))))
  | _, _ => .error "unop"
def econvert (P : Program) (s d : TypeId) (x : PV) : ER PV :=
  match x, tkind P d with
  | .v (.int _ n), some k => if tinfo P s then .ok (.v (.int k (k.wrap n))) else .error "convert"
  | _, _ => .error "convert"
def efieldAddr (P : Program) (s : TypeId) (x : PV) (f : Nat) : ER PV :=
  match tfield P s f with
  | some (o, ft) => if tinfo P ft ∧ tsize P ft ≠ 0 then (match x with
    | .ro cs => .ok (.ro (cs.drop o))
    | .loc n off => .ok (.loc n (off + o))
    | _ => .error "fieldAddr") else .error "fieldAddr"
  | none => .error "fieldAddr"
def epart (P : Program) (t : TypeId) (cs : List PV) (off : Nat) : ER PV :=
  if tinfo P t then (if tagg P t then .ok (.agg ((cs.drop off).take (tsize P t))) else match cs[off]? with | some c => .ok c | none => .error "part") else .error "part"
def efield (P : Program) (s : TypeId) (x : PV) (f : Nat) : ER PV :=
  match tfield P s f, x with
  | some (o, ft), .agg cs => epart P ft cs o
  | _, _ => .error "field"
def eindexAddr (P : Program) (t : TypeId) (x i : PV) : ER PV :=
  match telem P t, i with
  | some e, .v (.int _ n) => if tinfo P e ∧ 0 ≤ n then (match x with
    | .list _ rows => if n < rows.length ∧ (rowsW (tsize P e) rows) = true then .ok (.ro (rowI rows n.toNat)) else .error "indexAddr"
    | .marr l off len _ => if n < len then .ok (.loc l (off + n.toNat * tsize P e)) else .error "indexAddr"
    | _ => .error "indexAddr") else .error "indexAddr"
  | _, _ => .error "indexAddr"
def eindex (P : Program) (t : TypeId) (x i : PV) : ER PV :=
  match i, x with
  | .v (.int _ n), .agg cs => match tarr P t with
    | some (len, e) => if 0 ≤ n ∧ n < len ∧ tinfo P e = true then epart P e cs (n.toNat * tsize P e) else .error "index"
    | none => .error "index"
  | .v (.int _ n), .v (.string s) => if tstr P t = true ∧ 0 ≤ n ∧ n < s.size then .ok (.v (.int .u8 (byteAt s n.toNat))) else .error "index"
  | _, _ => .error "index"
def eextract (x : PV) (i : Nat) : ER PV :=
  match x with
  | .tup xs => match xs[i]? with | some p => .ok p | none => .error "extract"
  | _ => .error "extract"
def eslice (P : Program) (t : TypeId) (x : PV) (lo hi mx : Option PV) : ER PV :=
  match x with
  | .list o rows => match telem P t, abnd lo 0, abnd hi rows.length, mx with
    | some e, some l, some h, none => if tinfo P e = true ∧ rowsW (tsize P e) rows = true ∧ 0 ≤ l ∧ l ≤ h ∧ h ≤ rows.length then
        .ok (.list (if l = 0 ∧ h = rows.length then o else if h = rows.length ∧ o = .full then .full else .no) ((rows.take h.toNat).drop l.toNat)) else .error "slice"
    | some e, some l, some h, some (.v (.int _ q)) => if tinfo P e = true ∧ rowsW (tsize P e) rows = true ∧ 0 ≤ l ∧ l ≤ h ∧ h = q ∧ hi.isSome = true ∧ h ≤ rows.length then .ok (.list .full ((rows.take h.toNat).drop l.toNat)) else .error "slice"
    | _, _, _, _ => .error "slice"
  | .marr n off len cap => match telem P t, abnd lo 0, abnd hi len, mx with
    | some e, some l, some h, none => if tinfo P e = true ∧ 0 ≤ l ∧ l ≤ h ∧ h ≤ len ∧ len ≤ cap ∧ l < cap then .ok (.marr n (off + l.toNat * tsize P e) (h - l).toNat (cap - l.toNat)) else .error "slice"
    | _, _, _, _ => .error "slice"
  | .v (.string s) => match abnd lo 0, abnd hi s.size, mx with
    | some l, some h, none => if tstr P t = true ∧ 0 ≤ l ∧ l ≤ h ∧ h ≤ s.size then .ok (.v (.string (s.extract l.toNat h.toNat))) else .error "slice"
    | _, _, _ => .error "slice"
  | _ => .error "slice"
def elen (P : Program) (ts : List TypeId) (x : PV) : ER PV :=
  match ts, x with
  | [t], .list _ rows => if (telem P t).isSome then .ok (.v (.int .i64 rows.length)) else .error "len"
  | [t], .marr _ _ len _ => if (telem P t).isSome then .ok (.v (.int .i64 len)) else .error "len"
  | [t], .v (.string s) => if tstr P t then .ok (.v (.int .i64 s.size)) else .error "len"
  | _, _ => .error "len"
def emax (xs : List PV) : ER PV := match xs with | [.v (.int k a), .v (.int _ b)] => .ok (.v (.int k (if a < b then b else a))) | _ => .error "max"
def emin (xs : List PV) : ER PV := match xs with | [.v (.int k a), .v (.int _ b)] => .ok (.v (.int k (if b < a then b else a))) | _ => .error "min"
mutual
/-- All numbers in an abstract value are below these. -/
def PV.scb (nl nt : Nat) : PV → Bool
  | .any | .v _ => true
  | .agg cs => PV.scLb nl nt cs
  | .list o rows => PV.scRb nl nt rows && (match o with | .tok k => k < nt | _ => true)
  | .ro cs => PV.scLb nl nt cs
  | .loc n _ => n < nl
  | .marr n _ _ _ => n < nl
  | .clo _ first caps => PV.scLb nl nt first && PV.scLb nl nt caps
  | .iface _ y => y.scb nl nt
  | .tup xs => PV.scLb nl nt xs
  | .yld n => n < nl
  | .mtok k _ => k < nt
  | .mptr k _ _ => k < nt
def PV.scLb (nl nt : Nat) : List PV → Bool
  | [] => true
  | x :: xs => x.scb nl nt && PV.scLb nl nt xs
def PV.scRb (nl nt : Nat) : List (List PV) → Bool
  | [] => true
  | r :: rs => PV.scLb nl nt r && PV.scRb nl nt rs
end
/-- How a run ends, what a call hands back. -/
inductive EX where
  | normal | exit (n : Nat) | goto (l : Nat) | ret | pan (p : PV)
inductive RR where
  | ret (p : PV) | pan (p : PV)
abbrev Call0 := FuncId → List PV → ER RR
abbrev CallM := FuncId → List PV → EM → ER (RR × EM)

/-- Operations that look at their operands alone. -/
def eopS (P : Program) (call : Call0) (op : Op) (ρ : Operand → PV) : ER PV :=
  let n : Operand → PV := fun x => nz (ρ x)
  match op with
  | .move x => .ok (n x)
  | .assign x => .ok (n x)
  | .pick c a b => match n c with | .v (.bool true) => .ok (n a) | .v (.bool false) => .ok (n b) | _ => .error "pick"
  | .build t parts => ebuild P t (parts.toList.map fun x => (x.1, n x.2))
  | .buildSlice t len parts => ebuildSlice P t len (parts.toList.map fun x => (x.1, n x.2))
  | .nilCheck x => match n x with | .ro cs => .ok (.ro cs) | .loc k off => .ok (.loc k off) | .clo f a b => .ok (.clo f a b) | _ => .error "nilCheck"
  | .binOp op t x y _ => ebinop P op t (ρ x) (ρ y)
  | .unOp op _ x => eunop op (n x)
  | .convert s d x => econvert P s d (n x)
  | .makeInterface t x => if tconc P t then .ok (.iface t (n x)) else .error "iface"
  | .makeFunc (.func f) first caps => .ok (.clo f (first.toList.map n) (caps.toList.map n))
  | .slice t x lo hi mx => eslice P t (n x) (lo.map n) (hi.map n) (mx.map n)
  | .fieldAddr s x f => efieldAddr P s (n x) f
  | .field s x f => efield P s (n x) f
  | .indexAddr t x i => eindexAddr P t (n x) (n i)
  | .index t x i => eindex P t (n x) (n i)
  | .extract x i => eextract (n x) i
  | .call c => match c.callee with
    | .value f => match n f with
      | .clo g first caps => match call g (first ++ c.args.toList.map (fun x => (n x).strip) ++ caps) with
        | .ok (.ret p) => .ok p
        | .ok (.pan _) => .error "panic in a pure place"
        | .error s => .error s
      | _ => .error "callee"
    | .builtin .len => match c.args.toList with | [x] => elen P c.argTypes.toList (n x) | _ => .error "len"
    | .builtin .max => emax (c.args.toList.map n)
    | .builtin .min => emin (c.args.toList.map n)
    | _ => .error "builtin"
  | _ => .error "op"

def eappend (P : Program) (md : Bool) (ts : List TypeId) (x y : PV) (m : EM) : ER (PV × EM) :=
  match ts, x, y with
  | [t, t'], .list o rows, .list _ news => match telem P t with
    | some e => if t = t' ∧ tinfo P e = true ∧ (tzero P e).map (fun z => z.cells.size) = some (tsize P e) ∧ 0 < tsize P e ∧ rowsW (tsize P e) rows = true ∧ rowsW (tsize P e) news = true ∧ (rows.length + news.length) * tbytes P e ≤ 140737488355328 ∧ rows.length + news.length < 4611686018427387904 then
        match news with
        | [] => match o with
          | .full => .ok (.list .full rows, m)
          | _ => .error "append no"
        | _ :: _ =>
          if md then (match o with
            | .full => .ok (.marr m.nloc 0 (rows.length + news.length) (rows.length + news.length), m.new (.cells (rows.flatten ++ PV.stripL news.flatten)))
            | _ => .error "append mut")
          else match o with
            | .full => .ok (.list (.tok m.ntok) (rows ++ PV.stripR news), m.newTok (rows.length + news.length) (tsize P e))
            | .tok k => match m.toks.get k with
              | some (top, wd) => if k < m.ntok ∧ top = rows.length ∧ wd = tsize P e then
                  .ok (.list (.tok m.ntok) (rows ++ PV.stripR news), { m.newTok (rows.length + news.length) (tsize P e) with toks := (m.newTok (rows.length + news.length) (tsize P e)).toks.set k (DEAD, wd) }) else .error "append top"
              | none => .error "append tok"
            | .no => .error "append no"
      else .error "append cond"
    | none => .error "append type"
  | _, _, _ => .error "append"

/-- Operations one behind the other. -/
def eop (P : Program) (call : Call0) (callM : CallM) (md : Bool) (op : Op) (ρ : Operand → PV) (m : EM) : ER (RR × EM) :=
  let n : Operand → PV := fun x => nz (ρ x)
  match op with
  | .box _ x => match cells1 (n x) with | some cs => .ok (.ret (.loc m.nloc 0), m.new (.cells cs)) | none => .error "box"
  | .alloc e => match tzero P e with | some z => if zOK z then .ok (.ret (.loc m.nloc 0), m.new (.cells (zcells z))) else .error "alloc" | none => .error "alloc"
  | .load t x => match eload P t (n x) m with | .ok p => .ok (.ret p, m) | .error s => .error s
  | .store t x y => match estore P t (n x) (n y) m with | .ok m' => .ok (.ret .any, m') | .error s => .error s
  | .makeSlice t l c => match n l, n c, telem P t with
    | .v (.int _ k), .v (.int _ k'), some e => match tzero P e with
      | some z => if k = k' ∧ 0 ≤ k ∧ k < 4611686018427387904 ∧ tinfo P e = true ∧ tbytes P e * k ≤ 140737488355328 ∧ zOK z = true ∧ 0 < (zcells z).length then .ok (.ret (.marr m.nloc 0 k.toNat k.toNat), m.new (.cells (zrow (zcells z) (k.toNat * tsize P e)))) else .error "make"
      | none => .error "make"
    | _, _, _ => .error "make"
  | .range t x => match n x with | .v (.string s) => if tstr P t then .ok (.ret (.loc m.nloc 0), m.new (.iter s 0)) else .error "range" | _ => .error "range"
  | .next x true => match n x with
    | .loc k 0 => match m.iter k with
      | some (s, i) => if k < m.nloc then (if i < s.size then .ok (.ret (.tup [.v (.bool true), .v (.int .i64 i), .v (.int .i32 (Utf8.decode s i).1)]), m.put k (.iter s (i + (Utf8.decode s i).2))) else .ok (.ret (.tup [.v (.bool false)]), m)) else .error "next"
      | none => .error "next"
    | _ => .error "next"
  | .call c => match c.callee with
    | .value f => match n f with
      | .clo g first caps =>
        let args := first ++ c.args.toList.map (fun x => (n x).strip) ++ caps
        match call g args with
        | .ok r => .ok (r, m)
        | .error _ => callM g args m
      | _ => .error "callee"
    | .builtin .append => match c.args.toList with
      | [x, y] => match eappend P md c.argTypes.toList (n x) (n y) m with | .ok (p, m') => .ok (.ret p, m') | .error s => .error s
      | _ => .error "append"
    | .builtin .clear => match c.args.toList, c.argTypes.toList with
      | [x], [t] => match n x, telem P t with
        | .marr k off len _, some e => match tzero P e, m.cells k with
          | some z, some cs => if zOK z = true ∧ 0 < (zcells z).length ∧ k < m.nloc ∧ off + len * (zcells z).length ≤ cs.length then .ok (.ret .any, m.put k (.cells (setL cs off (zrow (zcells z) (len * (zcells z).length))))) else .error "clear"
          | _, _ => .error "clear"
        | _, _ => .error "clear"
      | _, _ => .error "clear"
    | _ => match eopS P call op ρ with | .ok p => .ok (.ret p, m) | .error s => .error s
  | .panic x => match n x with | .iface t y => .ok (.pan (.iface t y), m) | _ => .error "panic"
  | _ => match eopS P call op ρ with | .ok p => .ok (.ret p, m) | .error s => .error s

def ewant (N : Nat) (ops : Array Oper) (σ : AL PV) (o : Oper) : Option Bool :=
  match o.guard with
  | none => some true
  | some (j, want) => match opDst ops j with
    | some g => if g < N then (match σ.get g with | some (.v (.bool b)) => some (b == want) | some (.v _) => some false | _ => none) else none
    | none => none
def eops (P : Program) (call : Call0) (callM : CallM) (md : Bool) (N : Nat) (ops : Array Oper) : List Oper → AL PV → EM → ER (EX × AL PV × EM)
  | [], σ, m => .ok (.normal, σ, m)
  | o :: rest, σ, m =>
    if dstOK N o.dst then
      match ewant N ops σ o with
      | some true => match eop P call callM md o.op (opv (slt σ)) m with
        | .ok (.ret p, m') => eops P call callM md N ops rest (eput σ o.dst p) m'
        | .ok (.pan p, m') => .ok (.pan p, σ, m')
        | .error s => .error s
      | some false => eops P call callM md N ops rest (eput σ o.dst (.v undef)) m
      | none => .error "guard"
    else .error "dst"

/-! regions whose order is open -/
def ecls : Op → Cls
  | .load .. => .L
  | .box .. | .alloc _ => .A
  | .store .. | .makeSlice .. | .range .. | .next .. | .panic _ => .W
  | .call c => match c.callee with | .builtin .append | .builtin .clear => .W | _ => .S
  | _ => .S
/-- May operation i, that looks at its operands alone (s) or reads what was there, be taken first? bef: what comes behind what. -/
def canTakeD (s : Bool) (cls : List Cls) (ops : Array Oper) (bef : Array Nat) (listed : Array Bool) (i : Nat) : Bool :=
  match ops[i]? with
  | none => false
  | some oi => (cls.getD i .W == if s then .S else .L) && (Region.ready .any ops listed).contains i && (List.range ops.size).all fun j =>
    if (bef.getD j 0).testBit i then
      !listed.getD j true && (match ops[j]? with | some oj => oj.after.any fun e => Region.binds .any e && (e.on == i || (bef.getD e.on 0).testBit i) | none => false)
    else j == i || listed.getD j true || (match ops[j]? with | some oj => oi.apart ops oj && (s || goesWithL (cls.getD j .W)) | none => false)
def eplan (cls : List Cls) (ops : Array Oper) (bef : Array Nat) : Nat → Array Bool → Option (List Nat)
  | 0, listed => match Region.ready .any ops listed with | [] => some [] | _ => none
  | n + 1, listed => match Region.ready .any ops listed with
    | [] => none
    | [i] => (eplan cls ops bef n (listed.setIfInBounds i true)).map (i :: ·)
    | rs => match rs.find? fun i => canTakeD (cls.getD i .W == .S) cls ops bef listed i with
      | some i => (eplan cls ops bef n (listed.setIfInBounds i true)).map (i :: ·)
      | none => none
def edraw (P : Program) (call : Call0) (callM : CallM) (N : Nat) (ops : Array Oper) (cls : List Cls) : List Nat → AL PV → EM → ER (EX × AL PV × EM)
  | [], σ, m => .ok (.normal, σ, m)
  | i :: rest, σ, m => match ops[i]? with
    | none => .error "draw"
    | some o => if dstOK N o.dst then
        match ewant N ops σ o with
        | some false => edraw P call callM N ops cls rest (eput σ o.dst (.v undef)) m
        | some true => match cls.getD i .W with
          | .S => match eopS P call o.op (opv (slt σ)) with
            | .ok p => edraw P call callM N ops cls rest (eput σ o.dst p) m
            | .error s => .error s
          | .L => match o.op with
            | .load t x => match eload P t (nz (opv (slt σ) x)) m with
              | .ok p => edraw P call callM N ops cls rest (eput σ o.dst p) m
              | .error s => .error s
            | _ => .error "draw L"
          | .R => .error "draw R"
          | .A => match o.op with
            | .box _ x => match cells1 (nz (opv (slt σ) x)) with | some cs => edraw P call callM N ops cls rest (eput σ o.dst (.loc m.nloc 0)) (m.new (.cells cs)) | none => .error "box"
            | .alloc e => match tzero P e with | some z => if zOK z then edraw P call callM N ops cls rest (eput σ o.dst (.loc m.nloc 0)) (m.new (.cells (zcells z))) else .error "alloc" | none => .error "alloc"
            | _ => .error "draw A"
          | .W => match eop P call callM false o.op (opv (slt σ)) m with
            | .ok (.ret p, m') => edraw P call callM N ops cls rest (eput σ o.dst p) m'
            | .ok (.pan p, m') => .ok (.pan p, σ, m')
            | .error s => .error s
        | none => .error "guard"
      else .error "dst"
def edrawW (ops : List Oper) : List Cls := ops.map fun o => match o.op with | .call c => (match c.callee with | .value _ => .W | _ => ecls o.op) | _ => ecls o.op
def eregion (P : Program) (call : Call0) (callM : CallM) (md : Bool) (N : Nat) (ops : Array Oper) (draw : Bool) (σ : AL PV) (m : EM) : ER (EX × AL PV × EM) :=
  if draw then
    let n := ops.toList.length
    let one (cls : List Cls) : ER (EX × AL PV × EM) := match eplan cls ops (Region.before ops) n (Array.replicate n false) with
      | some pl => edraw P call callM N ops cls pl σ m
      | none => .error "plan"
    if P.follows .mixedOrders then
      match one (ops.toList.map fun o => ecls o.op) with
      | .ok r => .ok r
      | .error s => match one (edrawW ops.toList) with | .ok r => .ok r | .error _ => .error s
    else .error "orders"
  else eops P call callM md N ops ops.toList σ m

/-! functions -/
structure ECfg where
  spc : CallM → FuncId → List PV → Option (ER PV)
  muts : List Nat
  frz : AL Nat
abbrev CodeF := Nat → Bool → Code → AL PV → EM → ER (EX × AL PV × EM)
def slots : Nat → List PV → AL PV
  | _, [] => []
  | k, x :: xs => (k, x) :: slots (k + 1) xs
def eres (P : Program) (σ : AL PV) (m : EM) : ResultVar → ER PV
  | .tmp t => .ok (slt σ t)
  | .cell a t => eload P t (slt σ a) m
def eresL (P : Program) (σ : AL PV) (m : EM) : List ResultVar → ER (List PV)
  | [] => .ok []
  | r :: rs => match eres P σ m r with
    | .ok p => match eresL P σ m rs with
      | .ok ps => .ok (p :: ps)
      | .error s => .error s
    | .error s => .error s
/-- A function's body, run: what it hands back, and all the memory that there is then. -/
def ebody (P : Program) (ih : CodeF) (md : Bool) (f : FuncId) (args : List PV) (m : EM) : ER (RR × EM) :=
  match P.funcs[f]? with
  | some fn => match fn.body with
    | some c => if (fn.name == "runtime.NumGoroutine") = false ∧ args.length ≤ fn.ntmps then
        match ih fn.ntmps md c (slots 0 args) m with
        | .ok (.pan p, _, m') => .ok (.pan p.strip, m')
        | .ok (.ret, σ, m') => (match fn.results.toList with
          | [r] => match eres P σ m' r with | .ok p => .ok (.ret p.strip, m') | .error s => .error s
          | rs => match eresL P σ m' rs with | .ok ps => .ok (.ret (PV.tup ps).strip, m') | .error s => .error s)
        | .ok (.normal, σ, m') => (match fn.results.toList with
          | [r] => match eres P σ m' r with | .ok p => .ok (.ret p.strip, m') | .error s => .error s
          | rs => match eresL P σ m' rs with | .ok ps => .ok (.ret (PV.tup ps).strip, m') | .error s => .error s)
        | .ok _ => .error "exit"
        | .error s => .error s
      else .error "body"
    | none => .error "no body"
  | none => .error "no function"
/-- All variables frozen. -/
def efz (w : Nat) : AL Ent → PV → EM → PV × EM
  | [], p, m => (p, m)
  | (n, _) :: l, p, m => match m.cells n with
    | some cs => if n < m.nloc then efz w l (p.fz n w cs) (m.put n .gone) else efz w l p m
    | none => efz w l p m
def RR.scb (nl nt : Nat) : RR → Bool | .ret p => p.scb nl nt | .pan p => p.scb nl nt
def efin (cfg : ECfg) (f : FuncId) (r : RR) (m : EM) : RR :=
  match r, cfg.frz.get f with
  | .ret p, some w => .ret (efz w m.locs p m).1
  | r, _ => r
def call0 (P : Program) (cfg : ECfg) (ih : CodeF) (callM : CallM) : Call0 := fun f args =>
  match cfg.spc callM f args with
  | some (.ok p) => .ok (.ret p)
  | some (.error s) => .error s
  | none =>
    if cfg.muts.contains f = false && PV.scLb 0 0 args then
      match ebody P ih false f args EM.empty with
      | .ok (r, m') =>
        if (efin cfg f r m').scb 0 0 = true then .ok (efin cfg f r m') else .error "open result"
      | .error s => .error s
    else .error "open arguments"
def entb (nl nt : Nat) : AL Ent → Bool
  | [] => true
  | (_, .cells cs) :: l => PV.scLb nl nt cs && entb nl nt l
  | _ :: l => entb nl nt l
def callM1 (P : Program) (cfg : ECfg) (ih : CodeF) : CallM := fun f args m =>
  if cfg.muts.contains f then ebody P ih true f args m
  else match ebody P ih false f args m with
    | .ok (r, m') =>
      let m'' : EM := { m' with locs := m'.locs.dropWhile (fun x => decide (m.nloc ≤ x.1)), nloc := m.nloc }
      if m.ntok ≤ m'.ntok ∧ m.nloc ≤ m'.nloc ∧ entb m.nloc m'.ntok m''.locs = true ∧ r.scb m.nloc m'.ntok = true then .ok (r, m'') else .error "leaves"
    | .error s => .error s
def ecode1 (P : Program) (cfg : ECfg) (ih : CodeF) : CodeF := fun N md c σ m =>
  match c with
  | .skip => .ok (.normal, σ, m)
  | .label _ => .ok (.normal, σ, m)
  | .exit i => .ok (.exit i, σ, m)
  | .goto i => .ok (.goto i, σ, m)
  | .ret => .ok (.ret, σ, m)
  | .seq a b => match ih N md a σ m with
    | .ok (.normal, σ', m') => ih N md b σ' m'
    | r => r
  | .cond c a b => match opv (slt σ) c with
    | .v (.bool true) => ih N md a σ m
    | .v (.bool false) => ih N md b σ m
    | _ => .error "cond"
  | .block i b => match ih N md b σ m with
    | .ok (.exit j, σ', m') => if j = i then .ok (.normal, σ', m') else .ok (.exit j, σ', m')
    | r => r
  | .loop b => match ih N md b σ m with
    | .ok (.normal, σ', m') => ih N md (.loop b) σ' m'
    | r => r
  | .region _ ops draw => eregion P (call0 P cfg ih (callM1 P cfg ih)) (callM1 P cfg ih) md N ops draw σ m
  | _ => .error "code"
noncomputable def ecode (P : Program) (cfg : ECfg) : Nat → CodeF := fun n => Nat.rec (fun _ _ _ _ _ => .error "fuel") (fun _ ih => ecode1 P cfg ih) n
noncomputable def ecall (P : Program) (cfg : ECfg) (n : Nat) : Call0 := call0 P cfg (ecode P cfg n) (callM1 P cfg (ecode P cfg n))
end Go.Ab
/- The abstract layer, 21: the computed run is sound: operations. Over any program. -/
namespace Go.Ab
open Go.RowKit

section
variable {α : Type}
theorem AL.get_set (l : AL α) (n : Nat) (y : α) (i : Nat) : (AL.set l n y).get i = if i = n then some y else l.get i := by
  induction l with
  | nil => simp only [AL.set, AL.get]
  | cons x l ih =>
    obtain ⟨k, x⟩ := x
    simp only [AL.set]
    by_cases h : n = k
    · subst h
      simp only [if_true, AL.get]
      by_cases h2 : i = n <;> simp [h2]
    · simp only [if_neg h, AL.get, ih]
      by_cases h2 : i = k
      · subst h2; simp [Ne.symm h]
      · simp [h2]
end

theorem St.ext {a b : St} (h1 : a.loc = b.loc) (h2 : a.lp = b.lp) (h3 : a.nloc = b.nloc) (h4 : a.top = b.top) (h5 : a.wd = b.wd) (h6 : a.ntok = b.ntok) (h7 : a.it = b.it) (h8 : a.arr = b.arr := by rfl) : a = b := by
  cases a; cases b; simp_all

theorem st_empty : EM.empty.st = St.empty := by
  refine St.ext ?_ ?_ rfl ?_ ?_ rfl ?_ <;> funext i <;> rfl
theorem st_new_cells (m : EM) (cs : List PV) : (m.new (.cells cs)).st = m.st.newLoc cs := by
  refine St.ext ?_ ?_ rfl rfl rfl rfl ?_ <;> funext i
  · show entC (AL.get ((m.nloc, Ent.cells cs) :: m.locs) i) = upd m.cells m.nloc (some cs) i
    simp only [AL.get, upd]
    by_cases h : i = m.nloc <;> simp [h, entC, EM.cells]
  · show none = upd (fun _ => none) m.nloc none i
    simp [upd]
  · show entI (AL.get ((m.nloc, Ent.cells cs) :: m.locs) i) = upd m.iter m.nloc none i
    simp only [AL.get, upd]
    by_cases h : i = m.nloc <;> simp [h, entI, EM.iter]
theorem st_new_iter (m : EM) (s : ByteArray) (j : Nat) : (m.new (.iter s j)).st = m.st.newIt s j := by
  refine St.ext ?_ ?_ rfl rfl rfl rfl ?_ <;> funext i
  · show entC (AL.get ((m.nloc, Ent.iter s j) :: m.locs) i) = upd m.cells m.nloc none i
    simp only [AL.get, upd]
    by_cases h : i = m.nloc <;> simp [h, entC, EM.cells]
  · show none = upd (fun _ => none) m.nloc none i
    simp [upd]
  · show entI (AL.get ((m.nloc, Ent.iter s j) :: m.locs) i) = upd m.iter m.nloc (some (s, j)) i
    simp only [AL.get, upd]
    by_cases h : i = m.nloc <;> simp [h, entI, EM.iter]
theorem cells_iter {m : EM} {n : Nat} {cs : List PV} (h : m.cells n = some cs) : m.iter n = none := by
  unfold EM.cells entC at h; unfold EM.iter entI
  split at h
  · rename_i e; rw [e]
  · cases h
theorem iter_cells {m : EM} {n : Nat} {x : ByteArray × Nat} (h : m.iter n = some x) : m.cells n = none := by
  unfold EM.iter entI at h; unfold EM.cells entC
  split at h
  · rename_i e; rw [e]
  · cases h
theorem put_cells (m : EM) (n : Nat) (e : Ent) (i : Nat) : (m.put n e).cells i = if i = n then entC (some e) else m.cells i := by
  show entC (AL.get (AL.set m.locs n e) i) = _
  rw [AL.get_set]
  by_cases h : i = n <;> simp [h, EM.cells]
theorem put_iter (m : EM) (n : Nat) (e : Ent) (i : Nat) : (m.put n e).iter i = if i = n then entI (some e) else m.iter i := by
  show entI (AL.get (AL.set m.locs n e) i) = _
  rw [AL.get_set]
  by_cases h : i = n <;> simp [h, EM.iter]
theorem st_put_cells {m : EM} {n : Nat} {cs : List PV} (h : m.cells n = some cs) (cs' : List PV) : (m.put n (.cells cs')).st = m.st.setLoc n cs' := by
  refine St.ext ?_ rfl rfl rfl rfl rfl ?_ <;> funext i
  · exact put_cells m n _ i
  · show (m.put n _).iter i = m.iter i
    rw [put_iter]
    by_cases e : i = n
    · subst e; simp [entI, cells_iter h]
    · simp [e]
theorem st_put_gone {m : EM} {n : Nat} {cs : List PV} (h : m.cells n = some cs) : (m.put n .gone).st = m.st.dropLoc n := by
  refine St.ext ?_ rfl rfl rfl rfl rfl ?_ <;> funext i
  · exact put_cells m n _ i
  · show (m.put n _).iter i = m.iter i
    rw [put_iter]
    by_cases e : i = n
    · subst e; simp [entI, cells_iter h]
    · simp [e]
theorem st_put_iter {m : EM} {n : Nat} {x : ByteArray × Nat} (h : m.iter n = some x) (s : ByteArray) (j : Nat) : (m.put n (.iter s j)).st = m.st.setIt n s j := by
  refine St.ext ?_ rfl rfl rfl rfl rfl ?_ <;> funext i
  · show (m.put n _).cells i = m.cells i
    rw [put_cells]
    by_cases e : i = n
    · subst e; simp [entC, iter_cells h]
    · simp [e]
  · exact put_iter m n _ i
theorem st_newTok (m : EM) (n w : Nat) : (m.newTok n w).st = m.st.newTok n w := by
  refine St.ext rfl rfl rfl ?_ ?_ rfl rfl (by funext i; simp [St.newTok, EM.st, upd]) <;> funext i
  · show oTop (AL.get ((m.ntok, n, w) :: m.toks) i) = upd m.st.top m.ntok n i
    simp only [AL.get, upd]
    by_cases h : i = m.ntok <;> simp [h, EM.st, oTop]
  · show oWd (AL.get ((m.ntok, n, w) :: m.toks) i) = upd m.st.wd m.ntok w i
    simp only [AL.get, upd]
    by_cases h : i = m.ntok <;> simp [h, EM.st, oWd]
theorem st_killTok (m : EM) (k : Nat) {t wd : Nat} (h : m.toks.get k = some (t, wd)) : ({ m with toks := m.toks.set k (DEAD, wd) } : EM).st = m.st.killTok k := by
  refine St.ext rfl rfl rfl ?_ ?_ rfl rfl <;> funext i
  · show oTop (AL.get (m.toks.set k (DEAD, wd)) i) = upd m.st.top k DEAD i
    rw [AL.get_set]
    simp only [upd]
    by_cases h : i = k <;> simp [h, EM.st, oTop]
  · show oWd (AL.get (m.toks.set k (DEAD, wd)) i) = m.st.wd i
    rw [AL.get_set]
    by_cases e : i = k
    · subst e; simp [EM.st, h, oWd]
    · simp [e, EM.st]

theorem slt_eput (σ : AL PV) (d : Option Tmp) (p : PV) : slt (eput σ d p) = put (slt σ) d p := by
  cases d with
  | none => rfl
  | some d =>
    funext i
    show oAny (AL.get (AL.set σ d p) i) = upd (slt σ) d p i
    rw [AL.get_set]
    simp only [upd]
    by_cases h : i = d <;> simp [h, slt, oAny]

section
variable {P : Program} {m : EM} {K Kp : PV → St → Prop} {s : St}

theorem nz_rep (p : PV) (Γ : Ctx) (w : World) (u : Value) (h : VRep Γ w p u) : VRep Γ w (nz p) u := by
  unfold nz
  split
  · replace h : u = _ := h
    subst h
    exact ⟨none, 0, rfl, Nat.le_refl _, fun _ => rfl, (fun ad h => by cases h), rfl⟩
  · exact h
theorem rowsW_spec {n : Nat} {rows : List (List PV)} (h : rowsW n rows = true) : RowsW n rows := fun r hr => by
  have := List.all_eq_true.1 h r hr
  simpa using this

theorem eload_sound {t : TypeId} {x : PV} {p : PV} (h : eload P t x m = .ok p) (hk : K p m.st) : aload P t x m.st K := by
  unfold eload at h
  split at h
  · rename_i ht
    refine ⟨ht, ?_⟩
    split at h
    · rename_i cs
      simp only
      split at h
      · rename_i ha
        split at h
        · rename_i hl; cases h; rw [if_pos ha]; exact ⟨hl, hk⟩
        · cases h
      · rename_i ha
        rw [if_neg ha]
        split at h
        · rename_i c hc; cases h; simp only [hc]; exact hk
        · cases h
    · rename_i n off
      split at h
      · rename_i cs hc
        have hc' : m.st.loc n = some cs := hc
        simp only [hc']
        split at h
        · rename_i hn
          refine ⟨hn, ?_⟩
          split at h
          · rename_i ha
            split at h
            · rename_i hl; cases h; rw [if_pos ha]; exact ⟨hl, hk⟩
            · cases h
          · rename_i ha
            rw [if_neg ha]
            split at h
            · rename_i c hc; cases h; simp only [hc]; exact hk
            · cases h
        · cases h
      · cases h
    · cases h
  · cases h
theorem eload_ext {t : TypeId} {x : PV} {p : PV} (h : eload P t x m = .ok p) {s : St} (he : Ext m.st s) (hk : K p s) : aload P t x s K := by
  have h0 := eload_sound (K := fun q s' => q = p ∧ s' = m.st) h ⟨rfl, rfl⟩
  obtain ⟨ht, h0⟩ := h0
  refine ⟨ht, ?_⟩
  cases x <;> simp only at h0 ⊢
  case ro cs =>
    by_cases ha : tagg P t = true
    · rw [if_pos ha] at h0 ⊢
      exact ⟨h0.1, h0.2.1 ▸ hk⟩
    · rw [if_neg ha] at h0 ⊢
      cases hc : cs[0]? with
      | none => rw [hc] at h0; exact h0.elim
      | some c => rw [hc] at h0; exact h0.1 ▸ hk
  case loc n off =>
    cases hl : m.st.loc n with
    | none => rw [hl] at h0; exact h0.elim
    | some cs =>
      rw [hl] at h0
      obtain ⟨hn, h0⟩ := h0
      rw [he.loc n hn, hl]
      simp only
      refine ⟨Nat.lt_of_lt_of_le hn he.nloc, ?_⟩
      by_cases ha : tagg P t = true
      · rw [if_pos ha] at h0 ⊢
        exact ⟨h0.1, h0.2.1 ▸ hk⟩
      · rw [if_neg ha] at h0 ⊢
        cases hc : cs[off]? with
        | none => rw [hc] at h0; exact h0.elim
        | some c => rw [hc] at h0; exact h0.1 ▸ hk
theorem estore_sound {t : TypeId} {x y : PV} {m' : EM} (h : estore P t x y m = .ok m') (hk : K .any m'.st) : astore P t x y m.st K := by
  unfold estore at h
  split at h
  · rename_i ht
    refine ⟨ht, ?_⟩
    split at h
    · rename_i n off xs hxs
      simp only [hxs]
      split at h
      · rename_i cs hc
        have hc' : m.st.loc n = some cs := hc
        simp only [hc']
        split at h
        · rename_i hq; cases h
          rw [st_put_cells hc] at hk
          exact ⟨hq.1, hq.2.1, hq.2.2, hk⟩
        · cases h
      · cases h
    · cases h
  · cases h
theorem ebuild_sound {t : TypeId} {parts : List (Nat × PV)} {p : PV} (h : ebuild P t parts = .ok p) (hk : K p s) : abuild P t parts s K := by
  unfold ebuild at h; unfold abuild
  split at h
  · rename_i z hz
    simp only [hz]
    split at h
    · rename_i hq
      simp only [Bool.and_eq_true] at hq
      refine ⟨hq.1, hq.2, ?_⟩
      split at h
      · rename_i hf
        left
        refine ⟨hf, ?_⟩
        split at h
        · rename_i cs hcs; cases h; simp only [hcs]; exact hk
        · cases h
      · right
        split at h
        · rename_i n e ha
          split at h
          · rename_i he
            refine ⟨n, e, ha, he, ?_⟩
            split at h
            · rename_i cs hcs; cases h; simp only [hcs]; exact hk
            · cases h
          · cases h
        · cases h
    · cases h
  · cases h
theorem ebuildSlice_sound {t : TypeId} {len : Nat} {parts : List (Nat × PV)} {p : PV} (h : ebuildSlice P t len parts = .ok p) (hk : K p s) : abuildSlice P t len parts s K := by
  unfold ebuildSlice at h; unfold abuildSlice
  split at h
  · rename_i e he
    simp only [he]
    split at h
    · rename_i hq
      refine ⟨hq.1, hq.2, ?_⟩
      split at h
      · rename_i z hz
        simp only [hz]
        split at h
        · rename_i hq2
          refine ⟨hq2.1, hq2.2, ?_⟩
          split at h
          · rename_i cs hcs; cases h; simp only [hcs]; exact hk
          · cases h
        · cases h
      · cases h
    · cases h
  · cases h
theorem ebinop_sound {op : BinOp} {t : TypeId} {x y p : PV} (h : ebinop P op t x y = .ok p) (hk : K p s) : abinop P op t x y s K := by
  unfold ebinop at h
  split at h
  · split at h
    · rename_i ht
      unfold abinop
      refine ⟨ht, ?_⟩
      split at h
      · cases h; exact hk
      · cases h; exact hk
      · cases h
    · cases h
  · rename_i a b hne
    unfold abinop
    split at h
    · rename_i r hr
      cases h
      split
      · rename_i a' b' e1 e2
        cases e1; cases e2
        exact (hne _ _ rfl rfl).elim
      · rename_i a' b' _ e1 e2
        cases e1; cases e2
        simp only [hr]; exact hk
      · rename_i e1 _; cases e1
      · rename_i h1 h2 h3; exact (h2 a b rfl rfl).elim
    · cases h
  · rename_i o r rs
    split at h
    · rename_i ht
      unfold abinop
      simp only
      refine ⟨ht, ?_⟩
      split at h
      · cases h
        intro b hb
        cases b
        · exact hk
        · exact absurd (hb rfl) (by simp)
      · cases h
        intro b hb
        cases b
        · exact absurd (hb rfl) (by simp)
        · exact hk
      · cases h
    · cases h
  · cases h
theorem eunop_sound {op : UnOp} {x p : PV} (h : eunop op x = .ok p) (hk : K p s) : aunop op x s K := by
  unfold eunop at h; unfold aunop
  split at h <;> first | (cases h; done) | (cases h; exact hk)
theorem econvert_sound {a d : TypeId} {x p : PV} (h : econvert P a d x = .ok p) (hk : K p s) : aconvert P a d x s K := by
  unfold econvert at h; unfold aconvert
  split at h
  · rename_i k n k' hk'
    split at h
    · rename_i ht; cases h; simp only [hk']; exact ⟨ht, hk⟩
    · cases h
  · cases h
theorem efieldAddr_sound {t f : Nat} {x p : PV} (h : efieldAddr P t x f = .ok p) (hk : K p s) : afieldAddr P t x f s K := by
  unfold efieldAddr at h; unfold afieldAddr
  split at h
  · rename_i o ft hf
    simp only [hf]
    split at h
    · rename_i hq
      refine ⟨hq.1, hq.2, ?_⟩
      split at h
      · cases h; exact hk
      · cases h; exact hk
      · cases h
    · cases h
  · cases h
theorem epart_sound {t off : Nat} {cs : List PV} {p : PV} (h : epart P t cs off = .ok p) (hk : K p s) : apart P t cs off s K := by
  unfold epart at h; unfold apart
  split at h
  · rename_i ht
    refine ⟨ht, ?_⟩
    split at h
    · rename_i ha; cases h; rw [if_pos ha]; exact hk
    · rename_i ha
      rw [if_neg ha]
      split at h
      · rename_i c hc; cases h; simp only [hc]; exact hk
      · cases h
  · cases h
theorem efield_sound {t f : Nat} {x p : PV} (h : efield P t x f = .ok p) (hk : K p s) : afield P t x f s K := by
  unfold efield at h; unfold afield
  split at h
  · rename_i o ft cs hf; simp only [hf]; exact epart_sound h hk
  · cases h
theorem eindexAddr_sound {t : Nat} {x i p : PV} (h : eindexAddr P t x i = .ok p) (hk : K p s) : aindexAddr P t x i s K := by
  unfold eindexAddr at h; unfold aindexAddr
  split at h
  · rename_i e k n he
    simp only [he]
    split at h
    · rename_i hq
      refine ⟨hq.1, hq.2, ?_⟩
      split at h
      · split at h
        · rename_i hq2; cases h; exact ⟨hq2.1, rowsW_spec hq2.2, hk⟩
        · cases h
      · split at h
        · rename_i hq2; cases h; exact ⟨hq2, hk⟩
        · cases h
      · cases h
    · cases h
  · cases h
theorem eindex_sound {t : Nat} {x i p : PV} (h : eindex P t x i = .ok p) (hk : K p s) : aindex P t x i s K := by
  unfold eindex at h; unfold aindex
  split at h
  · split at h
    · rename_i len e ha
      simp only [ha]
      split at h
      · rename_i hq; exact ⟨hq.1, hq.2.1, hq.2.2, epart_sound h hk⟩
      · cases h
    · cases h
  · split at h
    · rename_i hq; cases h; exact ⟨hq.1, hq.2.1, hq.2.2, hk⟩
    · cases h
  · cases h
theorem eextract_sound {x p : PV} {i : Nat} (h : eextract x i = .ok p) (hk : K p s) : aextract x i s K := by
  unfold eextract at h; unfold aextract
  split at h
  · split at h
    · rename_i q hq; cases h; simp only [hq]; exact hk
    · cases h
  · cases h
theorem eslice_sound {t : Nat} {x p : PV} {lo hi mx : Option PV} (h : eslice P t x lo hi mx = .ok p) (hk : K p s) : aslice P t x lo hi mx s K := by
  unfold eslice at h; unfold aslice
  split at h
  · split at h
    · rename_i e l hh he hl hhe
      simp only [he, hl, hhe]
      split at h
      · rename_i hq; cases h; exact ⟨hq.1, rowsW_spec hq.2.1, hq.2.2.1, hq.2.2.2.1, hq.2.2.2.2, hk⟩
      · cases h
    · rename_i e l hh k q he hl hhe
      simp only [he, hl, hhe]
      split at h
      · rename_i hq; cases h; exact ⟨hq.1, rowsW_spec hq.2.1, hq.2.2.1, hq.2.2.2.1, hq.2.2.2.2.1, hq.2.2.2.2.2.1, hq.2.2.2.2.2.2, hk⟩
      · cases h
    · cases h
  · split at h
    · rename_i e l hh he hl hhe
      simp only [he, hl, hhe]
      split at h
      · rename_i hq; cases h; exact ⟨hq.1, hq.2.1, hq.2.2.1, hq.2.2.2.1, hq.2.2.2.2.1, hq.2.2.2.2.2, hk⟩
      · cases h
    · cases h
  · split at h
    · rename_i l hh hl hhe
      simp only [hl, hhe]
      split at h
      · rename_i hq; cases h; exact ⟨hq.1, hq.2.1, hq.2.2.1, hq.2.2.2, hk⟩
      · cases h
    · cases h
  · cases h
theorem elen_sound {ts : List TypeId} {x p : PV} (h : elen P ts x = .ok p) (hk : K p s) : alen P ts x s K := by
  unfold elen at h; unfold alen
  split at h
  · split at h
    · rename_i ht; cases h; exact ⟨ht, hk⟩
    · cases h
  · split at h
    · rename_i ht; cases h; exact ⟨ht, hk⟩
    · cases h
  · split at h
    · rename_i ht; cases h; exact ⟨ht, hk⟩
    · cases h
  · cases h
end
end Go.Ab
/- The abstract layer, 22: the computed run is sound: regions. Over any program. -/
namespace Go.Ab
open Go.RowKit

def RR.toA : RR → ARes | .ret p => .ret p | .pan p => .pan p
def EX.toA : EX → AExit | .normal => .normal | .exit n => .exit n | .goto l => .goto l | .ret => .ret | .pan p => .pan p
/-- Calls by computation are right. -/
def Call0OK (P : Program) (call : Call0) : Prop := ∀ g args r, call g args = .ok r → ∀ s, ACall P g args s (fun r' s' => r' = r.toA ∧ s' = s)
def CallMOK (P : Program) (callM : CallM) : Prop := ∀ g args m r m', callM g args m = .ok (r, m') → ACall P g args m.st (fun r' s' => r' = r.toA ∧ s' = m'.st)

section
variable {P : Program} {call : Call0} {callM : CallM} {K Kp : PV → St → Prop} {s : St}

theorem OpOKo.weak {o : Oper} {ρ ρ' : Operand → PV} (hw : ∀ x Γ w u, VRep Γ w (ρ x) u → VRep Γ w (ρ' x) u) (h : OpOKo P o ρ' s K Kp) : OpOKo P o ρ s K Kp :=
  fun Γ ev w hm hv => h Γ ev w hm fun x hx => hw x Γ w _ (hv x hx)
theorem OpOKo.op {o : Oper} {ρ : Operand → PV} (h : OpOKo P o ρ s K Kp) : OpOK P o ρ s K Kp := fun Γ ev w hm hv => h Γ ev w hm fun x _ => hv x

theorem eopS_soundO (hc : Call0OK P call) {o : Oper} {ρ : Operand → PV} {p : PV} (h : eopS P call o.op ρ = .ok p) (s : St) : OpOKo P o ρ s (fun q s' => q = p ∧ s' = s) (fun _ _ => False) := by
  obtain ⟨Kx, hKx⟩ : ∃ Kx : PV → St → Prop, Kx = fun q s' => q = p ∧ s' = s := ⟨_, rfl⟩
  have kk : Kx p s := by rw [hKx]; exact ⟨rfl, rfl⟩
  rw [← hKx]
  have fin : aop P o.op (fun x => nz (ρ x)) s Kx (fun _ _ => False) → OpOKo P o ρ s Kx (fun _ _ => False) :=
    fun q => OpOKo.weak (fun x => nz_rep _) (aop_soundO o _ q)
  have fin2 : aop P o.op ρ s Kx (fun _ _ => False) → OpOKo P o ρ s Kx (fun _ _ => False) := fun q => aop_soundO o _ q
  obtain ⟨dst, op, ty, pos, after, guard⟩ := o
  simp only at h fin fin2 ⊢
  cases op <;> simp only [eopS] at h <;> simp only [aop] at fin fin2
  case move x => cases h; exact fin kk
  case assign x => cases h; exact fin kk
  case pick c a b =>
    refine fin ?_
    split at h
    · rename_i hb; cases h
      simp only [hb]
      unfold apick
      simp only
      split
      · rename_i e1 e2; rw [e1] at kk; exact kk
      · exact ⟨fun _ => kk, fun q => by cases q⟩
    · rename_i hb; cases h
      simp only [hb]
      unfold apick
      simp only
      split
      · rename_i e1 e2; rw [e2] at kk; exact kk
      · exact ⟨(fun q => by cases q), fun _ => kk⟩
    · cases h
  case build t parts => exact fin (ebuild_sound h kk)
  case buildSlice t len parts => exact fin (ebuildSlice_sound h kk)
  case nilCheck x =>
    refine fin ?_
    split at h
    · rename_i e; cases h; simp only [e, anil]; exact kk
    · rename_i e; cases h; simp only [e, anil]; exact kk
    · rename_i e; cases h; simp only [e, anil]; exact kk
    · cases h
  case binOp op t x y yt => exact fin2 (ebinop_sound h kk)
  case unOp op t x => exact fin (eunop_sound h kk)
  case convert a d x => exact fin (econvert_sound h kk)
  case makeInterface t x =>
    split at h
    · rename_i ht; cases h; exact fin ⟨ht, kk⟩
    · cases h
  case makeFunc fn first caps =>
    cases fn <;> simp only at h fin
    case func f => cases h; exact fin kk
    all_goals cases h
  case slice t x lo hi mx => exact fin (eslice_sound h kk)
  case fieldAddr t x f => exact fin (efieldAddr_sound h kk)
  case field t x f => exact fin (efield_sound h kk)
  case indexAddr t x i => exact fin (eindexAddr_sound h kk)
  case index t x i => exact fin (eindex_sound h kk)
  case extract x i => exact fin (eextract_sound h kk)
  case call c =>
    refine fin ?_
    unfold acall
    obtain ⟨callee, args, ts⟩ := c
    simp only at h ⊢
    cases callee with
    | value f =>
      simp only at h ⊢
      split at h
      · rename_i g first caps hf
        simp only [hf]
        split at h
        · rename_i q hq
          cases h
          refine (hc _ _ _ hq s).mono ?_
          rintro r s' ⟨rfl, rfl⟩
          exact kk
        · cases h
        · cases h
      · cases h
    | invoke r n => cases h
    | builtin b =>
      cases b <;> simp only at h ⊢ <;> try (cases h; done)
      case len =>
        split at h
        · rename_i x hx; simp only [hx]; exact elen_sound h kk
        · cases h
      case max =>
        unfold emax at h
        split at h
        · rename_i k a k' b hx; cases h; simp only [hx]; exact kk
        · cases h
      case min =>
        unfold emin at h
        split at h
        · rename_i k a k' b hx; cases h; simp only [hx]; exact kk
        · cases h
  all_goals cases h

theorem appD_full (m : EM) (n w : Nat) : m.st.appD .full n w = (m.newTok n w).st := (st_newTok m n w).symm

theorem eappend_sound {md : Bool} {o : Oper} {c : Call} {x y : Operand} {ρ : Operand → PV} {m m' : EM} {p : PV} (ho : o.op = .call c) (hcl : c.callee = .builtin .append) (ha : c.args.toList = [x, y])
    (h : eappend P md c.argTypes.toList (ρ x) (ρ y) m = .ok (p, m')) : OpOK P o ρ m.st (fun q s' => q = p ∧ s' = m'.st) (fun _ _ => False) := by
  unfold eappend at h
  split at h
  · rename_i t t' ow rows o2 news hts hx hy
    split at h
    · rename_i e he
      split at h
      · rename_i hq
        obtain ⟨rfl, h1, h2, h3, h4, h5, h6, h7⟩ := hq
        have hw1 := rowsW_spec h4
        have hw2 := rowsW_spec h5
        have main : appOK (tsize P e) m.st ow rows.length → ∀ K : PV → St → Prop, (∀ o' s', AppRes (tsize P e) m.st ow rows.length news.length o' s' → K (.list o' (rows ++ PV.stripR news)) s') → OpOK P o ρ m.st K (fun _ _ => False) := by
          intro hok K hK
          refine aop_sound o ρ ?_
          rw [ho]
          obtain ⟨callee, args, ts⟩ := c
          simp only at hcl ha hts
          subst hcl
          simp only [aop, acall, ha, hts, hx, hy]
          unfold aappend
          simp only [he]
          exact ⟨trivial, h1, h2, h3, hw1, hw2, h6, by omega, hok, hK⟩
        split at h
        · -- nothing is appended
          cases ow with
          | full =>
            simp only at h
            cases h
            refine main trivial _ fun o' s' hr => ?_
            rcases hr with ⟨_, rfl, rfl⟩ | ⟨h0, _⟩ | ⟨h0, _⟩
            · simp [PV.stripR]
            · simp at h0
            · simp at h0
          | tok k => simp only at h; cases h
          | no => simp only at h; cases h
        · rename_i r rs
          have hpos : 0 < (r :: rs).length := by simp
          split at h
          · cases ow <;> simp only at h
            case full =>
              cases h
              refine op_appendL ho hcl ha hts he h1 h2 hw1 hw2 h6 (by omega) hpos hx hy ⟨rfl, ?_⟩
              exact (st_new_cells _ _).symm
            all_goals cases h
          · cases ow <;> simp only at h
            case full =>
              cases h
              refine OpOK.sees (main trivial _ fun o' s' hr => ?_)
              exact ⟨_, _, appD_sees (m := m.st) (o := .full) trivial h7 hpos hr, rfl, appD_full _ _ _⟩
            case tok k =>
              split at h
              · rename_i top wd hk
                split at h
                · rename_i hq2
                  obtain ⟨hk1, rfl, rfl⟩ := hq2
                  cases h
                  have hok : appOK (tsize P e) m.st (.tok k) rows.length := by
                    refine ⟨hk1, ?_, ?_, rfl⟩
                    · show oTop (m.toks.get k) = _; rw [hk]; rfl
                    · show oWd (m.toks.get k) = _; rw [hk]; rfl
                  refine OpOK.sees (main hok _ fun o' s' hr => ?_)
                  refine ⟨_, _, appD_sees (m := m.st) (o := .tok k) hok h7 hpos hr, rfl, ?_⟩
                  have hk' : (m.newTok (rows.length + (r :: rs).length) (tsize P e)).toks.get k = some (rows.length, tsize P e) := by
                    show AL.get ((m.ntok, _, _) :: m.toks) k = _
                    simp only [AL.get]
                    rw [if_neg (by omega)]; exact hk
                  rw [st_killTok _ k hk', st_newTok]
                  rfl
                · cases h
              · cases h
            case no => cases h
      · cases h
    · cases h
  · cases h

theorem eop_sound (hc : Call0OK P call) (hM : CallMOK P callM) {md : Bool} {o : Oper} {ρ : Operand → PV} {m m' : EM} {r : RR} (h : eop P call callM md o.op ρ m = .ok (r, m')) :
    OpOK P o ρ m.st (fun q s' => r = .ret q ∧ s' = m'.st) (fun q s' => r = .pan q ∧ s' = m'.st) := by
  obtain ⟨Kx, hKx⟩ : ∃ Kx : PV → St → Prop, Kx = fun q s' => r = .ret q ∧ s' = m'.st := ⟨_, rfl⟩
  obtain ⟨Kp, hKp⟩ : ∃ Kp : PV → St → Prop, Kp = fun q s' => r = .pan q ∧ s' = m'.st := ⟨_, rfl⟩
  have kk : ∀ q, r = .ret q → Kx q m'.st := fun q e => by rw [hKx]; exact ⟨e, rfl⟩
  have kp : ∀ q, r = .pan q → Kp q m'.st := fun q e => by rw [hKp]; exact ⟨e, rfl⟩
  rw [← hKx, ← hKp]
  have finO : OpOK P o (fun x => nz (ρ x)) m.st Kx Kp → OpOK P o ρ m.st Kx Kp := fun q => OpOK.weak (fun x => nz_rep _) q
  have fin : aop P o.op (fun x => nz (ρ x)) m.st Kx Kp → OpOK P o ρ m.st Kx Kp := fun q => finO (aop_sound o _ q)
  have pure_ : ∀ p, eopS P call o.op ρ = .ok p → r = .ret p → m' = m → OpOK P o ρ m.st Kx Kp := by
    intro p hp hr hm
    refine (eopS_soundO hc hp m.st).op.mono ?_ (fun _ _ q => q.elim)
    rintro q s' ⟨rfl, rfl⟩
    have := kk q hr
    rwa [hm] at this
  cases hop : o.op
  case box t x =>
    rw [hop] at h fin; simp only [eop] at h; simp only [aop] at fin
    split at h
    · rename_i cs hcs; cases h
      refine fin ?_
      simp only [hcs]
      rw [show m.st.newLoc cs = (m.new (.cells cs)).st from (st_new_cells m cs).symm]
      exact kk _ rfl
    · cases h
  case alloc t =>
    rw [hop] at h fin; simp only [eop] at h; simp only [aop] at fin
    split at h
    · rename_i z hz
      split at h
      · rename_i hz1; cases h
        refine fin ?_
        simp only [hz]
        refine ⟨hz1, ?_⟩
        rw [show m.st.newLoc (zcells z) = (m.new (.cells (zcells z))).st from (st_new_cells m _).symm]
        exact kk _ rfl
      · cases h
    · cases h
  case load t x =>
    rw [hop] at h fin; simp only [eop] at h; simp only [aop] at fin
    split at h
    · rename_i p hp; cases h
      exact fin (eload_sound hp (kk _ rfl))
    · cases h
  case store t x y =>
    rw [hop] at h fin; simp only [eop] at h; simp only [aop] at fin
    split at h
    · rename_i p hp; cases h
      exact fin (estore_sound hp (kk _ rfl))
    · cases h
  case makeSlice t l c =>
    rw [hop] at h fin; simp only [eop] at h; simp only [aop] at fin
    split at h
    · rename_i k1 k k2 k' e hl hc' he
      split at h
      · rename_i z hz
        split at h
        · rename_i hq; cases h
          obtain ⟨h1, h2, h3, h4, h5, h6, h7⟩ := hq
          refine fin ?_
          unfold amakeSlice
          simp only [hl, hc', he, hz]
          refine ⟨h1, h2, h3, h4, h5, h6, h7, ?_⟩
          rw [← st_new_cells]
          exact kk _ rfl
        · cases h
      · cases h
    · cases h
  case range t x =>
    rw [hop] at h; simp only [eop] at h
    split at h
    · rename_i b hb
      split at h
      · rename_i ht; cases h
        refine finO (op_range hop ht hb ?_)
        rw [← st_new_iter]
        exact kk _ rfl
      · cases h
    · cases h
  case next x isS =>
    rw [hop] at h
    cases isS <;> simp only [eop] at h
    · cases h
    · split at h
      · rename_i k hk
        split at h
        · rename_i b i hi
          split at h
          · rename_i hlt
            refine finO (op_next (n := k) (s := b) (i := i) hop hk hlt hi (fun hlt2 => ?_) (fun hge => ?_))
            · rw [if_pos hlt2] at h; cases h
              rw [← st_put_iter hi]; exact kk _ rfl
            · rw [if_neg hge] at h; cases h; exact kk _ rfl
          · cases h
        · cases h
      · cases h
  case panic x =>
    rw [hop] at h fin; simp only [eop] at h; simp only [aop] at fin
    split at h
    · rename_i t y hx; cases h
      refine fin ?_
      simp only [hx]
      exact kp _ rfl
    · cases h
  case call c =>
    obtain ⟨callee, args, ts⟩ := c
    cases callee with
    | value f =>
      rw [hop] at h fin; simp only [eop] at h; simp only [aop, acall] at fin
      split at h
      · rename_i g first caps hf
        refine fin ?_
        simp only [hf]
        split at h
        · rename_i r' hr; cases h
          refine (hc _ _ _ hr m.st).mono ?_
          rintro r2 s' ⟨rfl, rfl⟩
          cases r <;> simp only [RR.toA]
          · exact kk _ rfl
          · exact kp _ rfl
        · refine (hM _ _ _ _ _ h).mono ?_
          rintro r2 s' ⟨rfl, rfl⟩
          cases r <;> simp only [RR.toA]
          · exact kk _ rfl
          · exact kp _ rfl
      · cases h
    | invoke q n =>
      rw [hop] at h pure_; simp only [eop] at h
      split at h
      · rename_i p hp; cases h; exact pure_ _ hp rfl rfl
      · cases h
    | builtin b =>
      rw [hop] at h pure_
      by_cases hb : b = .append
      · subst hb
        simp only [eop] at h
        split at h
        · rename_i x y hxy
          split at h
          · rename_i p m2 hp; cases h
            refine finO ((eappend_sound (ρ := fun x => nz (ρ x)) hop rfl hxy hp).mono ?_ (fun _ _ q => q.elim))
            rintro q s' ⟨rfl, rfl⟩
            exact kk _ rfl
          · cases h
        · cases h
      · by_cases hb2 : b = .clear
        · subst hb2
          simp only [eop] at h
          split at h
          · rename_i x t hx ht
            split at h
            · rename_i k off len cp e hk he
              split at h
              · rename_i z cs hz hcs
                split at h
                · rename_i hq; cases h
                  refine finO (op_clear (n := k) (off := off) (len := len) (cap := cp) (cs := cs) hop rfl hx ht he hz hq.1 hq.2.1 hk hq.2.2.1 hcs hq.2.2.2 ?_)
                  rw [← st_put_cells hcs]
                  exact kk _ rfl
                · cases h
              · cases h
            · cases h
          · cases h
        · have h' : (match eopS P call (.call ⟨.builtin b, args, ts⟩) ρ with | .ok p => Except.ok (RR.ret p, m) | .error s => .error s : ER (RR × EM)) = .ok (r, m') := by
            cases b <;> first | exact h | exact absurd rfl hb | exact absurd rfl hb2
          split at h'
          · rename_i p hp; cases h'; exact pure_ _ hp rfl rfl
          · cases h'
  all_goals
    rw [hop] at h pure_; simp only [eop] at h
    split at h
    · rename_i p hp; cases h; exact pure_ _ hp rfl rfl
    · cases h
end
end Go.Ab
