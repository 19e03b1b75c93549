/- Texts of the proof, part Lc: they prove nothing by themselves that is claimed. -/
import Derived.Test.YtgfadepkiejncaaGreatLb
import Derived.Test.YtgfadepkiejncaaGreatLa
import Derived.Lib.Bytealg
import Derived.Laws.Externs
import Derived.Lib.Strings
set_option linter.unusedVariables false
set_option linter.unusedSimpArgs false
namespace Go.Ab
open Go.RowKit
theorem wpListIn_app {F : Fence} {n : Nat} {P : Program} {ops : Array Oper} {Q Q' : Exit → Act → World → Prop} {l2 : List Oper} (h1 : ∀ a w, Q' .normal a w → wpListIn F n P ops Q l2 a w) (h2 : ∀ e a w, (∀ _ : e = .normal, False) → Q' e a w → Q e a w) : ∀ (l1 : List Oper) (a : Act) (w : World), wpListIn F n P ops Q' l1 a w → wpListIn F n P ops Q (l1 ++ l2) a w
  | [], a, w, h => h1 a w h
  | o :: rest, a, w, h => by
    have ih := wpListIn_app h1 h2 rest
    rw [List.cons_append]
    unfold wpListIn at h ⊢
    split at h
    · rename_i hw
      rw [if_pos hw]
      obtain ⟨ha, hh⟩ := h
      refine ⟨ha, ?_⟩
      generalize (o.semAt F.round a.eval).run P w = r at *
      have lo : LetsOut Q' → LetsOut Q := fun ⟨a, w, q⟩ => ⟨a, w, h2 _ _ _ (by simp) q⟩
      cases r with
      | ok x w' =>
        cases x <;> simp only [Oper.uponIn] at hh ⊢
        case value v => exact ih _ _ hh
        case skip => exact ih _ _ hh
        case defer d => exact ih _ _ hh
        case enter f args =>
          refine ⟨hh.1, CallsIn.mono hh.2 fun e w'' he => ?_⟩
          cases e with
          | returned v => exact ih _ _ he
          | panicked ch => exact h2 _ _ _ (by simp) he
          | outgrown => exact lo he
        case round l f tmps assign body =>
          refine ⟨hh.1, RoundIn.mono hh.2 fun e w'' he => ?_⟩
          cases e with
          | returned v => exact ih _ _ he
          | panicked ch => exact h2 _ _ _ (by simp) he
          | outgrown => exact lo he
        case row row args => exact ⟨hh.1, RowsIn.mono hh.2 fun v w'' he => ih _ _ he⟩
      | halt x w' =>
        cases x <;> simp only [Oper.uponIn] at hh ⊢
        case panic v => exact h2 _ _ _ (by simp) hh
    · rename_i hw
      rw [if_neg hw]
      exact ⟨h.1, ih _ _ h.2⟩
def FinDf (P : Program) (fn : Func) (m : St) (g : FuncId) (ds : List PV) (R : ARes → St → Prop) : APost
  | .normal, σ, m' => DCall P g ds m' none (fun m'' => ∃ p m3, ResP P fn.results.toList σ m'' p ∧ LvS m m'' m3 p.strip ∧ R (.ret p.strip) m3)
  | .ret, σ, m' => DCall P g ds m' none (fun m'' => ∃ p m3, ResP P fn.results.toList σ m'' p ∧ LvS m m'' m3 p.strip ∧ R (.ret p.strip) m3)
  | .pan pv, σ, m' => DCall P g ds m' (some pv) (fun m'' => ∃ p m3, ResP P fn.results.toList σ m'' p ∧ LvS m m'' m3 p.strip ∧ R (.ret p.strip) m3)
  | _, _, _ => False
section
variable {P : Program} {m m' m'' : St} {Γ Γ' : Ctx} {w w' : World}
theorem ACall.of_defer {f : FuncId} {fn : Func} {N id : Nat} {A B : Code} {pre : List Oper} {fo : Operand} {dargs : Array Operand} {ts : Array TypeId} {ty : TypeId} {pos : String} {after : Array Edge} {ops : Array Oper} {args : List PV} {R : ARes → St → Prop} (hf : P.funcs[f]? = some fn) (hN : fn.ntmps = N)
    (hb : fn.body = some (.seq A (.seq (.region id ops false) B))) (hops : ops.toList = pre ++ [⟨none, .defer ⟨.value fo, dargs, ts⟩, ty, pos, after, none⟩]) (hn : (fn.name == "runtime.NumGoroutine") = false) (ha : args.length ≤ N)
    (h : AW P N A (AExit.then (fun σ m1 => AList P N ops (AExit.then (fun σ2 m2 => ∃ g first caps, Ab.opv σ2 fo = .clo g first caps ∧ AW P N B (FinDf P fn m g (first ++ dargs.toList.map (Ab.opv σ2) ++ caps) R) σ2 m2) (fun _ _ _ => False)) pre σ m1) (fun _ _ _ => False)) (slots0 args) m) : ACall P f args m R := by
  subst hN
  refine ⟨⟨fn, _, hf, hb, hn⟩, fun Γ w us hm hr => ?_⟩
  have hl : us.length = args.length := LRep.len _ _ hr
  refine callsIn_wide.1 (callsIn_of_wp_marks (F := Fence.wide) (n := 0) hf hb trivial ?_)
  refine wpIn_seq (wpIn_mono (h (Γ.withX (Γ.x.into w.heap.size)) { tmps := us.toArray ++ Array.replicate (fn.ntmps - us.toArray.size) undef, defers := [] } w ⟨?_, ⟨[], rfl, List.nodup_nil, fun _ h => by cases h⟩, hm.withX _ hm.xs.into, fun t => ?_⟩) ?_)
  · simp; omega
  · refine VRep.withX ?_ _
    unfold slots0
    by_cases ht : t < args.length
    · rw [List.getD_eq_getElem?_getD, List.getElem?_eq_getElem ht]
      obtain ⟨u, h1, h2⟩ := LRep.get _ _ hr t _ (List.getElem?_eq_getElem ht)
      have : (us.toArray ++ Array.replicate (fn.ntmps - us.toArray.size) undef).getD t undef = u := by
        rw [Array.getD_eq_getD_getElem?, Array.getElem?_append_left (by simp; omega)]
        simp [h1]
      rw [this]
      exact h2
    · rw [List.getD_eq_getElem?_getD, List.getElem?_eq_none (by omega)]
      trivial
  -- behind A
  rintro e₁ a₁ w₁ ⟨x₁, σ₁, m₁, Γ₁, h1, h2, h3, h4, h5⟩
  cases x₁ <;> simp only [AExit.then] at h1
  cases e₁ <;> simp only [XRep] at h2
  simp only [Exit.then]
  refine wpIn_seq (wpIn_region_list ?_)
  have hrnd1 : Γ₁.x.rnd = none := h4.x.rnd
  have hA := h1 Γ₁ a₁ w₁ h3
  rw [hrnd1] at hA
  rw [hops]
  refine wpListIn_app (Q' := fun e a w => match e with | .normal => ∃ σ₂ m₂ Γ₂, (∃ g first caps, Ab.opv σ₂ fo = .clo g first caps ∧ AW P fn.ntmps B (FinDf P fn m g (first ++ dargs.toList.map (Ab.opv σ₂) ++ caps) R) σ₂ m₂) ∧ Sim Γ₂ fn.ntmps σ₂ m₂ a w ∧ Γ₁.le Γ₂ ∧ Keeps Γ₁ w₁ w | _ => False) ?_ (fun e a w hne hq => by cases e <;> first | exact (hne rfl).elim | exact hq.elim) pre a₁ w₁ ?_
  rotate_left
  · refine wpList_mono (Q := Post Γ₁ w₁ fn.ntmps _) ?_ pre a₁ w₁ hA
    rintro e a w₂ ⟨x₂, σ₂, m₂, Γ₂, k1, k2, k3, k4, k5⟩
    cases x₂ <;> simp only [AExit.then] at k1
    cases e <;> simp only [XRep] at k2
    exact ⟨σ₂, m₂, Γ₂, k1, k3, k4, k5⟩
  -- the defer statement
  rintro a₂ w₂ ⟨σ₂, m₂, Γ₂, ⟨g, first, caps, hfo, hB⟩, k3, k4, k5⟩
  have hvf := k3.opv fo
  rw [hfo] at hvf
  obtain ⟨fs, cs, hef, hf1, hf2⟩ := hvf
  obtain ⟨d, hd⟩ : ∃ d : Deferred, d = { target := .fn (.func g) cs, args := fs ++ dargs.map a₂.eval } := ⟨_, rfl⟩
  have hrun : (execOp a₂.eval ⟨none, .defer ⟨.value fo, dargs, ts⟩, ty, pos, after, none⟩).run P w₂ = .ok (.defer d) w₂ := by
    subst hd
    simp only [execOp, resolve, Deferred.ofValue, hef, Sem.run_bind, Sem.run_pure, Result.andThen_ok]
  unfold wpListIn
  rw [if_pos (by simp [Region.wanted])]
  refine ⟨fun _ _ => trivial, ?_⟩
  have hsem : Oper.semAt (FW none).round a₂.eval ⟨none, .defer ⟨.value fo, dargs, ts⟩, ty, pos, after, none⟩ = execOp a₂.eval ⟨none, .defer ⟨.value fo, dargs, ts⟩, ty, pos, after, none⟩ := rfl
  have hfw : Fence.wide = FW none := rfl
  rw [hfw, hsem, hrun]
  simp only [Oper.uponIn, wpListIn, Exit.then, Act.put]
  -- the rest of the body, in a context that holds the deferred call
  obtain ⟨ms, hd1, hd2, hd3⟩ := k3.defers
  have l02 := h4.trans k4
  have kk02 : Keeps (Γ.withX (Γ.x.into w.heap.size)) w w₂ := h5.trans h4 k5
  have hfd : Γ₂.x.fd = [] := l02.x.fd
  have hdlo : Γ₂.x.dlo = w.heap.size := l02.x.dlo
  have hrnd2 : Γ₂.x.rnd = none := l02.x.rnd
  rw [hfd, List.append_nil] at hd1
  obtain ⟨x3, hx3⟩ : ∃ x3 : CtxX, x3 = { Γ₂.x with dlo := w₂.heap.size, fd := d :: a₂.defers } := ⟨_, rfl⟩
  have hxs3 : XSim (Γ₂.withX x3) w₂ := by
    subst hx3
    exact ⟨k3.mem.xs.mark, k3.mem.xs.lps, k3.mem.xs.rnd, Nat.le_refl _⟩
  have hm3 := k3.mem.withX x3 hxs3
  have hsim3 : Sim (Γ₂.withX x3) fn.ntmps σ₂ m₂ { a₂ with defers := d :: a₂.defers } w₂ := by
    refine ⟨k3.size, ⟨[], by subst hx3; rfl, List.nodup_nil, fun _ q => by cases q⟩, hm3, fun t => VRep.withX (k3.slots t) x3⟩
  have hB' := hB (Γ₂.withX x3) _ w₂ hsim3
  have hr3 : (Γ₂.withX x3).x.rnd = none := by subst hx3; exact hrnd2
  rw [hr3] at hB'
  refine wpIn_mono hB' ?_
  rintro e a' w' ⟨x, σ', m', Γ', g1, g2, g3, g4, g5⟩
  obtain ⟨ms', j1, j2, j3⟩ := g3.defers
  have hfd' : Γ'.x.fd = d :: a₂.defers := by rw [g4.x.fd]; subst hx3; rfl
  have hdlo' : Γ'.x.dlo = w₂.heap.size := by rw [g4.x.dlo]; subst hx3; rfl
  rw [hfd'] at j1
  -- the marks of B, of A
  have hsz : w.heap.size ≤ w₂.heap.size := kk02.below.size
  have hsz' : w₂.heap.size ≤ w'.heap.size := g5.below.size
  have hbase2 : Γ₂.base = Γ.base := l02.base
  have hbase' : Γ'.base = Γ.base := g4.base.trans hbase2
  -- memory with the caller's marks and those of A
  have hmarkA : ∀ D ∈ ms, Γ₂.x.mark D ∧ w.heap.size ≤ D ∧ D < w₂.heap.size := fun D hD => by
    obtain ⟨a, b⟩ := hd3 D hD
    exact ⟨a, by omega, (Array.getElem?_eq_some_iff.1 (k3.mem.xs.mark D a).2).1⟩
  obtain ⟨x4, hx4⟩ : ∃ x4 : CtxX, x4 = ⟨fun D => Γ.x.mark D ∨ D ∈ ms, Γ.x.lps, Γ.x.dlo, Γ.x.rnd, Γ.x.fd⟩ := ⟨_, rfl⟩
  have hmarks' : ∀ D, Γ₂.x.mark D → Γ'.x.mark D := fun D hD => g4.x.mark D (by subst hx3; exact hD)
  have hlps' : ∀ D, Γ.x.lps D → Γ'.x.lps D := fun D hD => g4.x.lps D (by subst hx3; exact l02.x.lps D hD)
  have hxs4 : XSim (Γ'.withX x4) w' := by
    subst hx4
    refine ⟨fun D hD => ?_, fun l hl => g3.mem.xs.lps l (hlps' l hl), fun l hl => hm.xs.rnd l hl, by have := hm.xs.dlo; show Γ.x.dlo ≤ _; omega⟩
    rcases hD with hD | hD
    · exact g3.mem.xs.mark D (hmarks' D (l02.x.mark D hD))
    · exact g3.mem.xs.mark D (hmarks' D (hmarkA D hD).1)
  have hm4 := g3.mem.withX x4 hxs4
  have hms4 : ∀ D ∈ ms', w'.heap[D]? = some (.deferred (some [])) ∧ (Γ'.withX x4).base ≤ D ∧ ¬ (Γ'.withX x4).x.mark D := fun D hD => by
    obtain ⟨a, b⟩ := g3.mem.xs.mark D (j3 D hD).1
    refine ⟨b, a, fun q => ?_⟩
    have h7 := (j3 D hD).2
    rw [hdlo'] at h7
    subst hx4
    rcases q with q | q
    · have h6 := (Array.getElem?_eq_some_iff.1 (hm.xs.mark D q).2).1
      omega
    · have := (hmarkA D q).2.2
      omega
  have hdrep : LRep (Γ'.withX x4) w' (first ++ dargs.toList.map (Ab.opv σ₂) ++ caps) (fs ++ dargs.map a₂.eval ++ cs).toList := by
    have q1 : LRep Γ₂ w₂ (first ++ dargs.toList.map (Ab.opv σ₂) ++ caps) (fs ++ dargs.map a₂.eval ++ cs).toList := by
      simp only [Array.toList_append, Array.toList_map]
      exact LRep.append _ _ _ _ (LRep.append _ _ _ _ hf1 (mapRep k3.opv _)) hf2
    have q2 : LRep (Γ₂.withX x3) w₂ _ _ := LRep.cut (x₀ := x3) (nl := Γ₂.nloc) (nt := Γ₂.ntok) _ _ (LRep.sc _ _ q1) q1
    have q3 := LRep.mono g4 g5 _ _ q2
    exact LRep.cut (x₀ := x4) (nl := Γ'.nloc) (nt := Γ'.ntok) _ _ (LRep.sc _ _ q3) q3
  have hslots4 : ∀ t, VRep (Γ'.withX x4) w' (σ' t) (a'.tmps.getD t undef) := fun t => VRep.withX (g3.slots t) x4
  have hkeep4 : Keeps Γ w w' := ⟨by have q := kk02.below.trans (show Below (Γ.withX (Γ.x.into w.heap.size)).base w₂ w' from by have := g5.below; rw [show (Γ₂.withX x3).base = (Γ.withX (Γ.x.into w.heap.size)).base from hbase2] at this; exact this); exact q, fun b o q => (g5.imm b o (l02.imm b o q)).trans (kk02.imm b o q)⟩
  have l04 : (Γ.withX Γ.x).le (Γ'.withX Γ.x) := by
    have l3 : (Γ₂.withX x3).le Γ' := g4
    refine ⟨hbase', Nat.le_trans l02.nloc l3.nloc, fun n hn => (l3.loc n (Nat.lt_of_lt_of_le hn l02.nloc)).trans (l02.loc n hn), fun b o q => l3.imm b o (l02.imm b o q), Nat.le_trans l02.ntok l3.ntok, fun k hk => ?_, fun k hk => (l3.wd k (Nat.lt_of_lt_of_le hk l02.ntok)).trans (l02.wd k hk), CtxX.le.refl _, fun b o q => (l3.immb b o q).elim (l02.immb b o) (fun r => .inr (by rw [show (Γ₂.withX x3).base = Γ.base from hbase2] at r; exact r))⟩
    rcases l02.tok k hk with ⟨t1, t2, t3⟩ | t1 <;> rcases l3.tok k (Nat.lt_of_lt_of_le hk l02.ntok) with ⟨u1, u2, u3⟩ | u1
    · exact .inl ⟨u1.trans t1, u2.trans t2, u3.trans t3⟩
    · exact .inr (by rw [show (Γ₂.withX x3).top k = Γ₂.top k from rfl, t1] at u1; exact u1)
    · exact .inr (by rw [show (Γ₂.withX x3).top k = Γ₂.top k from rfl] at u1; exact u1 ▸ t1)
    · exact .inr (Nat.lt_trans t1 u1)
  -- the way out
  have out : ∀ (pn : Option PV) (u : FrameMode), u ≠ .run → DMode (Γ'.withX x4) w' pn u →
      DCall P g (first ++ dargs.toList.map (Ab.opv σ₂) ++ caps) m' pn (fun m'' => ∃ p m3, ResP P fn.results.toList σ' m'' p ∧ LvS m m'' m3 p.strip ∧ R (.ret p.strip) m3) →
      LeavesInM Fence.wide 0 P fn a'.tmps (fun e w' => ∃ r m' Γ', R r m' ∧ ERep Γ' w' r e ∧ Γ.le Γ' ∧ Keeps Γ w w' ∧ MemSim Γ' m' w') a'.defers u w' := by
    intro pn u hu hmode hdc
    rw [j1]
    refine leavesM hu ms' w' j2 hms4 hm4 fun w₃ hm5 hk5 => ?_
    have hmode3 : DMode (Γ'.withX x4) w₃ pn u := by
      cases pn with
      | none => exact hmode
      | some p => obtain ⟨v, e, hv⟩ := hmode; exact ⟨v, e, VRep.mono (Ctx.le.refl _) hk5 _ _ hv⟩
    have hcall := hdc.2 (Γ'.withX x4) w₃ _ u hm5 (LRep.mono (Ctx.le.refl _) hk5 _ _ hdrep) hmode3
    rw [Array.toArray_toList] at hcall
    refine ⟨hu, .inr ⟨fun q => by simp [Fence.wide] at q, .func g, cs, g, fs ++ dargs.map a₂.eval ++ cs, by rw [hd], ?_, fun _ _ => trivial, ?_⟩⟩
    · rw [hd]; simp only [invoke]; exact run_callFunc hdc.1 _
    refine hcall.mono ?_
    rintro e u' w₄ ⟨v, m5, Γ₅, rfl, hset, ⟨p, m6, hp, hlv, hR⟩, hle5, hk6, hm6⟩
    simp only
    rw [hset, hd1]
    -- the marks of A
    have hkA : ∀ D, x4.mark D → Γ₅.x.mark D := fun D hD => hle5.x.mark D hD
    obtain ⟨G, hG⟩ : ∃ G : Ctx, G = Γ₅.withX Γ.x := ⟨_, rfl⟩
    have hsz4 : w.heap.size ≤ w₄.heap.size := by have := hk5.below.size; have := hk6.below.size; omega
    have hxs5 : XSim G w₄ := by
      subst hG
      refine ⟨fun D hD => hm6.xs.mark D (hkA D (by subst hx4; exact .inl hD)), fun l hl => hm6.xs.lps l (hle5.x.lps l (by subst hx4; exact hl)), fun l hl => hm.xs.rnd l hl, by have := hm.xs.dlo; show Γ.x.dlo ≤ _; omega⟩
    have hm7 : MemSim G m5 w₄ := by subst hG; exact hm6.withX Γ.x (by exact hxs5)
    have hbase5 : G.base = Γ.base := by subst hG; exact hle5.base.trans hbase'
    rw [← List.append_nil (ms.map _)]
    refine leavesM (Γ := G) (by simp) ms w₄ hd2 (fun D hD => ?_) hm7 fun w₅ hm8 hk8 => ?_
    · obtain ⟨a, b⟩ := hm6.xs.mark D (hkA D (by subst hx4; exact .inr hD))
      refine ⟨b, by rw [hbase5, ← hle5.base.trans hbase']; exact a, fun q => ?_⟩
      have q' : Γ.x.mark D := by subst hG; exact q
      have h6 := (Array.getElem?_eq_some_iff.1 (hm.xs.mark D q').2).1
      have := (hmarkA D hD).2.1
      omega
    · have l5 : (Γ.withX Γ.x).le G := by
        subst hG
        have l6 : (Γ'.withX Γ.x).le (Γ₅.withX Γ.x) := ⟨hle5.base, hle5.nloc, hle5.loc, hle5.imm, hle5.ntok, hle5.tok, hle5.wd, CtxX.le.refl _, hle5.immb⟩
        exact l04.trans l6
      have hx₃ : XSim (G.cut Γ.x m6.nloc m6.ntok) w₅ := by
        have := hm8.xs
        subst hG
        exact ⟨this.mark, this.lps, this.rnd, this.dlo⟩
      obtain ⟨q6, q7⟩ := hlv.sim hm l5 hx₃ hm8
      have hk45 : Keeps (Γ'.withX x4) w' w₄ := hk5.trans (Ctx.le.refl _) hk6
      have hkf : Keeps Γ w w₅ := by
        refine ⟨hkeep4.below.trans ?_, fun b o q => ?_⟩
        · have q1 := hk45.below
          rw [show (Γ'.withX x4).base = Γ.base from hbase'] at q1
          have q2 := hk8.below
          rw [hbase5] at q2
          exact q1.trans q2
        · have i1 : Γ'.imm b o := g4.imm b o (l02.imm b o q)
          have i2 : G.imm b o := by subst hG; exact hle5.imm b o i1
          exact ((hk8.imm b o i2).trans (hk45.imm b o i1)).trans (hkeep4.imm b o q)
      have hsl : ∀ t, VRep G w₅ (σ' t) (a'.tmps.getD t undef) := fun t => by
        have q1 := VRep.mono hle5 hk45 _ _ (hslots4 t)
        have q2 : VRep G w₄ (σ' t) (a'.tmps.getD t undef) := by subst hG; exact VRep.withX q1 Γ.x
        exact VRep.mono (Ctx.le.refl _) hk8 _ _ q2
      obtain ⟨rv, hrv, hrep⟩ := ResP_run (P := P) hsl hm8 hp
      refine ⟨rv, hrv, .ret p.strip, m6, _, hR, ?_, q7, hkf, q6⟩
      exact VRep.cut (Γ := G) _ _ (hlv.sc hm8 (VRep.strip _ _ hrep)) (VRep.strip _ _ hrep)
  cases x <;> cases e <;> simp only [XRep] at g2 <;> simp only [FinDf] at g1
  case normal.normal => exact out none .returning (by simp) rfl g1
  case ret.ret => exact out none .returning (by simp) rfl g1
  case pan.panic p ch =>
    obtain ⟨v, rfl, hv⟩ := g2
    exact out (some p) _ (by simp) ⟨v, rfl, VRep.withX hv x4⟩ g1
end
end Go.Ab
namespace Go.Ab
open Go.RowKit
section
variable {P : Program} {m : St} {K Kp : PV → St → Prop}
theorem tifc_und {t : TypeId} (h : tifc P t = true) : ∃ ms, P.underlying t = some (.interface ms) := by
  unfold tifc at h
  split at h
  · rename_i ms hd; exact ⟨ms, hd⟩
  · cases h
theorem run_equalIn_ifaceNil {t u : TypeId} {ms : Array (String × TypeId)} {v : Value} (w : World) (d : Nat) (hd : P.underlying t = some (.interface ms)) : (Op.equalIn (d + 1) t (.iface u v) .nilIface).run P w = .ok false w := by
  simp [Op.equalIn, run_underlying hd]
theorem run_equalIn_nilNil {t : TypeId} {ms : Array (String × TypeId)} (w : World) (d : Nat) (hd : P.underlying t = some (.interface ms)) : (Op.equalIn (d + 1) t .nilIface .nilIface).run P w = .ok true w := by
  simp [Op.equalIn, run_underlying hd]
theorem op_ifaceNil {o : Oper} {x : Operand} {t yt u : TypeId} {y : PV} {ρ : Operand → PV} (ho : o.op = .binOp .eql t x (.const .nilIface) yt) (ht : tifc P t = true) (hx : ρ x = .iface u y) (hn : ρ (.const .nilIface) = .v .nilIface) (h : K (.v (.bool false)) m) : OpOK P o ρ m K Kp := by
  intro Γ ev w hm hv
  have h1 := hv x
  rw [hx] at h1
  obtain ⟨v, h1, _⟩ := h1
  have h2 := hv (.const .nilIface)
  rw [hn] at h2
  replace h2 : ev (.const .nilIface) = .nilIface := h2
  obtain ⟨ms, hd⟩ := tifc_und ht
  have hg := run_eqGuard_bool (P := P) (w := w) .eql t x (.const .nilIface) (.iface u v) .nilIface (by simp) (by simp)
  have hr : (binOp .eql t (.iface u v) .nilIface).run P w = .ok (.bool false) w := by
    simp only [binOp]
    simp [Op.equal, Op.maxDepth, run_equalIn_ifaceNil w 9999 hd]
  simp only [execOp, ho, h1, h2, Sem.run_bind, hg, Result.andThen_ok, hr, Sem.run_pure, Up]
  exact .same hm h rfl
theorem op_nilNil {o : Oper} {x : Operand} {t yt : TypeId} {ρ : Operand → PV} (ho : o.op = .binOp .eql t x (.const .nilIface) yt) (ht : tifc P t = true) (hx : ρ x = .v .nilIface) (hn : ρ (.const .nilIface) = .v .nilIface) (h : K (.v (.bool true)) m) : OpOK P o ρ m K Kp := by
  intro Γ ev w hm hv
  have h1 := hv x
  rw [hx] at h1
  replace h1 : ev x = .nilIface := h1
  have h2 := hv (.const .nilIface)
  rw [hn] at h2
  replace h2 : ev (.const .nilIface) = .nilIface := h2
  obtain ⟨ms, hd⟩ := tifc_und ht
  have hr : (binOp .eql t .nilIface .nilIface).run P w = .ok (.bool true) w := by
    simp only [binOp]
    simp [Op.equal, Op.maxDepth, run_equalIn_nilNil w 9999 hd]
  have hg : (eqGuard .eql t x (.const .nilIface) .nilIface .nilIface).run P w = .ok () w := by
    unfold eqGuard
    cases x <;> simp [Sem.run_bind, Sem.run_pure]
  simp only [execOp, ho, h1, h2, Sem.run_bind, hg, Result.andThen_ok, hr, Sem.run_pure, Up]
  exact .same hm h rfl
theorem op_assert {o : Oper} {x : Operand} {xt t : TypeId} {y : PV} {ρ : Operand → PV} (ho : o.op = .typeAssert x xt t true) (ht : tconc P t = true) (hx : ρ x = .iface t y) (h : K (.tup [y, .v (.bool true)]) m) : OpOK P o ρ m K Kp := by
  intro Γ ev w hm hv
  have h1 := hv x
  rw [hx] at h1
  obtain ⟨v, h1, hy⟩ := h1
  have hr : (Instr.typeAssert (.iface t v) xt t true).run P w = .ok (.tuple #[v, .bool true]) w := by
    unfold tconc at ht
    split at ht
    · cases ht
    · rename_i d hne hd
      simp only [Instr.typeAssert, Sem.run_bind, run_underlying hd, Result.andThen_ok]
      cases d <;> first | exact (hne _ rfl).elim | (simp; done)
    · cases ht
  simp only [execOp, ho, h1, Sem.run_bind, hr, Result.andThen_ok, Sem.run_pure, Up]
  exact .same hm h ⟨_, rfl, v, _, rfl, hy, _, _, rfl, rfl, rfl⟩
theorem AList.opK {N : Nat} {ops : Array Oper} {Q : APost} {σ : Nat → PV} {d : Tmp} {op : Op} {ty : TypeId} {pos : String} {after : Array Edge} {rest : List Oper} (hd : d < N)
    (h : ∀ K Kp : PV → St → Prop, (∀ p m', AList P N ops Q rest (upd σ d p) m' → K p m') → (∀ p m', Q (.pan p) σ m' → Kp p m') → OpOK P ⟨some d, op, ty, pos, after, none⟩ (Ab.opv σ) m K Kp) :
    AList P N ops Q (⟨some d, op, ty, pos, after, none⟩ :: rest) σ m :=
  AList.step rfl (by simpa [dstOK] using hd) (h _ _ (fun _ _ h => h) (fun _ _ h => h))
end
end Go.Ab
namespace Go.Ab
open Go.RowKit
section
variable {P : Program} {m : St} {K Kp : PV → St → Prop} {Γ : Ctx} {w : World}
variable {N : Nat} {Q : APost} {σ : Nat → PV} {ops : Array Oper} {l : List Oper}
theorem AList.sees {d : Nat} {p' : PV} {m' : St} (hs : Sees (σ d) m p' m') (h : AList P N ops Q l (upd σ d p') m') : AList P N ops Q l σ m := by
  intro Γ a w hs0
  obtain ⟨Γ', h1, le, h2⟩ := hs Γ w _ hs0.mem (hs0.slots d)
  have hs' := hs0.mono le (Keeps.refl Γ w) h1
  have := h _ a w ⟨hs'.size, hs'.defers, h1, fun t => ?_⟩
  · rw [le.x.rnd] at this; exact wpList_mono (Post.later le (Keeps.refl _ _)) _ _ _ this
  · by_cases e : t = d
    · subst e; rw [upd_same]; exact h2
    · rw [upd_ne _ _ _ _ e]; exact hs'.slots t
theorem AW.sees {c : Code} {d : Nat} {p' : PV} {m' : St} (hs : Sees (σ d) m p' m') (h : AW P N c Q (upd σ d p') m') : AW P N c Q σ m := by
  intro Γ a w hs0
  obtain ⟨Γ', h1, le, h2⟩ := hs Γ w _ hs0.mem (hs0.slots d)
  have hs' := hs0.mono le (Keeps.refl Γ w) h1
  have := h _ a w ⟨hs'.size, hs'.defers, h1, fun t => ?_⟩
  · rw [le.x.rnd] at this; exact wpIn_mono this (Post.later le (Keeps.refl _ _))
  · by_cases e : t = d
    · subst e; rw [upd_same]; exact h2
    · rw [upd_ne _ _ _ _ e]; exact hs'.slots t
end
end Go.Ab
namespace Go.Ab
open Go.RowKit
def canTakeT (c : Cls) (g : Cls → Bool) (cls : List Cls) (ops : Array Oper) (bef : Array Nat) (listed : Array Bool) (i : Nat) : Bool :=
  listed.size == ops.size && (match ops[i]? with
  | none => false
  | some oi => (cls.getD i .W == c) && (Region.ready .any ops listed).contains i && (List.range ops.size).all fun j =>
    if (bef.getD j 0).testBit i then
      !listed.getD j true && (match ops[j]? with | some oj => oj.after.any fun e => Region.binds .any e && (e.on == i || (bef.getD e.on 0).testBit i) | none => false)
    else j == i || listed.getD j true || (match ops[j]? with | some oj => oi.apart ops oj && g (cls.getD j .W) | none => false))
def cv : PV → PV
  | .v (.agg us) => .agg (us.toList.map ofV)
  | .v (.slice none 0 0) => .list .full []
  | p => p
theorem cv_rep (p : PV) (Γ : Ctx) (w : World) (u : Value) (h : VRep Γ w p u) : VRep Γ w (cv p) u := by
  unfold cv
  split
  · replace h : u = _ := h
    subst h
    exact ⟨_, rfl, ofVs_rep Γ w _⟩
  · replace h : u = _ := h
    subst h
    exact ⟨none, 0, rfl, Nat.le_refl _, fun _ => rfl, (fun ad h => by cases h), rfl⟩
  · exact h
theorem OpOKo.of {P : Program} {o : Oper} {ρ : Operand → PV} {m : St} {K Kp : PV → St → Prop} (h : ∀ ρ', (∀ x ∈ o.op.operands.toList, ρ' x = ρ x) → OpOK P o ρ' m K Kp) : OpOKo P o ρ m K Kp := by
  intro Γ ev w hm hv
  classical
  refine h (fun x => if x ∈ o.op.operands.toList then ρ x else .any) (fun x hx => by simp only [if_pos hx]) Γ ev w hm fun x => ?_
  by_cases hx : x ∈ o.op.operands.toList
  · simp only [if_pos hx]; exact hv x hx
  · simp only [if_neg hx]; trivial
theorem aop_cv {P : Program} {o : Oper} {ρ : Operand → PV} {m : St} {K Kp : PV → St → Prop} (h : aop P o.op (fun x => cv (ρ x)) m K Kp) : OpOKo P o ρ m K Kp := OpOKo.weak (fun x => cv_rep (ρ x)) (aop_soundO o _ h)
section
variable {P : Program} {N : Nat} {l : List Oper} {cls : List Cls} {Q : APost} {σ : Nat → PV} {m : St} {listed : Array Bool} {fuel : Nat}
theorem canTakeT_spec {c : Cls} {g : Cls → Bool} {bef : Array Nat} {i : Nat} {oi : Oper} (hi : l[i]? = some oi) (h : canTakeT c g cls l.toArray bef listed i = true) : listed.size = l.toArray.size ∧ cls.getD i .W = c ∧ i ∈ Region.ready .any l.toArray listed ∧
    (∀ j oj, l.toArray[j]? = some oj → (bef.getD j 0).testBit i = true → listed.getD j true = false ∧ ∃ e ∈ oj.after, Region.binds .any e = true ∧ (e.on = i ∨ (bef.getD e.on 0).testBit i = true)) ∧
    (∀ j oj, l.toArray[j]? = some oj → j ≠ i → listed.getD j true = false → (bef.getD j 0).testBit i = false → oi.apart l.toArray oj = true ∧ g (cls.getD j .W) = true) := by
  unfold canTakeT at h
  have hi' : l.toArray[i]? = some oi := by simpa using hi
  rw [hi'] at h
  simp only [Bool.and_eq_true] at h
  obtain ⟨hsz, ⟨h1, h2⟩, h3⟩ := h
  refine ⟨by simpa using hsz, by simpa using h1, by simpa using h2, fun j oj hj hb => ?_, fun j oj hj hji hun hb => ?_⟩
  · have hlt : j < l.toArray.size := (Array.getElem?_eq_some_iff.1 hj).1
    have := List.all_eq_true.1 h3 j (by simpa using hlt)
    rw [if_pos hb, hj] at this
    simp only [Bool.and_eq_true, Bool.not_eq_true'] at this
    obtain ⟨k1, k2⟩ := this
    rw [Array.any_eq_true'] at k2
    obtain ⟨e, he, h5⟩ := k2
    simp only [Bool.and_eq_true, Bool.or_eq_true, beq_iff_eq] at h5
    exact ⟨k1, e, he, h5.1, h5.2⟩
  · have hlt : j < l.toArray.size := (Array.getElem?_eq_some_iff.1 hj).1
    have := List.all_eq_true.1 h3 j (by simpa using hlt)
    rw [if_neg (by rw [hb]; simp), hj, hun] at this
    simp only [Bool.or_false, Bool.or_eq_true, beq_iff_eq, hji, false_or, Bool.and_eq_true] at this
    exact ⟨this.1, by simpa using this.2⟩
theorem bef_inv {bef : Array Nat} {i : Nat} (hsz : listed.size = l.toArray.size) (h1 : ∀ j oj, l.toArray[j]? = some oj → (bef.getD j 0).testBit i = true → listed.getD j true = false ∧ ∃ e ∈ oj.after, Region.binds .any e = true ∧ (e.on = i ∨ (bef.getD e.on 0).testBit i = true)) :
    ∀ j, (bef.getD j 0).testBit i = true → listed.getD j true = false ∨ listed.size ≤ j := fun j hj => by
  rcases Nat.lt_or_ge j l.toArray.size with hlt | hge
  · exact .inl (h1 j _ (Array.getElem?_eq_getElem hlt) hj).1
  · right; omega
theorem DA.takeT {s : Bool} {p : PV} {oi : Oper} (i : Nat) (hi : l[i]? = some oi) (hd : dstOK N oi.dst = true) (hc : canTakeT (if s then .S else .R) (goesWith s) cls l.toArray (Region.before l.toArray) listed i = true) (hg : Got P N l.toArray s oi p σ m)
    (h : DA P N l cls Q fuel (listed.setIfInBounds i true) (put σ oi.dst p) m) : DA P N l cls Q (fuel + 1) listed σ m := by
  obtain ⟨hsz, hcl, hr, h1, h2⟩ := canTakeT_spec hi hc
  have hi' : l.toArray[i]? = some oi := by simpa using hi
  exact DAny.firstG (p := p) (oi := oi) (fun σ m => Got P N l.toArray s oi p σ m) (fun j => ((Region.before l.toArray).getD j 0).testBit i) (fun j => goesWith s (cls.getD j .W))
    (fun hg hk => hg.step hi' hd hcl hk) (fun hj ha hok hg hk => DStep.swap hj ha hok hg hk)
    (fun j oj hj hb => (h1 j oj hj hb).2) fuel listed σ m (bef_inv hsz h1) hsz (fun j oj hj hji hun hb => h2 j oj hj hji hun hb) hr hg h
theorem DA.ST {p : PV} {d : Tmp} {op : Op} {ty : TypeId} {pos : String} {after : Array Edge} (i : Nat) (hi : l[i]? = some ⟨some d, op, ty, pos, after, none⟩) (hc : canTakeT .S (goesWith true) cls l.toArray (Region.before l.toArray) listed i = true) (hd : d < N)
    (h1 : ∀ (m : St) (K : PV → St → Prop), K p m → aop P op (opv σ) m K (fun _ _ => False)) (h : DA P N l cls Q fuel (listed.setIfInBounds i true) (upd σ d p) m) : DA P N l cls Q (fuel + 1) listed σ m :=
  DA.takeT (s := true) i hi (by simpa [dstOK] using hd) hc (.inr ⟨rfl, fun m => aop_soundO _ _ (h1 m _ ⟨rfl, rfl⟩)⟩) h
theorem DA.RT {p : PV} {d : Tmp} {op : Op} {ty : TypeId} {pos : String} {after : Array Edge} (i : Nat) (hi : l[i]? = some ⟨some d, op, ty, pos, after, none⟩) (hc : canTakeT .R (goesWith false) cls l.toArray (Region.before l.toArray) listed i = true) (hd : d < N)
    (h1 : ∀ (K : PV → St → Prop), K p m → aop P op (opv σ) m K (fun _ _ => False)) (h : DA P N l cls Q fuel (listed.setIfInBounds i true) (upd σ d p) m) : DA P N l cls Q (fuel + 1) listed σ m :=
  DA.takeT (s := false) i hi (by simpa [dstOK] using hd) hc (.inr ⟨rfl, aop_soundO _ _ (h1 _ ⟨rfl, rfl⟩)⟩) h
theorem DA.K {d : Option Tmp} {op : Op} {ty : TypeId} {pos : String} {after : Array Edge} (i : Nat) (hi : l[i]? = some ⟨d, op, ty, pos, after, none⟩) (hc : isReady l.toArray listed [i] = true) (hw : cls.getD i .W = .W) (hd : dstOK N d = true)
    (h : ∀ K Kp : PV → St → Prop, (∀ p m', DA P N l cls Q fuel (listed.setIfInBounds i true) (put σ d p) m' → K p m') → (∀ p m', (∀ σ, Q (.pan p) σ m') → Kp p m') → OpOKo P ⟨d, op, ty, pos, after, none⟩ (opv σ) m K Kp) : DA P N l cls Q (fuel + 1) listed σ m := by
  have hr : Region.ready .any l.toArray listed = [i] := by simpa [isReady] using hc
  refine DA.one hr ⟨_, by simpa using hi, hd, .inr ⟨by simp [aWant], ?_⟩⟩
  simp only [hw]
  exact h _ _ (fun _ _ h => h) (fun _ _ h => h)
theorem DStep.K {d : Option Tmp} {op : Op} {ty : TypeId} {pos : String} {after : Array Edge} {i : Nat} {K : (Nat → PV) → St → Prop} {Qp : PV → St → Prop} (hi : l[i]? = some ⟨d, op, ty, pos, after, none⟩) (hw : cls.getD i .W = .W) (hd : dstOK N d = true)
    (h : ∀ K' Kp : PV → St → Prop, (∀ p m', K (put σ d p) m' → K' p m') → (∀ p m', Qp p m' → Kp p m') → OpOKo P ⟨d, op, ty, pos, after, none⟩ (opv σ) m K' Kp) : DStep P N l.toArray (fun i => cls.getD i .W) Qp i K σ m := by
  refine ⟨_, by simpa using hi, hd, .inr ⟨by simp [aWant], ?_⟩⟩
  simp only [hw]
  exact h _ _ (fun _ _ h => h) (fun _ _ h => h)
end
end Go.Ab
namespace Go.Ab
open Go.RowKit
section
variable {P : Program} {m : St} {K Kp : PV → St → Prop} {w : World}
theorem run_append_ty {t t2 e e2 ty : TypeId} (h1 : P.underlying t = some (.slice e)) (h2 : P.underlying t2 = some (.slice e2)) (args : Array Value) : (Builtin.append_ #[t, t2] ty args).run P w = (Builtin.append_ #[t, t] ty args).run P w := by
  have e1 : (#[t, t2] : Array TypeId)[1]? = some t2 := rfl
  have e2' : (#[t, t] : Array TypeId)[1]? = some t := rfl
  have e3 : (#[t, t2] : Array TypeId)[0]? = some t := rfl
  have e4 : (#[t, t] : Array TypeId)[0]? = some t := rfl
  unfold Builtin.append_
  rw [e1, e2', e3, e4]
  cases ha : args[0]? with
  | none => rfl
  | some s =>
    cases hb : args[1]? with
    | none => rfl
    | some x =>
      simp only [Sem.run_bind, run_underlying h1, Result.andThen_ok]
      cases s <;> try rfl
      simp only [Sem.run_bind, run_underlying h1, run_underlying h2, Result.andThen_ok, Sem.run_pure]
theorem op_retype {o : Oper} {x y : Operand} {t t2 : TypeId} {ρ : Operand → PV} (ho : o.op = .call ⟨.builtin .append, #[x, y], #[t, t2]⟩) (h1 : (telem P t).isSome = true) (h2 : (telem P t2).isSome = true)
    (h : OpOK P { o with op := .call ⟨.builtin .append, #[x, y], #[t, t]⟩ } ρ m K Kp) : OpOK P o ρ m K Kp := by
  intro Γ ev w hm hv
  have h3 := h Γ ev w hm hv
  obtain ⟨e, h1⟩ := Option.isSome_iff_exists.1 h1
  obtain ⟨e2, h2⟩ := Option.isSome_iff_exists.1 h2
  have he : (execOp ev o).run P w = (execOp ev { o with op := .call ⟨.builtin .append, #[x, y], #[t, t]⟩ }).run P w := by
    simp only [execOp, ho, resolve, Sem.run_bind, Sem.run_pure, Result.andThen_ok, invoke, builtin]
    rw [run_append_ty (telem_und h1) (telem_und h2)]
  rw [he]
  exact h3
theorem op_appendS {o : Oper} {x y : Operand} {t t2 : TypeId} {ρ : Operand → PV} (ho : o.op = .call ⟨.builtin .append, #[x, y], #[t, t2]⟩) (h1 : (telem P t).isSome = true) (h2 : (telem P t2).isSome = true)
    (h : aappend P [t, t] (cv (ρ x)) (cv (ρ y)) m K) : OpOK P o ρ m K Kp := by
  refine op_retype ho h1 h2 ?_
  refine OpOKo.op (aop_cv ?_)
  simp only [aop, acall]
  exact h
end
end Go.Ab
namespace Go.Ab
theorem aand {A B : Prop} (a : A) (b : B) : A ∧ B := ⟨a, b⟩
theorem Same.auto {m m' : St} (h : Same m m' := by repeat (first | exact Same.refl _ | assumption | refine Same.newLoc ?_ _ | refine Same.setLoc ?_ (by first | omega | (simp; done) | (simp; omega)) _)) : Same m m' := h
theorem AW.condT {P : Program} {N : Nat} {Q : APost} {σ : Nat → PV} {m : St} {c : Operand} {x y : Code} (hc : opv σ c = .v (.bool true)) (h : AW P N x Q σ m) : AW P N (.cond c x y) Q σ m := AW.cond hc (fun _ => h) (fun h => by cases h)
theorem AW.condF {P : Program} {N : Nat} {Q : APost} {σ : Nat → PV} {m : St} {c : Operand} {x y : Code} (hc : opv σ c = .v (.bool false)) (h : AW P N y Q σ m) : AW P N (.cond c x y) Q σ m := AW.cond hc (fun h => by cases h) (fun _ => h)
theorem Fin.gives {P : Program} {fn : Func} {m m' : St} {σ : Nat → PV} {p r : PV} (hm : Same m m') (hp : ResP P fn.results.toList σ m' p := by exact rfl) (hq : p.strip = r := by simp [upd_lit]) (hs : r.sc m.nloc m.ntok := by simp) : Fin P fn m (fun r' m' => r' = .ret r ∧ m' = m) .ret σ m' :=
  Fin.ret hp hm hq hs ⟨rfl, rfl⟩
section
variable {G K : Prop}
theorem tS (k : K) (h : K → G := by intro k_; (repeat (first | (refine AList.op (by decide) ?_; intro K Kp hK hKp; simp [↓aop, ↓Ab.opv, ↓upd_lit, ↓map_ta, ↓List.map_cons, ↓List.map_nil, Nat.add_assoc]; (try (simp (disch := omega) only [wrap_i64]; try simp [↓aop, ↓Ab.opv, ↓upd_lit, ↓map_ta, ↓List.map_cons, ↓List.map_nil, Nat.add_assoc])); apply hK; clear hK hKp K Kp) | (refine AList.op0 ?_; intro K Kp hK hKp; simp [↓aop, ↓Ab.opv, ↓upd_lit, ↓map_ta, ↓List.map_cons, ↓List.map_nil, Nat.add_assoc]; (try (simp (disch := omega) only [wrap_i64]; try simp [↓aop, ↓Ab.opv, ↓upd_lit, ↓map_ta, ↓List.map_cons, ↓List.map_nil, Nat.add_assoc])); apply hK; clear hK hKp K Kp) | refine AList.nil ?_ | refine AW.seq ?_ | refine AW.regionL ?_ | refine AW.block ?_ | refine AW.skip ?_ | refine AW.exit ?_ | refine AW.ret ?_ | refine AW.label ?_ | refine AExit.norT ?_ | refine AExit.norB ?_ | refine AExit.retT ?_ | refine AExit.retB ?_ | refine AExit.exiT ?_ | refine AExit.exiB ?_ | refine AExit.exiN (by decide) ?_)); exact k_) : G := h k
theorem tF (k : K) (h : K → G := by intro k_; (repeat (first | (refine AList.op (by decide) ?_; intro K Kp hK hKp; simp [↓aop, ↓Ab.opv, ↓upd_lit, ↓map_ta, ↓List.map_cons, ↓List.map_nil, Nat.add_assoc, F]; (try (simp (disch := omega) only [wrap_i64]; try simp [↓aop, ↓Ab.opv, ↓upd_lit, ↓map_ta, ↓List.map_cons, ↓List.map_nil, Nat.add_assoc, F])); apply hK; clear hK hKp K Kp) | (refine AList.op0 ?_; intro K Kp hK hKp; simp [↓aop, ↓Ab.opv, ↓upd_lit, ↓map_ta, ↓List.map_cons, ↓List.map_nil, Nat.add_assoc, F]; (try (simp (disch := omega) only [wrap_i64]; try simp [↓aop, ↓Ab.opv, ↓upd_lit, ↓map_ta, ↓List.map_cons, ↓List.map_nil, Nat.add_assoc, F])); apply hK; clear hK hKp K Kp) | refine AList.nil ?_ | refine AW.seq ?_ | refine AW.regionL ?_ | refine AW.block ?_ | refine AW.skip ?_ | refine AW.exit ?_ | refine AW.ret ?_ | refine AW.label ?_ | refine AExit.norT ?_ | refine AExit.norB ?_ | refine AExit.retT ?_ | refine AExit.retB ?_ | refine AExit.exiT ?_ | refine AExit.exiB ?_ | refine AExit.exiN (by decide) ?_)); exact k_) : G := h k
theorem tSn (k : K) (h : K → G := by intro k_; (repeat (first | (refine AList.op (by decide) ?_; intro K Kp hK hKp; simp [↓aop, ↓Ab.opv, ↓upd_lit, ↓map_ta, ↓List.map_cons, ↓List.map_nil, Nat.add_assoc]; (try (simp (disch := omega) only [wrap_i64]; try simp [↓aop, ↓Ab.opv, ↓upd_lit, ↓map_ta, ↓List.map_cons, ↓List.map_nil, Nat.add_assoc])); apply hK; clear hK hKp K Kp) | (refine AList.op0 ?_; intro K Kp hK hKp; simp [↓aop, ↓Ab.opv, ↓upd_lit, ↓map_ta, ↓List.map_cons, ↓List.map_nil, Nat.add_assoc]; (try (simp (disch := omega) only [wrap_i64]; try simp [↓aop, ↓Ab.opv, ↓upd_lit, ↓map_ta, ↓List.map_cons, ↓List.map_nil, Nat.add_assoc])); apply hK; clear hK hKp K Kp) | refine AList.nil ?_ | refine AW.seq ?_ | refine AW.regionL ?_ | refine AW.block ?_ | refine AW.skip ?_ | refine AW.exit ?_ | refine AW.label ?_ | refine AExit.norT ?_ | refine AExit.norB ?_ | refine AExit.retT ?_ | refine AExit.retB ?_ | refine AExit.exiT ?_ | refine AExit.exiB ?_ | refine AExit.exiN (by decide) ?_)); exact k_) : G := h k
theorem tSg (k : K) (h : K → G := by intro k_; (repeat (first | (refine AList.op (by decide) ?_; intro K Kp hK hKp; simp [↓aop, ↓Ab.opv, ↓upd_lit, ↓map_ta, ↓List.map_cons, ↓List.map_nil, Nat.add_assoc]; (try (simp (disch := omega) only [wrap_i64]; try simp [↓aop, ↓Ab.opv, ↓upd_lit, ↓map_ta, ↓List.map_cons, ↓List.map_nil, Nat.add_assoc])); apply hK; clear hK hKp K Kp) | (refine AList.op0 ?_; intro K Kp hK hKp; simp [↓aop, ↓Ab.opv, ↓upd_lit, ↓map_ta, ↓List.map_cons, ↓List.map_nil, Nat.add_assoc]; (try (simp (disch := omega) only [wrap_i64]; try simp [↓aop, ↓Ab.opv, ↓upd_lit, ↓map_ta, ↓List.map_cons, ↓List.map_nil, Nat.add_assoc])); apply hK; clear hK hKp K Kp) | (refine AList.opT rfl (by decide) (by decide) ?_ ?_; (focus (first | rfl | (simp [↓upd_lit, Nat.add_assoc]; done))); intro K Kp hK hKp; simp [↓aop, ↓Ab.opv, ↓upd_lit, ↓map_ta, ↓List.map_cons, ↓List.map_nil, Nat.add_assoc]; (try (simp (disch := omega) only [wrap_i64]; try simp [↓aop, ↓Ab.opv, ↓upd_lit, ↓map_ta, ↓List.map_cons, ↓List.map_nil, Nat.add_assoc])); apply hK; clear hK hKp K Kp) | (refine AList.opF rfl (by decide) (by decide) ?_ ?_; (focus (first | rfl | (simp [↓upd_lit, Nat.add_assoc]; done)))) | refine AList.nil ?_ | refine AW.seq ?_ | refine AW.regionL ?_ | refine AW.block ?_ | refine AW.skip ?_ | refine AW.exit ?_ | refine AW.ret ?_ | refine AW.label ?_ | refine AExit.norT ?_ | refine AExit.norB ?_ | refine AExit.retT ?_ | refine AExit.retB ?_ | refine AExit.exiT ?_ | refine AExit.exiB ?_ | refine AExit.exiN (by decide) ?_)); exact k_) : G := h k
theorem tFg (k : K) (h : K → G := by intro k_; (repeat (first | (refine AList.op (by decide) ?_; intro K Kp hK hKp; simp [↓aop, ↓Ab.opv, ↓upd_lit, ↓map_ta, ↓List.map_cons, ↓List.map_nil, Nat.add_assoc, F]; (try (simp (disch := omega) only [wrap_i64]; try simp [↓aop, ↓Ab.opv, ↓upd_lit, ↓map_ta, ↓List.map_cons, ↓List.map_nil, Nat.add_assoc, F])); apply hK; clear hK hKp K Kp) | (refine AList.op0 ?_; intro K Kp hK hKp; simp [↓aop, ↓Ab.opv, ↓upd_lit, ↓map_ta, ↓List.map_cons, ↓List.map_nil, Nat.add_assoc, F]; (try (simp (disch := omega) only [wrap_i64]; try simp [↓aop, ↓Ab.opv, ↓upd_lit, ↓map_ta, ↓List.map_cons, ↓List.map_nil, Nat.add_assoc, F])); apply hK; clear hK hKp K Kp) | (refine AList.opT rfl (by decide) (by decide) ?_ ?_; (focus (first | rfl | (simp [↓upd_lit, Nat.add_assoc, F]; done))); intro K Kp hK hKp; simp [↓aop, ↓Ab.opv, ↓upd_lit, ↓map_ta, ↓List.map_cons, ↓List.map_nil, Nat.add_assoc, F]; (try (simp (disch := omega) only [wrap_i64]; try simp [↓aop, ↓Ab.opv, ↓upd_lit, ↓map_ta, ↓List.map_cons, ↓List.map_nil, Nat.add_assoc, F])); apply hK; clear hK hKp K Kp) | (refine AList.opF rfl (by decide) (by decide) ?_ ?_; (focus (first | rfl | (simp [↓upd_lit, Nat.add_assoc, F]; done)))) | refine AList.nil ?_ | refine AW.seq ?_ | refine AW.regionL ?_ | refine AW.block ?_ | refine AW.skip ?_ | refine AW.exit ?_ | refine AW.ret ?_ | refine AW.label ?_ | refine AExit.norT ?_ | refine AExit.norB ?_ | refine AExit.retT ?_ | refine AExit.retB ?_ | refine AExit.exiT ?_ | refine AExit.exiB ?_ | refine AExit.exiN (by decide) ?_)); exact k_) : G := h k
theorem tSa (k : K) (h : K → G := by intro k_; (repeat (first | (refine AList.op (by decide) ?_; intro K Kp hK hKp; simp [↓aop, ↓Ab.opv, ↓upd_lit, ↓map_ta, ↓List.map_cons, ↓List.map_nil, Nat.add_assoc]; (try (simp (disch := omega) only [wrap_i64]; try simp [↓aop, ↓Ab.opv, ↓upd_lit, ↓map_ta, ↓List.map_cons, ↓List.map_nil, Nat.add_assoc])); apply hK; clear hK hKp K Kp) | (refine AList.op0 ?_; intro K Kp hK hKp; simp [↓aop, ↓Ab.opv, ↓upd_lit, ↓map_ta, ↓List.map_cons, ↓List.map_nil, Nat.add_assoc]; (try (simp (disch := omega) only [wrap_i64]; try simp [↓aop, ↓Ab.opv, ↓upd_lit, ↓map_ta, ↓List.map_cons, ↓List.map_nil, Nat.add_assoc])); apply hK; clear hK hKp K Kp) | (refine AList.opT rfl (by decide) (by decide) ?_ ?_; (focus (first | rfl | (simp [↓upd_lit, Nat.add_assoc]; done))); intro K Kp hK hKp; simp [↓aop, ↓Ab.opv, ↓upd_lit, ↓map_ta, ↓List.map_cons, ↓List.map_nil, Nat.add_assoc]; (try (simp (disch := omega) only [wrap_i64]; try simp [↓aop, ↓Ab.opv, ↓upd_lit, ↓map_ta, ↓List.map_cons, ↓List.map_nil, Nat.add_assoc])); apply hK; clear hK hKp K Kp) | (refine AList.opF rfl (by decide) (by decide) ?_ ?_; (focus (first | rfl | (simp [↓upd_lit, Nat.add_assoc]; done)))) | refine AList.nil ?_ | refine AW.seq ?_ | refine AW.regionL ?_ | refine AW.block ?_ | refine AW.skip ?_ | refine AW.exit ?_ | refine AW.ret ?_ | refine AW.label ?_ | refine AExit.norT ?_ | refine AExit.norB ?_ | refine AExit.retT ?_ | refine AExit.retB ?_ | refine AExit.exiT ?_ | refine AExit.exiB ?_ | refine AExit.exiN (by decide) ?_ | (refine AW.condT ?_ ?_; (focus (first | rfl | (simp [↓upd_lit]; done)))) | (refine AW.condF ?_ ?_; (focus (first | rfl | (simp [↓upd_lit]; done)))))); exact k_) : G := h k
theorem tFa (k : K) (h : K → G := by intro k_; (repeat (first | (refine AList.op (by decide) ?_; intro K Kp hK hKp; simp [↓aop, ↓Ab.opv, ↓upd_lit, ↓map_ta, ↓List.map_cons, ↓List.map_nil, Nat.add_assoc, F]; (try (simp (disch := omega) only [wrap_i64]; try simp [↓aop, ↓Ab.opv, ↓upd_lit, ↓map_ta, ↓List.map_cons, ↓List.map_nil, Nat.add_assoc, F])); apply hK; clear hK hKp K Kp) | (refine AList.op0 ?_; intro K Kp hK hKp; simp [↓aop, ↓Ab.opv, ↓upd_lit, ↓map_ta, ↓List.map_cons, ↓List.map_nil, Nat.add_assoc, F]; (try (simp (disch := omega) only [wrap_i64]; try simp [↓aop, ↓Ab.opv, ↓upd_lit, ↓map_ta, ↓List.map_cons, ↓List.map_nil, Nat.add_assoc, F])); apply hK; clear hK hKp K Kp) | (refine AList.opT rfl (by decide) (by decide) ?_ ?_; (focus (first | rfl | (simp [↓upd_lit, Nat.add_assoc, F]; done))); intro K Kp hK hKp; simp [↓aop, ↓Ab.opv, ↓upd_lit, ↓map_ta, ↓List.map_cons, ↓List.map_nil, Nat.add_assoc, F]; (try (simp (disch := omega) only [wrap_i64]; try simp [↓aop, ↓Ab.opv, ↓upd_lit, ↓map_ta, ↓List.map_cons, ↓List.map_nil, Nat.add_assoc, F])); apply hK; clear hK hKp K Kp) | (refine AList.opF rfl (by decide) (by decide) ?_ ?_; (focus (first | rfl | (simp [↓upd_lit, Nat.add_assoc, F]; done)))) | refine AList.nil ?_ | refine AW.seq ?_ | refine AW.regionL ?_ | refine AW.block ?_ | refine AW.skip ?_ | refine AW.exit ?_ | refine AW.ret ?_ | refine AW.label ?_ | refine AExit.norT ?_ | refine AExit.norB ?_ | refine AExit.retT ?_ | refine AExit.retB ?_ | refine AExit.exiT ?_ | refine AExit.exiB ?_ | refine AExit.exiN (by decide) ?_ | (refine AW.condT ?_ ?_; (focus (first | rfl | (simp [↓upd_lit, F]; done)))) | (refine AW.condF ?_ ?_; (focus (first | rfl | (simp [↓upd_lit, F]; done)))))); exact k_) : G := h k
theorem tSp (k : K) (h : K → G := by intro k_; (repeat (first | (refine AList.op (by decide) ?_; intro K Kp hK hKp; simp [↓aop, ↓Ab.opv, ↓upd_lit, ↓map_ta, ↓List.map_cons, ↓List.map_nil, Nat.add_assoc, apick_or, apick_and, -apick]; (try (simp (disch := omega) only [wrap_i64]; try simp [↓aop, ↓Ab.opv, ↓upd_lit, ↓map_ta, ↓List.map_cons, ↓List.map_nil, Nat.add_assoc, apick_or, apick_and, -apick])); apply hK; clear hK hKp K Kp) | (refine AList.op0 ?_; intro K Kp hK hKp; simp [↓aop, ↓Ab.opv, ↓upd_lit, ↓map_ta, ↓List.map_cons, ↓List.map_nil, Nat.add_assoc, apick_or, apick_and, -apick]; (try (simp (disch := omega) only [wrap_i64]; try simp [↓aop, ↓Ab.opv, ↓upd_lit, ↓map_ta, ↓List.map_cons, ↓List.map_nil, Nat.add_assoc, apick_or, apick_and, -apick])); apply hK; clear hK hKp K Kp) | (refine AList.opP' (c := ?_) (p := ?_) rfl (by decide) (by decide) ?_ ?_ ?_; rotate_left 2; (focus (first | rfl | (simp [↓upd_lit, Nat.add_assoc]; rfl))); (focus (intro he K Kp hK; have he2 := he; (try simp only [Bool.and_eq_true] at he2); simp [-Int.not_lt, -Int.not_le, -Nat.not_lt, -Nat.not_le] at he; simp [↓aop, ↓Ab.opv, ↓upd_lit, ↓map_ta, ↓List.map_cons, ↓List.map_nil, Nat.add_assoc, ↓he2, he, apick_or, apick_and, -apick]; (try (simp (disch := omega) only [wrap_i64]; try simp [↓aop, ↓Ab.opv, ↓upd_lit, ↓map_ta, ↓List.map_cons, ↓List.map_nil, Nat.add_assoc, ↓he2, he, apick_or, apick_and, -apick])); exact hK))) | (refine AList.opP (b := ?_) (c := ?_) (p := ?_) rfl (by decide) (by decide) ?_ ?_ ?_; rotate_left 3; (focus (first | rfl | (simp [↓upd_lit, Nat.add_assoc]; rfl))); (focus (intro he K Kp hK; have he2 := he; (try simp only [Bool.and_eq_true] at he2); simp [-Int.not_lt, -Int.not_le, -Nat.not_lt, -Nat.not_le] at he; simp [↓aop, ↓Ab.opv, ↓upd_lit, ↓map_ta, ↓List.map_cons, ↓List.map_nil, Nat.add_assoc, ↓he2, he, apick_or, apick_and, -apick]; (try (simp (disch := omega) only [wrap_i64]; try simp [↓aop, ↓Ab.opv, ↓upd_lit, ↓map_ta, ↓List.map_cons, ↓List.map_nil, Nat.add_assoc, ↓he2, he, apick_or, apick_and, -apick])); exact hK))) | refine AList.nil ?_ | refine AW.seq ?_ | refine AW.regionL ?_ | refine AW.block ?_ | refine AW.skip ?_ | refine AW.exit ?_ | refine AW.ret ?_ | refine AW.label ?_ | refine AExit.norT ?_ | refine AExit.norB ?_ | refine AExit.retT ?_ | refine AExit.retB ?_ | refine AExit.exiT ?_ | refine AExit.exiB ?_ | refine AExit.exiN (by decide) ?_)); exact k_) : G := h k
theorem tFp (k : K) (h : K → G := by intro k_; (repeat (first | (refine AList.op (by decide) ?_; intro K Kp hK hKp; simp [↓aop, ↓Ab.opv, ↓upd_lit, ↓map_ta, ↓List.map_cons, ↓List.map_nil, Nat.add_assoc, F, apick_or, apick_and, -apick]; (try (simp (disch := omega) only [wrap_i64]; try simp [↓aop, ↓Ab.opv, ↓upd_lit, ↓map_ta, ↓List.map_cons, ↓List.map_nil, Nat.add_assoc, F, apick_or, apick_and, -apick])); apply hK; clear hK hKp K Kp) | (refine AList.op0 ?_; intro K Kp hK hKp; simp [↓aop, ↓Ab.opv, ↓upd_lit, ↓map_ta, ↓List.map_cons, ↓List.map_nil, Nat.add_assoc, F, apick_or, apick_and, -apick]; (try (simp (disch := omega) only [wrap_i64]; try simp [↓aop, ↓Ab.opv, ↓upd_lit, ↓map_ta, ↓List.map_cons, ↓List.map_nil, Nat.add_assoc, F, apick_or, apick_and, -apick])); apply hK; clear hK hKp K Kp) | (refine AList.opP' (c := ?_) (p := ?_) rfl (by decide) (by decide) ?_ ?_ ?_; rotate_left 2; (focus (first | rfl | (simp [↓upd_lit, Nat.add_assoc, F]; rfl))); (focus (intro he K Kp hK; have he2 := he; (try simp only [Bool.and_eq_true] at he2); simp [-Int.not_lt, -Int.not_le, -Nat.not_lt, -Nat.not_le] at he; simp [↓aop, ↓Ab.opv, ↓upd_lit, ↓map_ta, ↓List.map_cons, ↓List.map_nil, Nat.add_assoc, F, ↓he2, he, apick_or, apick_and, -apick]; (try (simp (disch := omega) only [wrap_i64]; try simp [↓aop, ↓Ab.opv, ↓upd_lit, ↓map_ta, ↓List.map_cons, ↓List.map_nil, Nat.add_assoc, F, ↓he2, he, apick_or, apick_and, -apick])); exact hK))) | (refine AList.opP (b := ?_) (c := ?_) (p := ?_) rfl (by decide) (by decide) ?_ ?_ ?_; rotate_left 3; (focus (first | rfl | (simp [↓upd_lit, Nat.add_assoc, F]; rfl))); (focus (intro he K Kp hK; have he2 := he; (try simp only [Bool.and_eq_true] at he2); simp [-Int.not_lt, -Int.not_le, -Nat.not_lt, -Nat.not_le] at he; simp [↓aop, ↓Ab.opv, ↓upd_lit, ↓map_ta, ↓List.map_cons, ↓List.map_nil, Nat.add_assoc, F, ↓he2, he, apick_or, apick_and, -apick]; (try (simp (disch := omega) only [wrap_i64]; try simp [↓aop, ↓Ab.opv, ↓upd_lit, ↓map_ta, ↓List.map_cons, ↓List.map_nil, Nat.add_assoc, F, ↓he2, he, apick_or, apick_and, -apick])); exact hK))) | refine AList.nil ?_ | refine AW.seq ?_ | refine AW.regionL ?_ | refine AW.block ?_ | refine AW.skip ?_ | refine AW.exit ?_ | refine AW.ret ?_ | refine AW.label ?_ | refine AExit.norT ?_ | refine AExit.norB ?_ | refine AExit.retT ?_ | refine AExit.retB ?_ | refine AExit.exiT ?_ | refine AExit.exiB ?_ | refine AExit.exiN (by decide) ?_)); exact k_) : G := h k
theorem tSc {B : Prop} (t : B) (k : K) (h : B → K → G := by intro t_ k_; refine AList.opP' (c := ?_) (p := ?_) rfl (by decide) (by decide) ?_ ?_ ?_; rotate_left 2; (focus (first | rfl | (simp [↓upd_lit, Nat.add_assoc]; rfl))); (focus (intro he K Kp hK; have he2 := he; (try simp only [Bool.and_eq_true] at he2); simp [-Int.not_lt, -Int.not_le, -Nat.not_lt, -Nat.not_le] at he; simp [↓aop, ↓Ab.opv, ↓upd_lit, ↓map_ta, ↓List.map_cons, ↓List.map_nil, Nat.add_assoc, ↓he2, he, apick_or, apick_and, -apick]; refine Gives.at t_ ?_; exact hK)); exact k_) : G := h t k
theorem tFc {B : Prop} (t : B) (k : K) (h : B → K → G := by intro t_ k_; refine AList.opP' (c := ?_) (p := ?_) rfl (by decide) (by decide) ?_ ?_ ?_; rotate_left 2; (focus (first | rfl | (simp [↓upd_lit, Nat.add_assoc, F]; rfl))); (focus (intro he K Kp hK; have he2 := he; (try simp only [Bool.and_eq_true] at he2); simp [-Int.not_lt, -Int.not_le, -Nat.not_lt, -Nat.not_le] at he; simp [↓aop, ↓Ab.opv, ↓upd_lit, ↓map_ta, ↓List.map_cons, ↓List.map_nil, Nat.add_assoc, F, ↓he2, he, apick_or, apick_and, -apick]; refine Gives.at t_ ?_; exact hK)); exact k_) : G := h t k
theorem tSC {B : Prop} (t : B) (k : K) (h : B → K → G := by intro t_ k_; refine AList.opP (b := ?_) (c := ?_) (p := ?_) rfl (by decide) (by decide) ?_ ?_ ?_; rotate_left 3; (focus (first | rfl | (simp [↓upd_lit, Nat.add_assoc]; rfl))); (focus (intro he K Kp hK; have he2 := he; (try simp only [Bool.and_eq_true] at he2); simp [-Int.not_lt, -Int.not_le, -Nat.not_lt, -Nat.not_le] at he; simp [↓aop, ↓Ab.opv, ↓upd_lit, ↓map_ta, ↓List.map_cons, ↓List.map_nil, Nat.add_assoc, ↓he2, he, apick_or, apick_and, -apick]; refine Gives.at t_ ?_; exact hK)); exact k_) : G := h t k
variable {H1 H2 : (PV → St → Prop) → Prop} {X : (PV → St → Prop) → (PV → St → Prop) → Prop}
theorem tS1 (k : ∀ K Kp, H1 K → H2 Kp → X K Kp) (h : (∀ K Kp, H1 K → H2 Kp → X K Kp) → G := by intro k_; refine AList.op (by decide) ?_; intro K Kp hK hKp; simp [↓aop, ↓Ab.opv, ↓upd_lit, ↓map_ta, ↓List.map_cons, ↓List.map_nil, Nat.add_assoc]; (try (simp (disch := omega) only [wrap_i64]; try simp [↓aop, ↓Ab.opv, ↓upd_lit, ↓map_ta, ↓List.map_cons, ↓List.map_nil, Nat.add_assoc])); exact k_ K Kp hK hKp) : G := h k
theorem tF1 (k : ∀ K Kp, H1 K → H2 Kp → X K Kp) (h : (∀ K Kp, H1 K → H2 Kp → X K Kp) → G := by intro k_; refine AList.op (by decide) ?_; intro K Kp hK hKp; simp [↓aop, ↓Ab.opv, ↓upd_lit, ↓map_ta, ↓List.map_cons, ↓List.map_nil, Nat.add_assoc, F]; (try (simp (disch := omega) only [wrap_i64]; try simp [↓aop, ↓Ab.opv, ↓upd_lit, ↓map_ta, ↓List.map_cons, ↓List.map_nil, Nat.add_assoc, F])); exact k_ K Kp hK hKp) : G := h k
end
section
variable {P : Program} {N : Nat} {l : List Oper} {cls : List Cls} {Q : APost} {σ : Nat → PV} {m : St} {listed : Array Bool} {fuel : Nat} {B : Prop}
variable {p : PV} {d g j : Nat} {want : Bool} {op : Op} {ty : TypeId} {pos : String} {after : Array Edge}
theorem dS (i : Nat) (h : DA P N l cls Q fuel (listed.setIfInBounds i true) (upd σ d p) m) (hi : l[i]? = some ⟨some d, op, ty, pos, after, none⟩ := by exact rfl) (hc : canTake true cls l.toArray listed i = true := by decide +kernel) (hd : d < N := by decide) (h1 : ∀ (m : St) (K : PV → St → Prop), K p m → aop P op (opv σ) m K (fun _ _ => False) := by intro m K hK; simp [↓aop, ↓Ab.opv, ↓upd_lit, ↓map_ta, ↓List.map_cons, ↓List.map_nil, Nat.add_assoc, F]; (try (simp (disch := omega) only [wrap_i64]; try simp [↓aop, ↓Ab.opv, ↓upd_lit, ↓map_ta, ↓List.map_cons, ↓List.map_nil, Nat.add_assoc, F])); exact hK) : DA P N l cls Q (fuel + 1) listed σ m := DA.S i hi hc hd (h1) h
theorem dR (i : Nat) (h : DA P N l cls Q fuel (listed.setIfInBounds i true) (upd σ d p) m) (hi : l[i]? = some ⟨some d, op, ty, pos, after, none⟩ := by exact rfl) (hc : canTake false cls l.toArray listed i = true := by decide +kernel) (hd : d < N := by decide) (h1 : ∀ (K : PV → St → Prop), K p m → aop P op (opv σ) m K (fun _ _ => False) := by intro K hK; simp [↓aop, ↓Ab.opv, ↓upd_lit, ↓map_ta, ↓List.map_cons, ↓List.map_nil, Nat.add_assoc, F]; (try (simp (disch := omega) only [wrap_i64]; try simp [↓aop, ↓Ab.opv, ↓upd_lit, ↓map_ta, ↓List.map_cons, ↓List.map_nil, Nat.add_assoc, F])); exact hK) : DA P N l cls Q (fuel + 1) listed σ m := DA.R i hi hc hd (h1) h
theorem dC (t : B) (i : Nat) (h : DA P N l cls Q fuel (listed.setIfInBounds i true) (upd σ d p) m) (hi : l[i]? = some ⟨some d, op, ty, pos, after, none⟩ := by exact rfl) (hc : canTake false cls l.toArray listed i = true := by decide +kernel) (hd : d < N := by decide) (h1 : B → ∀ (K : PV → St → Prop), K p m → aop P op (opv σ) m K (fun _ _ => False) := by intro t_ K hK; simp [↓aop, ↓Ab.opv, ↓upd_lit, ↓map_ta, ↓List.map_cons, ↓List.map_nil, Nat.add_assoc, F]; (try (simp (disch := omega) only [wrap_i64]; try simp [↓aop, ↓Ab.opv, ↓upd_lit, ↓map_ta, ↓List.map_cons, ↓List.map_nil, Nat.add_assoc, F])); exact Gives.at t_ hK) : DA P N l cls Q (fuel + 1) listed σ m := DA.R i hi hc hd (h1 t) h
theorem dST (i : Nat) (h : DA P N l cls Q fuel (listed.setIfInBounds i true) (upd σ d p) m) (hi : l[i]? = some ⟨some d, op, ty, pos, after, none⟩ := by exact rfl) (hc : canTakeT .S (goesWith true) cls l.toArray (Region.before l.toArray) listed i = true := by decide +kernel) (hd : d < N := by decide) (h1 : ∀ (m : St) (K : PV → St → Prop), K p m → aop P op (opv σ) m K (fun _ _ => False) := by intro m K hK; simp [↓aop, ↓Ab.opv, ↓upd_lit, ↓map_ta, ↓List.map_cons, ↓List.map_nil, Nat.add_assoc, F]; (try (simp (disch := omega) only [wrap_i64]; try simp [↓aop, ↓Ab.opv, ↓upd_lit, ↓map_ta, ↓List.map_cons, ↓List.map_nil, Nat.add_assoc, F])); exact hK) : DA P N l cls Q (fuel + 1) listed σ m := DA.ST i hi hc hd (h1) h
theorem dRT (i : Nat) (h : DA P N l cls Q fuel (listed.setIfInBounds i true) (upd σ d p) m) (hi : l[i]? = some ⟨some d, op, ty, pos, after, none⟩ := by exact rfl) (hc : canTakeT .R (goesWith false) cls l.toArray (Region.before l.toArray) listed i = true := by decide +kernel) (hd : d < N := by decide) (h1 : ∀ (K : PV → St → Prop), K p m → aop P op (opv σ) m K (fun _ _ => False) := by intro K hK; simp [↓aop, ↓Ab.opv, ↓upd_lit, ↓map_ta, ↓List.map_cons, ↓List.map_nil, Nat.add_assoc, F]; (try (simp (disch := omega) only [wrap_i64]; try simp [↓aop, ↓Ab.opv, ↓upd_lit, ↓map_ta, ↓List.map_cons, ↓List.map_nil, Nat.add_assoc, F])); exact hK) : DA P N l cls Q (fuel + 1) listed σ m := DA.RT i hi hc hd (h1) h
theorem dCT (t : B) (i : Nat) (h : DA P N l cls Q fuel (listed.setIfInBounds i true) (upd σ d p) m) (hi : l[i]? = some ⟨some d, op, ty, pos, after, none⟩ := by exact rfl) (hc : canTakeT .R (goesWith false) cls l.toArray (Region.before l.toArray) listed i = true := by decide +kernel) (hd : d < N := by decide) (h1 : B → ∀ (K : PV → St → Prop), K p m → aop P op (opv σ) m K (fun _ _ => False) := by intro t_ K hK; simp [↓aop, ↓Ab.opv, ↓upd_lit, ↓map_ta, ↓List.map_cons, ↓List.map_nil, Nat.add_assoc, F]; (try (simp (disch := omega) only [wrap_i64]; try simp [↓aop, ↓Ab.opv, ↓upd_lit, ↓map_ta, ↓List.map_cons, ↓List.map_nil, Nat.add_assoc, F])); exact Gives.at t_ hK) : DA P N l cls Q (fuel + 1) listed σ m := DA.RT i hi hc hd (h1 t) h
theorem dSG (i : Nat) (h : DA P N l cls Q fuel (listed.setIfInBounds i true) (upd σ d p) m) (hi : l[i]? = some ⟨some d, op, ty, pos, after, some (j, want)⟩ := by exact rfl) (hc : canTake true cls l.toArray listed i = true := by decide +kernel) (hd : d < N := by decide) (hj : opDst l.toArray j = some g := by exact rfl) (hlt : g < N := by decide) (hb : σ g = .v (.bool want) := by first | rfl | (simp [↓upd_lit, F]; done)) (h1 : ∀ (m : St) (K : PV → St → Prop), K p m → aop P op (opv σ) m K (fun _ _ => False) := by intro m K hK; simp [↓aop, ↓Ab.opv, ↓upd_lit, ↓map_ta, ↓List.map_cons, ↓List.map_nil, Nat.add_assoc, F]; (try (simp (disch := omega) only [wrap_i64]; try simp [↓aop, ↓Ab.opv, ↓upd_lit, ↓map_ta, ↓List.map_cons, ↓List.map_nil, Nat.add_assoc, F])); exact hK) : DA P N l cls Q (fuel + 1) listed σ m := DA.SG i hi hc hd hj hlt hb (h1) h
theorem dRG (i : Nat) (h : DA P N l cls Q fuel (listed.setIfInBounds i true) (upd σ d p) m) (hi : l[i]? = some ⟨some d, op, ty, pos, after, some (j, want)⟩ := by exact rfl) (hc : canTake false cls l.toArray listed i = true := by decide +kernel) (hd : d < N := by decide) (hj : opDst l.toArray j = some g := by exact rfl) (hlt : g < N := by decide) (hb : σ g = .v (.bool want) := by first | rfl | (simp [↓upd_lit, F]; done)) (h1 : ∀ (K : PV → St → Prop), K p m → aop P op (opv σ) m K (fun _ _ => False) := by intro K hK; simp [↓aop, ↓Ab.opv, ↓upd_lit, ↓map_ta, ↓List.map_cons, ↓List.map_nil, Nat.add_assoc, F]; (try (simp (disch := omega) only [wrap_i64]; try simp [↓aop, ↓Ab.opv, ↓upd_lit, ↓map_ta, ↓List.map_cons, ↓List.map_nil, Nat.add_assoc, F])); exact hK) : DA P N l cls Q (fuel + 1) listed σ m := DA.RG i hi hc hd hj hlt hb (h1) h
theorem dCG (t : B) (i : Nat) (h : DA P N l cls Q fuel (listed.setIfInBounds i true) (upd σ d p) m) (hi : l[i]? = some ⟨some d, op, ty, pos, after, some (j, want)⟩ := by exact rfl) (hc : canTake false cls l.toArray listed i = true := by decide +kernel) (hd : d < N := by decide) (hj : opDst l.toArray j = some g := by exact rfl) (hlt : g < N := by decide) (hb : σ g = .v (.bool want) := by first | rfl | (simp [↓upd_lit, F]; done)) (h1 : B → ∀ (K : PV → St → Prop), K p m → aop P op (opv σ) m K (fun _ _ => False) := by intro t_ K hK; simp [↓aop, ↓Ab.opv, ↓upd_lit, ↓map_ta, ↓List.map_cons, ↓List.map_nil, Nat.add_assoc, F]; (try (simp (disch := omega) only [wrap_i64]; try simp [↓aop, ↓Ab.opv, ↓upd_lit, ↓map_ta, ↓List.map_cons, ↓List.map_nil, Nat.add_assoc, F])); exact Gives.at t_ hK) : DA P N l cls Q (fuel + 1) listed σ m := DA.RG i hi hc hd hj hlt hb (h1 t) h
theorem dXx (i : Nat) (h : DA P N l cls Q fuel (listed.setIfInBounds i true) (upd σ d (.v undef)) m) (hi : l[i]? = some ⟨some d, op, ty, pos, after, some (j, want)⟩ := by exact rfl) (hc : canTake true cls l.toArray listed i = true := by decide +kernel) (hd : d < N := by decide) (hj : opDst l.toArray j = some g := by exact rfl) (hlt : g < N := by decide) (hb : σ g = .v (.bool !want) ∨ σ g = .v undef := by first | exact .inl rfl | exact .inr rfl | (simp [↓upd_lit, F]; done)) : DA P N l cls Q (fuel + 1) listed σ m := DA.X (s := true) i hi hc hd hj hlt hb h
theorem dXX (i : Nat) (h : DA P N l cls Q fuel (listed.setIfInBounds i true) (upd σ d (.v undef)) m) (hi : l[i]? = some ⟨some d, op, ty, pos, after, some (j, want)⟩ := by exact rfl) (hc : canTake false cls l.toArray listed i = true := by decide +kernel) (hd : d < N := by decide) (hj : opDst l.toArray j = some g := by exact rfl) (hlt : g < N := by decide) (hb : σ g = .v (.bool !want) ∨ σ g = .v undef := by first | exact .inl rfl | exact .inr rfl | (simp [↓upd_lit, F]; done)) : DA P N l cls Q (fuel + 1) listed σ m := DA.X (s := false) i hi hc hd hj hlt hb h
theorem dW {X : Prop} {oi : Oper} (i : Nat) (k : X) (hi : l[i]? = some oi := by exact rfl) (hc : isReady l.toArray listed [i] = true := by decide +kernel) (hw : cls.getD i .W = .W := by exact rfl) (hg : oi.guard = none := by exact rfl) (hd : dstOK N oi.dst = true := by decide)
    (h : X → ∀ K Kp : PV → St → Prop, (∀ p m', DA P N l cls Q fuel (listed.setIfInBounds i true) (put σ oi.dst p) m' → K p m') → (∀ p m', (∀ σ, Q (.pan p) σ m') → Kp p m') → aop P oi.op (opv σ) m K Kp := by intro k_ K Kp hK hKp; simp [↓aop, ↓Ab.opv, ↓upd_lit, ↓map_ta, ↓List.map_cons, ↓List.map_nil, Nat.add_assoc, F]; (try (simp (disch := omega) only [wrap_i64]; try simp [↓aop, ↓Ab.opv, ↓upd_lit, ↓map_ta, ↓List.map_cons, ↓List.map_nil, Nat.add_assoc, F])); apply hK; clear hK hKp K Kp; exact k_) : DA P N l cls Q (fuel + 1) listed σ m :=
  DA.W i hi hc hw hg hd (h k)
theorem dN {nx : (Nat → PV) → St → Prop} (h : nx σ m) (hc : isReady l.toArray listed [] = true := by decide +kernel) : DA P N l cls (AExit.then nx Q) 0 listed σ m := DA.done hc (AExit.norT h)
theorem dB {i : Nat} (h : Q .normal σ m) (hc : isReady l.toArray listed [] = true := by decide +kernel) : DA P N l cls (AExit.inBlock i Q) 0 listed σ m := DA.done hc (AExit.norB h)
end
end Go.Ab
namespace Go.Proofs.YtgfadepkiejncaaGreat
open Go.Ab
set_option maxHeartbeats 0
attribute [local irreducible] AW AList ACall DA AExit.then AExit.inBlock
def sameInt (n : Bool) (a : List Int) (n' : Bool) (a' : List Int) : Bool := n == n' && a == a'
abbrev intv (n : Bool) (a : List Int) : PV := .agg [vB n, .list .no (limbs a)]
theorem ref_sameInt (n n' : Bool) (a a' : List Int) (ha : a.length < 1152921504606846976) (ha' : a'.length < 1152921504606846976) : Gives Tryz.prog 93 [intv n a, intv n' a'] (vB (sameInt n a n' a')) := by
  intro m
  refine ACall.of_aw Tryz.func93 Tryz.ntmps93 rfl rfl (by simp) ?_
  refine tS ?_
  cases hb : (n == n') with
  | false =>
    have F := @hb; refine tFg ?_; (try clear F)
    refine AW.cond (t := true) (by simp [upd_lit, hb]) (fun _ => ?_) (fun h => by cases h)
    refine tS ?_
    exact Fin.ret rfl (((Same.refl m).newLoc _).newLoc _) (by simp [upd_lit]; rfl) (by simp) ⟨by simp [sameInt, hb], rfl⟩
  | true =>
    have F := @hb; refine tFg ?_; (try clear F)
    refine AW.condD (p := a.length ≠ a'.length) (by simp [upd_lit, hb, Int.natCast_inj]) (fun hl => ?_) (fun hl => ?_)
    · refine tS ?_
      exact Fin.ret rfl (((Same.refl m).newLoc _).newLoc _) (by simp [upd_lit]; rfl) (by simp) ⟨by simp [sameInt, hb]; intro e; exact hl (by rw [e]), rfl⟩
    have hl : a.length = a'.length := by simpa using hl
    refine tS ?_
    refine AW.loop (ι := Nat) (fun i σ m' => i ≤ a.length ∧ a.take i = a'.take i ∧ σ 5 = vI i ∧ σ 2 = .loc m.nloc 0 ∧ σ 3 = .loc (m.nloc + 1) 0 ∧ m' = (m.newLoc [vB n, .list .no (limbs a)]).newLoc [vB n', .list .no (limbs a')]) (fun i => a.length - i) 0 ?_ ?_
    · simp [upd_lit, limbs]
    rintro i σ m' ⟨hi, ht, h5, h2, h3, rfl⟩
    have F := (aand @h5 (aand @h2 @h3)); refine tF ?_; (try clear F)
    refine AW.condD (p := i < a.length) (by simp [upd_lit]) (fun hlt => ?_) (fun hge => ?_)
    · have hlt' : i < a'.length := by omega
      have F := (aand @h5 (aand @h2 @h3)); refine tF ?_; (try clear F)
      refine AW.draw [.S, .R, .S, .S, .R, .S, .R, .S, .S, .R, .S] (by decide +kernel) ?_; have F := (aand @h5 (aand @h2 (aand @h3 (aand @limbs_getD (aand @hlt @hlt'))))); refine dS 0 ?_; refine dR 1 ?_; refine dS 2 ?_; refine dS 3 ?_; refine dR 4 ?_; refine dS 5 ?_; refine dR 6 ?_; refine dS 7 ?_; refine dS 8 ?_; refine dR 9 ?_; refine dS 10 ?_; (try clear F); first | refine dN ?_ | refine dB ?_ | refine DA.done (by decide +kernel) ?_
      refine AW.condD (p := a[i] ≠ a'[i]) (by simp [upd_lit]) (fun hc => ?_) (fun hc => ?_)
      · refine tS ?_
        refine Fin.ret rfl (((Same.refl m).newLoc _).newLoc _) (by simp [upd_lit]; rfl) (by simp) ⟨?_, rfl⟩
        simp [sameInt, hb]; intro e; subst e; exact hc rfl
      · have F := (aand @h5 (aand @h2 @h3)); refine tF ?_; (try clear F)
        refine ⟨i + 1, ⟨by omega, ?_, ?_, ?_, ?_, rfl⟩, by omega⟩
        · rw [List.take_succ_eq_append_getElem hlt, List.take_succ_eq_append_getElem hlt', ht]; simp at hc; rw [hc]
        · simp [upd_lit]
        · simp [upd_lit, h2]
        · simp [upd_lit, h3]
    · refine tS ?_
      have hge : i = a.length := by omega
      subst hge
      exact Fin.ret rfl (((Same.refl m).newLoc _).newLoc _) (by simp [upd_lit]; rfl) (by simp) ⟨by rw [List.take_length, hl, List.take_length] at ht; simp [sameInt, hb, ht], rfl⟩
end Go.Proofs.YtgfadepkiejncaaGreat
namespace Go.Proofs.YtgfadepkiejncaaGreat
open Go.Ab
set_option maxHeartbeats 0
attribute [local irreducible] AW AList ACall DA AExit.then AExit.inBlock
mutual
def sameV : GV → GV → Bool
  | .mk k n ng a s l, .mk k' n' ng' a' s' l' => !(k != k' || n != n' || !(s.toList == s'.toList) || l.length != l'.length || !(sameInt ng a ng' a')) && sameL l l'
def sameL : List GV → List GV → Bool
  | a :: l, b :: l' => sameV a b && sameL l l'
  | _, _ => true
end
theorem sameV_eq (a b : GV) : sameV a b = (!(a.kind != b.kind || a.num != b.num || !(a.str.toList == b.str.toList) || a.els.length != b.els.length || !(sameInt a.neg a.abs b.neg b.abs)) && sameL a.els b.els) := by
  cases a; cases b; rfl
theorem sameL_of : ∀ (l l' : List GV), l.length = l'.length → (∀ i (h : i < l.length) (h' : i < l'.length), sameV l[i] l'[i] = true) → sameL l l' = true
  | [], [], _, _ => rfl
  | a :: l, b :: l', hl, h => by
    simp only [sameL, Bool.and_eq_true]
    exact ⟨h 0 (by simp) (by simp), sameL_of l l' (by simpa using hl) fun i h1 h2 => h (i + 1) (by simpa using h1) (by simpa using h2)⟩
  | [], _ :: _, hl, _ => by simp at hl
  | _ :: _, [], hl, _ => by simp at hl
theorem sameL_not : ∀ (l l' : List GV) (i : Nat) (h : i < l.length) (h' : i < l'.length), sameV l[i] l'[i] = false → sameL l l' = false
  | a :: l, b :: l', 0, _, _, h => by simp only [List.getElem_cons_zero] at h; simp [sameL, h]
  | a :: l, b :: l', i + 1, h1, h2, h => by
    have := sameL_not l l' i (by simpa using h1) (by simpa using h2) (by simpa using h)
    simp [sameL, this]
theorem ref_same (a b : GV) (ha : a.ok) (hb : b.ok) : Gives Tryz.prog 34 [a.pv, b.pv] (vB (sameV a b)) := by
  induction hk : nodes a using Nat.strongRecOn generalizing a b with
  | _ k ih =>
  subst hk
  have la := ha.len
  have lb := hb.len
  intro m
  refine ACall.of_aw Tryz.func34 Tryz.ntmps34 rfl rfl (by simp) ?_
  refine tSp ?_
  refine tSc (ref_sameInt _ _ _ _ ha.abs hb.abs) ?_
  refine tSp ?_
  obtain ⟨c, hc⟩ : ∃ c, c = (a.kind != b.kind || a.num != b.num || !(a.str.toList == b.str.toList) || a.els.length != b.els.length || !(sameInt a.neg a.abs b.neg b.abs)) := ⟨_, rfl⟩
  refine AW.cond (t := c) (by subst hc; simp [↓upd_lit, Int.natCast_inj, bne]) (fun h => ?_) (fun h => ?_)
  · refine tS ?_
    exact Fin.ret rfl (((Same.refl m).newLoc _).newLoc _) (by simp [upd_lit]; rfl) (by simp) ⟨by rw [sameV_eq, ← hc, h]; rfl, rfl⟩
  rw [hc] at h
  simp only [Bool.or_eq_false_iff, Bool.not_eq_false', bne_eq_false_iff_eq] at h
  have hl : a.els.length = b.els.length := h.1.2
  refine tS ?_
  refine AW.loop (ι := Nat) (fun i σ m' => i ≤ a.els.length ∧ (∀ j (h1 : j < a.els.length) (h2 : j < b.els.length), j < i → sameV a.els[j] b.els[j] = true) ∧ σ 5 = vI i ∧ σ 2 = .loc m.nloc 0 ∧ σ 3 = .loc (m.nloc + 1) 0 ∧ m' = (m.newLoc a.cells).newLoc b.cells) (fun i => a.els.length - i) 0 ?_ ?_
  · simp [upd_lit]
  rintro i σ m' ⟨hi, ht, h5, h2, h3, rfl⟩
  have F := (aand @h5 (aand @h2 @h3)); refine tF ?_; (try clear F)
  refine AW.condD (p := i < a.els.length) (by simp [upd_lit]) (fun hlt => ?_) (fun hge => ?_)
  · have hlt' : i < b.els.length := by omega
    have hg := nodes_get a.els i hlt
    have hn := nodes_eq a
    have F := (aand @h5 (aand @h2 @h3)); refine tF ?_; (try clear F)
    refine AW.draw [.S, .R, .S, .S, .R, .S, .R, .S, .S, .R, .R, .S] (by decide +kernel) ?_; have F := (aand @h5 (aand @h2 (aand @h3 (aand @rows_getD (aand @hlt @hlt'))))); refine dS 0 ?_; refine dR 1 ?_; refine dS 2 ?_; refine dS 3 ?_; refine dR 4 ?_; refine dS 5 ?_; refine dR 6 ?_; refine dS 7 ?_; refine dS 8 ?_; refine dR 9 ?_; refine dC (ih _ (by omega) a.els[i] b.els[i] (ha.el i hlt) (hb.el i hlt') rfl) 10 ?_; refine dS 11 ?_; (try clear F); first | refine dN ?_ | refine dB ?_ | refine DA.done (by decide +kernel) ?_
    cases hc : sameV a.els[i] b.els[i] with
    | false =>
      refine AW.cond (t := true) (by simp [upd_lit, hc]) (fun _ => ?_) (fun h => by cases h)
      refine tS ?_
      refine Fin.ret rfl (((Same.refl m).newLoc _).newLoc _) (by simp [upd_lit]; rfl) (by simp) ⟨?_, rfl⟩
      rw [sameV_eq, sameL_not _ _ i hlt hlt' hc, Bool.and_false]
    | true =>
      refine AW.cond (t := false) (by simp [upd_lit, hc]) (fun h => by cases h) (fun _ => ?_)
      have F := (aand @h5 (aand @h2 @h3)); refine tF ?_; (try clear F)
      refine ⟨i + 1, ⟨by omega, ?_, ?_, ?_, ?_, rfl⟩, by omega⟩
      · intro j h1 h2 hj
        by_cases e : j = i
        · subst e; exact hc
        · exact ht j h1 h2 (by omega)
      · simp [upd_lit]
      · simp [upd_lit, h2]
      · simp [upd_lit, h3]
  · refine tS ?_
    refine Fin.ret rfl (((Same.refl m).newLoc _).newLoc _) (by simp [upd_lit]; rfl) (by simp) ⟨?_, rfl⟩
    rw [sameV_eq, sameL_of _ _ hl fun j h1 h2 => ht j h1 h2 (by omega)]
    simp [h.1.1.1.1, h.1.1.1.2, h.1.1.2, h.2, hl]
end Go.Proofs.YtgfadepkiejncaaGreat
namespace Go.Proofs.YtgfadepkiejncaaGreat
open Go.Ab
set_option maxHeartbeats 0
attribute [local irreducible] AW AList ACall DA AExit.then AExit.inBlock
mutual
def deep : GV → Nat
  | .mk _ _ _ _ _ l => 1 + deepL l
def deepL : List GV → Nat
  | [] => 0
  | v :: l => max (deep v) (deepL l)
end
theorem deep_eq (v : GV) : deep v = 1 + deepL v.els := by cases v; rfl
theorem deepL_take (l : List GV) (i : Nat) (h : i < l.length) : deepL (l.take (i + 1)) = max (deepL (l.take i)) (deep l[i]) := by
  induction l generalizing i with
  | nil => simp at h
  | cons v l ih =>
    cases i with
    | zero => simp [deepL]
    | succ i => simp [deepL, ih i (by simpa using h), Nat.max_assoc]
mutual
theorem deep_le : ∀ v : GV, deep v ≤ nodes v
  | .mk _ _ _ _ _ l => by have := deepL_le l; simp [deep, nodes]; omega
theorem deepL_le : ∀ l : List GV, deepL l ≤ nodesL l
  | [] => by simp [deepL]
  | v :: l => by have := deep_le v; have := deepL_le l; simp [deepL, nodesL]; omega
end
mutual
def walkV : GV → List GV
  | .mk k n ng a s l => .mk k n ng a s l :: walkL l
def walkL : List GV → List GV
  | [] => []
  | v :: l => walkV v ++ walkL l
end
theorem walk_eq (v : GV) : walkV v = v :: walkL v.els := by cases v; rfl
theorem walkL_take (l : List GV) (i : Nat) (h : i < l.length) : walkL (l.take (i + 1)) = walkL (l.take i) ++ walkV l[i] := by
  induction l generalizing i with
  | nil => simp at h
  | cons v l ih =>
    cases i with
    | zero => simp [walkL]
    | succ i => simp [walkL, ih i (by simpa using h)]
mutual
theorem walk_len : ∀ v : GV, (walkV v).length = nodes v
  | .mk _ _ _ _ _ l => by have := walkL_len l; simp [walkV, nodes, this]; omega
theorem walkL_len : ∀ l : List GV, (walkL l).length = nodesL l
  | [] => rfl
  | v :: l => by have := walk_len v; have := walkL_len l; simp [walkL, nodesL]; omega
end
theorem ref_walk (v : GV) (hv : nodes v < 1099511627776) : Gives Tryz.prog 38 [v.pv] (GV.pvs (walkV v)) := by
  induction hk : nodes v using Nat.strongRecOn generalizing v with
  | _ k ih =>
  subst hk
  have hn := nodes_eq v
  have hl := nodesL_len v.els
  intro m
  refine ACall.of_aw Tryz.func38 Tryz.ntmps38 rfl rfl (by simp) ?_
  refine tS ?_
  refine AW.loop (ι := Nat) (fun i σ m' => i ≤ v.els.length ∧ (∃ o, σ 3 = .list o (GV.rows (v :: walkL (v.els.take i))) ∧ Ow (m.newLoc v.cells) m' o 6 (1 + nodesL (v.els.take i))) ∧ σ 4 = vI i ∧ σ 1 = .loc m.nloc 0) (fun i => v.els.length - i) 0 ?_ ?_
  · refine ⟨by simp, ⟨.full, by simp [upd_lit, walkL, GV.rows], .full (Same.refl _)⟩, by simp [upd_lit], by simp [upd_lit]⟩
  rintro i σ m' ⟨hi, ⟨o, h3, ho⟩, h4, h1⟩
  have hnb := nodesL_take_le v.els i
  have hm1 : m'.loc m.nloc = some v.cells := (ho.same.get (by simp)).trans (by simp)
  have hm2 : m.nloc < m'.nloc := Nat.lt_of_lt_of_le (by simp) ho.same.lloc
  have F := (aand @h1 (aand @h3 (aand @h4 (aand @hm1 @hm2)))); refine tF ?_; (try clear F)
  refine AW.condD (p := i < v.els.length) (by simp [upd_lit]) (fun hlt => ?_) (fun hge => ?_)
  · have hg := nodes_get v.els i hlt
    have ht := nodesL_take v.els i hlt
    have hw := walkL_take v.els i hlt
    have hb := nodesL_take_le v.els (i + 1)
    have F := (aand @h1 (aand @h3 (aand @h4 (aand @hm1 (aand @hm2 (aand @hlt @rows_getD)))))); refine tF ?_; (try clear F)
    have F := (aand @h1 (aand @h3 @h4)); refine tF1 fun K Kp hK hKp => ?_; (try clear F); refine Gives.at (ih _ (by omega) v.els[i] (by omega) rfl) ?_; apply hK; clear hK hKp K Kp
    refine AList.op (by decide) ?_; intro K Kp hK hKp; simp [h3, upd_lit]
    refine app25 ho (by simp [walkL_len, Nat.add_comm]) (by simp [walkL_len, walk_len]; omega) fun o' m'' ho' _ => hK _ _ ?_; clear hK hKp K Kp
    have F := @h4; refine tF ?_; (try clear F)
    refine ⟨i + 1, ⟨by omega, ⟨o', ?_, ?_⟩, ?_, ?_⟩, by omega⟩
    · simp [upd_lit, hw]
    · rw [walk_len] at ho'; rw [ht, ← Nat.add_assoc]; exact ho'
    · simp [upd_lit]
    · simp [upd_lit, h1]
  · have F := @h3; refine tF ?_; (try clear F)
    have hge : i = v.els.length := by omega
    subst hge
    exact Fin.ret rfl (((Same.refl m).newLoc _).trans ho.same) (by simp [upd_lit]; rfl) (by simp) ⟨by simp [walk_eq, PV.strip], rfl⟩
end Go.Proofs.YtgfadepkiejncaaGreat
namespace Go.Proofs.YtgfadepkiejncaaGreat
open Go.Ab
set_option maxHeartbeats 0
attribute [local irreducible] AW AList ACall DA AExit.then AExit.inBlock
mutual
def wt : GV → Int → Int
  | .mk _ _ _ _ _ l, most => wtL l most 1
def wtL : List GV → Int → Int → Int
  | [], _, n => n
  | v :: l, most, n => if n ≤ most then wtL l most (n + wt v (most - n)) else n
end
theorem wt_eq (v : GV) (most : Int) : wt v most = wtL v.els most 1 := by cases v; rfl
mutual
theorem wt_spec : ∀ (v : GV) (most : Int), 1 ≤ wt v most ∧ (wt v most ≤ 1 ∨ wt v most ≤ most + 1) ∧ (wt v most ≤ most → wt v most = nodes v)
  | .mk _ _ _ _ _ l, most => by
    obtain ⟨h1, h2, h3⟩ := wtL_spec l most 1 (.inl (Int.le_refl _))
    refine ⟨h1, h2, fun h => ?_⟩
    have := h3 h
    simp only [wt, nodes]; rw [this]; simp
theorem wtL_spec : ∀ (l : List GV) (most n : Int), (n ≤ 1 ∨ n ≤ most + 1) → n ≤ wtL l most n ∧ (wtL l most n ≤ 1 ∨ wtL l most n ≤ most + 1) ∧ (wtL l most n ≤ most → wtL l most n = n + nodesL l)
  | [], most, n, h => ⟨Int.le_refl _, h, fun _ => by simp [wtL, nodesL]⟩
  | v :: l, most, n, h => by
    simp only [wtL]
    split
    · rename_i hn
      obtain ⟨h1, h2, h3⟩ := wt_spec v (most - n)
      obtain ⟨k1, k2, k3⟩ := wtL_spec l most (n + wt v (most - n)) (by omega)
      refine ⟨by omega, k2, fun h => ?_⟩
      have := k3 h
      have := h3 (by omega)
      simp only [nodesL]; omega
    · rename_i hn
      exact ⟨Int.le_refl _, h, fun h => absurd h hn⟩
end
theorem drop_get {α : Type} (l : List α) (i : Nat) (h : i < l.length) : l.drop i = l[i] :: l.drop (i + 1) := List.drop_eq_getElem_cons h
theorem law_weight (v : GV) (most : Int) (hv : v.ok) (hm : -4611686018427387904 ≤ most ∧ most < 4611686018427387904) : Gives Tryz.prog 79 [v.pv, vI most] (vI (wt v most)) := by
  induction hk : nodes v using Nat.strongRecOn generalizing v most with
  | _ k ih =>
  subst hk
  have hn := nodes_eq v
  have hl := hv.len
  intro m
  refine ACall.of_aw Tryz.func79 Tryz.ntmps79 rfl rfl (by simp) ?_
  refine tS ?_
  refine AW.loop (ι := Nat) (fun i σ m' => i ≤ v.els.length ∧ (∃ n : Int, σ 5 = vI n ∧ 1 ≤ n ∧ (n ≤ 1 ∨ n ≤ most + 1) ∧ wtL (v.els.drop i) most n = wt v most) ∧ σ 6 = vI i ∧ σ 1 = vI most ∧ σ 2 = .loc m.nloc 0 ∧ m' = m.newLoc v.cells) (fun i => v.els.length - i) 0 ?_ ?_
  · refine ⟨by simp, ⟨1, by simp [upd_lit], by omega, by omega, by simp [wt_eq]⟩, by simp [upd_lit], by simp [upd_lit], by simp [upd_lit], rfl⟩
  rintro i σ m' ⟨hi, ⟨n, h5, hn1, hn2, hw⟩, h6, h1, h2, rfl⟩
  have F := (aand @h1 (aand @h2 (aand @h5 @h6))); refine tFp ?_; (try clear F)
  refine AW.condD (p := i < v.els.length ∧ n ≤ most) (by simp [upd_lit]) (fun hlt => ?_) (fun hge => ?_)
  · obtain ⟨hlt, hle⟩ := hlt
    have hg := nodes_get v.els i hlt
    obtain ⟨s1, s2, s3⟩ := wt_spec v.els[i] (most - n)
    rw [drop_get _ _ hlt, wtL, if_pos hle] at hw
    have F := (aand @h1 (aand @h2 (aand @h5 (aand @h6 (aand @hlt @rows_getD))))); refine tF ?_; (try clear F)
    have F := (aand @h1 (aand @h2 (aand @h5 @h6))); refine tF1 fun K Kp hK hKp => ?_; (try clear F); refine Gives.at (ih _ (by omega) v.els[i] (most - n) (hv.el i hlt) (by omega) rfl) ?_; apply hK; clear hK hKp K Kp
    have F := (aand @h1 (aand @h2 (aand @h5 @h6))); refine tF ?_; (try clear F)
    refine ⟨i + 1, ⟨by omega, ⟨n + wt v.els[i] (most - n), ?_, by omega, by omega, hw⟩, ?_, ?_, ?_, rfl⟩, by omega⟩
    · simp [upd_lit]
    · simp [upd_lit]
    · simp [upd_lit, h1]
    · simp [upd_lit, h2]
  · have F := @h5; refine tF ?_; (try clear F)
    have : n = wt v most := by
      rw [← hw]
      by_cases hlt : i < v.els.length
      · rw [drop_get _ _ hlt, wtL, if_neg (by omega)]
      · rw [List.drop_eq_nil_of_le (by omega), wtL]
    exact Fin.ret rfl ((Same.refl m).newLoc _) (by simp [upd_lit]; rfl) (by simp) ⟨by rw [this], rfl⟩
def numbersF (a b : Int) : Int := if a < b then -1 else if b < a then 1 else 0
theorem ref_numbers (a b : Int) : Gives Tryz.prog 87 [vI a, vI b] (vI (numbersF a b)) := by
  intro m
  refine ACall.of_aw Tryz.func87 Tryz.ntmps87 rfl rfl (by simp) ?_
  refine tS ?_
  refine AW.condD (p := a < b) (by simp [upd_lit]) (fun h => ?_) (fun h => ?_)
  · refine tS ?_
    exact Fin.ret rfl (Same.refl m) (by simp [upd_lit]; rfl) (by simp) ⟨by simp [numbersF, h], rfl⟩
  refine tS ?_
  refine AW.condD (p := b < a) (by simp [upd_lit]) (fun h' => ?_) (fun h' => ?_)
  · refine tS ?_
    exact Fin.ret rfl (Same.refl m) (by simp [upd_lit]; rfl) (by simp) ⟨by simp [numbersF, h, h'], rfl⟩
  refine tS ?_
  exact Fin.ret rfl (Same.refl m) (by simp [upd_lit]; rfl) (by simp) ⟨by simp [numbersF, h, h'], rfl⟩
end Go.Proofs.YtgfadepkiejncaaGreat
namespace Go.Proofs.YtgfadepkiejncaaGreat
open Go.Ab
set_option maxHeartbeats 0
attribute [local irreducible] AW AList ACall DA AExit.then AExit.inBlock
def cmpAt (a b : List Int) : Nat → Int
  | 0 => 0
  | i + 1 => if a.getD i 0 < b.getD i 0 then -1 else if b.getD i 0 < a.getD i 0 then 1 else cmpAt a b i
def sizeF (a b : List Int) : Int := if a.length ≠ b.length then (if a.length < b.length then -1 else 1) else cmpAt a b a.length
theorem ref_size (a b : List Int) (la : a.length < 1152921504606846976) (lb : b.length < 1152921504606846976) : Gives Tryz.prog 136 [.list .no (limbs a), .list .no (limbs b)] (vI (sizeF a b)) := by
  intro m
  refine ACall.of_aw Tryz.func136 Tryz.ntmps136 rfl rfl (by simp) ?_
  refine tS ?_
  refine AW.condD (p := a.length ≠ b.length) (by simp [upd_lit, Int.natCast_inj]) (fun hl => ?_) (fun hl => ?_)
  · refine tS ?_
    refine AW.condD (p := a.length < b.length) (by simp [upd_lit]) (fun h => ?_) (fun h => ?_)
    · refine tS ?_
      exact Fin.ret rfl (Same.refl m) (by simp [upd_lit]; rfl) (by simp) ⟨by simp [sizeF, hl, h], rfl⟩
    · refine tS ?_
      exact Fin.ret rfl (Same.refl m) (by simp [upd_lit]; rfl) (by simp) ⟨by simp [sizeF, hl, h], rfl⟩
  have hl : a.length = b.length := by simpa using hl
  refine tS ?_
  refine AW.loop (ι := Nat) (fun i σ m' => i ≤ a.length ∧ cmpAt a b i = sizeF a b ∧ σ 5 = vI ((i : Int) - 1) ∧ σ 0 = .list .no (limbs a) ∧ σ 1 = .list .no (limbs b) ∧ m' = m) (fun i => i) a.length ?_ ?_
  · simp [upd_lit, sizeF, hl]
  rintro i σ m' ⟨hi, hc, h5, h0, h1, rfl⟩
  have F := (aand @h5 (aand @h0 @h1)); refine tF ?_; (try clear F)
  refine AW.condD (p := 0 < i) (by simp [upd_lit]; omega) (fun hlt => ?_) (fun hge => ?_)
  · obtain ⟨j, rfl⟩ : ∃ j, i = j + 1 := ⟨i - 1, by omega⟩
    have ja : j < a.length := by omega
    have jb : j < b.length := by omega
    have ga : a.getD j 0 = a[j] := by simp [List.getD, ja]
    have gb : b.getD j 0 = b[j] := by simp [List.getD, jb]
    rw [cmpAt, ga, gb] at hc
    have h5' : σ 5 = vI j := by rw [h5]; congr 1; congr 1; omega
    have F := (aand @h5' (aand @h0 @h1)); refine tF ?_; (try clear F)
    refine AW.draw [.S, .S, .S, .R, .S, .S, .S, .R, .S] (by decide +kernel) ?_; have F := (aand @h5' (aand @h0 (aand @h1 (aand @limbs_getD (aand @ja @jb))))); refine dS 0 ?_; refine dS 1 ?_; refine dS 2 ?_; refine dR 3 ?_; refine dS 4 ?_; refine dS 5 ?_; refine dS 6 ?_; refine dR 7 ?_; refine dS 8 ?_; (try clear F); first | refine dN ?_ | refine dB ?_ | refine DA.done (by decide +kernel) ?_
    refine AW.condD (p := a[j] < b[j]) (by simp [upd_lit]) (fun h => ?_) (fun h => ?_)
    · refine tS ?_
      exact Fin.ret rfl (Same.refl _) (by simp [upd_lit]; rfl) (by simp) ⟨by rw [if_pos h] at hc; rw [← hc], rfl⟩
    rw [if_neg h] at hc
    refine tS ?_
    refine AW.draw [.S, .S, .S, .R, .S, .S, .S, .R, .S] (by decide +kernel) ?_; have F := (aand @h5' (aand @h0 (aand @h1 (aand @limbs_getD (aand @ja @jb))))); refine dS 0 ?_; refine dS 1 ?_; refine dS 2 ?_; refine dR 3 ?_; refine dS 4 ?_; refine dS 5 ?_; refine dS 6 ?_; refine dR 7 ?_; refine dS 8 ?_; (try clear F); first | refine dN ?_ | refine dB ?_ | refine DA.done (by decide +kernel) ?_
    refine AW.condD (p := b[j] < a[j]) (by simp [upd_lit]) (fun h' => ?_) (fun h' => ?_)
    · refine tS ?_
      exact Fin.ret rfl (Same.refl _) (by simp [upd_lit]; rfl) (by simp) ⟨by rw [if_pos h'] at hc; rw [← hc], rfl⟩
    rw [if_neg h'] at hc
    have F := @h5'; refine tF ?_; (try clear F)
    refine ⟨j, ⟨by omega, hc, ?_, ?_, ?_, rfl⟩, by omega⟩
    · simp [upd_lit]
    · simp [upd_lit, h0]
    · simp [upd_lit, h1]
  · refine tS ?_
    have : i = 0 := by omega
    subst this
    exact Fin.ret rfl (Same.refl _) (by simp [upd_lit]; rfl) (by simp) ⟨by rw [← hc]; rfl, rfl⟩
def intsF (n : Bool) (a : List Int) (n' : Bool) (a' : List Int) : Int := if n ≠ n' then (if n then -1 else 1) else if n then sizeF a' a else sizeF a a'
theorem ref_ints (n n' : Bool) (a a' : List Int) (la : a.length < 1152921504606846976) (lb : a'.length < 1152921504606846976) : Gives Tryz.prog 88 [intv n a, intv n' a'] (vI (intsF n a n' a')) := by
  intro m
  refine ACall.of_aw Tryz.func88 Tryz.ntmps88 rfl rfl (by simp) ?_
  refine tS ?_
  have sm : Same m ((m.newLoc [vB n, .list .no (limbs a)]).newLoc [vB n', .list .no (limbs a')]) := ((Same.refl m).newLoc _).newLoc _
  cases hn : (n == n') with
  | false =>
    have hne : n ≠ n' := by simpa using hn
    refine AW.cond (t := true) (by simp [upd_lit, hn]) (fun _ => ?_) (fun h => by cases h)
    refine tS ?_
    refine AW.cond (t := n) (by simp [upd_lit]) (fun h => ?_) (fun h => ?_)
    · refine tS ?_
      exact Fin.ret rfl sm (by simp [upd_lit]; rfl) (by simp) ⟨by simp only [intsF]; rw [if_pos hne, if_pos h], rfl⟩
    · refine tS ?_
      exact Fin.ret rfl sm (by simp [upd_lit]; rfl) (by simp) ⟨by simp only [intsF]; rw [if_pos hne, if_neg (by simp [h])], rfl⟩
  | true =>
    have he : ¬ n ≠ n' := by simpa using hn
    refine AW.cond (t := false) (by simp [upd_lit, hn]) (fun h => by cases h) (fun _ => ?_)
    refine tS ?_
    refine AW.cond (t := n) (by simp [upd_lit]) (fun h => ?_) (fun h => ?_)
    · refine tS ?_
      refine tS1 fun K Kp hK hKp => ?_; refine Gives.at (ref_size a' a lb la) ?_; apply hK; clear hK hKp K Kp
      refine tS ?_
      exact Fin.ret rfl sm (by simp [upd_lit]; rfl) (by simp) ⟨by simp only [intsF]; rw [if_neg he, if_pos h], rfl⟩
    · refine tS ?_
      refine tS1 fun K Kp hK hKp => ?_; refine Gives.at (ref_size a a' la lb) ?_; apply hK; clear hK hKp K Kp
      refine tS ?_
      exact Fin.ret rfl sm (by simp [upd_lit]; rfl) (by simp) ⟨by simp only [intsF]; rw [if_neg he, if_neg (by simp [h])], rfl⟩
end Go.Proofs.YtgfadepkiejncaaGreat
namespace Go.Proofs.YtgfadepkiejncaaGreat
open Go.Ab
set_option maxHeartbeats 0
attribute [local irreducible] AW AList ACall DA AExit.then AExit.inBlock
def tenL : List Int → Int → List Int
  | [], c => if 0 < c then [c % 4294967296] else []
  | x :: l, c => (x * 10 + c) % 4294967296 :: tenL l ((x * 10 + c) / 4294967296)
def limbOK (l : List Int) : Prop := ∀ x ∈ l, 0 ≤ x ∧ x < 4294967296
theorem ref_tenfold (n : Bool) (a : List Int) (la : a.length < 549755813888) (ha : limbOK a) : Gives Tryz.prog 137 [intv n a] (intv n (tenL a 0)) := by
  intro m
  refine ACall.of_aw Tryz.func137 Tryz.ntmps137 rfl rfl (by simp) ?_
  refine tS ?_
  refine AW.loop (ι := Nat) (fun i σ m' => i ≤ a.length ∧ (∃ p c o, m'.loc (m.nloc + 2) = some [vB n, .list o (limbs p)] ∧ Ow m m' o 1 p.length ∧ p.length = i ∧ 0 ≤ c ∧ c < 10 ∧ σ 4 = vQ c ∧ p ++ tenL (a.drop i) c = tenL a 0) ∧
    m'.loc m.nloc = some [vB n, .list .no (limbs a)] ∧ m'.loc (m.nloc + 1) = some [vB false, .list .full []] ∧ m.nloc + 2 < m'.nloc ∧ σ 5 = vI i ∧ σ 1 = .loc m.nloc 0 ∧ σ 2 = .loc (m.nloc + 1) 0 ∧ σ 3 = .loc (m.nloc + 2) 0) (fun i => a.length - i) 0 ?_ ?_
  · refine ⟨by simp, ⟨[], 0, .full, by simp [limbs], .full ((((Same.refl m).newLoc _).newLoc _).newLoc _ |>.setLoc (by omega) _), rfl, by omega, by omega, by simp [upd_lit], by simp⟩, by simp; omega, by simp, by simp, by simp [upd_lit], by simp [upd_lit], by simp [upd_lit], by simp [upd_lit]⟩
  rintro i σ m' ⟨hi, ⟨p, c, o, hl2, ho, hp, hc0, hc1, h4, ht⟩, hl0, hl1, hnl, h5, h1, h2, h3⟩
  have hn0 : m.nloc < m'.nloc := by omega
  have F := (aand @h1 (aand @h2 (aand @h3 (aand @h4 (aand @h5 (aand @hl0 (aand @hl2 (aand @hnl @hn0)))))))); refine tF ?_; (try clear F)
  refine AW.condD (p := i < a.length) (by simp [upd_lit]) (fun hlt => ?_) (fun hge => ?_)
  · have hx := ha a[i] (List.getElem_mem hlt)
    have w1 : IntKind.u64.wrap a[i] = a[i] := wrap_u64 _ (by omega) (by omega)
    have w2 : IntKind.u64.wrap (a[i] * 10) = a[i] * 10 := wrap_u64 _ (by omega) (by omega)
    have w3 : IntKind.u64.wrap (a[i] * 10 + c) = a[i] * 10 + c := wrap_u64 _ (by omega) (by omega)
    rw [drop_get _ _ hlt, tenL] at ht
    have F := (aand @h1 (aand @h2 (aand @h3 (aand @h4 (aand @h5 (aand @hl0 (aand @hl2 (aand @hnl (aand @hn0 (aand @limbs_getD (aand @hlt (aand @w1 (aand @w2 (aand @w3 @wrap_u32)))))))))))))); refine tF ?_; (try clear F)
    refine AList.op (by decide) ?_; intro K Kp hK hKp; simp [upd_lit]
    refine app22 (l' := [(a[i] * 10 + c) % 4294967296]) ho rfl (by simp; omega) fun o' m'' ho' hs => hK _ _ ?_; clear hK hKp K Kp
    have gl2 : m''.loc (m.nloc + 2) = some [vB n, .list o (limbs p)] := by rw [hs.loc]; exact hl2
    have gl0 : m''.loc m.nloc = some [vB n, .list .no (limbs a)] := by rw [hs.loc]; exact hl0
    have gl1 : m''.loc (m.nloc + 1) = some [vB false, .list .full []] := by rw [hs.loc]; exact hl1
    have gnl : m.nloc + 2 < m''.nloc := by rw [hs.nloc]; exact hnl
    have F := (aand @h1 (aand @h2 (aand @h3 (aand @h4 (aand @h5 (aand @gl0 (aand @gl2 @gnl))))))); refine tF ?_; (try clear F)
    refine ⟨i + 1, ⟨by omega, ⟨p ++ [(a[i] * 10 + c) % 4294967296], (a[i] * 10 + c) / 4294967296, o', ?_, ⟨ho'.1.setLoc (by omega) _, ?_, ho'.2.2⟩, by simp [hp], by omega, by omega, ?_, ?_⟩, ?_, ?_, ?_, ?_, ?_, ?_, ?_⟩, by omega⟩
    · simp
    · have := ho'.2.1; simp at this ⊢; exact this
    · simp [upd_lit]
    · rw [List.append_assoc]; exact ht
    · simp [gl0]
    · simp [gl1]
    · simp; exact gnl
    · simp [upd_lit]
    · simp [upd_lit, h1]
    · simp [upd_lit, h2]
    · simp [upd_lit, h3]
  · have F := (aand @h1 (aand @h2 (aand @h3 (aand @h4 (aand @h5 (aand @hl0 (aand @hl2 (aand @hnl @hn0)))))))); refine tF ?_; (try clear F)
    have hi' : i = a.length := by omega
    subst hi'
    have hn1 : m.nloc + 1 < m'.nloc := by omega
    rw [List.drop_eq_nil_of_le (Nat.le_refl _), tenL] at ht
    refine AW.condD (p := 0 < c) (by simp [upd_lit]) (fun hc => ?_) (fun hc => ?_)
    · rw [if_pos hc] at ht
      have F := (aand @h1 (aand @h2 (aand @h3 (aand @h4 (aand @h5 (aand @hl0 (aand @hl2 (aand @hnl (aand @hn0 @wrap_u32))))))))); refine tF ?_; (try clear F)
      refine AList.op (by decide) ?_; intro K Kp hK hKp; simp [upd_lit]
      refine app22 (l' := [c % 4294967296]) ho rfl (by simp; omega) fun o' m'' ho' hs => hK _ _ ?_; clear hK hKp K Kp
      have gl2 : m''.loc (m.nloc + 2) = some [vB n, .list o (limbs p)] := by rw [hs.loc]; exact hl2
      have gl1 : m''.loc (m.nloc + 1) = some [vB false, .list .full []] := by rw [hs.loc]; exact hl1
      have gnl : m.nloc + 2 < m''.nloc := by rw [hs.nloc]; exact hnl
      have gn1 : m.nloc + 1 < m''.nloc := by omega
      have F := (aand @h1 (aand @h2 (aand @h3 (aand @h4 (aand @h5 (aand @gl1 (aand @gl2 (aand @gnl @gn1)))))))); refine tF ?_; (try clear F)
      refine Fin.retC (p := .agg [vB n, .list o' (limbs (p ++ [c % 4294967296]))]) rfl (by simp [upd_lit, h2, gn1]) ((ho'.1.setLoc (by omega) _).setLoc (by omega) _) (by simp [ht]) (by simp) ⟨rfl, rfl⟩
    · rw [if_neg hc, List.append_nil] at ht
      have F := (aand @h1 (aand @h2 (aand @h3 (aand @h4 (aand @h5 (aand @hl1 (aand @hl2 (aand @hnl @hn1)))))))); refine tF ?_; (try clear F)
      refine Fin.retC (p := .agg [vB n, .list o (limbs p)]) rfl (by simp [upd_lit, h2, hn1]) (ho.1.setLoc (by omega) _) (by simp [ht]) (by simp) ⟨rfl, rfl⟩
theorem tenL_len : ∀ (l : List Int) (c : Int), (tenL l c).length ≤ l.length + 1
  | [], c => by simp only [tenL]; split <;> simp
  | x :: l, c => by have := tenL_len l ((x * 10 + c) / 4294967296); simp [tenL]; omega
theorem tenL_ok : ∀ (l : List Int) (c : Int), limbOK (tenL l c)
  | [], c, x, h => by
    simp only [tenL] at h; split at h
    · simp at h; omega
    · simp at h
  | y :: l, c, x, h => by
    simp only [tenL, List.mem_cons] at h
    rcases h with h | h
    · omega
    · exact tenL_ok l _ x h
def tens10 : Nat → List Int → List Int
  | 0, l => l
  | k + 1, l => tens10 k (tenL l 0)
theorem tens10_len : ∀ (k : Nat) (l : List Int), (tens10 k l).length ≤ l.length + k
  | 0, l => by simp [tens10]
  | k + 1, l => by have := tens10_len k (tenL l 0); have := tenL_len l 0; simp [tens10]; omega
def decF (a b : GV) : Int := intsF a.neg (tens10 (b.num - a.num).toNat a.abs) b.neg (tens10 (a.num - b.num).toNat b.abs)
def decOK (v : GV) : Prop := v.abs.length < 68719476736 ∧ -68719476736 ≤ v.num ∧ v.num ≤ 68719476736
theorem ref_decimals (a b : GV) (ha : a.ok) (hb : b.ok) (da : decOK a) (db : decOK b) : Gives Tryz.prog 89 [a.pv, b.pv] (vI (decF a b)) := by
  obtain ⟨da1, da2, da3⟩ := da
  obtain ⟨db1, db2, db3⟩ := db
  intro m
  refine ACall.of_aw Tryz.func89 Tryz.ntmps89 rfl rfl (by simp) ?_
  refine tS ?_
  refine AW.loop (ι := Int) (fun n σ m' => (∃ x, m'.loc (m.nloc + 2) = some [vB a.neg, .list .no (limbs x)] ∧ limbOK x ∧ (x.length : Int) + (b.num - n).toNat ≤ a.abs.length + (b.num - a.num).toNat ∧ tens10 (b.num - n).toNat x = tens10 (b.num - a.num).toNat a.abs) ∧ a.num ≤ n ∧
    (n ≤ a.num ∨ n ≤ b.num) ∧ σ 7 = vI n ∧ σ 2 = .loc m.nloc 0 ∧ σ 3 = .loc (m.nloc + 1) 0 ∧ σ 5 = .loc (m.nloc + 2) 0 ∧ σ 6 = .loc (m.nloc + 3) 0 ∧ m'.loc m.nloc = some a.cells ∧ m'.loc (m.nloc + 1) = some b.cells ∧ m'.loc (m.nloc + 3) = some [vB b.neg, .list .no (limbs b.abs)] ∧ m'.nloc = m.nloc + 4 ∧ Same m m') (fun n => (b.num - n).toNat) a.num ?_ ?_
  · exact ⟨⟨a.abs, by simp, ha.limb, by omega, rfl⟩, by omega, by omega, by simp [upd_lit], by simp [upd_lit], by simp [upd_lit], by simp [upd_lit], by simp [upd_lit], by simp [Nat.add_assoc], by simp [Nat.add_assoc], by simp [Nat.add_assoc], by simp [Nat.add_assoc], Same.auto⟩
  rintro n σ m' ⟨⟨x, hl2, hx, hlen, hten⟩, hn1, hn2, h7, h2, h3, h5, h6, hl0, hl1, hl3, hnl, sm⟩
  have F := (aand @h2 (aand @h3 (aand @h5 (aand @h6 (aand @h7 (aand @hl0 (aand @hl1 (aand @hl2 (aand @hl3 @hnl))))))))); refine tF ?_; (try clear F)
  refine AW.condD (p := n < b.num) (by simp [upd_lit]) (fun hlt => ?_) (fun hge => ?_)
  · obtain ⟨k, hk⟩ : ∃ k, (b.num - n).toNat = k + 1 := ⟨(b.num - n).toNat - 1, by omega⟩
    have hk' : (b.num - (n + 1)).toNat = k := by omega
    rw [hk, tens10] at hten
    have hl := tenL_len x 0
    have F := (aand @h2 (aand @h3 (aand @h5 (aand @h6 (aand @h7 (aand @hl0 (aand @hl1 (aand @hl2 (aand @hl3 @hnl))))))))); refine tF ?_; (try clear F)
    have F := (aand @h2 (aand @h3 (aand @h5 (aand @h6 (aand @h7 (aand @hl0 (aand @hl1 (aand @hl2 (aand @hl3 @hnl))))))))); refine tF1 fun K Kp hK hKp => ?_; (try clear F); refine Gives.at (ref_tenfold a.neg x (by omega) hx) ?_; apply hK; clear hK hKp K Kp
    have F := (aand @h2 (aand @h3 (aand @h5 (aand @h6 (aand @h7 (aand @hl0 (aand @hl1 (aand @hl2 (aand @hl3 @hnl))))))))); refine tF ?_; (try clear F)
    refine ⟨n + 1, ⟨⟨tenL x 0, by simp, tenL_ok x 0, by omega, by rw [hk']; exact hten⟩, by omega, by omega, ?_, ?_, ?_, ?_, ?_, ?_, ?_, ?_, ?_, ?_⟩, by omega⟩
    · simp [upd_lit]
    · simp [upd_lit, h2]
    · simp [upd_lit, h3]
    · simp [upd_lit, h5]
    · simp [upd_lit, h6]
    · simp [hl0]
    · simp [hl1]
    · simp [hl3]
    · simp [hnl]
    · exact sm.setLoc (by omega) _
  · have F := (aand @h2 (aand @h3 (aand @h5 (aand @h6 (aand @h7 (aand @hl0 (aand @hl1 (aand @hl2 (aand @hl3 @hnl))))))))); refine tF ?_; (try clear F)
    have hk : (b.num - n).toNat = 0 := by omega
    rw [hk, tens10] at hten
    refine AW.loop (ι := Int) (fun n σ m' => (∃ y, m'.loc (m.nloc + 3) = some [vB b.neg, .list .no (limbs y)] ∧ limbOK y ∧ (y.length : Int) + (a.num - n).toNat ≤ b.abs.length + (a.num - b.num).toNat ∧ tens10 (a.num - n).toNat y = tens10 (a.num - b.num).toNat b.abs) ∧ b.num ≤ n ∧
      (n ≤ b.num ∨ n ≤ a.num) ∧ σ 8 = vI n ∧ σ 2 = .loc m.nloc 0 ∧ σ 3 = .loc (m.nloc + 1) 0 ∧ σ 5 = .loc (m.nloc + 2) 0 ∧ σ 6 = .loc (m.nloc + 3) 0 ∧ m'.loc m.nloc = some a.cells ∧ m'.loc (m.nloc + 1) = some b.cells ∧ m'.loc (m.nloc + 2) = some [vB a.neg, .list .no (limbs x)] ∧ m'.nloc = m.nloc + 4 ∧ Same m m') (fun n => (a.num - n).toNat) b.num ?_ ?_
    · exact ⟨⟨b.abs, hl3, hb.limb, by omega, rfl⟩, by omega, by omega, by simp [upd_lit], by simp [upd_lit, h2], by simp [upd_lit, h3], by simp [upd_lit, h5], by simp [upd_lit, h6], hl0, hl1, hl2, hnl, sm⟩
    clear sm hl0 hl1 hl2 hl3 hnl h2 h3 h5 h6 h7 hge hn1 hn2
    rintro n σ m' ⟨⟨y, hl3, hy, hlen', hten'⟩, hn1, hn2, h8, h2, h3, h5, h6, hl0, hl1, hl2, hnl, sm⟩
    have F := (aand @h2 (aand @h3 (aand @h5 (aand @h6 (aand @h8 (aand @hl0 (aand @hl1 (aand @hl2 (aand @hl3 @hnl))))))))); refine tF ?_; (try clear F)
    refine AW.condD (p := n < a.num) (by simp [upd_lit]) (fun hlt => ?_) (fun hge => ?_)
    · obtain ⟨k, hk⟩ : ∃ k, (a.num - n).toNat = k + 1 := ⟨(a.num - n).toNat - 1, by omega⟩
      have hk' : (a.num - (n + 1)).toNat = k := by omega
      rw [hk, tens10] at hten'
      have hl := tenL_len y 0
      have F := (aand @h2 (aand @h3 (aand @h5 (aand @h6 (aand @h8 (aand @hl0 (aand @hl1 (aand @hl2 (aand @hl3 @hnl))))))))); refine tF ?_; (try clear F)
      have F := (aand @h2 (aand @h3 (aand @h5 (aand @h6 (aand @h8 (aand @hl0 (aand @hl1 (aand @hl2 (aand @hl3 @hnl))))))))); refine tF1 fun K Kp hK hKp => ?_; (try clear F); refine Gives.at (ref_tenfold b.neg y (by omega) hy) ?_; apply hK; clear hK hKp K Kp
      have F := (aand @h2 (aand @h3 (aand @h5 (aand @h6 (aand @h8 (aand @hl0 (aand @hl1 (aand @hl2 (aand @hl3 @hnl))))))))); refine tF ?_; (try clear F)
      refine ⟨n + 1, ⟨⟨tenL y 0, by simp, tenL_ok y 0, by omega, by rw [hk']; exact hten'⟩, by omega, by omega, ?_, ?_, ?_, ?_, ?_, ?_, ?_, ?_, ?_, ?_⟩, by omega⟩
      · simp [upd_lit]
      · simp [upd_lit, h2]
      · simp [upd_lit, h3]
      · simp [upd_lit, h5]
      · simp [upd_lit, h6]
      · simp [hl0]
      · simp [hl1]
      · simp [hl2]
      · simp [hnl]
      · exact sm.setLoc (by omega) _
    · have hk : (a.num - n).toNat = 0 := by omega
      rw [hk, tens10] at hten'
      have F := (aand @h2 (aand @h3 (aand @h5 (aand @h6 (aand @h8 (aand @hl0 (aand @hl1 (aand @hl2 (aand @hl3 @hnl))))))))); refine tF ?_; (try clear F)
      have F := (aand @h2 (aand @h3 (aand @h5 (aand @h6 (aand @h8 (aand @hl0 (aand @hl1 (aand @hl2 (aand @hl3 @hnl))))))))); refine tF1 fun K Kp hK hKp => ?_; (try clear F); refine Gives.at (ref_ints a.neg b.neg x y (by omega) (by omega)) ?_; apply hK; clear hK hKp K Kp
      have F := (aand @h2 (aand @h3 (aand @h5 (aand @h6 (aand @h8 (aand @hl0 (aand @hl1 (aand @hl2 (aand @hl3 @hnl))))))))); refine tF ?_; (try clear F)
      exact Fin.ret rfl sm (by simp [upd_lit]; rfl) (by simp) ⟨by rw [decF, ← hten, ← hten'], rfl⟩
end Go.Proofs.YtgfadepkiejncaaGreat
namespace Go.Proofs.YtgfadepkiejncaaGreat
open Go.Ab
set_option maxHeartbeats 0
attribute [local irreducible] AW AList ACall DA AExit.then AExit.inBlock
def restAt (a : List Int) : Nat → Int → Int
  | 0, r => r
  | i + 1, r => restAt a i ((r * 4294967296 + a.getD i 0) % 10)
def tensF (a : List Int) : Bool := restAt a a.length 0 == 0
theorem ref_tens (a : List Int) (la : a.length < 1152921504606846976) (ha : limbOK a) : Gives Tryz.prog 158 [.list .no (limbs a)] (vB (tensF a)) := by
  intro m
  refine ACall.of_aw Tryz.func158 Tryz.ntmps158 rfl rfl (by simp) ?_
  refine tS ?_
  refine AW.loop (ι := Nat) (fun i σ m' => i ≤ a.length ∧ (∃ r, σ 3 = vQ r ∧ 0 ≤ r ∧ r < 10 ∧ restAt a i r = restAt a a.length 0) ∧ σ 4 = vI ((i : Int) - 1) ∧ σ 0 = .list .no (limbs a) ∧ m' = m) (fun i => i) a.length ?_ ?_
  · exact ⟨by simp, ⟨0, by simp [upd_lit], by omega, by omega, rfl⟩, by simp [upd_lit], by simp [upd_lit], rfl⟩
  rintro i σ m' ⟨hi, ⟨r, h3, hr0, hr1, hr⟩, h4, h0, rfl⟩
  have F := (aand @h3 (aand @h4 @h0)); refine tF ?_; (try clear F)
  refine AW.condD (p := 0 < i) (by simp [upd_lit]; omega) (fun hlt => ?_) (fun hge => ?_)
  · obtain ⟨j, rfl⟩ : ∃ j, i = j + 1 := ⟨i - 1, by omega⟩
    have ja : j < a.length := by omega
    have ga : a.getD j 0 = a[j] := by simp [List.getD, ja]
    have h4' : σ 4 = vI j := by rw [h4]; congr 1; congr 1; omega
    have hx := ha a[j] (List.getElem_mem ja)
    rw [restAt, ga] at hr
    have w1 : IntKind.u64.wrap a[j] = a[j] := wrap_u64 _ (by omega) (by omega)
    have w2 : IntKind.u64.wrap (r * 4294967296) = r * 4294967296 := wrap_u64 _ (by omega) (by omega)
    have w3 : IntKind.u64.wrap (r * 4294967296 + a[j]) = r * 4294967296 + a[j] := wrap_u64 _ (by omega) (by omega)
    have w4 : (r * 4294967296 + a[j]).tmod 10 = (r * 4294967296 + a[j]) % 10 := Int.tmod_eq_emod_of_nonneg (by omega)
    have F := (aand @h3 (aand @h4' (aand @h0 (aand @limbs_getD (aand @ja (aand @w1 (aand @w2 (aand @w3 @w4)))))))); refine tF ?_; (try clear F)
    refine ⟨j, ⟨by omega, ⟨(r * 4294967296 + a[j]) % 10, ?_, by omega, by omega, hr⟩, ?_, ?_, rfl⟩, by omega⟩
    · simp [upd_lit]
    · simp [upd_lit]
    · simp [upd_lit, h0]
  · have : i = 0 := by omega
    subst this
    have F := @h3; refine tF ?_; (try clear F)
    exact Fin.ret rfl (Same.refl _) (by simp [upd_lit]; rfl) (by simp) ⟨by simp [tensF, ← hr, restAt], rfl⟩
def textB (b : Int) : Bool := !((decide (b < 32) || decide (126 < b)) && !decide (b = 10))
def textF (s : ByteArray) : Bool := (List.range s.size).all fun i => textB (byteAt s i)
theorem ref_text (s : ByteArray) (ls : s.size < 1152921504606846976) : Gives Tryz.prog 159 [vS s] (vB (textF s)) := by
  intro m
  refine ACall.of_aw Tryz.func159 Tryz.ntmps159 rfl rfl (by simp) ?_
  refine tS ?_
  refine AW.loop (ι := Nat) (fun i σ m' => i ≤ s.size ∧ (∀ j, j < i → textB (byteAt s j) = true) ∧ σ 3 = vI i ∧ σ 0 = vS s ∧ m' = m) (fun i => s.size - i) 0 ?_ ?_
  · exact ⟨by simp, fun j hj => by omega, by simp [upd_lit], by simp [upd_lit], rfl⟩
  rintro i σ m' ⟨hi, hj, h3, h0, rfl⟩
  have F := (aand @h3 @h0); refine tF ?_; (try clear F)
  refine AW.condD (p := i < s.size) (by simp [upd_lit]) (fun hlt => ?_) (fun hge => ?_)
  · have F := (aand @h3 (aand @h0 @hlt)); refine tFp ?_; (try clear F)
    cases hc : textB (byteAt s i) with
    | false =>
      refine AW.cond (t := !textB (byteAt s i)) (by simp [upd_lit, textB]) (fun _ => ?_) (fun h => by rw [hc] at h; cases h)
      refine tS ?_
      refine Fin.ret rfl (Same.refl _) (by simp [upd_lit]; rfl) (by simp) ⟨?_, rfl⟩
      have : textF s = false := by
        rw [textF, List.all_eq_false]
        exact ⟨i, by simpa using hlt, by simp [hc]⟩
      rw [this]
    | true =>
      refine AW.cond (t := !textB (byteAt s i)) (by simp [upd_lit, textB]) (fun h => by rw [hc] at h; cases h) (fun _ => ?_)
      have F := @h3; refine tF ?_; (try clear F)
      refine ⟨i + 1, ⟨by omega, ?_, by simp [upd_lit], by simp [upd_lit, h0], rfl⟩, by omega⟩
      intro j hj'
      by_cases e : j = i
      · subst e; exact hc
      · exact hj j (by omega)
  · refine tS ?_
    refine Fin.ret rfl (Same.refl _) (by simp [upd_lit]; rfl) (by simp) ⟨?_, rfl⟩
    have : textF s = true := by
      simp only [textF, List.all_eq_true, List.mem_range]
      exact fun j h => hj j (by omega)
    rw [this]
def fieldsF (v : GV) : Bool :=
  let k := v.kind
  if (decide (k < 0) || decide (8 < k)) = true then false else
  let whole := decide (k = 2) || decide (k = 3)
  if (!whole && (v.neg || decide (0 < v.abs.length))) = true then false else
  if ((!decide (k = 4) && !v.str.toList.isEmpty) || ((!decide (k = 7) && !decide (k = 8)) && decide (0 < v.els.length))) = true then false else
  (decide (v.num = 0) || decide (k = 1) || decide (k = 3) || decide (k = 5) || decide (k = 6))
theorem ref_fields (v : GV) (hv : v.ok) : Gives Tryz.prog 128 [v.pv] (vB (fieldsF v)) := by
  have hl := hv.len
  have ha := hv.abs
  intro m
  have sm : Same m (m.newLoc v.cells) := (Same.refl m).newLoc _
  refine ACall.of_aw Tryz.func128 Tryz.ntmps128 rfl rfl (by simp) ?_
  refine tSp ?_
  refine AW.condD (p := (decide (v.kind < 0) || decide (8 < v.kind)) = true) (by simp [upd_lit]) (fun h1 => ?_) (fun h1 => ?_)
  · refine tS ?_
    exact Fin.ret rfl sm (by simp [upd_lit]; rfl) (by simp) ⟨by rw [fieldsF, if_pos h1], rfl⟩
  refine tSp ?_
  refine AW.condD (p := (!(decide (v.kind = 2) || decide (v.kind = 3)) && (v.neg || decide (0 < v.abs.length))) = true) (by simp [upd_lit]) (fun h2 => ?_) (fun h2 => ?_)
  · refine tS ?_
    exact Fin.ret rfl sm (by simp [upd_lit]; rfl) (by simp) ⟨by rw [fieldsF, if_neg h1, if_pos h2], rfl⟩
  refine tSp ?_
  refine AW.cond (t := ((!decide (v.kind = 4) && !v.str.toList.isEmpty) || ((!decide (v.kind = 7) && !decide (v.kind = 8)) && decide (0 < v.els.length)))) (by simp [upd_lit]) (fun h3 => ?_) (fun h3 => ?_)
  · refine tS ?_
    exact Fin.ret rfl sm (by simp [upd_lit]; rfl) (by simp) ⟨by rw [fieldsF, if_neg h1, if_neg h2, if_pos h3], rfl⟩
  refine tSp ?_
  exact Fin.ret rfl sm (by simp [upd_lit]; rfl) (by simp) ⟨by rw [fieldsF, if_neg h1, if_neg h2, if_neg (by rw [h3]; simp)], rfl⟩
def lastZ (a : List Int) : Bool := decide (a[a.length - 1]?.getD 0 = 0)
def formF (v : GV) : Bool :=
  let k := v.kind
  if k = 1 then decide (v.num = 0) || decide (v.num = 1) else
  if k = 5 then decide (1 ≤ v.num) else
  if k = 6 then decide (0 ≤ v.num) else
  if k = 2 ∨ k = 3 then
    (if ((decide (0 < v.abs.length) && lastZ v.abs) || (decide (v.abs = []) && v.neg)) = true then false else
     if k = 3 then (decide (1 ≤ v.num) && decide (v.num ≤ 20)) && (decide (v.num = 1) || !tensF v.abs) else true) else
  if k = 4 then textF v.str else
  if k = 7 then decide (v.els = []) || !decide ((v.els[v.els.length - 1]?.getD default).kind = 0) else true
theorem ref_form (v : GV) (hv : v.ok) : Gives Tryz.prog 129 [v.pv] (vB (formF v)) := by
  have hl := hv.len
  have ha := hv.abs
  intro m
  have sm : Same m (m.newLoc v.cells) := (Same.refl m).newLoc _
  refine ACall.of_aw Tryz.func129 Tryz.ntmps129 rfl rfl (by simp) ?_
  refine tSp ?_
  refine AW.condD (p := v.kind = 1) (by simp [upd_lit]) (fun h1 => ?_) (fun h1 => ?_)
  · refine tSp ?_
    exact Fin.ret rfl sm (by simp [upd_lit]; rfl) (by simp) ⟨by rw [formF, if_pos h1], rfl⟩
  refine tSp ?_
  refine AW.condD (p := v.kind = 5) (by simp [upd_lit]) (fun h5 => ?_) (fun h5 => ?_)
  · refine tSp ?_
    exact Fin.ret rfl sm (by simp [upd_lit]; rfl) (by simp) ⟨by rw [formF, if_neg h1, if_pos h5], rfl⟩
  refine tSp ?_
  refine AW.condD (p := v.kind = 6) (by simp [upd_lit]) (fun h6 => ?_) (fun h6 => ?_)
  · refine tSp ?_
    exact Fin.ret rfl sm (by simp [upd_lit]; rfl) (by simp) ⟨by rw [formF, if_neg h1, if_neg h5, if_pos h6], rfl⟩
  refine tSp ?_
  have hlast : ∀ h : 0 < v.abs.length, rowI (limbs v.abs) (v.abs.length - 1) = [vW (v.abs.getD (v.abs.length - 1) 0)] := fun h => by
    rw [limbs_getD _ _ (by omega)]; simp [List.getD, show v.abs.length - 1 < v.abs.length from by omega]
  have hi0 : ∀ h : 0 < v.abs.length, ((v.abs.length : Int) - 1).toNat = v.abs.length - 1 := fun h => by omega
  have hz1 : ∀ h : 0 < v.abs.length, 1 ≤ (v.abs.length : Int) := fun h => by omega
  have hz2 : (v.abs.length : Int) - 1 < v.abs.length := by omega
  by_cases h2 : v.kind = 2
  · refine AW.cond (t := true) (by simp [upd_lit, h2]) (fun _ => ?_) (fun h => by cases h)
    refine tSp ?_
    refine AW.cond (t := true) (by simp [upd_lit, h2]) (fun _ => ?_) (fun h => by cases h)
    have F := (aand @hlast (aand @hi0 (aand @hz1 @hz2))); refine tFp ?_; (try clear F)
    refine AW.cond (t := ((decide (0 < v.abs.length) && lastZ v.abs) || (decide (v.abs = []) && v.neg))) (by simp [upd_lit, lastZ]) (fun hz => ?_) (fun hz => ?_)
    · refine tSp ?_
      exact Fin.ret rfl sm (by simp [upd_lit]; rfl) (by simp) ⟨by rw [formF, if_neg h1, if_neg h5, if_neg h6, if_pos (by omega), if_pos hz], rfl⟩
    refine tSp ?_
    refine AW.condD (p := v.kind = 3) (by simp [upd_lit]) (fun k3 => ?_) (fun k3 => ?_)
    · exact absurd k3 (by omega)
    · refine tSp ?_
      exact Fin.ret rfl sm (by simp [upd_lit]; rfl) (by simp) ⟨by rw [formF, if_neg h1, if_neg h5, if_neg h6, if_pos (by omega), if_neg (by rw [hz]; simp), if_neg k3], rfl⟩
  refine AW.cond (t := false) (by simp [upd_lit, h2]) (fun h => by cases h) (fun _ => ?_)
  refine tSp ?_
  by_cases h3 : v.kind = 3
  · refine AW.cond (t := true) (by simp [upd_lit, h3]) (fun _ => ?_) (fun h => by cases h)
    have F := (aand @hlast (aand @hi0 (aand @hz1 @hz2))); refine tFp ?_; (try clear F)
    refine AW.cond (t := ((decide (0 < v.abs.length) && lastZ v.abs) || (decide (v.abs = []) && v.neg))) (by simp [upd_lit, lastZ]) (fun hz => ?_) (fun hz => ?_)
    · refine tSp ?_
      exact Fin.ret rfl sm (by simp [upd_lit]; rfl) (by simp) ⟨by rw [formF, if_neg h1, if_neg h5, if_neg h6, if_pos (by omega), if_pos hz], rfl⟩
    refine tSp ?_
    refine AW.condD (p := v.kind = 3) (by simp [upd_lit]) (fun k3 => ?_) (fun k3 => ?_)
    · refine tSp ?_
      refine tSC (ref_tens v.abs ha hv.limb) ?_
      refine tSp ?_
      exact Fin.ret rfl sm (by simp [upd_lit]; rfl) (by simp) ⟨by rw [formF, if_neg h1, if_neg h5, if_neg h6, if_pos (by omega), if_neg (by rw [hz]; simp), if_pos k3], rfl⟩
    · exact absurd h3 k3
  refine AW.cond (t := false) (by simp [upd_lit, h3]) (fun h => by cases h) (fun _ => ?_)
  have hn : ¬ (v.kind = 2 ∨ v.kind = 3) := by omega
  refine tSp ?_
  refine AW.condD (p := v.kind = 4) (by simp [upd_lit]) (fun h4 => ?_) (fun h4 => ?_)
  · refine tSp ?_
    refine tS1 fun K Kp hK hKp => ?_; refine Gives.at (ref_text v.str hv.str) ?_; apply hK; clear hK hKp K Kp
    refine tSp ?_
    exact Fin.ret rfl sm (by simp [upd_lit]; rfl) (by simp) ⟨by rw [formF, if_neg h1, if_neg h5, if_neg h6, if_neg hn, if_pos h4], rfl⟩
  refine tSp ?_
  refine AW.condD (p := v.kind = 7) (by simp [upd_lit]) (fun h7 => ?_) (fun h7 => ?_)
  · have hpos : ∀ h : ¬ v.els = [], 0 < v.els.length := fun h => List.length_pos_iff.2 h
    have hle : ∀ h : ¬ v.els = [], rowI (GV.rows v.els) (v.els.length - 1) = (v.els.getD (v.els.length - 1) default).cells := fun h => by
      have := hpos h
      rw [rows_getD _ _ (by omega)]; simp [List.getD, show v.els.length - 1 < v.els.length from by omega]
    have hi1 : ∀ h : ¬ v.els = [], ((v.els.length : Int) - 1).toNat = v.els.length - 1 := fun h => by have := hpos h; omega
    have hy1 : ∀ h : ¬ v.els = [], 1 ≤ (v.els.length : Int) := fun h => by have := hpos h; omega
    have hy2 : (v.els.length : Int) - 1 < v.els.length := by omega
    have F := (aand @hle (aand @hi1 (aand @hy1 @hy2))); refine tFp ?_; (try clear F)
    exact Fin.ret rfl sm (by simp [upd_lit]; rfl) (by simp) ⟨by rw [formF, if_neg h1, if_neg h5, if_neg h6, if_neg hn, if_neg h4, if_pos h7], rfl⟩
  refine tSp ?_
  exact Fin.ret rfl sm (by simp [upd_lit]; rfl) (by simp) ⟨by rw [formF, if_neg h1, if_neg h5, if_neg h6, if_neg hn, if_neg h4, if_neg h7], rfl⟩
end Go.Proofs.YtgfadepkiejncaaGreat
namespace Go.Proofs.YtgfadepkiejncaaGreat
open Go.Ab
set_option maxHeartbeats 0
attribute [local irreducible] AW AList ACall DA AExit.then AExit.inBlock
def strF (s t : ByteArray) : Int := if Op.bytesLess s.toList t.toList = true then -1 else if (!(Op.bytesLess s.toList t.toList || s.toList == t.toList)) = true then 1 else 0
mutual
def cmpV : GV → GV → Int
  | .mk k n ng a s l, .mk k' n' ng' a' s' l' =>
    if k ≠ k' then numbersF k k' else
    if k = 2 then intsF ng a ng' a' else
    if k = 3 then decF (.mk k n ng a s l) (.mk k' n' ng' a' s' l') else
    if k = 4 then strF s s' else
    if k = 7 ∨ k = 8 then (if l.length ≠ l'.length then numbersF l.length l'.length else cmpL l l') else numbersF n n'
def cmpL : List GV → List GV → Int
  | a :: l, b :: l' => if cmpV a b ≠ 0 then cmpV a b else cmpL l l'
  | _, _ => 0
end
theorem cmpV_eq (a b : GV) : cmpV a b = (if a.kind ≠ b.kind then numbersF a.kind b.kind else
    if a.kind = 2 then intsF a.neg a.abs b.neg b.abs else
    if a.kind = 3 then decF a b else
    if a.kind = 4 then strF a.str b.str else
    if a.kind = 7 ∨ a.kind = 8 then (if a.els.length ≠ b.els.length then numbersF a.els.length b.els.length else cmpL a.els b.els) else numbersF a.num b.num) := by
  cases a; cases b; rfl
mutual
def GV.dk : GV → Prop
  | .mk k n ng a s l => (k = 3 → decOK (.mk k n ng a s l)) ∧ GV.dkL l
def GV.dkL : List GV → Prop
  | [] => True
  | v :: l => v.dk ∧ GV.dkL l
end
theorem dkL_get : ∀ (l : List GV) (i : Nat) (h : i < l.length), GV.dkL l → (l[i]).dk
  | v :: l, 0, _, h => h.1
  | v :: l, i + 1, hi, h => dkL_get l i (by simpa using hi) h.2
theorem GV.dk.self {v : GV} (h : v.dk) (hk : v.kind = 3) : decOK v := by cases v; exact h.1 hk
theorem GV.dk.els {v : GV} (h : v.dk) : GV.dkL v.els := by cases v; exact h.2
theorem GV.dk.el {v : GV} (h : v.dk) (i : Nat) (hi : i < v.els.length) : (v.els[i]).dk := dkL_get _ _ _ h.els
theorem ref_compare (a b : GV) (ha : a.ok) (hb : b.ok) (da : a.dk) (db : b.dk) : Gives Tryz.prog 23 [a.pv, b.pv] (vI (cmpV a b)) := by
  induction hk : nodes a using Nat.strongRecOn generalizing a b with
  | _ k ih =>
  subst hk
  have la := ha.len
  have lb := hb.len
  intro m
  have sm : Same m ((m.newLoc a.cells).newLoc b.cells) := ((Same.refl m).newLoc _).newLoc _
  refine ACall.of_aw Tryz.func23 Tryz.ntmps23 rfl rfl (by simp) ?_
  refine tS ?_
  refine AW.condD (p := a.kind ≠ b.kind) (by simp [upd_lit]) (fun hk => ?_) (fun hk => ?_)
  · refine tS ?_
    refine tS1 fun K Kp hK hKp => ?_; refine Gives.at (ref_numbers a.kind b.kind) ?_; apply hK; clear hK hKp K Kp
    refine tS ?_
    exact Fin.ret rfl sm (by simp [upd_lit]; rfl) (by simp) ⟨by rw [cmpV_eq, if_pos hk], rfl⟩
  refine tS ?_
  refine AW.condD (p := a.kind = 2) (by simp [upd_lit]) (fun h2 => ?_) (fun h2 => ?_)
  · refine tS ?_
    refine tS1 fun K Kp hK hKp => ?_; refine Gives.at (ref_ints a.neg b.neg a.abs b.abs ha.abs hb.abs) ?_; apply hK; clear hK hKp K Kp
    refine tS ?_
    exact Fin.ret rfl sm (by simp [upd_lit]; rfl) (by simp) ⟨by rw [cmpV_eq, if_neg hk, if_pos h2], rfl⟩
  refine tS ?_
  refine AW.condD (p := a.kind = 3) (by simp [upd_lit]) (fun h3 => ?_) (fun h3 => ?_)
  · refine tS ?_
    refine tS1 fun K Kp hK hKp => ?_; refine Gives.at (ref_decimals a b ha hb (da.self h3) (db.self (by omega))) ?_; apply hK; clear hK hKp K Kp
    refine tS ?_
    exact Fin.ret rfl sm (by simp [upd_lit]; rfl) (by simp) ⟨by rw [cmpV_eq, if_neg hk, if_neg h2, if_pos h3], rfl⟩
  refine tS ?_
  refine AW.condD (p := a.kind = 4) (by simp [upd_lit]) (fun h4 => ?_) (fun h4 => ?_)
  · refine tS ?_
    refine AW.cond (t := Op.bytesLess a.str.toList b.str.toList) (by simp [upd_lit]) (fun hs => ?_) (fun hs => ?_)
    · refine tS ?_
      exact Fin.ret rfl sm (by simp [upd_lit]; rfl) (by simp) ⟨by rw [cmpV_eq, if_neg hk, if_neg h2, if_neg h3, if_pos h4, strF, if_pos hs], rfl⟩
    refine tS ?_
    refine AW.cond (t := !(Op.bytesLess a.str.toList b.str.toList || a.str.toList == b.str.toList)) (by simp [upd_lit]) (fun ht => ?_) (fun ht => ?_)
    · refine tS ?_
      exact Fin.ret rfl sm (by simp [upd_lit]; rfl) (by simp) ⟨by rw [cmpV_eq, if_neg hk, if_neg h2, if_neg h3, if_pos h4, strF, if_neg (by rw [hs]; simp), if_pos ht], rfl⟩
    refine tS ?_
    exact Fin.ret rfl sm (by simp [upd_lit]; rfl) (by simp) ⟨by rw [cmpV_eq, if_neg hk, if_neg h2, if_neg h3, if_pos h4, strF, if_neg (by rw [hs]; simp), if_neg (by rw [ht]; simp)], rfl⟩
  refine tS ?_
  by_cases h7 : a.kind = 7
  · refine AW.cond (t := true) (by simp [upd_lit, h7]) (fun _ => ?_) (fun h => by cases h)
    refine tS ?_
    refine AW.cond (t := true) (by simp [upd_lit, h7]) (fun _ => ?_) (fun h => by cases h)
    have h78 : a.kind = 7 ∨ a.kind = 8 := .inl h7
    refine tS ?_
    refine AW.condD (p := a.els.length ≠ b.els.length) (by simp [upd_lit, Int.natCast_inj]) (fun hl => ?_) (fun hl => ?_)
    · refine tS ?_
      refine tS1 fun K Kp hK hKp => ?_; refine Gives.at (ref_numbers a.els.length b.els.length) ?_; apply hK; clear hK hKp K Kp
      refine tS ?_
      exact Fin.ret rfl sm (by simp [upd_lit]; rfl) (by simp) ⟨by rw [cmpV_eq, if_neg hk, if_neg h2, if_neg h3, if_neg h4, if_pos h78, if_pos hl], rfl⟩
    have hle : a.els.length = b.els.length := by simpa using hl
    have hE : cmpV a b = cmpL a.els b.els := by rw [cmpV_eq, if_neg hk, if_neg h2, if_neg h3, if_neg h4, if_pos h78, if_neg hl]
    refine tS ?_
    refine AW.loop (ι := Nat) (fun i σ m' => i ≤ a.els.length ∧ cmpL (a.els.drop i) (b.els.drop i) = cmpL a.els b.els ∧ σ 5 = vI i ∧ σ 2 = .loc m.nloc 0 ∧ σ 3 = .loc (m.nloc + 1) 0 ∧ m' = (m.newLoc a.cells).newLoc b.cells) (fun i => a.els.length - i) 0 ?_ ?_
    · exact ⟨by simp, by simp, by simp [upd_lit], by simp [upd_lit], by simp [upd_lit], rfl⟩
    rintro i σ m' ⟨hi, hc, h5, h2', h3', rfl⟩
    have F := (aand @h5 (aand @h2' @h3')); refine tF ?_; (try clear F)
    refine AW.condD (p := i < a.els.length) (by simp [upd_lit]) (fun hlt => ?_) (fun hge => ?_)
    · have hlt' : i < b.els.length := by omega
      have hg := nodes_get a.els i hlt
      have hn := nodes_eq a
      rw [drop_get _ _ hlt, drop_get _ _ hlt', cmpL] at hc
      have F := (aand @h5 (aand @h2' @h3')); refine tF ?_; (try clear F)
      refine AW.draw [.S, .R, .S, .S, .R, .S, .R, .S, .S, .R, .R, .S] (by decide +kernel) ?_; have F := (aand @h5 (aand @h2' (aand @h3' (aand @rows_getD (aand @hlt @hlt'))))); refine dS 0 ?_; refine dR 1 ?_; refine dS 2 ?_; refine dS 3 ?_; refine dR 4 ?_; refine dS 5 ?_; refine dR 6 ?_; refine dS 7 ?_; refine dS 8 ?_; refine dR 9 ?_; refine dC (ih _ (by omega) a.els[i] b.els[i] (ha.el i hlt) (hb.el i hlt') (da.el i hlt) (db.el i hlt') rfl) 10 ?_; refine dS 11 ?_; (try clear F); first | refine dN ?_ | refine dB ?_ | refine DA.done (by decide +kernel) ?_
      refine tS ?_
      refine AW.condD (p := cmpV a.els[i] b.els[i] ≠ 0) (by simp [upd_lit]) (fun h0 => ?_) (fun h0 => ?_)
      · refine tS ?_
        rw [if_pos h0] at hc
        exact Fin.ret rfl sm (by simp [upd_lit]; rfl) (by simp) ⟨by rw [hE, hc], rfl⟩
      · rw [if_neg h0] at hc
        have F := @h5; refine tF ?_; (try clear F)
        exact ⟨i + 1, ⟨by omega, hc, by simp [upd_lit], by simp [upd_lit, h2'], by simp [upd_lit, h3'], rfl⟩, by omega⟩
    · refine tS ?_
      have e : i = a.els.length := by omega
      rw [List.drop_eq_nil_of_le (by omega), List.drop_eq_nil_of_le (by omega), cmpL] at hc
      · exact Fin.ret rfl sm (by simp [upd_lit]; rfl) (by simp) ⟨by rw [hE, ← hc], rfl⟩
      · intros; simp_all
  refine AW.cond (t := false) (by simp [upd_lit, h7]) (fun h => by cases h) (fun _ => ?_)
  refine tS ?_
  by_cases h8 : a.kind = 8
  · refine AW.cond (t := true) (by simp [upd_lit, h8]) (fun _ => ?_) (fun h => by cases h)
    have h78 : a.kind = 7 ∨ a.kind = 8 := .inr h8
    refine tS ?_
    refine AW.condD (p := a.els.length ≠ b.els.length) (by simp [upd_lit, Int.natCast_inj]) (fun hl => ?_) (fun hl => ?_)
    · refine tS ?_
      refine tS1 fun K Kp hK hKp => ?_; refine Gives.at (ref_numbers a.els.length b.els.length) ?_; apply hK; clear hK hKp K Kp
      refine tS ?_
      exact Fin.ret rfl sm (by simp [upd_lit]; rfl) (by simp) ⟨by rw [cmpV_eq, if_neg hk, if_neg h2, if_neg h3, if_neg h4, if_pos h78, if_pos hl], rfl⟩
    have hle : a.els.length = b.els.length := by simpa using hl
    have hE : cmpV a b = cmpL a.els b.els := by rw [cmpV_eq, if_neg hk, if_neg h2, if_neg h3, if_neg h4, if_pos h78, if_neg hl]
    refine tS ?_
    refine AW.loop (ι := Nat) (fun i σ m' => i ≤ a.els.length ∧ cmpL (a.els.drop i) (b.els.drop i) = cmpL a.els b.els ∧ σ 5 = vI i ∧ σ 2 = .loc m.nloc 0 ∧ σ 3 = .loc (m.nloc + 1) 0 ∧ m' = (m.newLoc a.cells).newLoc b.cells) (fun i => a.els.length - i) 0 ?_ ?_
    · exact ⟨by simp, by simp, by simp [upd_lit], by simp [upd_lit], by simp [upd_lit], rfl⟩
    rintro i σ m' ⟨hi, hc, h5, h2', h3', rfl⟩
    have F := (aand @h5 (aand @h2' @h3')); refine tF ?_; (try clear F)
    refine AW.condD (p := i < a.els.length) (by simp [upd_lit]) (fun hlt => ?_) (fun hge => ?_)
    · have hlt' : i < b.els.length := by omega
      have hg := nodes_get a.els i hlt
      have hn := nodes_eq a
      rw [drop_get _ _ hlt, drop_get _ _ hlt', cmpL] at hc
      have F := (aand @h5 (aand @h2' @h3')); refine tF ?_; (try clear F)
      refine AW.draw [.S, .R, .S, .S, .R, .S, .R, .S, .S, .R, .R, .S] (by decide +kernel) ?_; have F := (aand @h5 (aand @h2' (aand @h3' (aand @rows_getD (aand @hlt @hlt'))))); refine dS 0 ?_; refine dR 1 ?_; refine dS 2 ?_; refine dS 3 ?_; refine dR 4 ?_; refine dS 5 ?_; refine dR 6 ?_; refine dS 7 ?_; refine dS 8 ?_; refine dR 9 ?_; refine dC (ih _ (by omega) a.els[i] b.els[i] (ha.el i hlt) (hb.el i hlt') (da.el i hlt) (db.el i hlt') rfl) 10 ?_; refine dS 11 ?_; (try clear F); first | refine dN ?_ | refine dB ?_ | refine DA.done (by decide +kernel) ?_
      refine tS ?_
      refine AW.condD (p := cmpV a.els[i] b.els[i] ≠ 0) (by simp [upd_lit]) (fun h0 => ?_) (fun h0 => ?_)
      · refine tS ?_
        rw [if_pos h0] at hc
        exact Fin.ret rfl sm (by simp [upd_lit]; rfl) (by simp) ⟨by rw [hE, hc], rfl⟩
      · rw [if_neg h0] at hc
        have F := @h5; refine tF ?_; (try clear F)
        exact ⟨i + 1, ⟨by omega, hc, by simp [upd_lit], by simp [upd_lit, h2'], by simp [upd_lit, h3'], rfl⟩, by omega⟩
    · refine tS ?_
      have e : i = a.els.length := by omega
      rw [List.drop_eq_nil_of_le (by omega), List.drop_eq_nil_of_le (by omega), cmpL] at hc
      · exact Fin.ret rfl sm (by simp [upd_lit]; rfl) (by simp) ⟨by rw [hE, ← hc], rfl⟩
      · intros; simp_all
  refine AW.cond (t := false) (by simp [upd_lit, h8]) (fun h => by cases h) (fun _ => ?_)
  refine tS ?_
  refine tS1 fun K Kp hK hKp => ?_; refine Gives.at (ref_numbers a.num b.num) ?_; apply hK; clear hK hKp K Kp
  refine tS ?_
  exact Fin.ret rfl sm (by simp [upd_lit]; rfl) (by simp) ⟨by rw [cmpV_eq, if_neg hk, if_neg h2, if_neg h3, if_neg h4, if_neg (by omega)], rfl⟩
end Go.Proofs.YtgfadepkiejncaaGreat
namespace Go.Proofs.YtgfadepkiejncaaGreat
open Go.Ab
set_option maxHeartbeats 0
attribute [local irreducible] AW AList ACall DA AExit.then AExit.inBlock
def badSet (k : Int) (prev : Option GV) (v : GV) : Bool := decide (k = 8) && (decide (v.kind = 0) || (match prev with | none => false | some p => decide (0 ≤ cmpV p v)))
mutual
def folV : GV → Int → Int → Int → Int × Int
  | .mk k n ng a s l, N, E, d =>
    if E ≠ 0 then (N, E) else
    if (decide (3000 ≤ N) || decide (20 < d)) = true then (0, 3) else
    if (!fieldsF (.mk k n ng a s l) || !formF (.mk k n ng a s l)) = true then (0, 2) else
    if (decide (40 < (a.length : Int)) || decide (1000 < (s.size : Int))) = true then (0, 3) else folL k none l (N + 1) d
def folL : Int → Option GV → List GV → Int → Int → Int × Int
  | _, _, [], N, _ => (N, 0)
  | k, p, v :: l, N, d =>
    if (folV v N 0 (d + 1)).2 ≠ 0 then folV v N 0 (d + 1) else
    if badSet k p v = true then (0, 2) else folL k (some v) l (folV v N 0 (d + 1)).1 d
end
theorem folV_eq (v : GV) (N E d : Int) : folV v N E d = (if E ≠ 0 then (N, E) else
    if (decide (3000 ≤ N) || decide (20 < d)) = true then (0, 3) else
    if (!fieldsF v || !formF v) = true then (0, 2) else
    if (decide (40 < (v.abs.length : Int)) || decide (1000 < (v.str.size : Int))) = true then (0, 3) else folL v.kind none v.els (N + 1) d) := by
  cases v; rfl
mutual
theorem fol_nn : ∀ (v : GV) (N E d : Int), 0 ≤ N → 0 ≤ (folV v N E d).1
  | .mk k n ng a s l, N, E, d, h => by
    simp only [folV]
    split
    · exact h
    split
    · simp
    split
    · simp
    split
    · simp
    exact folL_nn k none l (N + 1) d (by omega)
theorem folL_nn : ∀ (k : Int) (p : Option GV) (l : List GV) (N d : Int), 0 ≤ N → 0 ≤ (folL k p l N d).1
  | k, p, [], N, d, h => by simp only [folL]; exact h
  | k, p, v :: l, N, d, h => by
    simp only [folL]
    have h1 := fol_nn v N 0 (d + 1) h
    split
    · exact h1
    split
    · simp
    exact folL_nn k (some v) l _ d h1
end
mutual
theorem fol_dk : ∀ (v : GV) (N d : Int), (folV v N 0 d).2 = 0 → v.dk
  | .mk k n ng a s l, N, d, h => by
    simp only [folV] at h
    split at h
    · rename_i h0; exact absurd rfl h0
    split at h
    · simp at h
    split at h
    · simp at h
    rename_i hf
    split at h
    · simp at h
    rename_i hl
    refine ⟨fun hk => ?_, folL_dk k none l (N + 1) d h⟩
    subst hk
    have hf2 : formF (.mk 3 n ng a s l) = true := by simp at hf; exact hf.2
    simp [formF, GV.kind, GV.num, GV.abs, GV.neg] at hf2
    simp at hl
    have n1 : 1 ≤ n := of_decide_eq_true hf2.2.1.1
    have n2 : n ≤ 20 := of_decide_eq_true hf2.2.1.2
    clear hf2
    refine ⟨by simp [GV.abs]; omega, by simp [GV.num]; omega, by simp [GV.num]; omega⟩
theorem folL_dk : ∀ (k : Int) (p : Option GV) (l : List GV) (N d : Int), (folL k p l N d).2 = 0 → GV.dkL l
  | k, p, [], N, d, h => trivial
  | k, p, v :: l, N, d, h => by
    simp only [folL] at h
    split at h
    · exact absurd h (by assumption)
    rename_i h0
    split at h
    · simp at h
    exact ⟨fol_dk v N (d + 1) (by simpa using h0), folL_dk k (some v) l _ d h⟩
end
abbrev way (N E : Int) : PV := .agg [vI N, vE E]
def prevOf (l : List GV) : Nat → Option GV
  | 0 => none
  | i + 1 => l[i]?
theorem ref_followed (v : GV) (N E d : Int) (hv : v.ok) (hN : 0 ≤ N) (hd : -4611686018427387904 ≤ d ∧ d < 4611686018427387904) : Gives Tryz.prog 84 [way N E, v.pv, vI d] (way (folV v N E d).1 (folV v N E d).2) := by
  induction hk : nodes v using Nat.strongRecOn generalizing v N E d with
  | _ k ih =>
  subst hk
  have hl := hv.len
  have ha := hv.abs
  have hs := hv.str
  intro m
  refine ACall.of_aw Tryz.func84 Tryz.ntmps84 rfl rfl (by simp) ?_
  refine tS ?_
  refine AW.condD (p := E ≠ 0) (by simp [upd_lit]) (fun h1 => ?_) (fun h1 => ?_)
  · refine tS ?_
    exact Fin.retC (p := way N E) (q := way N E) rfl (by simp [upd_lit]) Same.auto (by simp) (by simp) ⟨by rw [folV_eq, if_pos h1], rfl⟩
  have hE : E = 0 := by omega
  subst hE
  refine tSp ?_
  refine AW.condD (p := (decide (3000 ≤ N) || decide (20 < d)) = true) (by simp [upd_lit]) (fun h2 => ?_) (fun h2 => ?_)
  · refine tS ?_
    exact Fin.retC (p := way 0 3) (q := way 0 3) rfl (by simp [upd_lit]) Same.auto (by simp) (by simp) ⟨by rw [folV_eq, if_neg (by simp), if_pos h2], rfl⟩
  have hN2 : N < 3000 := by simp at h2; omega
  have hd2 : d ≤ 20 := by simp at h2; omega
  refine tSp ?_
  refine tS1 fun K Kp hK hKp => ?_; refine Gives.at (ref_fields v hv) ?_; apply hK; clear hK hKp K Kp
  refine tSp ?_
  refine tSc (ref_form v hv) ?_
  refine tSp ?_
  refine AW.condD (p := (!fieldsF v || !formF v) = true) (by simp [upd_lit]) (fun h3 => ?_) (fun h3 => ?_)
  · refine tS ?_
    exact Fin.retC (p := way 0 2) (q := way 0 2) rfl (by simp [upd_lit]) Same.auto (by simp) (by simp) ⟨by rw [folV_eq, if_neg (by simp), if_neg h2, if_pos h3], rfl⟩
  refine tSp ?_
  refine AW.condD (p := (decide (40 < (v.abs.length : Int)) || decide (1000 < (v.str.size : Int))) = true) (by simp [upd_lit]) (fun h4 => ?_) (fun h4 => ?_)
  · refine tS ?_
    exact Fin.retC (p := way 0 3) (q := way 0 3) rfl (by simp [upd_lit]) Same.auto (by simp) (by simp) ⟨by rw [folV_eq, if_neg (by simp), if_neg h2, if_neg h3, if_pos h4], rfl⟩
  have hR : folV v N 0 d = folL v.kind none v.els (N + 1) d := by rw [folV_eq, if_neg (by simp), if_neg h2, if_neg h3, if_neg h4]
  refine tS ?_
  refine AW.loop (ι := Nat) (fun i σ m' => i ≤ v.els.length ∧ (∃ M, m'.loc m.nloc = some [vI M, vE 0] ∧ 0 ≤ M ∧ folL v.kind (prevOf v.els i) (v.els.drop i) M d = folV v N 0 d) ∧ (∀ j (h : j < v.els.length), j < i → (v.els[j]).dk) ∧
    m'.loc (m.nloc + 1) = some v.cells ∧ m'.loc (m.nloc + 2) = some [vI 0, vE 0] ∧ m'.nloc = m.nloc + 3 ∧ Same m m' ∧ σ 7 = vI i ∧ σ 2 = vI d ∧ σ 3 = .loc m.nloc 0 ∧ σ 4 = .loc (m.nloc + 1) 0 ∧ σ 6 = .loc (m.nloc + 2) 0) (fun i => v.els.length - i) 0 ?_ ?_
  · exact ⟨by simp, ⟨N + 1, by simp [Nat.add_assoc], by omega, by simp [prevOf, hR]⟩, fun j _ h => by omega, by simp [Nat.add_assoc], by simp [Nat.add_assoc], by simp [Nat.add_assoc], Same.auto, by simp [upd_lit], by simp [upd_lit], by simp [upd_lit], by simp [upd_lit], by simp [upd_lit]⟩
  rintro i σ m' ⟨hi, ⟨M, q0, hM, hF⟩, hdk, q1, q2, qn, sm, h7, g2, g3, g4, g6⟩
  have F := (aand @q0 (aand @q1 (aand @q2 (aand @qn (aand @h7 (aand @g2 (aand @g3 (aand @g4 @g6)))))))); refine tF ?_; (try clear F)
  refine AW.condD (p := i < v.els.length) (by simp [upd_lit]) (fun hlt => ?_) (fun hge => ?_)
  · have hg := nodes_get v.els i hlt
    have hn := nodes_eq v
    rw [drop_get _ _ hlt, folL] at hF
    have F := (aand @q0 (aand @q1 (aand @q2 (aand @qn (aand @h7 (aand @g2 (aand @g3 (aand @g4 @g6)))))))); refine tF ?_; (try clear F)
    have hnl := fol_nn v.els[i] M 0 (d + 1) hM
    refine AW.draw [.R, .S, .R, .S, .S, .R, .S, .S, .R, .W] (by decide +kernel) ?_; have F := (aand @q0 (aand @q1 (aand @q2 (aand @qn (aand @h7 (aand @g2 (aand @g3 (aand @g4 (aand @g6 (aand @rows_getD @hlt)))))))))); refine dR 0 ?_; refine dS 1 ?_; refine dR 2 ?_; refine dS 3 ?_; refine dS 4 ?_; refine dR 5 ?_; refine dS 6 ?_; refine dS 7 ?_; refine dC (ih _ (by omega) v.els[i] M 0 (d + 1) (hv.el i hlt) hM (by omega) rfl) 8 ?_; refine dW 9 ?_; (try clear F); first | refine dN ?_ | refine dB ?_ | refine DA.done (by decide +kernel) ?_
    have F := (aand @q0 (aand @q1 (aand @q2 (aand @qn (aand @h7 (aand @g2 (aand @g3 (aand @g4 @g6)))))))); refine tF ?_; (try clear F)
    refine AW.condD (p := (folV v.els[i] M 0 (d + 1)).2 ≠ 0) (by simp [upd_lit]) (fun h5 => ?_) (fun h5 => ?_)
    · rw [if_pos h5] at hF
      have F := (aand @q0 (aand @q1 (aand @q2 (aand @qn (aand @h7 (aand @g2 (aand @g3 (aand @g4 @g6)))))))); refine tF ?_; (try clear F)
      exact Fin.retC (p := way (folV v.els[i] M 0 (d + 1)).1 (folV v.els[i] M 0 (d + 1)).2) (q := way (folV v.els[i] M 0 (d + 1)).1 (folV v.els[i] M 0 (d + 1)).2) rfl (by simp [upd_lit, g6, qn]) Same.auto (by simp) (by simp) ⟨by rw [← hF], rfl⟩
    rw [if_neg h5] at hF
    have h0 : (folV v.els[i] M 0 (d + 1)).2 = 0 := by simpa using h5
    have hdki := fol_dk _ _ _ h0
    have F := (aand @q0 (aand @q1 (aand @q2 (aand @qn (aand @h7 (aand @g2 (aand @g3 (aand @g4 @g6)))))))); refine tF ?_; (try clear F)
    have nx : ∀ σ' : Nat → PV, σ' 7 = vI (i + 1) → σ' 2 = vI d → σ' 3 = .loc m.nloc 0 → σ' 4 = .loc (m.nloc + 1) 0 → σ' 6 = .loc (m.nloc + 2) 0 → badSet v.kind (prevOf v.els i) v.els[i] = false →
        ∃ j, (j ≤ v.els.length ∧ (∃ M', (m'.setLoc m.nloc [vI (folV v.els[i] M 0 (d + 1)).1, vE 0]).loc m.nloc = some [vI M', vE 0] ∧ 0 ≤ M' ∧ folL v.kind (prevOf v.els j) (v.els.drop j) M' d = folV v N 0 d) ∧ (∀ k (h : k < v.els.length), k < j → (v.els[k]).dk) ∧
    (m'.setLoc m.nloc [vI (folV v.els[i] M 0 (d + 1)).1, vE 0]).loc (m.nloc + 1) = some v.cells ∧ (m'.setLoc m.nloc [vI (folV v.els[i] M 0 (d + 1)).1, vE 0]).loc (m.nloc + 2) = some [vI 0, vE 0] ∧ (m'.setLoc m.nloc [vI (folV v.els[i] M 0 (d + 1)).1, vE 0]).nloc = m.nloc + 3 ∧ Same m (m'.setLoc m.nloc [vI (folV v.els[i] M 0 (d + 1)).1, vE 0]) ∧ σ' 7 = vI j ∧ σ' 2 = vI d ∧ σ' 3 = .loc m.nloc 0 ∧ σ' 4 = .loc (m.nloc + 1) 0 ∧ σ' 6 = .loc (m.nloc + 2) 0) ∧ v.els.length - j < v.els.length - i := by
      intro σ' a1 a2 a3 a4 a5 hb
      rw [if_neg (by rw [hb]; simp)] at hF
      refine ⟨i + 1, ⟨by omega, ⟨(folV v.els[i] M 0 (d + 1)).1, by simp, hnl, ?_⟩, fun k h hk => ?_, by simp [q1], by simp [q2], by simp [qn], Same.auto, a1, a2, a3, a4, a5⟩, by omega⟩
      · simpa [prevOf, hlt] using hF
      · by_cases e : k = i
        · subst e; exact hdki
        · exact hdk k h (by omega)
    rw [h0]
    by_cases hA : v.kind = 8
    · by_cases hB : v.els[i].kind = 0
      · have hb : badSet v.kind (prevOf v.els i) v.els[i] = true := by simp [badSet, hA, hB]
        rw [if_pos hb] at hF
        refine AW.draw [.S, .R, .S, .S, .S, .R, .S, .S, .S, .R, .S, .S, .S, .S, .S, .S, .R, .S, .S, .S, .R, .S, .R, .S, .S, .R, .R, .S, .S, .S, .S] (by decide +kernel) ?_; have F := (aand @hA (aand @hB (aand @q1 (aand @q2 (aand @qn (aand @h7 (aand @g2 (aand @g3 (aand @g4 (aand @g6 (aand @rows_getD @hlt))))))))))); refine dS 0 ?_; refine dR 1 ?_; refine dS 2 ?_; refine dS 3 ?_; refine dSG 4 ?_; refine dRG 5 ?_; refine dSG 6 ?_; refine dSG 7 ?_; refine dSG 8 ?_; refine dRG 9 ?_; refine dSG 10 ?_; refine dSG 11 ?_; refine dXx 12 ?_; refine dXx 13 ?_; refine dXx 14 ?_; refine dXx 15 ?_; refine dXX 16 ?_; refine dXx 17 ?_; refine dXx 18 ?_; refine dXx 19 ?_; refine dXX 20 ?_; refine dXx 21 ?_; refine dXX 22 ?_; refine dXx 23 ?_; refine dXx 24 ?_; refine dXX 25 ?_; refine dXX 26 ?_; refine dXx 27 ?_; refine dXx 28 ?_; refine dSG 29 ?_; refine dS 30 ?_; (try clear F); first | refine dN ?_ | refine dB ?_ | refine DA.done (by decide +kernel) ?_
        refine AW.cond (t := true) (by simp [upd_lit]) (fun _ => ?_) (fun h => by cases h)
        have F := (aand @q0 (aand @q1 (aand @q2 (aand @qn (aand @h7 (aand @g2 (aand @g3 (aand @g4 @g6)))))))); refine tF ?_; (try clear F)
        exact Fin.retC (p := way 0 2) (q := way 0 2) rfl (by simp [upd_lit, g6, qn]) Same.auto (by simp) (by simp) ⟨by rw [← hF], rfl⟩
      · cases i with
        | zero =>
          have hb : badSet v.kind (prevOf v.els 0) v.els[0] = false := by simp [badSet, hA, hB, prevOf]
          refine AW.draw [.S, .R, .S, .S, .S, .R, .S, .S, .S, .R, .S, .S, .S, .S, .S, .S, .R, .S, .S, .S, .R, .S, .R, .S, .S, .R, .R, .S, .S, .S, .S] (by decide +kernel) ?_; have F := (aand @hA (aand @hB (aand @q1 (aand @q2 (aand @qn (aand @h7 (aand @g2 (aand @g3 (aand @g4 (aand @g6 (aand @rows_getD @hlt))))))))))); refine dS 0 ?_; refine dR 1 ?_; refine dS 2 ?_; refine dS 3 ?_; refine dSG 4 ?_; refine dRG 5 ?_; refine dSG 6 ?_; refine dSG 7 ?_; refine dSG 8 ?_; refine dRG 9 ?_; refine dSG 10 ?_; refine dSG 11 ?_; refine dSG 12 ?_; refine dSG 13 ?_; refine dSG 14 ?_; refine dXx 15 ?_; refine dXX 16 ?_; refine dXx 17 ?_; refine dXx 18 ?_; refine dXx 19 ?_; refine dXX 20 ?_; refine dXx 21 ?_; refine dXX 22 ?_; refine dXx 23 ?_; refine dXx 24 ?_; refine dXX 25 ?_; refine dXX 26 ?_; refine dXx 27 ?_; refine dSG 28 ?_; refine dSG 29 ?_; refine dS 30 ?_; (try clear F); first | refine dN ?_ | refine dB ?_ | refine DA.done (by decide +kernel) ?_
          refine AW.cond (t := false) (by simp [upd_lit]) (fun h => by cases h) (fun _ => ?_)
          have F := (aand @q0 (aand @q1 (aand @q2 (aand @qn (aand @h7 (aand @g2 (aand @g3 (aand @g4 @g6)))))))); refine tF ?_; (try clear F)
          exact nx _ (by simp [upd_lit]) (by simp [upd_lit, g2]) (by simp [upd_lit, g3]) (by simp [upd_lit, g4]) (by simp [upd_lit, g6]) hb
        | succ i =>
          have hlp : i < v.els.length := by omega
          have hi0 : 0 ≤ (i : Int) + 1 := by omega
          have hi1 : (i : Int) + 1 < v.els.length := by omega
          have hi2 : ((i : Int) + 1).toNat = i + 1 := by omega
          refine AW.draw [.S, .R, .S, .S, .S, .R, .S, .S, .S, .R, .S, .S, .S, .S, .S, .S, .R, .S, .S, .S, .R, .S, .R, .S, .S, .R, .R, .S, .S, .S, .S] (by decide +kernel) ?_; have F := (aand @hA (aand @hB (aand @hlp (aand @hi0 (aand @hi1 (aand @hi2 (aand @q1 (aand @q2 (aand @qn (aand @h7 (aand @g2 (aand @g3 (aand @g4 (aand @g6 (aand @rows_getD @hlt))))))))))))))); refine dS 0 ?_; refine dR 1 ?_; refine dS 2 ?_; refine dS 3 ?_; refine dSG 4 ?_; refine dRG 5 ?_; refine dSG 6 ?_; refine dSG 7 ?_; refine dSG 8 ?_; refine dRG 9 ?_; refine dSG 10 ?_; refine dSG 11 ?_; refine dSG 12 ?_; refine dSG 13 ?_; refine dSG 14 ?_; refine dSG 15 ?_; refine dRG 16 ?_; refine dSG 17 ?_; refine dSG 18 ?_; refine dSG 19 ?_; refine dRG 20 ?_; refine dSG 21 ?_; refine dRG 22 ?_; refine dSG 23 ?_; refine dSG 24 ?_; refine dRG 25 ?_; refine dCG (ref_compare v.els[i] v.els[i + 1] (hv.el i hlp) (hv.el (i + 1) hlt) (hdk i hlp (by omega)) hdki) 26 ?_; refine dSG 27 ?_; refine dSG 28 ?_; refine dSG 29 ?_; refine dS 30 ?_; (try clear F); first | refine dN ?_ | refine dB ?_ | refine DA.done (by decide +kernel) ?_
          have hpv : prevOf v.els (i + 1) = some v.els[i] := by simp [prevOf, hlp]
          have hbe : badSet v.kind (prevOf v.els (i + 1)) v.els[i + 1] = decide (0 ≤ cmpV v.els[i] v.els[i + 1]) := by rw [hpv]; simp [badSet, hA, hB]
          refine AW.cond (t := badSet v.kind (prevOf v.els (i + 1)) v.els[i + 1]) (by rw [hbe]; simp [upd_lit]) (fun hb => ?_) (fun hb => ?_)
          · rw [if_pos hb] at hF
            have F := (aand @q0 (aand @q1 (aand @q2 (aand @qn (aand @h7 (aand @g2 (aand @g3 (aand @g4 @g6)))))))); refine tF ?_; (try clear F)
            exact Fin.retC (p := way 0 2) (q := way 0 2) rfl (by simp [upd_lit, g6, qn]) Same.auto (by simp) (by simp) ⟨by rw [← hF], rfl⟩
          · have F := (aand @q0 (aand @q1 (aand @q2 (aand @qn (aand @h7 (aand @g2 (aand @g3 (aand @g4 @g6)))))))); refine tF ?_; (try clear F)
            exact nx _ (by simp [upd_lit]) (by simp [upd_lit, g2]) (by simp [upd_lit, g3]) (by simp [upd_lit, g4]) (by simp [upd_lit, g6]) hb
    · have hb : badSet v.kind (prevOf v.els i) v.els[i] = false := by simp [badSet, hA]
      refine AW.draw [.S, .R, .S, .S, .S, .R, .S, .S, .S, .R, .S, .S, .S, .S, .S, .S, .R, .S, .S, .S, .R, .S, .R, .S, .S, .R, .R, .S, .S, .S, .S] (by decide +kernel) ?_; have F := (aand @hA (aand @q1 (aand @q2 (aand @qn (aand @h7 (aand @g2 (aand @g3 (aand @g4 (aand @g6 (aand @rows_getD @hlt)))))))))); refine dS 0 ?_; refine dR 1 ?_; refine dS 2 ?_; refine dS 3 ?_; refine dXx 4 ?_; refine dXX 5 ?_; refine dXx 6 ?_; refine dXx 7 ?_; refine dXx 8 ?_; refine dXX 9 ?_; refine dXx 10 ?_; refine dXx 11 ?_; refine dXx 12 ?_; refine dXx 13 ?_; refine dXx 14 ?_; refine dXx 15 ?_; refine dXX 16 ?_; refine dXx 17 ?_; refine dXx 18 ?_; refine dXx 19 ?_; refine dXX 20 ?_; refine dXx 21 ?_; refine dXX 22 ?_; refine dXx 23 ?_; refine dXx 24 ?_; refine dXX 25 ?_; refine dXX 26 ?_; refine dXx 27 ?_; refine dXx 28 ?_; refine dXx 29 ?_; refine dS 30 ?_; (try clear F); first | refine dN ?_ | refine dB ?_ | refine DA.done (by decide +kernel) ?_
      refine AW.cond (t := false) (by simp [upd_lit, hA]) (fun h => by cases h) (fun _ => ?_)
      have F := (aand @q0 (aand @q1 (aand @q2 (aand @qn (aand @h7 (aand @g2 (aand @g3 (aand @g4 @g6)))))))); refine tF ?_; (try clear F)
      exact nx _ (by simp [upd_lit]) (by simp [upd_lit, g2]) (by simp [upd_lit, g3]) (by simp [upd_lit, g4]) (by simp [upd_lit, g6]) hb
  · have F := (aand @q0 (aand @q1 (aand @q2 (aand @qn (aand @h7 (aand @g2 (aand @g3 (aand @g4 @g6)))))))); refine tF ?_; (try clear F)
    have e : i = v.els.length := by omega
    rw [List.drop_eq_nil_of_le (by omega), folL] at hF
    exact Fin.retC (p := way M 0) (q := way M 0) rfl (by simp [upd_lit, g6, qn]) (sm.setLoc (by omega) _) (by simp) (by simp) ⟨by rw [← hF], rfl⟩
def checkF (v : GV) : Int := (folV v 0 0 1).2
theorem ref_check (v : GV) (hv : v.ok) : Gives Tryz.prog 20 [v.pv] (vE (checkF v)) := by
  intro m
  refine ACall.of_aw Tryz.func20 Tryz.ntmps20 rfl rfl (by simp) ?_
  refine tS ?_
  refine tS1 fun K Kp hK hKp => ?_; refine Gives.at (ref_followed v 0 0 1 hv (by omega) (by omega)) ?_; apply hK; clear hK hKp K Kp
  refine tS ?_
  exact Fin.ret rfl Same.auto (by simp [upd_lit]; rfl) (by simp) ⟨rfl, rfl⟩
end Go.Proofs.YtgfadepkiejncaaGreat
namespace Go.Proofs.YtgfadepkiejncaaGreat
open Go.Ab
set_option maxHeartbeats 0
attribute [local irreducible] AW AList ACall DA AExit.then AExit.inBlock
theorem okL_append : ∀ (a b : List GV), GV.okL a → GV.okL b → GV.okL (a ++ b)
  | [], b, _, h => h
  | v :: a, b, h, k => ⟨h.1, okL_append a b h.2 k⟩
mutual
theorem walk_ok : ∀ v : GV, v.ok → GV.okL (walkV v)
  | .mk k n ng a s l, h => ⟨h, walkL_ok l h.2.2.2.2.2.2⟩
theorem walkL_ok : ∀ l : List GV, GV.okL l → GV.okL (walkL l)
  | [], _ => trivial
  | v :: l, h => okL_append _ _ (walk_ok v h.1) (walkL_ok l h.2)
end
def small (x : GV) : Bool := !(decide (60 < (x.abs.length : Int)) || decide (1100 < (x.str.size : Int)))
def lightF (v : GV) (most : Int) : Bool := if most < wt v most then false else (walkV v).all small
theorem all_false {l : List GV} {f : GV → Bool} (i : Nat) (h : i < l.length) (hf : f l[i] = false) : l.all f = false := by
  rw [List.all_eq_false]; exact ⟨l[i], List.getElem_mem h, by simp [hf]⟩
theorem law_light (v : GV) (most : Int) (hv : v.ok) (h0 : 0 ≤ most) (h1 : most < 1099511627776) : Gives Tryz.prog 17 [v.pv, vI most] (vB (lightF v most)) := by
  intro m
  refine ACall.of_aw Tryz.func17 Tryz.ntmps17 rfl rfl (by simp) ?_
  refine tS ?_
  refine tS1 fun K Kp hK hKp => ?_; refine Gives.at (law_weight v most hv (by omega)) ?_; apply hK; clear hK hKp K Kp
  refine tS ?_
  refine AW.condD (p := most < wt v most) (by simp [upd_lit]) (fun hw => ?_) (fun hw => ?_)
  · refine tS ?_
    exact Fin.ret rfl Same.auto (by simp [upd_lit]; rfl) (by simp) ⟨by rw [lightF, if_pos hw], rfl⟩
  obtain ⟨w1, w2, w3⟩ := wt_spec v most
  have hn : nodes v < 1099511627776 := by have := w3 (by omega); omega
  have hok := walk_ok v hv
  have hlen := walk_len v
  have hL : lightF v most = (walkV v).all small := by rw [lightF, if_neg hw]
  refine tS ?_
  refine tS1 fun K Kp hK hKp => ?_; refine Gives.at (ref_walk v hn) ?_; apply hK; clear hK hKp K Kp
  refine tS ?_
  refine AW.loop (ι := Nat) (fun i σ m' => i ≤ (walkV v).length ∧ (∀ j (h : j < (walkV v).length), j < i → small (walkV v)[j] = true) ∧ σ 6 = vI i ∧ σ 5 = GV.pvs (walkV v) ∧ m' = m.newLoc v.cells) (fun i => (walkV v).length - i) 0 ?_ ?_
  · exact ⟨by simp, fun j _ h => by omega, by simp [upd_lit], by simp [upd_lit], rfl⟩
  rintro i σ m' ⟨hi, hj, h6, h5, rfl⟩
  have F := (aand @h6 @h5); refine tF ?_; (try clear F)
  refine AW.condD (p := i < (walkV v).length) (by simp [upd_lit]) (fun hlt => ?_) (fun hge => ?_)
  · have hoi := okL_get _ i hlt hok
    have la := hoi.abs
    have ls := hoi.str
    have F := (aand @h6 (aand @h5 (aand @rows_getD @hlt))); refine tFp ?_; (try clear F)
    cases hc : small (walkV v)[i] with
    | false =>
      refine AW.cond (t := !small (walkV v)[i]) (by simp [upd_lit, small]) (fun _ => ?_) (fun h => by rw [hc] at h; cases h)
      refine tS ?_
      exact Fin.ret rfl Same.auto (by simp [upd_lit]; rfl) (by simp) ⟨by rw [hL, all_false i hlt hc], rfl⟩
    | true =>
      refine AW.cond (t := !small (walkV v)[i]) (by simp [upd_lit, small]) (fun h => by rw [hc] at h; cases h) (fun _ => ?_)
      have F := @h6; refine tF ?_; (try clear F)
      refine ⟨i + 1, ⟨by omega, ?_, by simp [upd_lit], by simp [upd_lit, h5], rfl⟩, by omega⟩
      intro j h hj'
      by_cases e : j = i
      · subst e; exact hc
      · exact hj j h (by omega)
  · refine tS ?_
    have : (walkV v).all small = true := by
      rw [List.all_eq_true]
      intro x hx
      obtain ⟨j, hj1, rfl⟩ := List.getElem_of_mem hx
      exact hj j hj1 (by omega)
    exact Fin.ret rfl Same.auto (by simp [upd_lit]; rfl) (by simp) ⟨by rw [hL, this], rfl⟩
def formedF (v : GV) : Bool := lightF v 400 && decide (checkF v = 0)
theorem law_formed (v : GV) (hv : v.ok) : Gives Tryz.prog 21 [v.pv] (vB (formedF v)) := by
  intro m
  refine ACall.of_aw Tryz.func21 Tryz.ntmps21 rfl rfl (by simp) ?_
  refine tS ?_
  refine tS1 fun K Kp hK hKp => ?_; refine Gives.at (law_light v 400 hv (by omega) (by omega)) ?_; apply hK; clear hK hKp K Kp
  refine tSp ?_
  refine tSc (ref_check v hv) ?_
  refine tSp ?_
  exact Fin.ret rfl Same.auto (by simp [upd_lit]; rfl) (by simp) ⟨by rw [formedF], rfl⟩
end Go.Proofs.YtgfadepkiejncaaGreat
namespace Go.Proofs.YtgfadepkiejncaaGreat
open Go.Ab
set_option maxHeartbeats 0
attribute [local irreducible] AW AList ACall DA AExit.then AExit.inBlock YCall
theorem val_all (v : GV) : Gives Tryz.prog 92 [v.pv] (.clo 138 [] [.ro v.cells]) := by
  intro m
  refine ACall.of_aw Tryz.func92 Tryz.ntmps92 rfl rfl (by simp) ?_
  refine tSn ?_
  refine AW.frz (n := m.nloc) (d := 2) (cs := v.cells) (by simp) (by simp) ?_
  refine tS ?_
  exact Fin.ret rfl ((Same.newLoc (Same.refl m) _).dropLoc (Nat.le_refl _)) (by simp [upd_lit]) (by simp) ⟨rfl, rfl⟩
structure Agr (b : Nat) (m m' : St) : Prop where
  lo : b ≤ m.nloc
  lo' : b ≤ m'.nloc
  loc : ∀ n, n < b → m'.loc n = m.loc n
  lp : ∀ n, n < b → m'.lp n = m.lp n
  it : ∀ n, n < b → m'.it n = m.it n
  ntok : m'.ntok = m.ntok
  top : m'.top = m.top
  wd : m'.wd = m.wd
  arr : m'.arr = m.arr
structure Only (b : Nat) (m m' : St) : Prop where
  nloc : m.nloc ≤ m'.nloc
  loc : ∀ n, b ≤ n → n < m.nloc → m'.loc n = m.loc n
  lp : ∀ n, n < m.nloc → m'.lp n = m.lp n
  it : ∀ n, n < m.nloc → m'.it n = m.it n
  ntok : m.ntok ≤ m'.ntok
theorem Only.refl (b : Nat) (m : St) : Only b m m := ⟨Nat.le_refl _, fun _ _ _ => rfl, fun _ _ => rfl, fun _ _ => rfl, Nat.le_refl _⟩
theorem Only.trans {b : Nat} {m m' m'' : St} (h : Only b m m') (k : Only b m' m'') : Only b m m'' :=
  ⟨Nat.le_trans h.nloc k.nloc, fun n a c => (k.loc n a (Nat.lt_of_lt_of_le c h.nloc)).trans (h.loc n a c), fun n c => (k.lp n (Nat.lt_of_lt_of_le c h.nloc)).trans (h.lp n c), fun n c => (k.it n (Nat.lt_of_lt_of_le c h.nloc)).trans (h.it n c), Nat.le_trans h.ntok k.ntok⟩
theorem Only.same {b : Nat} {m m' : St} (h : Same m m') : Only b m m' :=
  ⟨h.lloc, fun n _ c => h.get c, fun n c => h.getL c, fun n c => h.getI c, h.ltok⟩
theorem Agr.same {b : Nat} {m m' : St} (h : Same m m') (hb : b ≤ m.nloc) (h1 : m'.ntok = m.ntok) (h2 : m'.top = m.top) (h3 : m'.wd = m.wd) (h4 : m'.arr = m.arr := by rfl) : Agr b m m' :=
  ⟨hb, Nat.le_trans hb h.lloc, fun n c => h.get (by omega), fun n c => h.getL (by omega), fun n c => h.getI (by omega), h1, h2, h3, h4⟩
structure Yields (P : Program) (n b : Nat) (m0 : St) (xs : List (List PV)) (I : Nat → St → Prop) : Prop where
  nb : n < b
  agr : ∀ j m m', Agr b m m' → I j m → I j m'
  sc : ∀ i, i < b → (∀ j m', I j m' → m'.loc i = m0.loc i) ∨ (∀ j m' cs, I j m' → m'.loc i = some cs → PV.scL b m'.ntok cs)
  scA : ∀ k, (k < m0.ntok ∧ ∀ j m', I j m' → m'.arr k = m0.arr k ∧ m0.ntok ≤ m'.ntok) ∨ (∀ j m' cs, I j m' → k < m'.ntok → m'.arr k = some cs → PV.scL b m'.ntok cs)
  call : ∀ j (h : j < xs.length) m', b ≤ m'.nloc → I j m' → YCall P n xs[j] m' (fun r m'' => r = .ret (vB true) ∧ I (j + 1) m'' ∧ Only b m' m'' ∧ m''.nloc = m'.nloc)
theorem leaves_of {b : Nat} {m0 : St} {I : Nat → St → Prop} (sc : ∀ i, i < b → (∀ j m', I j m' → m'.loc i = m0.loc i) ∨ (∀ j m' cs, I j m' → m'.loc i = some cs → PV.scL b m'.ntok cs))
    (scA : ∀ k, (k < m0.ntok ∧ ∀ j m', I j m' → m'.arr k = m0.arr k ∧ m0.ntok ≤ m'.ntok) ∨ (∀ j m' cs, I j m' → k < m'.ntok → m'.arr k = some cs → PV.scL b m'.ntok cs))
    {m m' : St} {j j' : Nat} (hb : b ≤ m.nloc) (h : I j m) (h' : I j' m') (o : Only b m m') : Ab.Leaves m m' { m' with nloc := m.nloc } := by
  refine ⟨rfl, o.ntok, o.nloc, Nat.le_refl _, fun i hi => ⟨rfl, ?_⟩, fun k _ => ⟨rfl, rfl⟩, fun i hi => ⟨rfl, o.lp i hi⟩, fun i hi => rfl, fun k cs hk _ hc => ⟨hc, ?_⟩⟩
  rotate_left
  · rcases scA k with ⟨k1, k2⟩ | k2
    · obtain ⟨a1, a2⟩ := k2 _ _ h
      exact .inl ⟨by omega, by rw [a1, ← (k2 _ _ h').1]; exact hc⟩
    · exact .inr (PV.scL_mono hb (Nat.le_refl _) cs (k2 j' m' cs h' hk hc))
  by_cases hib : i < b
  · rcases sc i hib with k | k
    · exact .inl ((k _ _ h').trans (k _ _ h).symm)
    · exact .inr fun cs hc => PV.scL_mono hb (Nat.le_refl _) cs (k j' m' cs h' hc)
  · exact .inl (o.loc i (by omega) hi)
theorem Yields.leaves {P : Program} {n b : Nat} {m0 : St} {xs : List (List PV)} {I : Nat → St → Prop} (y : Yields P n b m0 xs I) {m m' : St} {j j' : Nat} (hb : b ≤ m.nloc) (h : I j m) (h' : I j' m') (o : Only b m m') :
    ∃ m'', Ab.Leaves m m' m'' ∧ I j' m'' ∧ Only b m m'' ∧ m''.nloc = m.nloc :=
  ⟨_, leaves_of y.sc y.scA hb h h' o, y.agr _ m' _ ⟨Nat.le_trans hb o.nloc, hb, fun _ _ => rfl, fun _ _ => rfl, fun _ _ => rfl, rfl, rfl, rfl, rfl⟩ h', ⟨Nat.le_refl _, o.loc, o.lp, o.it, o.ntok⟩, rfl⟩
theorem walkL_get : ∀ (l : List GV) (i : Nat) (h : i < l.length) (j : Nat), j < (walkV l[i]).length → (walkL l)[nodesL (l.take i) + j]? = (walkV l[i])[j]?
  | v :: l, 0, _, j, hj => by
    simp only [List.getElem_cons_zero] at hj
    simp only [walkL, List.take_zero, nodesL, Nat.zero_add, List.getElem_cons_zero]
    rw [List.getElem?_append_left hj]
  | v :: l, i + 1, h, j, hj => by
    simp only [List.getElem_cons_succ] at hj
    simp only [walkL, List.take_succ_cons, nodesL, List.getElem_cons_succ]
    rw [List.getElem?_append_right (by rw [walk_len]; omega), walk_len, show nodes v + nodesL (l.take i) + j - nodes v = nodesL (l.take i) + j from by omega]
    exact walkL_get l i (by simpa using h) j hj
theorem val_iter {n b : Nat} {m0 : St} {xs : List GV} {I : Nat → St → Prop} (y : Yields Tryz.prog n b m0 (xs.map fun x => [x.pv]) I) (v : GV) (hv : nodes v < 1152921504606846976) (k : Nat) (hseg : ∀ i (h : i < (walkV v).length), xs[k + i]? = some (walkV v)[i]) (p q : Nat) (m : St)
    (hI : I k m) (hb : b ≤ m.nloc) (hp : m.loc p = some [.yld n]) (hq : m.loc q = some [.clo 139 [] [.loc p 0, .loc q 0]]) (hpb : b ≤ p ∧ p < m.nloc) (hqb : b ≤ q ∧ q < m.nloc) :
    ACall Tryz.prog 139 [v.pv, .loc p 0, .loc q 0] m (fun r m' => r = .ret (vB true) ∧ I (k + nodes v) m' ∧ Only b m m' ∧ m'.nloc = m.nloc) := by
  induction hk : nodes v using Nat.strongRecOn generalizing v k m with
  | _ N ih =>
  subst hk
  have hn := nodes_eq v
  have hl := nodesL_len v.els
  have pm : p ≠ m.nloc := by omega
  have qm : q ≠ m.nloc := by omega
  refine ACall.of_aw Tryz.func139 Tryz.ntmps139 rfl rfl (by simp) ?_
  have hp1 : p < m.nloc + 1 := by omega
  have hq1 : q < m.nloc + 1 := by omega
  have o1 : Only b m (m.newLoc v.cells) := .same ((Same.refl m).newLoc _)
  have hI1 : I k (m.newLoc v.cells) := y.agr _ m _ (.same ((Same.refl m).newLoc _) hb rfl rfl rfl) hI
  have hx0 : xs[k]? = some v := by have := hseg 0 (by rw [walk_len]; omega); simpa [walk_eq] using this
  obtain ⟨hk0, hk1⟩ := List.getElem?_eq_some_iff.1 hx0
  have F := (aand @hp (aand @pm @hp1)); refine tF ?_; (try clear F)
  refine AList.op (by decide) ?_; intro K Kp hK hKp; simp [upd_lit]
  have hc := y.call k (by simpa using hk0) (m.newLoc v.cells) (by simp; omega) hI1
  simp only [List.getElem_map, hk1] at hc
  refine hc.mono ?_
  rintro _ m1 ⟨rfl, hI2, o2, n2⟩
  apply hK; clear hK hKp K Kp
  have n2' : m1.nloc = m.nloc + 1 := by rw [n2]; rfl
  have e3 : m1.loc m.nloc = some v.cells := (o2.loc _ (by omega) (by simp)).trans (by simp)
  have ep : m1.loc p = some [.yld n] := (o2.loc _ hpb.1 (by simp; omega)).trans (by simp [pm, hp])
  have eq : m1.loc q = some [.clo 139 [] [.loc p 0, .loc q 0]] := (o2.loc _ hqb.1 (by simp; omega)).trans (by simp [qm, hq])
  refine tS ?_
  refine AW.cond (t := false) (by simp [upd_lit]) (fun h => by cases h) (fun _ => ?_)
  have F := (aand @e3 @n2'); refine tF ?_; (try clear F)
  refine AW.loop (ι := Nat) (fun i σ m' => i ≤ v.els.length ∧ I (k + 1 + nodesL (v.els.take i)) m' ∧ Only b m1 m' ∧ σ 14 = vI i ∧ σ 13 = vI v.els.length ∧ σ 12 = GV.pvs v.els ∧ σ 2 = .loc q 0) (fun i => v.els.length - i) 0 ?_ ?_
  · exact ⟨by simp, by simpa [nodesL] using hI2, .refl _ _, by simp [upd_lit], by simp [upd_lit], by simp [upd_lit], by simp [upd_lit]⟩
  rintro i σ m' ⟨hi, hIi, oi, s14, s13, s12, s2⟩
  have F := (aand @s14 (aand @s13 (aand @s12 @s2))); refine tF ?_; (try clear F)
  refine AW.condD (p := i < v.els.length) (by simp [upd_lit]) (fun hlt => ?_) (fun hge => ?_)
  · have hg := nodes_get v.els i hlt
    have ht := nodesL_take v.els i hlt
    have F := (aand @s14 (aand @s13 (aand @s12 (aand @s2 (aand @rows_getD @hlt))))); refine tF ?_; (try clear F)
    have nl' : m.nloc + 1 ≤ m'.nloc := by have := oi.nloc; omega
    have qn : q ≠ m'.nloc := by omega
    have pn : p ≠ m'.nloc := by omega
    have qn1 : q < m'.nloc + 1 := by omega
    have eq' : m'.loc q = some [.clo 139 [] [.loc p 0, .loc q 0]] := (oi.loc _ hqb.1 (by omega)).trans eq
    have ep' : m'.loc p = some [.yld n] := (oi.loc _ hpb.1 (by omega)).trans ep
    have F := (aand @s2 (aand @qn (aand @qn1 @eq'))); refine tF ?_; (try clear F)
    refine AList.op (by decide) ?_; intro K Kp hK hKp; simp [upd_lit]
    have sm2 : Same m' ((m'.newLoc [.v (.int .i64 0), .v (.int .i64 0), .v (.bool false), .list .full [], .v (.string ⟨#[]⟩), .list .full []]).setLoc m'.nloc v.els[i].cells) := ((Same.refl m').newLoc _).setLoc (Nat.le_refl _) _
    have hc := ih _ (by omega) v.els[i] (by omega) (k + 1 + nodesL (v.els.take i)) (fun j hj => ?_) _ (y.agr _ m' _ (.same sm2 (by omega) rfl rfl rfl) hIi) (by simp; omega) (by simp [pn, ep']) (by simp [qn, eq']) ⟨hpb.1, by simp; omega⟩ ⟨hqb.1, by simp; omega⟩ rfl
    · refine hc.mono ?_
      rintro _ m2 ⟨rfl, hI3, o3, n3⟩
      apply hK; clear hK hKp K Kp
      refine tS ?_
      refine AW.cond (t := false) (by simp [upd_lit]) (fun h => by cases h) (fun _ => ?_)
      have F := @s14; refine tF ?_; (try clear F)
      refine ⟨i + 1, ⟨by omega, ?_, (oi.trans (.same sm2)).trans o3, by simp [upd_lit], by simp [upd_lit, s13], by simp [upd_lit, s12], by simp [upd_lit, s2]⟩, by omega⟩
      rw [ht, ← Nat.add_assoc]; exact hI3
    · have hb2 := nodesL_take_le v.els (i + 1)
      rw [walk_len] at hj
      have h1 := hseg (1 + nodesL (v.els.take i) + j) (by rw [walk_len]; omega)
      have h2 := walkL_get v.els i hlt j (by rw [walk_len]; exact hj)
      rw [show k + 1 + nodesL (v.els.take i) + j = k + (1 + nodesL (v.els.take i) + j) from by omega, h1, ← List.getElem?_eq_getElem, walk_eq, show 1 + nodesL (v.els.take i) + j = (nodesL (v.els.take i) + j) + 1 from by omega, List.getElem?_cons_succ, h2, List.getElem?_eq_getElem]
  · refine tS ?_
    have e : i = v.els.length := by omega
    subst e
    rw [List.take_length] at hIi
    obtain ⟨m'', l1, l2, l3, l4⟩ := y.leaves hb hI hIi (o1.trans (o2.trans oi))
    exact ⟨_, m'', rfl, .inr ⟨l1.lv, by simp [upd_lit]⟩, by simp [upd_lit], by rw [hn, ← Nat.add_assoc]; exact l2, l3, l4⟩
theorem val_all1 {n b : Nat} {m0 : St} (v : GV) {I : Nat → St → Prop} (y : Yields Tryz.prog n b m0 ((walkV v).map fun x => [x.pv]) I) (hv : nodes v < 1152921504606846976) (m : St) (hI : I 0 m) (hb : b ≤ m.nloc) :
    ACall Tryz.prog 138 [.yld n, .ro v.cells] m (fun r m' => r = .ret (.tup []) ∧ I (nodes v) m' ∧ Only b m m' ∧ m'.nloc = m.nloc) := by
  have hnb := y.nb
  refine ACall.of_aw Tryz.func138 Tryz.ntmps138 rfl rfl (by simp) ?_
  refine tS ?_
  refine AList.op (by decide) ?_; intro K Kp hK hKp; simp [upd_lit]
  have sm : Same m (((m.newLoc [.yld n]).newLoc [.v .nilFunc]).setLoc (m.nloc + 1) [.clo 139 [] [.loc m.nloc 0, .loc (m.nloc + 1) 0]]) := Same.auto
  have hc := val_iter y v hv 0 (fun i h => by rw [Nat.zero_add, List.getElem?_eq_getElem h]) m.nloc (m.nloc + 1) _ (y.agr _ m _ (.same sm hb rfl rfl rfl) hI) (by simp; omega) (by simp) (by simp) ⟨hb, by simp; omega⟩ ⟨by omega, by simp⟩
  refine hc.mono ?_
  rintro _ m1 ⟨rfl, h1, h2, h3⟩
  apply hK; clear hK hKp K Kp
  refine tS ?_
  obtain ⟨m'', l1, l2, l3, l4⟩ := y.leaves hb hI h1 ((Only.same sm).trans h2)
  exact ⟨.tup [], m'', ⟨[], rfl, rfl⟩, .inr ⟨l1.lv, by simp⟩, by simp, by simpa using l2, l3, l4⟩
end Go.Proofs.YtgfadepkiejncaaGreat
namespace Go.Proofs.YtgfadepkiejncaaGreat
open Go.Ab
set_option maxHeartbeats 0
attribute [local irreducible] AW AList ACall DA AExit.then AExit.inBlock YCall
theorem Agr.trans {b : Nat} {m m' m'' : St} (h : Agr b m m') (k : Agr b m' m'') : Agr b m m'' :=
  ⟨h.lo, k.lo', fun n c => (k.loc n c).trans (h.loc n c), fun n c => (k.lp n c).trans (h.lp n c), fun n c => (k.it n c).trans (h.it n c), k.ntok.trans h.ntok, k.top.trans h.top, k.wd.trans h.wd, k.arr.trans h.arr⟩
theorem Agr.refl {b : Nat} {m : St} (h : b ≤ m.nloc) : Agr b m m := ⟨h, h, fun _ _ => rfl, fun _ _ => rfl, fun _ _ => rfl, rfl, rfl, rfl, rfl⟩
theorem Yields.ofVar {P : Program} {c b : Nat} {mm : St} {L : LoopA} {xs : List (List PV)} {f : Nat → List PV} (hc : c < mm.nloc) (hb : b = mm.nloc + 1) (hst : L.st = .ready) (hp : L.pend = none) (hps : ∀ x ∈ xs, x.length = L.params.length) (hlt : ∀ t ∈ L.params, t < L.N)
    (hsc : ∀ j a t, PV.scL a t (f j))
    (h : ∀ j (h : j < xs.length) m', Agr b ((mm.newLp L).setLoc c (f j)) m' → AW P L.N L.assign (AExit.then (fun σ' m'' => m'' = m' ∧ AW P L.N L.body (fun x _ m₂ => x = .normal ∧ ∃ m₃, m₂ = (m'.setLp mm.nloc { L with st := .busy }).setLoc c m₃ ∧ m₃ = f (j + 1)) σ' (m'.setLp mm.nloc { L with st := .busy })) (fun _ _ _ => False)) (parm L.σ L.params xs[j]) m') :
    Yields P mm.nloc b (mm.newLp L) xs (fun j m' => Agr b ((mm.newLp L).setLoc c (f j)) m') := by
  subst hb
  refine ⟨by omega, fun j m m' a i => i.trans a, fun i hi => ?_, fun k => ?_, fun j hj m' hb' hI => ?_⟩
  · by_cases e : i = c
    · subst e
      refine .inr fun j m' cs hI hcs => ?_
      have := hI.loc i hi
      rw [setLoc_loc, if_pos rfl, hcs] at this
      cases this
      exact hsc _ _ _
    · refine .inl fun j m' hI => ?_
      rw [hI.loc i hi, setLoc_loc, if_neg e]
  · by_cases hk : k < mm.ntok
    · exact .inl ⟨hk, fun j m' hI => ⟨by rw [hI.arr]; rfl, Nat.le_of_eq hI.ntok.symm⟩⟩
    · exact .inr fun j m' cs hI hk' _ => by rw [hI.ntok] at hk'; exact absurd hk' hk
  · have hn : mm.nloc < m'.nloc := by omega
    have hL : m'.lp mm.nloc = some L := by rw [hI.lp _ (by omega)]; simp
    refine YCall.of_aw hn hL hst hp (hps _ (List.getElem_mem hj)) hlt ?_
    refine (h j hj m' hI).mono fun x σ m₁ hx => ?_
    cases x <;> simp only [AExit.then] at hx ⊢
    obtain ⟨rfl, hx⟩ := hx
    refine ⟨hn, hL, hx.mono fun x σ m₂ hq => ?_⟩
    obtain ⟨rfl, m₃, rfl, rfl⟩ := hq
    refine ⟨m₁.setLoc c (f (j + 1)), by simp, ?_, rfl, ?_, ⟨Nat.le_refl _, fun n h1 h2 => by rw [setLoc_loc, if_neg (by omega)], fun _ _ => rfl, fun _ _ => rfl, Nat.le_refl _⟩, rfl⟩
    · refine ⟨rfl, Nat.le_refl _, Nat.le_refl _, Nat.le_refl _, fun n hn' => ⟨rfl, ?_⟩, fun _ _ => ⟨rfl, rfl⟩, fun n hn' => ⟨?_, ?_⟩, fun _ _ => rfl, fun k cs hk _ hc => ⟨hc, .inl ⟨hk, hc⟩⟩⟩
      · by_cases e : n = c
        · subst e; refine .inr fun cs hcs => ?_
          simp at hcs; subst hcs; exact hsc _ _ _
        · exact .inl (by simp [e])
      · by_cases e : n = mm.nloc
        · simp [e, hL]
        · simp [e]
      · by_cases e : n = mm.nloc
        · simp [e, hL]
        · simp [e]
    · refine ⟨hI.lo, hI.lo', fun i hi => ?_, fun i hi => hI.lp i hi, fun i hi => hI.it i hi, hI.ntok, hI.top, hI.wd, hI.arr⟩
      simp only [setLoc_loc]
      split
      · rfl
      · rename_i e; have := hI.loc i hi; rw [setLoc_loc, if_neg e] at this; exact this
theorem val_nodes (v : GV) (hv : nodes v < 1152921504606846976) : Gives Tryz.prog 30 [v.pv] (vI (nodes v)) := by
  intro m
  refine ACall.of_aw Tryz.func30 Tryz.ntmps30 rfl rfl (by simp) ?_
  refine tS ?_
  refine tS1 fun K Kp hK hKp => ?_; refine Gives.at (val_all v) ?_; apply hK; clear hK hKp K Kp
  refine tS ?_
  refine AW.rangeFunc (f := 138) (first := []) (caps := [.ro v.cells]) (by simp [upd_lit]) (fun fn => ?_)
  have n1 : (((m.newLoc v.cells).newLoc [vI 0]).setLoc (m.nloc + 1) [vI 0]).nloc = m.nloc + 2 := rfl
  have sm : Same m (((m.newLoc v.cells).newLoc [vI 0]).setLoc (m.nloc + 1) [vI 0]) := Same.auto
  have hnl := walk_len v
  generalize hL : LoopA.mk _ _ _ _ _ _ _ _ = L
  refine ACall.mono (val_all1 v (Yields.ofVar (L := L) (P := Tryz.prog) (c := m.nloc + 1) (mm := ((m.newLoc v.cells).newLoc [vI 0]).setLoc (m.nloc + 1) [vI 0]) (f := fun j => [vI j]) (by rw [n1]; omega) rfl (by rw [← hL]) (by rw [← hL]) ?_ ?_ ?_ ?_) hv _ ?_ (by simp)) ?_
  · intro x hx
    obtain ⟨y, _, rfl⟩ := List.mem_map.1 hx
    rw [← hL]; rfl
  · rw [← hL]; intro t ht; simp at ht; subst ht; exact (by decide : (6 : Nat) < 10)
  · intro j a t; exact ⟨trivial, trivial⟩
  · intro j hj m' hI
    have hj' : j < nodes v := by simpa [hnl] using hj
    have e1 : m'.loc (m.nloc + 1) = some [vI j] := by rw [hI.loc _ (by rw [n1]; omega)]; simp
    have e2 : m.nloc + 1 < m'.nloc := by have := hI.lo'; rw [n1] at this; omega
    subst hL
    simp only [List.getElem_map, parm]
    refine AW.skip ?_
    refine AExit.norT ⟨rfl, ?_⟩
    have F := (aand @e1 @e2); refine tF ?_; (try clear F)
    exact ⟨rfl, _, rfl, by simp⟩
  · refine ⟨by simp, by simp, fun i hi => ?_, fun i hi => rfl, fun i hi => rfl, rfl, rfl, rfl, rfl⟩
    by_cases e : i = m.nloc + 1 <;> simp [e]
  · rintro _ m' ⟨rfl, hI, ho, hn'⟩
    refine ⟨_, _, rfl, by rw [hn']; simp, by rw [hI.lp _ (by simp)]; simp; rfl, by rw [← hL]; simp, by rw [← hL], ?_⟩
    have e1 : m'.loc (m.nloc + 1) = some [vI (nodes v)] := by rw [hI.loc _ (by rw [n1]; omega)]; simp
    have e2 : m.nloc + 1 < m'.nloc := by have := hI.lo'; rw [n1] at this; omega
    have F := (aand @e1 @e2); refine tF ?_; (try clear F)
    refine Fin.ret rfl ?_ (by simp [upd_lit]) (by simp) ⟨rfl, rfl⟩
    have hs := hI.lo'
    rw [n1] at hs
    refine Same.mk (by simp; omega) (by simp [hI.ntok]) (fun i hi => ?_) (fun k hk => ?_) (fun i hi => ?_) (fun i hi => ?_) (fun k cs _ _ hc => (congrFun hI.arr k).trans hc)
    · simp; rw [hI.loc i (by rw [n1]; omega)]; simp [Nat.add_assoc, show i ≠ m.nloc + 2 from by omega, show i ≠ m.nloc + 1 from by omega, show i ≠ m.nloc from by omega]
    · simp [hI.top, hI.wd]
    · simp; rw [if_neg (by omega), hI.lp i (by rw [n1]; omega)]; simp [Nat.add_assoc, show i ≠ m.nloc + 2 from by omega, show i ≠ m.nloc + 1 from by omega, show i ≠ m.nloc from by omega]
    · rw [show (m'.dropLp (m.nloc + 2)).it = m'.it from rfl, hI.it i (by rw [n1]; omega)]; simp [upd_lit, St.newLp, Nat.add_assoc, show i ≠ m.nloc + 2 from by omega, show i ≠ m.nloc + 1 from by omega, show i ≠ m.nloc from by omega]
end Go.Proofs.YtgfadepkiejncaaGreat
namespace Go.Proofs.YtgfadepkiejncaaGreat
open Go.Ab
set_option maxHeartbeats 0
attribute [local irreducible] AW AList ACall DA AExit.then AExit.inBlock YCall
theorem val_deep (v : GV) (hv : nodes v < 1152921504606846976) : Gives Tryz.prog 32 [v.pv] (vI (deep v)) := by
  induction hk : nodes v using Nat.strongRecOn generalizing v with
  | _ k ih =>
  subst hk
  have hn := nodes_eq v
  have hl := nodesL_len v.els
  intro m
  refine ACall.of_aw Tryz.func32 Tryz.ntmps32 rfl rfl (by simp) ?_
  refine tS ?_
  refine AW.loop (ι := Nat) (fun i σ m' => i ≤ v.els.length ∧ σ 3 = vI (deepL (v.els.take i)) ∧ σ 9 = vI i ∧ σ 8 = vI v.els.length ∧ σ 7 = GV.pvs v.els ∧ Same m m') (fun i => v.els.length - i) 0 ?_ ?_
  · exact ⟨by simp, by simp [upd_lit, deepL], by simp [upd_lit], by simp [upd_lit], by simp [upd_lit], Same.auto⟩
  rintro i σ m' ⟨hi, h3, h9, h8, h7, sm⟩
  have hnb := nodesL_take_le v.els i
  have hdb := deepL_le (v.els.take i)
  have F := (aand @h3 (aand @h7 (aand @h8 @h9))); refine tF ?_; (try clear F)
  refine AW.condD (p := i < v.els.length) (by simp [upd_lit]) (fun hlt => ?_) (fun hge => ?_)
  · have hg := nodes_get v.els i hlt
    have ht := deepL_take v.els i hlt
    have hd := deep_le v.els[i]
    have F := (aand @h3 (aand @h7 (aand @h8 (aand @h9 (aand @hlt @rows_getD))))); refine tF ?_; (try clear F)
    have F := (aand @h3 @h9); refine tF1 fun K Kp hK hKp => ?_; (try clear F); refine Gives.at (ih _ (by omega) v.els[i] (by omega) rfl) ?_; apply hK; clear hK hKp K Kp
    have F := (aand @h3 @h9); refine tF ?_; (try clear F)
    refine ⟨i + 1, ⟨by omega, ?_, by simp [upd_lit], by simp [upd_lit, h8], by simp [upd_lit, h7], (sm.newLoc _).setLoc sm.lloc _⟩, by omega⟩
    simp [upd_lit, ht]; (try omega)
  · have hge : i = v.els.length := by omega
    subst hge
    rw [List.take_length] at h3 hdb
    have F := @h3; refine tF ?_; (try clear F)
    exact Fin.ret rfl sm (by simp [upd_lit]; rfl) (by simp) ⟨by rw [deep_eq]; simp [Int.add_comm], rfl⟩
end Go.Proofs.YtgfadepkiejncaaGreat
namespace Go.Proofs.YtgfadepkiejncaaGreat
open Go.Ab
set_option maxHeartbeats 0
attribute [local irreducible] AW AList ACall DA AExit.then AExit.inBlock YCall
theorem clone22 (a : List Int) (la : a.length ≤ 1099511627776) : Gives Tryz.prog 94 [.list .no (limbs a)] (.list .no (limbs a)) := by
  intro m
  refine ACall.of_aw Tryz.func94 Tryz.ntmps94 rfl rfl (by simp) ?_
  refine tS ?_
  refine AList.op (by decide) ?_; intro K Kp hK hKp; simp [upd_lit]
  refine ⟨?_, fun h0 => ?_⟩
  · apply hK; clear hK hKp K Kp
    refine tS ?_
    refine AW.cond (t := false) (by simp [upd_lit]) (fun h => by cases h) (fun _ => ?_)
    refine tS ?_
    refine AList.op (by decide) ?_; intro K Kp hK hKp; simp [upd_lit]
    refine app22 (l := []) (m0 := m) (.full (Same.refl m)) rfl (by simpa using la) fun o' m'' ho' _ => hK _ _ ?_; clear hK hKp K Kp
    refine tS ?_
    exact Fin.ret rfl ho'.1 (by simp [upd_lit]) (by simp) ⟨rfl, rfl⟩
  · apply hK; clear hK hKp K Kp
    refine tS ?_
    refine AW.cond (t := true) (by simp [upd_lit]) (fun _ => ?_) (fun h => by cases h)
    refine tSn ?_
    refine AW.nilS (d := 2) (by simp [upd_lit]) ?_
    refine tS ?_
    exact Fin.ret rfl (Same.refl m) (by simp [upd_lit]; rfl) (by simp) ⟨by rw [h0], rfl⟩
end Go.Proofs.YtgfadepkiejncaaGreat
namespace Go.Proofs.YtgfadepkiejncaaGreat
open Go.Ab
set_option maxHeartbeats 0
attribute [local irreducible] AW AList ACall DA AExit.then AExit.inBlock YCall
theorem walkL_mem {x : GV} : ∀ {l : List GV} {i : Nat} (h : i < l.length), x ∈ walkV l[i] → x ∈ walkL l
  | v :: l, 0, _, hx => by simp only [walkL]; exact List.mem_append_left _ hx
  | v :: l, i + 1, h, hx => by simp only [walkL]; exact List.mem_append_right _ (walkL_mem (by simpa using h) hx)
theorem walk_mem {x v : GV} {i : Nat} (h : i < v.els.length) (hx : x ∈ walkV v.els[i]) : x ∈ walkV v := by rw [walk_eq]; exact List.mem_cons_of_mem _ (walkL_mem h hx)
theorem walk_self (v : GV) : v ∈ walkV v := by rw [walk_eq]; exact List.mem_cons_self
theorem val_copy (v : GV) (hv : nodes v < 1099511627776) (hab : ∀ x ∈ walkV v, x.abs.length ≤ 1099511627776) : Gives Tryz.prog 35 [v.pv] v.pv := by
  induction hk : nodes v using Nat.strongRecOn generalizing v with
  | _ k ih =>
  subst hk
  have hn := nodes_eq v
  have hl := nodesL_len v.els
  intro m
  refine ACall.of_aw Tryz.func35 Tryz.ntmps35 rfl rfl (by simp) ?_
  refine tS ?_
  refine tS1 fun K Kp hK hKp => ?_; refine Gives.at (clone22 v.abs (hab v (walk_self v))) ?_; apply hK; clear hK hKp K Kp
  refine tS ?_
  refine AW.nilC (n := m.nloc) (i := 5) (cs := (v.cells.set 3 (.list .no (limbs v.abs))).set 5 (.v (.slice none 0 0))) (by simp; omega) (by simp) (by simp) ?_
  have hcell : ((v.cells.set 3 (.list .no (limbs v.abs))).set 5 (.v (.slice none 0 0))).set 5 (.list .full []) = [vI v.kind, vI v.num, vB v.neg, .list .no (limbs v.abs), vS v.str, .list .full []] := by cases v; rfl
  rw [hcell]
  refine AW.loop (ι := Nat) (fun i σ m' => i ≤ v.els.length ∧ (∃ o, m'.loc m.nloc = some [vI v.kind, vI v.num, vB v.neg, .list .no (limbs v.abs), vS v.str, .list o (GV.rows (v.els.take i))] ∧ Ow m m' o 6 i) ∧ m'.loc (m.nloc + 1) = some [vI 0, vI 0, vB false, .list .full [], vS ⟨#[]⟩, .list .full []] ∧ m.nloc + 2 ≤ m'.nloc ∧ σ 17 = vI i ∧ σ 16 = vI v.els.length ∧ σ 15 = GV.pvs v.els ∧ σ 1 = .loc m.nloc 0 ∧ σ 2 = .loc (m.nloc + 1) 0) (fun i => v.els.length - i) 0 ?_ ?_
  · exact ⟨by simp, ⟨.full, by simp [GV.rows], .full Same.auto⟩, by simp, by simp [Nat.add_assoc], by simp [upd_lit], by simp [upd_lit], by simp [upd_lit], by simp [upd_lit], by simp [upd_lit]⟩
  rintro i σ m' ⟨hi, ⟨o, e0, ow⟩, e1, hnl, h17, h16, h15, h1, h2⟩
  have hn0 : m.nloc < m'.nloc := by omega
  have hn1 : m.nloc + 1 < m'.nloc := by omega
  have F := (aand @h17 (aand @h16 @h15)); refine tF ?_; (try clear F)
  refine AW.condD (p := i < v.els.length) (by simp [upd_lit]) (fun hlt => ?_) (fun hge => ?_)
  · have F := (aand @h17 (aand @h16 (aand @h15 (aand @hlt @rows_getD)))); refine tF ?_; (try clear F)
    have hg := nodes_get v.els i hlt
    have hne : m.nloc ≠ m'.nloc := by omega
    have hn0' : m.nloc < m'.nloc + 1 := by omega
    have ow2 : Ow m ((m'.newLoc [PV.v (Value.int IntKind.i64 0), PV.v (Value.int IntKind.i64 0), PV.v (Value.bool false), PV.list Own.full [], PV.v (Value.string { data := #[] }), PV.list Own.full []]).setLoc m'.nloc v.els[i].cells) o 6 i := ⟨(ow.1.newLoc _).setLoc (by have := ow.1.lloc; omega) _, ow.2⟩
    refine AW.draw [.S, .R, .R, .R, .S, .W, .S, .W] (by decide +kernel) ?_; have F := (aand @h1 (aand @h2 (aand @e0 (aand @hn0 (aand @hne @hn0'))))); refine dST 0 ?_; refine dRT 1 ?_; refine dRT 2 ?_; refine dCT ((ih _ (by omega) v.els[i] (by omega) (fun x hx => hab x (walk_mem hlt hx)) rfl)) 3 ?_; refine dST 4 ?_; (try clear F); refine DA.W (oi := ?oiw1) 5 ?aw1 ?bw1 ?cw1 ?dw1 ?ew1 ?fw1; (case aw1 => rfl); (case bw1 => decide +kernel); (case cw1 => rfl); (case dw1 => rfl); (case ew1 => decide); intro K Kp hK hKp; (simp [h1, h2, upd_lit]; refine app25 (l' := [v.els[i]]) ow2 (by simp; omega) (by simp; omega) fun o' m'' ho' hs => hK _ _ ?_; clear hK hKp K Kp); have F := (aand @h1 (aand @h2 (aand @e0 (aand @hn0 (aand @hne @hn0'))))); (try clear F)
    have hn0'' : m.nloc < m''.nloc := by rw [hs.nloc]; simp; omega
    have e0'' : m''.loc m.nloc = some [vI v.kind, vI v.num, vB v.neg, .list .no (limbs v.abs), vS v.str, .list o (GV.rows (v.els.take i))] := by rw [hs.loc]; simp [hne, e0]
    skip; have F := (aand @h1 (aand @h2 (aand @e0'' @hn0''))); refine dST 6 ?_; refine dW 7 ?_; (try clear F); first | refine dN ?_ | refine dB ?_ | refine DA.done (by decide +kernel) ?_
    have F := @h17; refine tF ?_; (try clear F)
    refine ⟨i + 1, ⟨by omega, ⟨o', by simp, ⟨ho'.1.setLoc (Nat.le_refl _) _, ho'.2⟩⟩, ?_, ?_, by simp [upd_lit], by simp [upd_lit, h16], by simp [upd_lit, h15], by simp [upd_lit, h1], by simp [upd_lit, h2]⟩, by omega⟩
    · simp [hs.loc, e1, hn1, show m.nloc + 1 ≠ m'.nloc from by omega]
    · simp [hs.nloc]; omega
  · have : i = v.els.length := by omega
    subst this
    rw [List.take_length] at e0
    have F := (aand @h1 (aand @h2 (aand @e0 (aand @e1 (aand @hn0 @hn1))))); refine tF ?_; (try clear F)
    exact Fin.retC (p := .agg [vI v.kind, vI v.num, vB v.neg, .list .no (limbs v.abs), vS v.str, .list o (GV.rows v.els)]) (q := v.pv) rfl (by simp [upd_lit, h2, hn1]) (ow.1.setLoc (by omega) _) (by simp [cells_eq]) (by simp) ⟨rfl, rfl⟩
end Go.Proofs.YtgfadepkiejncaaGreat
namespace Go.Proofs.YtgfadepkiejncaaGreat
open Go.Ab
set_option maxHeartbeats 0
set_option maxRecDepth 100000
attribute [local irreducible] AW AList ACall DA AExit.then AExit.inBlock YCall
theorem Yields.ofSt {P : Program} {b : Nat} {mm : St} {L : LoopA} {xs : List (List PV)} {S : Nat → St} (hb : b = mm.nloc + 1) (hst : L.st = .ready) (hp : L.pend = none) (hps : ∀ x ∈ xs, x.length = L.params.length) (hlt : ∀ t ∈ L.params, t < L.N)
    (hL : ∀ j, (S j).lp mm.nloc = some L)
    (sc : ∀ i, i < b → (∀ j, (S j).loc i = (mm.newLp L).loc i) ∨ (∀ j cs, (S j).loc i = some cs → PV.scL b (S j).ntok cs))
    (scA : ∀ k, (k < mm.ntok ∧ ∀ j, (S j).arr k = mm.arr k ∧ mm.ntok ≤ (S j).ntok) ∨ (∀ j cs, k < (S j).ntok → (S j).arr k = some cs → PV.scL b (S j).ntok cs))
    (h : ∀ j (h : j < xs.length) m', Agr b (S j) m' → AW P L.N L.assign (AExit.then (fun σ' m'' => mm.nloc < m''.nloc ∧ m''.lp mm.nloc = some L ∧ AW P L.N L.body (fun x _ m₂ => x = .normal ∧ m₂.lp mm.nloc = some { L with st := .busy } ∧ Agr b (S (j + 1)) (m₂.setLp mm.nloc L) ∧ Only b m' (m₂.setLp mm.nloc L)) σ' (m''.setLp mm.nloc { L with st := .busy })) (fun _ _ _ => False)) (parm L.σ L.params xs[j]) m') :
    Yields P mm.nloc b (mm.newLp L) xs (fun j m' => Agr b (S j) m') := by
  have sc' : ∀ i, i < b → (∀ j m', Agr b (S j) m' → m'.loc i = (mm.newLp L).loc i) ∨ (∀ j m' cs, Agr b (S j) m' → m'.loc i = some cs → PV.scL b m'.ntok cs) := fun i hi => by
    rcases sc i hi with k | k
    · exact .inl fun j m' a => (a.loc i hi).trans (k j)
    · exact .inr fun j m' cs a hc => by rw [a.ntok]; exact k j cs (by rw [← a.loc i hi]; exact hc)
  have scA' : ∀ k, (k < (mm.newLp L).ntok ∧ ∀ j m', Agr b (S j) m' → m'.arr k = (mm.newLp L).arr k ∧ (mm.newLp L).ntok ≤ m'.ntok) ∨ (∀ j m' cs, Agr b (S j) m' → k < m'.ntok → m'.arr k = some cs → PV.scL b m'.ntok cs) := fun k => by
    rcases scA k with ⟨k1, k2⟩ | k2
    · exact .inl ⟨k1, fun j m' a => ⟨by rw [a.arr]; exact (k2 j).1, by rw [a.ntok]; exact (k2 j).2⟩⟩
    · exact .inr fun j m' cs a hk hc => by rw [a.ntok] at hk ⊢; exact k2 j cs hk (by rw [← a.arr]; exact hc)
  subst hb
  refine ⟨by omega, fun j m m' a i => i.trans a, sc', scA', fun j hj m' hb' hI => ?_⟩
  have hn : mm.nloc < m'.nloc := by omega
  have hL' : m'.lp mm.nloc = some L := by rw [hI.lp _ (by omega)]; exact hL j
  refine YCall.of_aw hn hL' hst hp (hps _ (List.getElem_mem hj)) hlt ?_
  refine (h j hj m' hI).mono fun x σ m₁ hx => ?_
  cases x <;> simp only [AExit.then] at hx ⊢
  obtain ⟨h1, h2, hx⟩ := hx
  refine ⟨h1, h2, hx.mono fun x σ m₂ hq => ?_⟩
  obtain ⟨rfl, q1, q2, q3⟩ := hq
  refine ⟨_, q1, leaves_of (I := fun j m' => Agr (mm.nloc + 1) (S j) m') sc' scA' hb' hI q2 q3, rfl, ?_, ⟨Nat.le_refl _, q3.loc, q3.lp, q3.it, q3.ntok⟩, rfl⟩
  exact q2.trans ⟨q2.lo', hb', fun _ _ => rfl, fun _ _ => rfl, fun _ _ => rfl, rfl, rfl, rfl, rfl⟩
section
variable (m0 : St) (c : Nat) (xs : List GV) (j : Nat)
end
end Go.Proofs.YtgfadepkiejncaaGreat
namespace Go.Proofs.YtgfadepkiejncaaGreat
open Go.Ab
set_option maxHeartbeats 0
set_option maxRecDepth 100000
attribute [local irreducible] AW AList ACall DA AExit.then AExit.inBlock YCall
theorem isNaN_int (a : Int) : Gives Tryz.prog 130 [vI a] (vB false) := by
  intro m
  refine ACall.of_aw Tryz.func130 Tryz.ntmps130 rfl rfl (by simp) ?_
  refine tS ?_
  exact Fin.ret rfl (Same.refl m) (by simp [upd_lit]) (by simp) ⟨rfl, rfl⟩
theorem cmp_int (a b : Int) : Gives Tryz.prog 85 [vI a, vI b] (vI (numbersF a b)) := by
  intro m
  refine ACall.of_aw Tryz.func85 Tryz.ntmps85 rfl rfl (by simp) ?_
  refine tS ?_
  refine tS1 fun K Kp hK hKp => ?_; refine Gives.at (isNaN_int a) ?_; apply hK; clear hK hKp K Kp
  refine tS ?_
  refine tS1 fun K Kp hK hKp => ?_; refine Gives.at (isNaN_int b) ?_; apply hK; clear hK hKp K Kp
  refine tS ?_
  refine AW.cond (t := false) (by simp [upd_lit]) (fun h => by cases h) (fun _ => ?_)
  refine tS ?_
  refine AW.cond (t := false) (by simp [upd_lit]) (fun h => by cases h) (fun _ => ?_)
  refine tS ?_
  refine AW.condD (p := a < b) (by simp [upd_lit]) (fun h => ?_) (fun h => ?_)
  · refine tS ?_
    exact Fin.ret rfl (Same.refl m) (by simp [upd_lit]; rfl) (by simp) ⟨by simp [numbersF, h], rfl⟩
  refine tS ?_
  refine AW.condD (p := b < a) (by simp [upd_lit]) (fun h' => ?_) (fun h' => ?_)
  · refine tS ?_
    exact Fin.ret rfl (Same.refl m) (by simp [upd_lit]; rfl) (by simp) ⟨by simp [numbersF, h, h'], rfl⟩
  refine tS ?_
  exact Fin.ret rfl (Same.refl m) (by simp [upd_lit]; rfl) (by simp) ⟨by simp [numbersF, h, h'], rfl⟩
theorem isNaN_u32 (a : Int) : Gives Tryz.prog 210 [vW a] (vB false) := by
  intro m
  refine ACall.of_aw Tryz.func210 Tryz.ntmps210 rfl rfl (by simp) ?_
  refine tS ?_
  exact Fin.ret rfl (Same.refl m) (by simp [upd_lit]) (by simp) ⟨rfl, rfl⟩
theorem cmp_u32 (a b : Int) : Gives Tryz.prog 201 [vW a, vW b] (vI (numbersF a b)) := by
  intro m
  refine ACall.of_aw Tryz.func201 Tryz.ntmps201 rfl rfl (by simp) ?_
  refine tS ?_
  refine tS1 fun K Kp hK hKp => ?_; refine Gives.at (isNaN_u32 a) ?_; apply hK; clear hK hKp K Kp
  refine tS ?_
  refine tS1 fun K Kp hK hKp => ?_; refine Gives.at (isNaN_u32 b) ?_; apply hK; clear hK hKp K Kp
  refine tS ?_
  refine AW.cond (t := false) (by simp [upd_lit]) (fun h => by cases h) (fun _ => ?_)
  refine tS ?_
  refine AW.cond (t := false) (by simp [upd_lit]) (fun h => by cases h) (fun _ => ?_)
  refine tS ?_
  refine AW.condD (p := a < b) (by simp [upd_lit]) (fun h => ?_) (fun h => ?_)
  · refine tS ?_
    exact Fin.ret rfl (Same.refl m) (by simp [upd_lit]; rfl) (by simp) ⟨by simp [numbersF, h], rfl⟩
  refine tS ?_
  refine AW.condD (p := b < a) (by simp [upd_lit]) (fun h' => ?_) (fun h' => ?_)
  · refine tS ?_
    exact Fin.ret rfl (Same.refl m) (by simp [upd_lit]; rfl) (by simp) ⟨by simp [numbersF, h, h'], rfl⟩
  refine tS ?_
  exact Fin.ret rfl (Same.refl m) (by simp [upd_lit]; rfl) (by simp) ⟨by simp [numbersF, h, h'], rfl⟩
def signF (n : Bool) (a : List Int) : Int := if a.length = 0 then 0 else if n then -1 else 1
theorem num_sign (n : Bool) (a : List Int) : Gives Tryz.prog 187 [intv n a] (vI (signF n a)) := by
  intro m
  refine ACall.of_aw Tryz.func187 Tryz.ntmps187 rfl rfl (by simp) ?_
  refine tS ?_
  refine AW.condD (p := a.length = 0) (by simp [upd_lit]) (fun h => ?_) (fun h => ?_)
  · refine tS ?_
    exact Fin.ret rfl ((Same.refl m).newLoc _) (by simp [upd_lit]; rfl) (by simp) ⟨by simp [signF, h], rfl⟩
  refine tS ?_
  refine AW.cond (t := n) (by simp [upd_lit]) (fun h' => ?_) (fun h' => ?_)
  · refine tS ?_
    exact Fin.ret rfl ((Same.refl m).newLoc _) (by simp [upd_lit]; rfl) (by simp) ⟨by simp [signF, h, h'], rfl⟩
  refine tS ?_
  exact Fin.ret rfl ((Same.refl m).newLoc _) (by simp [upd_lit]; rfl) (by simp) ⟨by simp [signF, h, h'], rfl⟩
theorem nat_compare (a b : List Int) (la : a.length < 1152921504606846976) (lb : b.length < 1152921504606846976) : Gives Tryz.prog 188 [.list .no (limbs a), .list .no (limbs b)] (vI (sizeF a b)) := by
  intro m
  refine ACall.of_aw Tryz.func188 Tryz.ntmps188 rfl rfl (by simp) ?_
  refine tS ?_
  refine AW.condD (p := a.length ≠ b.length) (by simp [upd_lit, Int.natCast_inj]) (fun hl => ?_) (fun hl => ?_)
  · refine tS ?_
    refine tS1 fun K Kp hK hKp => ?_; refine Gives.at (cmp_int a.length b.length) ?_; apply hK; clear hK hKp K Kp
    refine tS ?_
    exact Fin.ret rfl (Same.refl m) (by simp [upd_lit]; rfl) (by simp) ⟨by
      simp only [sizeF, if_pos hl, numbersF]
      by_cases h : a.length < b.length
      · simp [h]
      · have : b.length < a.length := by omega
        simp [h, this], rfl⟩
  have hl : a.length = b.length := by simpa using hl
  refine tS ?_
  refine AW.loop (ι := Nat) (fun i σ m' => i ≤ a.length ∧ cmpAt a b i = sizeF a b ∧ σ 5 = vI ((i : Int) - 1) ∧ σ 0 = .list .no (limbs a) ∧ σ 1 = .list .no (limbs b) ∧ m' = m) (fun i => i) a.length ?_ ?_
  · simp [upd_lit, sizeF, hl]
  rintro i σ m' ⟨hi, hc, h5, h0, h1, rfl⟩
  have F := (aand @h5 (aand @h0 @h1)); refine tF ?_; (try clear F)
  refine AW.condD (p := 0 < i) (by simp [upd_lit]; omega) (fun hlt => ?_) (fun hge => ?_)
  · obtain ⟨j, rfl⟩ : ∃ j, i = j + 1 := ⟨i - 1, by omega⟩
    have ja : j < a.length := by omega
    have jb : j < b.length := by omega
    have ga : a.getD j 0 = a[j] := by simp [List.getD, ja]
    have gb : b.getD j 0 = b[j] := by simp [List.getD, jb]
    rw [cmpAt, ga, gb] at hc
    have h5' : σ 5 = vI j := by rw [h5]; congr 1; congr 1; omega
    have F := (aand @h5' (aand @h0 @h1)); refine tF ?_; (try clear F)
    refine AW.draw [.S, .S, .S, .R, .S, .S, .S, .R, .S] (by decide +kernel) ?_; have F := (aand @h5' (aand @h0 (aand @h1 (aand @limbs_getD (aand @ja @jb))))); refine dS 0 ?_; refine dS 1 ?_; refine dS 2 ?_; refine dR 3 ?_; refine dS 4 ?_; refine dS 5 ?_; refine dS 6 ?_; refine dR 7 ?_; refine dS 8 ?_; (try clear F); first | refine dN ?_ | refine dB ?_ | refine DA.done (by decide +kernel) ?_
    refine AW.condD (p := a[j] ≠ b[j]) (by simp [upd_lit]) (fun h => ?_) (fun h => ?_)
    · refine tS ?_
      refine AW.draw [.S, .S, .S, .R, .S, .S, .S, .R, .R, .S] (by decide +kernel) ?_; have F := (aand @h5' (aand @h0 (aand @h1 (aand @limbs_getD (aand @ja @jb))))); refine dS 0 ?_; refine dS 1 ?_; refine dS 2 ?_; refine dR 3 ?_; refine dS 4 ?_; refine dS 5 ?_; refine dS 6 ?_; refine dR 7 ?_; refine dC ((cmp_u32 a[j] b[j])) 8 ?_; refine dS 9 ?_; (try clear F); first | refine dN ?_ | refine dB ?_ | refine DA.done (by decide +kernel) ?_
      refine tS ?_
      exact Fin.ret rfl (Same.refl _) (by simp [upd_lit]; rfl) (by simp) ⟨by
        rw [← hc, numbersF]
        by_cases h1 : a[j] < b[j]
        · simp [h1]
        · have : b[j] < a[j] := by omega
          simp [h1, this], rfl⟩
    have h : a[j] = b[j] := by simpa using h
    rw [if_neg (by omega), if_neg (by omega)] at hc
    have F := @h5'; refine tF ?_; (try clear F)
    refine ⟨j, ⟨by omega, hc, ?_, ?_, ?_, rfl⟩, by omega⟩
    · simp [upd_lit]
    · simp [upd_lit, h0]
    · simp [upd_lit, h1]
  · refine tS ?_
    have : i = 0 := by omega
    subst this
    exact Fin.ret rfl (Same.refl _) (by simp [upd_lit]; rfl) (by simp) ⟨by rw [← hc]; rfl, rfl⟩
end Go.Proofs.YtgfadepkiejncaaGreat
namespace Go.Ab
open Go.RowKit
section
variable {P : Program} {m : St} {K Kp : PV → St → Prop}
theorem op_cmpstr {o : Oper} {c : Call} {x y : Operand} {f : FuncId} {fn : Func} {a b : ByteArray} {ρ : Operand → PV} (ho : o.op = .call c) (hc : c.callee = .value (.func f)) (ha : c.args.toList = [x, y]) (hf : P.funcs[f]? = some fn) (hn : (fn.name == "runtime.NumGoroutine") = false)
    (hb : fn.body.isNone = true) (h1 : Extern.findNext fn = none) (h2 : Extern.find fn = some Extern.BytealgCompare.compare) (hfn : ρ (.func f) = .clo f [] []) (hx : ρ x = .v (.string a)) (hy : ρ y = .v (.string b)) (h : K (.v (.int .i64 (Lib.compareBytes a.data.toList b.data.toList))) m) : OpOK P o ρ m K Kp := by
  intro Γ ev w hm hv
  have e1 := hv x
  rw [hx] at e1
  replace e1 : ev x = .string a := e1
  have e2 := hv y
  rw [hy] at e2
  replace e2 : ev y = .string b := e2
  obtain ⟨callee, args, argTypes⟩ := c
  simp only at hc ha
  subst hc
  have hargs : args.map ev = #[.string a, .string b] := by rw [← Array.toArray_toList (xs := args), ha]; simp [e1, e2]
  have hrun := run_callFunc_extern hf hn hb h1 h2 #[.string a, .string b] w
  rw [Lib.run_compareString] at hrun
  simp only [Result.andThen] at hrun
  have e3 := hv (.func f)
  rw [hfn] at e3
  obtain ⟨fs, us, hef, q1, q2⟩ := e3
  have q1' : fs = #[] := by simpa using congrArg List.toArray (show fs.toList = [] from q1)
  have q2' : us = #[] := by simpa using congrArg List.toArray (show us.toList = [] from q2)
  subst q1' q2'
  have hr : (execOp ev o).run P w = .ok (.value (.int .i64 (Lib.compareBytes a.data.toList b.data.toList))) w := by
    simp only [execOp, ho, resolve, Deferred.ofValue, hef, Sem.run_bind, Sem.run_pure, Result.andThen_ok, invoke, hargs]
    simpa using hrun
  rw [hr]
  exact .same hm h rfl
end
end Go.Ab
namespace Go.Proofs.YtgfadepkiejncaaGreat
open Go.Ab
set_option maxHeartbeats 0
set_option maxRecDepth 100000
attribute [local irreducible] AW AList ACall DA AExit.then AExit.inBlock YCall
theorem cmpB_less : ∀ a b : List UInt8, Lib.compareBytes a b = if Op.bytesLess a b = true then -1 else if (!(Op.bytesLess a b || a == b)) = true then 1 else 0
  | [], [] => rfl
  | [], _ :: _ => rfl
  | _ :: _, [] => rfl
  | x :: a, y :: b => by
    simp only [Lib.compareBytes, Op.bytesLess]
    by_cases h : x < y
    · simp [h]
    · by_cases h' : y < x
      · have : x ≠ y := fun e => by subst e; exact h h'
        simp [h, h', this]
      · have : x = y := UInt8.le_antisymm (UInt8.not_lt.1 h') (UInt8.not_lt.1 h)
        subst this
        simp [h, cmpB_less a b]
theorem cmpB_strF (s t : ByteArray) : Lib.compareBytes s.data.toList t.data.toList = strF s t := by
  unfold strF
  rw [cmpB_less, Lib.toList_data, Lib.toList_data]
theorem bytealg_compare (s t : ByteArray) : Gives Tryz.prog 174 [vS s, vS t] (vI (strF s t)) := by
  intro m
  refine ACall.of_aw Tryz.func174 Tryz.ntmps174 rfl rfl (by simp) ?_
  refine tS ?_
  refine AList.opK (by decide) fun K Kp hK hKp => op_cmpstr (f := 195) (a := s) (b := t) rfl rfl rfl Tryz.func195 (by kernel_rfl) (by kernel_rfl) (by kernel_rfl) (by kernel_rfl) (by simp [opv]) (by simp [opv, upd_lit]) (by simp [opv, upd_lit]) (hK _ _ ?_)
  rw [cmpB_strF]
  refine tS ?_
  exact Fin.ret rfl (Same.refl m) (by simp [upd_lit]) (by simp) ⟨rfl, rfl⟩
theorem strings_compare (s t : ByteArray) : Gives Tryz.prog 162 [vS s, vS t] (vI (strF s t)) := by
  intro m
  refine ACall.of_aw Tryz.func162 Tryz.ntmps162 rfl rfl (by simp) ?_
  refine tS ?_
  refine tS1 fun K Kp hK hKp => ?_; refine Gives.at (bytealg_compare s t) ?_; apply hK; clear hK hKp K Kp
  refine tS ?_
  exact Fin.ret rfl (Same.refl m) (by simp [upd_lit]) (by simp) ⟨rfl, rfl⟩
def orF : List Int → Int
  | [] => 0
  | x :: l => if x ≠ 0 then x else orF l
theorem cmp_or (l : List Int) (ll : l.length < 1152921504606846976) : Gives Tryz.prog 163 [.list .no (ints l)] (vI (orF l)) := by
  intro m
  refine ACall.of_aw Tryz.func163 Tryz.ntmps163 rfl rfl (by simp) ?_
  refine tS ?_
  refine AW.loop (ι := Nat) (fun i σ m' => i ≤ l.length ∧ orF l = orF (l.drop i) ∧ σ 8 = vI i ∧ σ 7 = vI l.length ∧ σ 6 = .list .no (ints l) ∧ σ 3 = vI 0 ∧ m' = m) (fun i => l.length - i) 0 ?_ ?_
  · exact ⟨by simp, rfl, by simp [upd_lit], by simp [upd_lit], by simp [upd_lit], by simp [upd_lit], rfl⟩
  rintro i σ m' ⟨hi, hc, h8, h7, h6, h3, rfl⟩
  have F := (aand @h8 (aand @h7 (aand @h6 @h3))); refine tF ?_; (try clear F)
  refine AW.condD (p := i < l.length) (by simp [upd_lit]) (fun hlt => ?_) (fun hge => ?_)
  · rw [List.drop_eq_getElem_cons hlt] at hc
    have F := (aand @h8 (aand @h7 (aand @h6 (aand @h3 (aand @hlt @ints_getD))))); refine tF ?_; (try clear F)
    refine AW.condD (p := l[i] ≠ 0) (by simp [upd_lit]) (fun h => ?_) (fun h => ?_)
    · refine tS ?_
      exact Fin.ret rfl (Same.refl _) (by simp [upd_lit]; rfl) (by simp) ⟨by rw [hc, orF, if_pos h], rfl⟩
    · have F := @h8; refine tF ?_; (try clear F)
      refine ⟨i + 1, ⟨by omega, by rw [hc, orF, if_neg h], by simp [upd_lit], by simp [upd_lit, h7], by simp [upd_lit, h6], by simp [upd_lit, h3], rfl⟩, by omega⟩
  · have F := @h3; refine tF ?_; (try clear F)
    have : i = l.length := by omega
    subst this
    exact Fin.ret rfl (Same.refl _) (by simp [upd_lit]; rfl) (by simp) ⟨by rw [hc, List.drop_length]; rfl, rfl⟩
end Go.Proofs.YtgfadepkiejncaaGreat
namespace Go.Proofs.YtgfadepkiejncaaGreat
open Go.Ab
set_option maxHeartbeats 0
set_option maxRecDepth 100000
attribute [local irreducible] AW AList ACall DA AExit.then AExit.inBlock YCall
def intOK (n : Bool) (a : List Int) : Prop := a.length ≤ 300 ∧ (a = [] → n = false) ∧ (a ≠ [] → a[a.length - 1]?.getD 0 ≠ 0)
theorem num_check (n : Bool) (a : List Int) (h : intOK n a) : Gives Tryz.prog 170 [intv n a] (vE 0) := by
  obtain ⟨h1, h2, h3⟩ := h
  intro m
  refine ACall.of_aw Tryz.func170 Tryz.ntmps170 rfl rfl (by simp) ?_
  by_cases ha : a = []
  · have hn := h2 ha
    subst ha hn
    refine tSg ?_
    refine AW.cond (t := false) (by simp [upd_lit]) (fun h => by cases h) (fun _ => ?_)
    refine tS ?_
    exact Fin.ret rfl ((Same.refl m).newLoc _) (by simp [upd_lit]) (by simp) ⟨rfl, rfl⟩
  · have hl : 0 < a.length := List.length_pos_iff.2 ha
    have h3 := h3 ha
    obtain ⟨k, hk⟩ : ∃ k, a.length = k + 1 := ⟨a.length - 1, by omega⟩
    have ek : k < a.length := by omega
    have h3 : a[k] ≠ 0 := by simpa [hk, List.getElem?_eq_getElem ek] using h3
    have e7 : ¬ 300 < a.length := by omega
    have e1 : ¬ (300 : Int) < a.length := by omega
    have e8 : (a.length : Int) - 1 = (k : Int) := by omega
    have F := (aand @hl (aand @e7 (aand @e1 (aand @e8 (aand @ek (aand @limbs_getD (aand @h3 @ha))))))); refine tFg ?_; (try clear F)
    refine AW.cond (t := false) (by simp [upd_lit]) (fun h => by cases h) (fun _ => ?_)
    refine tS ?_
    exact Fin.ret rfl ((Same.refl m).newLoc _) (by simp [upd_lit]) (by simp) ⟨rfl, rfl⟩
theorem order_eq {n n' : Bool} {a a' : List Int} (h : intOK n a) (h' : intOK n' a') : (if signF n a ≠ signF n' a' then numbersF (signF n a) (signF n' a') else if n = true then sizeF a' a else sizeF a a') = intsF n a n' a' := by
  obtain ⟨_, h2, _⟩ := h
  obtain ⟨_, h2', _⟩ := h'
  cases a with
  | nil =>
    have := h2 rfl; subst this
    cases a' with
    | nil => have := h2' rfl; subst this; rfl
    | cons y b => cases n' <;> simp [signF, numbersF, intsF, sizeF]
  | cons x a =>
    cases a' with
    | nil => have := h2' rfl; subst this; cases n <;> simp [signF, numbersF, intsF, sizeF]
    | cons y b => cases n <;> cases n' <;> simp [signF, numbersF, intsF]
theorem num_order (n n' : Bool) (a a' : List Int) (h : intOK n a) (h' : intOK n' a') : Gives Tryz.prog 171 [intv n a, intv n' a'] (vI (intsF n a n' a')) := by
  have la := h.1
  have lb := h'.1
  intro m
  refine ACall.of_aw Tryz.func171 Tryz.ntmps171 rfl rfl (by simp) ?_
  have sm : Same m ((m.newLoc [vB n, .list .no (limbs a)]).newLoc [vB n', .list .no (limbs a')]) := ((Same.refl m).newLoc _).newLoc _
  refine tS ?_
  refine AW.draw [.R, .R, .R, .R, .S, .S] (by decide +kernel) ?_; have F := True.intro; refine dR 0 ?_; refine dC ((num_sign n a)) 1 ?_; refine dR 2 ?_; refine dC ((num_sign n' a')) 3 ?_; refine dS 4 ?_; refine dS 5 ?_; (try clear F); first | refine dN ?_ | refine dB ?_ | refine DA.done (by decide +kernel) ?_
  refine tS ?_
  refine AW.condD (p := signF n a ≠ signF n' a') (by simp [upd_lit]) (fun hs => ?_) (fun hs => ?_)
  · refine tS ?_
    refine tS1 fun K Kp hK hKp => ?_; refine Gives.at (cmp_int (signF n a) (signF n' a')) ?_; apply hK; clear hK hKp K Kp
    refine tS ?_
    exact Fin.ret rfl sm (by simp [upd_lit]; rfl) (by simp) ⟨by rw [← order_eq h h', if_pos hs], rfl⟩
  refine tS ?_
  refine AW.cond (t := n) (by simp [upd_lit]) (fun hn => ?_) (fun hn => ?_)
  · refine tS ?_
    refine tS1 fun K Kp hK hKp => ?_; refine Gives.at (nat_compare a' a (by omega) (by omega)) ?_; apply hK; clear hK hKp K Kp
    refine tS ?_
    exact Fin.ret rfl sm (by simp [upd_lit]; rfl) (by simp) ⟨by rw [← order_eq h h', if_neg hs, if_pos hn], rfl⟩
  · refine tS ?_
    refine tS1 fun K Kp hK hKp => ?_; refine Gives.at (nat_compare a a' (by omega) (by omega)) ?_; apply hK; clear hK hKp K Kp
    refine tS ?_
    exact Fin.ret rfl sm (by simp [upd_lit]; rfl) (by simp) ⟨by rw [← order_eq h h', if_neg hs, if_neg (by simp [hn])], rfl⟩
theorem num_compare (n n' : Bool) (a a' : List Int) (h : intOK n a) (h' : intOK n' a') : Gives Tryz.prog 160 [intv n a, intv n' a'] (vI (intsF n a n' a')) := by
  intro m
  refine ACall.of_aw Tryz.func160 Tryz.ntmps160 rfl rfl (by simp) ?_
  have sm : Same m ((m.newLoc [vB n, .list .no (limbs a)]).newLoc [vB n', .list .no (limbs a')]) := ((Same.refl m).newLoc _).newLoc _
  refine tS ?_
  refine tS1 fun K Kp hK hKp => ?_; refine Gives.at (num_check n a h) ?_; apply hK; clear hK hKp K Kp
  refine tSg ?_
  refine tSc (num_check n' a' h') ?_
  refine tSg ?_
  refine AW.cond (t := false) (by simp [upd_lit]) (fun h => by cases h) (fun _ => ?_)
  refine tS ?_
  refine tS1 fun K Kp hK hKp => ?_; refine Gives.at (num_order n n' a a' h h') ?_; apply hK; clear hK hKp K Kp
  refine tS ?_
  exact Fin.ret rfl sm (by simp [upd_lit]) (by simp) ⟨rfl, rfl⟩
end Go.Proofs.YtgfadepkiejncaaGreat
namespace Go.Proofs.YtgfadepkiejncaaGreat
open Go.Ab
set_option maxHeartbeats 0
set_option maxRecDepth 100000
attribute [local irreducible] AW AList ACall DA AExit.then AExit.inBlock YCall DCall
def trimN (a : List Int) : Nat → Nat
  | 0 => 0
  | n + 1 => if a[n]?.getD 0 = 0 then trimN a n else n + 1
def trimL (a : List Int) : List Int := a.take (trimN a a.length)
theorem trimN_le (a : List Int) : ∀ n, trimN a n ≤ n
  | 0 => Nat.le_refl _
  | n + 1 => by simp only [trimN]; split; exact Nat.le_succ_of_le (trimN_le a n); exact Nat.le_refl _
theorem trimL_id {a : List Int} (h : a ≠ [] → a[a.length - 1]?.getD 0 ≠ 0) : trimL a = a := by
  cases hl : a.length with
  | zero => have : a = [] := List.eq_nil_of_length_eq_zero hl; subst this; rfl
  | succ n =>
    have hne : a ≠ [] := by rintro rfl; simp at hl
    have := h hne
    rw [hl] at this
    unfold trimL
    rw [hl, trimN, if_neg (by simpa using this), ← hl, List.take_length]
theorem limbs_take (a : List Int) (n : Nat) : (limbs a).take n = limbs (a.take n) := by simp [limbs, List.map_take]
theorem slice163 (a : List Int) (i : Nat) (hi : i ≤ a.length) (m : St) (K : PV → St → Prop) (h : K (.list .no (limbs (a.take i))) m) : aslice Tryz.prog 163 (.list .no (limbs a)) none (some (vI i)) none m K := by
  simp [aslice, abnd, limbs_take]
  exact ⟨hi, h⟩
theorem nat_trim (a : List Int) (la : a.length < 1152921504606846976) : Gives Tryz.prog 194 [.list .no (limbs a)] (.list .no (limbs (trimL a))) := by
  intro m
  refine ACall.of_aw Tryz.func194 Tryz.ntmps194 rfl rfl (by simp) ?_
  refine tS ?_
  refine AW.loop (ι := Nat) (fun i σ m' => i ≤ a.length ∧ trimN a i = trimN a a.length ∧ σ 3 = vI i ∧ σ 0 = .list .no (limbs a) ∧ m' = m) (fun i => i) a.length ?_ ?_
  · exact ⟨Nat.le_refl _, rfl, by simp [upd_lit], by simp [upd_lit], rfl⟩
  rintro i σ m' ⟨hi, hc, h3, h0, rfl⟩
  cases i with
  | zero =>
    have F := (aand @h3 @h0); refine tFg ?_; (try clear F)
    refine AW.cond (t := false) (by simp [upd_lit]) (fun h => by cases h) (fun _ => ?_)
    have F := (aand @h3 @h0); refine tF ?_; (try clear F)
    have F := @h0; refine tF1 fun K Kp hK hKp => ?_; (try clear F)
    refine slice163 a 0 hi _ _ ?_
    apply hK; clear hK hKp K Kp
    refine tS ?_
    exact Fin.ret rfl (Same.refl _) (by simp [upd_lit]; rfl) (by simp) ⟨by rw [trimL, ← hc]; rfl, rfl⟩
  | succ i =>
    have e1 : (0 : Int) < ((i + 1 : Nat) : Int) := by omega
    have e2 : (((i + 1 : Nat) : Int) - 1) = (i : Int) := by omega
    have e3 : i < a.length := by omega
    have F := (aand @h3 (aand @h0 (aand @e1 (aand @e2 (aand @e3 @limbs_getD))))); refine tFg ?_; (try clear F)
    refine AW.condD (p := a[i] = 0) (by simp [upd_lit]) (fun hz => ?_) (fun hz => ?_)
    · have F := (aand @h3 (aand @h0 @e2)); refine tF ?_; (try clear F)
      refine ⟨i, ⟨by omega, ?_, by simp [upd_lit], by simp [upd_lit, h0], rfl⟩, by omega⟩
      rw [← hc, trimN, if_pos (by simp [List.getElem?_eq_getElem e3, hz])]
    · have F := (aand @h3 @h0); refine tF ?_; (try clear F)
      have F := @h0; refine tF1 fun K Kp hK hKp => ?_; (try clear F)
      refine slice163 a (i + 1) hi _ _ ?_
      apply hK; clear hK hKp K Kp
      refine tS ?_
      exact Fin.ret rfl (Same.refl _) (by simp [upd_lit]; rfl) (by simp) ⟨by rw [trimL, ← hc, trimN, if_neg (by simp [List.getElem?_eq_getElem e3, hz])], rfl⟩
theorem num_must (e : Int) : Gives Tryz.prog 203 [vB true, vE e] (.tup []) := by
  intro m
  refine ACall.of_aw Tryz.func203 Tryz.ntmps203 rfl rfl (by simp) ?_
  refine tS ?_
  refine AW.cond (t := false) (by simp [upd_lit]) (fun h => by cases h) (fun _ => ?_)
  refine tS ?_
  exact Fin.normal (p := .tup []) ⟨[], rfl, rfl⟩ (Same.refl m) rfl trivial ⟨rfl, rfl⟩
end Go.Proofs.YtgfadepkiejncaaGreat
namespace Go.Proofs.YtgfadepkiejncaaGreat
open Go.Ab
set_option maxHeartbeats 0
attribute [local irreducible] AW AList ACall DA AExit.then AExit.inBlock YCall DCall
theorem caught_none (m : St) (a : PV) : DCall Tryz.prog 82 [a] m none (fun m' => m' = m) := by
  refine DCall.of_rec Tryz.func82 Tryz.ntmps82 (tail := #[]) rfl rfl (by simp) (by decide) rfl (.inl rfl) fun σ h0 h5 _ => ?_
  refine AW.block ?_
  refine AW.seq ?_
  refine AW.regionL ?_
  refine AList.opK (by decide) ?_; intro K Kp hK hKp
  refine op_nilNil rfl (by decide +kernel) (by simpa [recV] using h5) rfl ?_
  apply hK; clear hK hKp K Kp
  refine tS ?_
  refine AW.cond (t := true) (by simp [upd_lit]) (fun _ => ?_) (fun h => by cases h)
  have F := @h5; refine tF ?_; (try clear F)
  exact ⟨m, (Same.refl m).lv, rfl⟩
set_option maxRecDepth 100000 in
theorem caught_pan (m : St) (n : Nat) (e : Int) (hn : n < m.nloc) (hc : m.loc n = some [vE 0]) : DCall Tryz.prog 82 [.loc n 0] m (some (.iface 117 (.agg [vE e]))) (fun m' => m' = m.setLoc n [vE e]) := by
  refine DCall.of_rec Tryz.func82 Tryz.ntmps82 (tail := #[]) rfl rfl (by simp) (by decide) rfl (.inl rfl) fun σ h0 h5 _ => ?_
  have ha : σ 0 = .loc n 0 := by rw [h0 0 (by decide) (by simp)]; rfl
  refine AW.block ?_
  refine AW.seq ?_
  refine AW.regionL ?_
  refine AList.opK (by decide) ?_; intro K Kp hK hKp
  refine op_ifaceNil rfl (by decide +kernel) (by simpa [recV] using h5) rfl ?_
  apply hK; clear hK hKp K Kp
  refine tS ?_
  refine AW.cond (t := false) (by simp [upd_lit]) (fun h => by cases h) (fun _ => ?_)
  refine AW.seq ?_
  refine AW.regionL ?_
  refine AList.opK (by decide) ?_; intro K Kp hK hKp
  have h5' : opv (upd σ 7 (.v (.bool false))) (.tmp 5) = .iface 117 (.agg [vE e]) := by simpa [recV, upd_lit] using h5
  have hoa : ∀ pos, K (.tup [.agg [vE e], vB true]) m → OpOK Tryz.prog ⟨some 8, .typeAssert (.tmp 5) 20 117 true, 0, pos, #[], none⟩ (opv (upd σ 7 (.v (.bool false)))) m K Kp := fun pos h => @op_assert Tryz.prog m K Kp ⟨some 8, .typeAssert (.tmp 5) 20 117 true, 0, pos, #[], none⟩ (.tmp 5) 20 117 (.agg [vE e]) _ rfl (by simp) h5' h
  refine hoa _ ?_
  apply hK; clear hK hKp K Kp hoa
  refine tS ?_
  refine AW.cond (t := true) (by simp [upd_lit]) (fun _ => ?_) (fun h => by cases h)
  have n1 : n ≠ m.nloc := by omega
  have n2 : n < m.nloc + 1 := by omega
  have F := (aand @ha (aand @n1 (aand @n2 @hc))); refine tF ?_; (try clear F)
  refine ⟨m.setLoc n [vE e], ⟨Nat.le_refl _, Nat.le_refl _, by simp, Nat.le_refl _, fun k cs hk hq => ?_, fun _ _ => ⟨rfl, rfl⟩, fun k L hk hq => ?_, fun k x hk hq => ?_, fun k cs hk hd hq => ⟨hq, .inl ⟨hk, hq⟩⟩⟩, rfl⟩
  · have hk' : k < m.nloc := hk
    have k1 : k ≠ m.nloc := by omega
    by_cases hkn : k = n
    · subst hkn
      simp at hq ⊢
      subst hq
      exact ⟨rfl, .inr ⟨trivial, trivial⟩⟩
    · simp [hkn] at hq
      simp [hkn, k1, hq, hk']
  · have hk' : k < m.nloc := hk
    have k1 : k ≠ m.nloc := by omega
    simp [k1] at hq ⊢
    exact ⟨hk', hq⟩
  · have hk' : k < m.nloc := hk
    have k1 : k ≠ m.nloc := by omega
    simp [k1] at hq ⊢
    exact hq
theorem check_of {v : GV} {r : RR} {m' : EM} {callM : CallM} (hM : CallMOK Tryz.prog callM) {e : Int} (hr : r = .ret (.tup []) ∧ e = 0 ∨ r = .pan (.iface 117 (.agg [vE e]))) (hm' : m'.cells 1 = some [vE 0] ∧ 1 < m'.nloc)
    (h : callM 83 [.loc 2 0, v.pv, vI 1] (((EM.empty.new (.cells v.cells)).new (.cells [vE 0])).new (.cells [vI 3000, vI 20, vI 0])) = .ok (r, m')) : ∀ m, ACall Tryz.prog 19 [v.pv] m (fun r' s' => r' = .ret (vE e) ∧ s' = m) := by
  refine ACall.closed (r0 := .ret (vE e)) ?_ ⟨cells_sc 0 0 v, trivial⟩ trivial
  refine ACall.of_defer Tryz.func19 Tryz.ntmps19 (pre := []) rfl rfl rfl (by simp) ?_
  refine tS ?_
  refine ⟨82, [], [], rfl, ?_⟩
  have hcall := hM _ _ _ _ _ h
  rw [st_new_cells, st_new_cells, st_new_cells, st_empty] at hcall
  have z0 : St.empty.nloc = 0 := rfl
  have F := @z0; refine tF ?_; (try clear F)
  refine AList.op (by decide) ?_; intro K Kp hK hKp; simp [upd_lit]
  refine hcall.mono ?_
  obtain ⟨hc1, hc2⟩ := hm'
  replace hc1 : m'.st.loc 1 = some [vE 0] := hc1
  replace hc2 : 1 < m'.st.nloc := hc2
  rintro r' s' ⟨rfl, rfl⟩
  rcases hr with ⟨rfl, rfl⟩ | rfl
  · simp only [RR.toA]
    apply hK; clear hK hKp K Kp
    have F := (aand @z0 (aand @hc1 @hc2)); refine tF ?_; (try clear F)
    refine (caught_none _ _).mono ?_
    rintro s' rfl
    refine ⟨vE 0, _, ?_, .inl rfl, rfl⟩
    simp [ResP, resV, upd_lit, z0, hc2, show Tryz.f19.results.toList = [.cell 2 30] from rfl]
  · simp only [RR.toA]
    apply hKp; clear hK hKp K Kp
    refine AExit.panT ?_
    refine (caught_pan _ 1 e hc2 hc1).mono ?_
    rintro s' rfl
    refine ⟨vE e, _, ?_, .inl rfl, rfl⟩
    simp [ResP, resV, upd_lit, z0, hc2, show Tryz.f19.results.toList = [.cell 2 30] from rfl]
end Go.Proofs.YtgfadepkiejncaaGreat
namespace Go.Proofs.YtgfadepkiejncaaGreat
open Go.Ab
set_option maxHeartbeats 0
mutual
def GV.ofC : List PV → Option GV
  | [.v (.int .i64 k), .v (.int .i64 n), .v (.bool b), .list .no a, .v (.string s), .list .no r] => match limbsOf a, GV.ofR r with | some a, some l => some (.mk k n b a s l) | _, _ => none
  | _ => none
def GV.ofR : List (List PV) → Option (List GV)
  | [] => some []
  | r :: rs => match GV.ofC r, GV.ofR rs with | some v, some l => some (v :: l) | _, _ => none
def limbsOf : List (List PV) → Option (List Int)
  | [] => some []
  | [.v (.int .u32 x)] :: l => match limbsOf l with | some l => some (x :: l) | none => none
  | _ => none
end
theorem limbsOf_spec : ∀ (l : List (List PV)) (xs : List Int), limbsOf l = some xs → l = limbs xs := by
  intro l
  induction l with
  | nil => intro xs h; simp [limbsOf] at h; subst h; rfl
  | cons r l ih =>
    intro xs h
    unfold limbsOf at h
    split at h
    · rename_i e; cases e
    · rename_i x l' e
      cases e
      split at h
      · rename_i ys hy; cases h
        rw [ih _ hy]; rfl
      · cases h
    · cases h
mutual
theorem ofC_spec : ∀ (cs : List PV) (v : GV), GV.ofC cs = some v → cs = v.cells
  | cs, v, h => by
    unfold GV.ofC at h
    split at h
    · rename_i k n b a s r
      split at h
      · rename_i xs l hx hl; cases h
        rw [limbsOf_spec _ _ hx, ofR_spec _ _ hl]
        rfl
      · cases h
    · cases h
termination_by cs => SizeOf.sizeOf cs
theorem ofR_spec : ∀ (rs : List (List PV)) (l : List GV), GV.ofR rs = some l → rs = GV.rows l
  | [], l, h => by simp [GV.ofR] at h; subst h; rfl
  | r :: rs, l, h => by
    unfold GV.ofR at h
    split at h
    · rename_i v l' hv hl; cases h
      rw [ofC_spec _ _ hv, ofR_spec _ _ hl]; rfl
    · cases h
termination_by rs => SizeOf.sizeOf rs
end
def spc1 : CallM → FuncId → List PV → Option (ER PV) := fun callM f args =>
  match f, args with
  | 30, [.agg cs] => match GV.ofC cs with | some v => if nodes v < 1152921504606846976 then some (.ok (vI (nodes v))) else none | none => none
  | 94, [.list .no r] => match limbsOf r with | some l => if l.length ≤ 1099511627776 then some (.ok (.list .no (limbs l))) else none | none => none
  | 19, [.agg cs] => match GV.ofC cs with
    | some v => match callM 83 [.loc 2 0, v.pv, vI 1] (((EM.empty.new (.cells v.cells)).new (.cells [vE 0])).new (.cells [vI 3000, vI 20, vI 0])) with
      | .ok (r, m') => match m'.cells 1 with
        | some [.v (.int .i64 0)] => if 1 < m'.nloc then (match r with
          | .pan (.iface 117 (.agg [.v (.int .i64 e)])) => some (.ok (vE e))
          | .ret (.tup []) => some (.ok (vE 0))
          | _ => some (.error "check")) else some (.error "check nloc")
        | _ => some (.error "check cell")
      | .error s => some (.error s)
    | none => none
  | _, _ => none
def cfg1 : ECfg := ⟨spc1, [141], [(96, 6)]⟩
theorem spc1_ok : SpcOK Tryz.prog cfg1 := by
  intro callM hM f args p h s
  replace h : spc1 callM f args = some (.ok p) := h
  unfold spc1 at h
  split at h
  · rename_i cs
    split at h
    · rename_i v hv
      split at h
      · rename_i hq; cases h
        have := ofC_spec _ _ hv
        subst this
        exact val_nodes v hq s
      · cases h
    · cases h
  · rename_i r
    split at h
    · rename_i l hl
      split at h
      · rename_i hq; cases h
        have := limbsOf_spec _ _ hl
        subst this
        exact clone22 l hq s
      · cases h
    · cases h
  · rename_i cs
    split at h
    · rename_i v hv
      have := ofC_spec _ _ hv
      subst this
      split at h
      · rename_i r m' hc
        split at h
        · rename_i hcell
          split at h
          · rename_i hn
            split at h
            · rename_i e; cases h
              exact check_of hM (.inr rfl) ⟨hcell, hn⟩ hc s
            · cases h
              exact check_of hM (.inl ⟨rfl, rfl⟩) ⟨hcell, hn⟩ hc s
            · cases h
          · cases h
        · cases h
      · cases h
    · cases h
  · cases h
end Go.Proofs.YtgfadepkiejncaaGreat
namespace Go.Proofs.YtgfadepkiejncaaGreat
open Go.Ab
set_option maxHeartbeats 0
set_option maxRecDepth 100000
attribute [local irreducible] AW AList ACall DA AExit.then AExit.inBlock YCall DCall
theorem num_of10 : Gives Tryz.prog 173 [vI 10] (intv false [10]) := fun m => ecall_sound spc1_ok (n := 100) (r := .ret (intv false [10])) (by kernel_rfl) m
abbrev introws (l : List (Bool × List Int)) : List (List PV) := l.map fun x => [vB x.1, .list .no (limbs x.2)]
theorem introws_getD (l : List (Bool × List Int)) (i : Nat) (h : i < l.length) : rowI (introws l) i = [vB (l[i]).1, .list .no (limbs (l[i]).2)] := by simp [rowI, introws, List.getD, h]
@[simp] theorem introws_w (l : List (Bool × List Int)) : RowsW 2 (introws l) := by
  intro r hr
  obtain ⟨x, _, rfl⟩ := List.mem_map.1 hr
  rfl
theorem num_formed (l : List (Bool × List Int)) (hl : l.length < 1152921504606846976) (h : ∀ x ∈ l, intOK x.1 x.2) : Gives Tryz.prog 191 [.list .no (introws l)] (.tup []) := by
  intro m
  refine ACall.of_aw Tryz.func191 Tryz.ntmps191 rfl rfl (by simp) ?_
  refine tS ?_
  refine AW.loop (ι := Nat) (fun i σ m' => i ≤ l.length ∧ σ 6 = vI i ∧ σ 5 = vI l.length ∧ σ 4 = .list .no (introws l) ∧ Same m m') (fun i => l.length - i) 0 ?_ ?_
  · exact ⟨by simp, by simp [upd_lit], by simp [upd_lit], by simp [upd_lit], Same.refl m⟩
  rintro i σ m' ⟨hi, h6, h5, h4, sm⟩
  have F := (aand @h6 (aand @h5 @h4)); refine tF ?_; (try clear F)
  refine AW.condD (p := i < l.length) (by simp [upd_lit]) (fun hlt => ?_) (fun hge => ?_)
  · have hx := h l[i] (List.getElem_mem hlt)
    have F := (aand @h6 (aand @h5 (aand @h4 (aand @hlt @introws_getD)))); refine tF ?_; (try clear F)
    refine tS1 fun K Kp hK hKp => ?_; refine Gives.at (num_check (l[i]).1 (l[i]).2 hx) ?_; apply hK; clear hK hKp K Kp
    refine tS ?_
    refine tS1 fun K Kp hK hKp => ?_; refine Gives.at (num_must 1) ?_; apply hK; clear hK hKp K Kp
    have F := @h6; refine tF ?_; (try clear F)
    exact ⟨i + 1, ⟨by omega, by simp [upd_lit], by simp [upd_lit, h5], by simp [upd_lit, h4], (sm.newLoc _).setLoc sm.lloc _⟩, by omega⟩
  · refine tS ?_
    exact Fin.normal (p := .tup []) ⟨[], rfl, rfl⟩ sm rfl trivial ⟨rfl, rfl⟩
theorem num_whole (n : Bool) (a : List Int) (la : a.length ≤ 16777216) (lt : (trimL a).length ≤ 300) : Gives Tryz.prog 192 [vB n, .list .no (limbs a)] (intv (n && decide (0 < (trimL a).length)) (trimL a)) := by
  intro m
  refine ACall.of_aw Tryz.func192 Tryz.ntmps192 rfl rfl (by simp) ?_
  refine tS ?_
  refine tS1 fun K Kp hK hKp => ?_; refine Gives.at (nat_trim a (by omega)) ?_; apply hK; clear hK hKp K Kp
  have e1 : ((trimL a).length : Int) ≤ 300 := by omega
  have F := @e1; refine tF ?_; (try clear F)
  have F := @e1; refine tF1 fun K Kp hK hKp => ?_; (try clear F); refine Gives.at (num_must 3) ?_; apply hK; clear hK hKp K Kp
  refine tSp ?_
  refine AList.opK (by decide) ?_; intro K Kp hK hKp
  refine op_appendS rfl (by simp) (by simp) ?_
  simp only [opv, upd_lit, cv]
  refine app22 (l := []) (m0 := m) (.full ((Same.refl m).newLoc _)) rfl (by simp; omega) fun o' m'' ho' hs => hK _ _ ?_; clear hK hKp K Kp
  have hn : m.nloc < m''.nloc := by rw [hs.nloc]; simp
  have hl : m''.loc m.nloc = some [.v (.bool false), .list .full []] := by rw [hs.loc]; simp
  have F := (aand @hn @hl); refine tF ?_; (try clear F)
  exact Fin.retC (p := .agg [vB (n && decide (0 < (trimL a).length)), .list .no (limbs (trimL a))]) (q := intv (n && decide (0 < (trimL a).length)) (trimL a)) rfl (by simp [upd_lit, hn]) (ho'.1.setLoc (Nat.le_refl _) _) (by simp [PV.strip]) (by simp [PV.sc, PV.scL]) ⟨rfl, rfl⟩
end Go.Proofs.YtgfadepkiejncaaGreat
namespace Go.Proofs.YtgfadepkiejncaaGreat
open Go.Ab
set_option maxHeartbeats 0
set_option maxRecDepth 100000
attribute [local irreducible] AW AList ACall DA AExit.then AExit.inBlock YCall DCall
theorem nat_limbs (a : List Int) : Gives Tryz.prog 211 [.list .no (limbs a)] (.clo 213 [] [.ro [.list .no (limbs a)]]) := by
  intro m
  refine ACall.of_aw Tryz.func211 Tryz.ntmps211 rfl rfl (by simp) ?_
  refine tSn ?_
  refine AW.frz (n := m.nloc) (d := 2) (cs := [.list .no (limbs a)]) (by simp) (by simp) ?_
  refine tS ?_
  exact Fin.ret rfl ((Same.newLoc (Same.refl m) _).dropLoc (Nat.le_refl _)) (by simp [upd_lit]) (by simp) ⟨rfl, rfl⟩
def limbYs (a : List Int) : List (List PV) := (List.range a.length).map fun (i : Nat) => [vI (i : Int), vW (a[i]?.getD 0)]
theorem limbs_iter {n b : Nat} {m0 : St} (a : List Int) (la : a.length < 1152921504606846976) {I : Nat → St → Prop} (y : Yields Tryz.prog n b m0 (limbYs a) I) (m : St) (hI : I 0 m) (hb : b ≤ m.nloc) :
    ACall Tryz.prog 213 [.yld n, .ro [.list .no (limbs a)]] m (fun r m' => r = .ret (.tup []) ∧ I a.length m' ∧ Only b m m' ∧ m'.nloc = m.nloc) := by
  refine ACall.of_aw Tryz.func213 Tryz.ntmps213 rfl rfl (by simp) ?_
  refine tS ?_
  refine AW.loop (ι := Nat) (fun i σ m' => i ≤ a.length ∧ I i m' ∧ Only b m m' ∧ m'.nloc = m.nloc ∧ σ 7 = vI i ∧ σ 6 = vI a.length ∧ σ 5 = .list .no (limbs a) ∧ σ 0 = .yld n) (fun i => a.length - i) 0 ?_ ?_
  · exact ⟨by simp, hI, Only.refl b m, rfl, by simp [upd_lit], by simp [upd_lit], by simp [upd_lit], by simp [upd_lit]⟩
  rintro i σ m' ⟨hi, hIi, oi, ni, h7, h6, h5, h0⟩
  have F := (aand @h7 (aand @h6 (aand @h5 @h0))); refine tF ?_; (try clear F)
  refine AW.condD (p := i < a.length) (by simp [upd_lit]) (fun hlt => ?_) (fun hge => ?_)
  · have F := (aand @h7 (aand @h6 (aand @h5 (aand @h0 (aand @hlt @limbs_getD))))); refine tF ?_; (try clear F)
    refine AList.op (by decide) ?_; intro K Kp hK hKp; simp [upd_lit, h0]
    have hc := y.call i (by simpa [limbYs] using hlt) m' (by omega) hIi
    simp only [limbYs, List.getElem_map, List.getElem_range, List.getElem?_eq_getElem hlt, Option.getD_some] at hc
    refine hc.mono ?_
    rintro _ m1 ⟨rfl, hI2, o2, n2⟩
    apply hK; clear hK hKp K Kp
    refine tS ?_
    refine AW.cond (t := false) (by simp [upd_lit]) (fun h => by cases h) (fun _ => ?_)
    have F := @h7; refine tF ?_; (try clear F)
    exact ⟨i + 1, ⟨by omega, hI2, oi.trans o2, by omega, by simp [upd_lit], by simp [upd_lit, h6], by simp [upd_lit, h5], by simp [upd_lit, h0]⟩, by omega⟩
  · refine tS ?_
    have e : i = a.length := by omega
    subst e
    obtain ⟨m'', l1, l2, l3, l4⟩ := y.leaves hb hI hIi oi
    exact ⟨.tup [], m'', ⟨[], rfl, rfl⟩, .inr ⟨l1.lv, by simp⟩, by simp, l2, l3, l4⟩
end Go.Proofs.YtgfadepkiejncaaGreat
namespace Go.Proofs.YtgfadepkiejncaaGreat
open Go.Ab
set_option maxHeartbeats 0
set_option maxRecDepth 100000
attribute [local irreducible] AW AList ACall DA AExit.then AExit.inBlock YCall DCall
def longD (a : List Int) : Nat → List Int
  | 0 => List.replicate (a.length + 1) 0
  | j + 1 => ((longD a j).set j ((a[j]?.getD 0 * 10 + (longD a j)[j]?.getD 0) % 4294967296)).set (j + 1) ((a[j]?.getD 0 * 10 + (longD a j)[j]?.getD 0) / 4294967296)
theorem longD_len (a : List Int) : ∀ j, (longD a j).length = a.length + 1
  | 0 => by simp [longD]
  | j + 1 => by simp [longD, longD_len a j]
theorem getD_ok {l : List Int} (h : limbOK l) (i : Nat) : 0 ≤ l[i]?.getD 0 ∧ l[i]?.getD 0 < 4294967296 := by
  cases hi : l[i]? with
  | none => simp
  | some x => exact h x (List.mem_of_getElem? hi)
theorem longD_ok {a : List Int} (h : limbOK a) : ∀ j, limbOK (longD a j)
  | 0 => fun x hx => by rw [longD, List.mem_replicate] at hx; omega
  | j + 1 => fun x hx => by
    have h1 := getD_ok h j
    have h2 := getD_ok (longD_ok h j) j
    rcases List.mem_or_eq_of_mem_set hx with hx | rfl
    · rcases List.mem_or_eq_of_mem_set hx with hx | rfl
      · exact longD_ok h j x hx
      · omega
    · omega
def wcells (l : List Int) : List PV := l.map fun x => vW x
@[simp] theorem wcells_len (l : List Int) : (wcells l).length = l.length := by simp [wcells]
theorem wcells_get (l : List Int) (i : Nat) (h : i < l.length) : (wcells l)[i]? = some (vW (l[i]?.getD 0)) := by simp [wcells, h]
theorem wcells_sc (b c : Nat) (l : List Int) : PV.scL b c (wcells l) := by
  induction l with
  | nil => trivial
  | cons x l ih => exact ⟨trivial, ih⟩
theorem wcells_set (l : List Int) (i : Nat) (x : Int) : (wcells l).set i (vW x) = wcells (l.set i x) := by simp [wcells]
theorem chunk_wcells : ∀ l : List Int, chunk 1 l.length (wcells l) = limbs l
  | [] => rfl
  | x :: l => by
    have := chunk_wcells l
    simp only [wcells, limbs, List.map_cons, List.length_cons, chunk, List.take_succ_cons, List.take_zero, List.drop_succ_cons, List.drop_zero] at this ⊢
    rw [this]
theorem make163 (n : Nat) (hn : n ≤ 16777216) (m : St) (K : PV → St → Prop) (h : K (.marr m.nloc 0 n n) (m.newLoc (wcells (List.replicate n 0)))) : amakeSlice Tryz.prog 163 (vI n) (vI n) m K := by
  have e : zrow (zcells (.int .u32 0)) n = wcells (List.replicate n 0) := by
    simp only [zrow, zcells, ofV, wcells]
    rw [List.map_replicate]
    refine List.ext_getElem (by simp) fun i h1 h2 => ?_
    simp [Value.cells, ofV, Nat.mod_one]
  simp [amakeSlice]
  refine ⟨by omega, by omega, ?_⟩
  have e' : zrow [PV.v (Value.int IntKind.u32 0)] n = wcells (List.replicate n 0) := e
  rw [e']; exact h
theorem num_long (a : List Int) (la : a.length < 16777216) (ha : limbOK a) : Gives Tryz.prog 205 [.list .no (limbs a), .list .no (limbs [10])] (.list .no (limbs (trimL (longD a a.length)))) := by
  intro m
  refine ACall.of_aw Tryz.func205 Tryz.ntmps205 rfl rfl (by simp) ?_
  refine tS ?_
  refine tS1 fun K Kp hK hKp => ?_
  refine make163 (a.length + 1) (by omega) _ _ ?_
  apply hK; clear hK hKp K Kp
  refine tS ?_
  refine tS1 fun K Kp hK hKp => ?_; refine Gives.at (nat_limbs a) ?_; apply hK; clear hK hKp K Kp
  refine tS ?_
  refine AW.rangeFunc (f := 213) (first := []) (caps := [.ro [.list .no (limbs a)]]) (by simp [upd_lit]) (fun fn => ?_)
  generalize hL : LoopA.mk _ _ _ _ _ _ _ _ = L
  generalize hmm : (((m.newLoc [PV.list Own.no (limbs [10])]).newLoc (wcells (List.replicate (a.length + 1) 0))).newLoc [PV.list Own.full []]).setLoc (m.nloc + 2) [PV.marr (m.nloc + 1) 0 (a.length + 1) (a.length + 1)] = mm
  have n1 : mm.nloc = m.nloc + 3 := by rw [← hmm]; rfl
  have sm : Same m mm := by rw [← hmm]; exact (((((Same.refl m).newLoc _).newLoc _).newLoc _).setLoc (by omega) _)
  have g0 : mm.loc m.nloc = some [.list .no (limbs [10])] := by rw [← hmm]; simp; omega
  have g1 : mm.loc (m.nloc + 1) = some (wcells (longD a 0)) := by rw [← hmm]; simp [longD]
  have g2 : mm.loc (m.nloc + 2) = some [.marr (m.nloc + 1) 0 (a.length + 1) (a.length + 1)] := by rw [← hmm]; simp
  clear hmm
  refine ACall.mono (limbs_iter a (by omega) (Yields.ofSt (L := L) (P := Tryz.prog) (mm := mm) (S := fun j => (mm.newLp L).setLoc (m.nloc + 1) (wcells (longD a j))) rfl (by rw [← hL]) (by rw [← hL]) ?_ ?_ ?_ ?_ ?_ ?_) _ ?_ (by simp)) ?_
  · intro x hx
    obtain ⟨y, _, rfl⟩ := List.mem_map.1 hx
    rw [← hL]; rfl
  · rw [← hL]; intro t ht; simp at ht; rcases ht with rfl | rfl
    · exact (by decide : (19 : Nat) < 59)
    · exact (by decide : (20 : Nat) < 59)
  · intro j; exact upd_same _ _ _
  · intro i hi
    by_cases e : i = m.nloc + 1
    · refine .inr fun j cs hc => ?_
      subst e
      rw [setLoc_loc, if_pos rfl] at hc
      cases hc
      exact wcells_sc _ _ _
    · exact .inl fun j => by rw [setLoc_loc, if_neg e]
  · intro k
    by_cases hk : k < mm.ntok
    · exact .inl ⟨hk, fun j => ⟨rfl, Nat.le_refl _⟩⟩
    · exact .inr fun j cs hk' _ => absurd hk' hk
  · intro j hj m' hI
    have hj' : j < a.length := by simpa [limbYs] using hj
    have hb' : m.nloc + 4 ≤ m'.nloc := by have := hI.lo'; omega
    have eA := congrArg LoopA.assign hL
    have eB := congrArg LoopA.body hL
    have eσ := congrArg LoopA.σ hL
    have eN := congrArg LoopA.N hL
    have eP := congrArg LoopA.params hL
    simp only at eA eB eσ eN eP
    rw [← eA, ← eB, ← eσ, ← eN, ← eP]
    clear eA eB eσ eN eP
    simp only [limbYs, List.getElem_map, List.getElem_range, parm]
    refine tS ?_
    refine ⟨by simp; omega, ?_, ?_⟩
    · show upd (upd m'.lp m'.nloc none) (m'.nloc + 1) none mm.nloc = _
      rw [upd_ne _ _ _ _ (by omega), upd_ne _ _ _ _ (by omega), hI.lp _ (by omega)]
      exact upd_same _ _ _
    generalize hby : LoopA.mk LoopState.busy _ _ _ _ _ _ _ = lby
    have i0 : m'.loc m.nloc = some [.list .no (limbs [10])] := by rw [hI.loc _ (by omega)]; simp [g0, n1]
    have i1 : m'.loc (m.nloc + 1) = some (wcells (longD a j)) := by rw [hI.loc _ (by omega)]; simp
    have i2 : m'.loc (m.nloc + 2) = some [.marr (m.nloc + 1) 0 (a.length + 1) (a.length + 1)] := by rw [hI.loc _ (by omega)]; simp [g2, n1]
    obtain ⟨x, ex⟩ : ∃ x, x = a[j]?.getD 0 := ⟨_, rfl⟩
    rw [← ex]
    refine AW.block ?_
    have k0 : m.nloc ≠ m'.nloc := by omega
    have k1 : m.nloc ≠ m'.nloc + 1 := by omega
    have k2 : m.nloc ≠ m'.nloc + 2 := by omega
    have k3 : m.nloc < m'.nloc + 3 := by omega
    have F := (aand @k0 (aand @k1 (aand @k2 (aand @k3 @i0)))); refine tF ?_; (try clear F)
    refine tS1 fun K Kp hK hKp => ?_; refine Gives.at (nat_limbs [10]) ?_; apply hK; clear hK hKp K Kp
    refine tS ?_
    generalize hmB : ((((((m'.newLoc [PV.v (Value.int IntKind.i64 0)]).setLoc m'.nloc [PV.v (Value.int IntKind.i64 ↑j)]).newLoc [PV.v (Value.int IntKind.u32 0)]).setLoc (m'.nloc + 1) [PV.v (Value.int IntKind.u32 x)]).setLp mm.nloc lby).newLoc [PV.v (Value.int IntKind.u64 0)]).setLoc (m'.nloc + 2) [PV.v (Value.int IntKind.u64 0)] = mB
    have p1 : mB.nloc = m'.nloc + 3 := by rw [← hmB]; rfl
    have p2 : ∀ i, i < m'.nloc → mB.loc i = m'.loc i := fun i hi => by
      rw [← hmB]; simp [show i ≠ m'.nloc from by omega, show i ≠ m'.nloc + 1 from by omega, show i ≠ m'.nloc + 2 from by omega]
    have p3 : mB.loc m'.nloc = some [vI j] := by rw [← hmB]; simp; omega
    have p4 : mB.loc (m'.nloc + 1) = some [vW x] := by rw [← hmB]; simp
    have p5 : mB.loc (m'.nloc + 2) = some [.v (.int .u64 0)] := by rw [← hmB]; simp
    have p6 : ∀ i, i < m'.nloc → mB.lp i = upd m'.lp mm.nloc (some lby) i := fun i hi => by
      rw [← hmB]
      show upd (upd (upd (upd m'.lp m'.nloc none) (m'.nloc + 1) none) mm.nloc (some lby)) (m'.nloc + 2) none i = _
      rw [upd_ne _ _ _ _ (by omega)]
      by_cases e : i = mm.nloc
      · rw [e, upd_same, upd_same]
      · rw [upd_ne _ _ _ _ e, upd_ne _ _ _ _ e, upd_ne _ _ _ _ (by omega), upd_ne _ _ _ _ (by omega)]
    have p7 : ∀ i, i < m'.nloc → mB.it i = m'.it i := fun i hi => by
      rw [← hmB]
      show upd (upd (upd m'.it m'.nloc none) (m'.nloc + 1) none) (m'.nloc + 2) none i = _
      rw [upd_ne _ _ _ _ (by omega), upd_ne _ _ _ _ (by omega), upd_ne _ _ _ _ (by omega)]
    have p8 : mB.ntok = m'.ntok ∧ mB.top = m'.top ∧ mB.wd = m'.wd ∧ mB.arr = m'.arr := by rw [← hmB]; exact ⟨rfl, rfl, rfl, rfl⟩
    clear hmB
    obtain ⟨t, et⟩ : ∃ t, t = x * 10 + (longD a j)[j]?.getD 0 := ⟨_, rfl⟩
    have hx := getD_ok ha j
    have hd := getD_ok (longD_ok ha j) j
    rw [← ex] at hx
    refine AW.rangeFunc (f := 213) (first := []) (caps := [.ro [.list .no (limbs [10])]]) (by simp [upd_lit]) (fun fn2 => ?_)
    generalize hL2 : LoopA.mk _ _ _ _ _ _ _ _ = L2
    refine ACall.mono (limbs_iter [10] (by simp) (Yields.ofSt (L := L2) (P := Tryz.prog) (mm := mB) (S := fun k => if k = 0 then mB.newLp L2 else ((mB.newLp L2).setLoc (m'.nloc + 2) [.v (.int .u64 (t / 4294967296))]).setLoc (m.nloc + 1) (wcells ((longD a j).set j (t % 4294967296)))) rfl (by rw [← hL2]) (by rw [← hL2]) ?_ ?_ ?_ ?_ ?_ ?_) _ ?_ (by simp)) ?_
    · intro x hx
      obtain ⟨y, _, rfl⟩ := List.mem_map.1 hx
      rw [← hL2]; rfl
    · rw [← hL2]; intro t ht; simp at ht; rcases ht with rfl | rfl
      · exact (by decide : (23 : Nat) < 59)
      · exact (by decide : (24 : Nat) < 59)
    · intro k; cases k <;> exact upd_same _ _ _
    · intro i hi
      by_cases e : i = m.nloc + 1
      · subst e
        refine .inr fun k cs hc => ?_
        cases k with
        | zero => rw [if_pos rfl] at hc; have : mB.loc (m.nloc + 1) = some cs := by simpa [p1, show m.nloc + 1 ≠ m'.nloc + 3 from by omega, show ¬ m.nloc = m'.nloc + 2 from by omega] using hc
                  rw [p2 _ (by omega), i1] at this; cases this; exact wcells_sc _ _ _
        | succ k => rw [if_neg (by omega), setLoc_loc, if_pos rfl] at hc; cases hc; exact wcells_sc _ _ _
      by_cases e2 : i = m'.nloc + 2
      · subst e2
        refine .inr fun k cs hc => ?_
        cases k with
        | zero => rw [if_pos rfl] at hc; have : mB.loc (m'.nloc + 2) = some cs := by simpa [p1] using hc
                  rw [p5] at this; cases this; exact ⟨trivial, trivial⟩
        | succ k => rw [if_neg (by omega), setLoc_loc, if_neg (by omega), setLoc_loc, if_pos rfl] at hc; cases hc; exact ⟨trivial, trivial⟩
      · refine .inl fun k => ?_
        cases k with
        | zero => rfl
        | succ k => rw [if_neg (by omega), setLoc_loc, if_neg e, setLoc_loc, if_neg e2]
    · intro k
      by_cases hk : k < mB.ntok
      · exact .inl ⟨hk, fun k => by cases k <;> exact ⟨rfl, Nat.le_refl _⟩⟩
      · exact .inr fun k2 cs hk' _ => by cases k2 <;> exact absurd hk' hk
    · intro k hk m2 hI2
      have hk0 : k = 0 := by simp [limbYs] at hk; exact hk
      subst hk0
      have hb2 : m'.nloc + 4 ≤ m2.nloc := by have := hI2.lo'; omega
      have q0 : ∀ i, i < m'.nloc + 3 → m2.loc i = mB.loc i := fun i hi => by
        rw [hI2.loc i (by omega)]; simp [p1, show i ≠ m'.nloc + 3 from by omega]
      have r0 : m2.loc m'.nloc = some [vI j] := (q0 _ (by omega)).trans p3
      have r1 : m2.loc (m'.nloc + 1) = some [vW x] := (q0 _ (by omega)).trans p4
      have r2 : m2.loc (m'.nloc + 2) = some [.v (.int .u64 0)] := (q0 _ (by omega)).trans p5
      have r3 : m2.loc (m.nloc + 1) = some (wcells (longD a j)) := ((q0 _ (by omega)).trans (p2 _ (by omega))).trans i1
      have r4 : m2.loc (m.nloc + 2) = some [.marr (m.nloc + 1) 0 (a.length + 1) (a.length + 1)] := ((q0 _ (by omega)).trans (p2 _ (by omega))).trans i2
      have eA := congrArg LoopA.assign hL2
      have eB := congrArg LoopA.body hL2
      have eσ := congrArg LoopA.σ hL2
      have eN := congrArg LoopA.N hL2
      have eP := congrArg LoopA.params hL2
      simp only at eA eB eσ eN eP
      rw [← eA, ← eB, ← eσ, ← eN, ← eP]
      clear eA eB eσ eN eP
      simp only [limbYs, List.getElem_map, List.getElem_range, parm]
      refine tS ?_
      refine ⟨by omega, by rw [hI2.lp _ (by omega)]; exact upd_same _ _ _, ?_⟩
      generalize hby2 : LoopA.mk LoopState.busy _ _ _ _ _ _ _ = lby2
      refine tS ?_
      obtain ⟨d, ed⟩ : ∃ d, d = (longD a j)[j]?.getD 0 := ⟨_, rfl⟩
      rw [← ed] at hd et
      have hdl := longD_len a j
      have w1 : (wcells (longD a j))[j]? = some (vW d) := by rw [wcells_get _ _ (by omega), ed]
      have w2 : ∀ h : j < (wcells (longD a j)).length, (wcells (longD a j))[j] = vW d := fun h => by rw [List.getElem?_eq_getElem h] at w1; exact Option.some.inj w1
      have u1 : IntKind.u64.wrap (x * 10) = x * 10 := wrap_u64 _ (by omega) (by omega)
      have u2 : IntKind.u64.wrap (x * 10 + d) = t := by rw [et]; exact wrap_u64 _ (by omega) (by omega)
      have u3 : IntKind.u64.wrap x = x := wrap_u64 _ (by omega) (by omega)
      have u4 : IntKind.u64.wrap d = d := wrap_u64 _ (by omega) (by omega)
      have u5 : IntKind.u64.wrap t = t := wrap_u64 _ (by omega) (by omega)
      have u6 : IntKind.u64.wrap 10 = 10 := by decide
      have l0 : m'.nloc < m2.nloc := by omega
      have l1 : m'.nloc + 1 < m2.nloc := by omega
      have l2 : m'.nloc + 2 < m2.nloc := by omega
      have l3 : m.nloc + 1 < m2.nloc := by omega
      have l4 : m.nloc + 2 < m2.nloc := by omega
      have l5 : j < a.length + 1 := by omega
      have l6 : j + 1 ≤ a.length + 1 := by omega
      have l7 : (j : Int) < (a.length : Int) + 1 := by omega
      refine AW.draw [.R, .R, .S, .S, .S, .S, .R, .R, .S, .S, .S, .R, .S, .S, .S, .W] (by decide +kernel) ?_; have F := (aand @r0 (aand @r1 (aand @r2 (aand @r3 (aand @r4 (aand @l0 (aand @l1 (aand @l2 (aand @l3 (aand @l4 (aand @l5 (aand @l6 (aand @l7 (aand @w1 (aand @w2 (aand @u1 (aand @u2 (aand @u3 (aand @u4 (aand @u5 (aand @u6 @hdl))))))))))))))))))))); refine dR 0 ?_; refine dR 1 ?_; refine dS 2 ?_; refine dS 3 ?_; refine dS 4 ?_; refine dS 5 ?_; refine dR 6 ?_; refine dR 7 ?_; refine dS 8 ?_; refine dS 9 ?_; refine dS 10 ?_; refine dR 11 ?_; refine dS 12 ?_; refine dS 13 ?_; refine dS 14 ?_; refine dW 15 ?_; (try clear F); first | refine dN ?_ | refine dB ?_ | refine DA.done (by decide +kernel) ?_
      simp only [put]
      have v1 : m.nloc + 1 ≠ m'.nloc + 2 := by omega
      have v2 : m.nloc + 2 ≠ m'.nloc + 2 := by omega
      have v3 : m.nloc + 2 ≠ m.nloc + 1 := by omega
      have v4 : m'.nloc ≠ m.nloc + 1 := by omega
      have v5 : m'.nloc + 2 ≠ m.nloc + 1 := by omega
      have v6 : m'.nloc ≠ m'.nloc + 2 := by omega
      have v7 : m'.nloc + 1 ≠ m.nloc := by omega
      have v8 : m'.nloc ≠ m.nloc := by omega
      have v9 : m.nloc + 1 ≠ m'.nloc := by omega
      repeat (first | (refine AList.op (by decide) ?_; intro K Kp hK hKp; simp [↓aop, ↓Ab.opv, ↓upd_lit, ↓map_ta, ↓List.map_cons, ↓List.map_nil, Nat.add_assoc, r0, r1, r2, r3, r4, l0, l1, l2, l3, l4, l5, l6, l7, k0, k1, k2, v1, v2, v3, v4, v5, v6, v7, v8, v9, hdl, wrap_u32, setL, wcells_set]; (try (simp (disch := omega) only [wrap_i64]; try simp [↓aop, ↓Ab.opv, ↓upd_lit, ↓map_ta, ↓List.map_cons, ↓List.map_nil, Nat.add_assoc, r0, r1, r2, r3, r4, l0, l1, l2, l3, l4, l5, l6, l7, k0, k1, k2, v1, v2, v3, v4, v5, v6, v7, v8, v9, hdl, wrap_u32, setL, wcells_set])); apply hK; clear hK hKp K Kp) | (refine AList.op0 ?_; intro K Kp hK hKp; simp [↓aop, ↓Ab.opv, ↓upd_lit, ↓map_ta, ↓List.map_cons, ↓List.map_nil, Nat.add_assoc, r0, r1, r2, r3, r4, l0, l1, l2, l3, l4, l5, l6, l7, k0, k1, k2, v1, v2, v3, v4, v5, v6, v7, v8, v9, hdl, wrap_u32, setL, wcells_set]; (try (simp (disch := omega) only [wrap_i64]; try simp [↓aop, ↓Ab.opv, ↓upd_lit, ↓map_ta, ↓List.map_cons, ↓List.map_nil, Nat.add_assoc, r0, r1, r2, r3, r4, l0, l1, l2, l3, l4, l5, l6, l7, k0, k1, k2, v1, v2, v3, v4, v5, v6, v7, v8, v9, hdl, wrap_u32, setL, wcells_set])); apply hK; clear hK hKp K Kp) | refine AList.nil ?_ | refine AW.seq ?_ | refine AW.regionL ?_ | refine AW.block ?_ | refine AW.skip ?_ | refine AW.exit ?_ | refine AW.ret ?_ | refine AW.label ?_ | refine AExit.norT ?_ | refine AExit.norB ?_ | refine AExit.retT ?_ | refine AExit.retB ?_ | refine AExit.exiT ?_ | refine AExit.exiB ?_ | refine AExit.exiN (by decide) ?_)
      rw [if_neg (show ¬ (0 + 1 = 0) by omega)]
      have hlp2 : ∀ i, upd (upd m2.lp mB.nloc (some lby2)) mB.nloc (some L2) i = m2.lp i := fun i => by
        by_cases e : i = mB.nloc
        · rw [e, upd_same, hI2.lp _ (by omega)]; exact (upd_same _ _ _).symm
        · rw [upd_ne _ _ _ _ e, upd_ne _ _ _ _ e]
      refine ⟨rfl, upd_same _ _ _, ⟨Nat.le_refl _, hI2.lo', fun i hi => ?_, fun i hi => (hlp2 i).trans (hI2.lp i hi), fun i hi => hI2.it i hi, hI2.ntok, hI2.top, hI2.wd, hI2.arr⟩, ⟨Nat.le_refl _, fun i h1 h2 => ?_, fun i hi => hlp2 i, fun i hi => rfl, Nat.le_refl _⟩⟩
      · have := hI2.loc i hi
        rw [if_pos rfl] at this
        show (((m2.setLp mB.nloc lby2).setLoc (m'.nloc + 2) _).setLoc (m.nloc + 1) _ |>.setLoc (m'.nloc + 2) _).loc i = _
        simp only [setLoc_loc]
        by_cases e1 : i = m'.nloc + 2
        · rw [if_pos e1, if_neg (by omega), if_pos e1]
        · rw [if_neg e1]
          by_cases e2 : i = m.nloc + 1
          · rw [if_pos e2, if_pos e2]
          · rw [if_neg e2, if_neg e1, if_neg e2, if_neg e1]; exact this
      · show (((m2.setLp mB.nloc lby2).setLoc (m'.nloc + 2) _).setLoc (m.nloc + 1) _ |>.setLoc (m'.nloc + 2) _).loc i = _
        simp only [setLoc_loc]
        rw [if_neg (by omega), if_neg (by omega), if_neg (by omega)]; rfl
    · exact Agr.refl (Nat.le_refl _)
    · rintro _ m2 ⟨rfl, hI2, ho2, hn2⟩
      rw [if_neg (by simp)] at hI2
      have hb2 : m'.nloc + 4 ≤ m2.nloc := by have := hI2.lo'; omega
      refine ⟨_, _, rfl, by omega, by rw [hI2.lp _ (by omega)]; exact upd_same _ _ _, by rw [← hL2]; simp, by rw [← hL2], ?_⟩
      have q0 : ∀ i, i < m'.nloc + 3 → i ≠ m'.nloc + 2 → i ≠ m.nloc + 1 → m2.loc i = mB.loc i := fun i hi h1 h2 => by
        rw [hI2.loc i (by omega)]; simp [p1, show i ≠ m'.nloc + 3 from by omega, h1, h2]
      have r0 : m2.loc m'.nloc = some [vI j] := (q0 _ (by omega) (by omega) (by omega)).trans p3
      have r2 : m2.loc (m'.nloc + 2) = some [.v (.int .u64 (t / 4294967296))] := by rw [hI2.loc _ (by omega)]; simp; omega
      have r3 : m2.loc (m.nloc + 1) = some (wcells ((longD a j).set j (t % 4294967296))) := by rw [hI2.loc _ (by omega)]; simp
      have r4 : m2.loc (m.nloc + 2) = some [.marr (m.nloc + 1) 0 (a.length + 1) (a.length + 1)] := ((q0 _ (by omega) (by omega) (by omega)).trans (p2 _ (by omega))).trans i2
      have r5 : m2.loc m.nloc = some [.list .no (limbs [10])] := ((q0 _ (by omega) (by omega) (by omega)).trans (p2 _ (by omega))).trans i0
      have l0 : m'.nloc < m2.nloc := by omega
      have l2 : m'.nloc + 2 < m2.nloc := by omega
      have l3 : m.nloc + 1 < m2.nloc := by omega
      have l4 : m.nloc + 2 < m2.nloc := by omega
      have l5 : m.nloc < m2.nloc := by omega
      have hj2 : (j : Int) < (a.length : Int) := by omega
      have hdl := longD_len a j
      have hmod : t / 4294967296 % 4294967296 = t / 4294967296 := by omega
      have e1 : ((j : Int) + 1).toNat = j + 1 := by omega
      have e2 : (0 : Int) ≤ (j : Int) + 1 := by omega
      have e3 : j + 1 ≤ a.length := by omega
      have e4 : j + 1 + 1 ≤ a.length + 1 := by omega
      repeat (first | (refine AList.op (by decide) ?_; intro K Kp hK hKp; simp [↓aop, ↓Ab.opv, ↓upd_lit, ↓map_ta, ↓List.map_cons, ↓List.map_nil, Nat.add_assoc, r0, r2, r3, r4, r5, l0, l2, l3, l4, l5, hj', hj2, hdl, hmod, e1, e2, e3, e4, wrap_u32, setL, wcells_set]; (try (simp (disch := omega) only [wrap_i64]; try simp [↓aop, ↓Ab.opv, ↓upd_lit, ↓map_ta, ↓List.map_cons, ↓List.map_nil, Nat.add_assoc, r0, r2, r3, r4, r5, l0, l2, l3, l4, l5, hj', hj2, hdl, hmod, e1, e2, e3, e4, wrap_u32, setL, wcells_set])); apply hK; clear hK hKp K Kp) | (refine AList.op0 ?_; intro K Kp hK hKp; simp [↓aop, ↓Ab.opv, ↓upd_lit, ↓map_ta, ↓List.map_cons, ↓List.map_nil, Nat.add_assoc, r0, r2, r3, r4, r5, l0, l2, l3, l4, l5, hj', hj2, hdl, hmod, e1, e2, e3, e4, wrap_u32, setL, wcells_set]; (try (simp (disch := omega) only [wrap_i64]; try simp [↓aop, ↓Ab.opv, ↓upd_lit, ↓map_ta, ↓List.map_cons, ↓List.map_nil, Nat.add_assoc, r0, r2, r3, r4, r5, l0, l2, l3, l4, l5, hj', hj2, hdl, hmod, e1, e2, e3, e4, wrap_u32, setL, wcells_set])); apply hK; clear hK hKp K Kp) | refine AList.nil ?_ | refine AW.seq ?_ | refine AW.regionL ?_ | refine AW.block ?_ | refine AW.skip ?_ | refine AW.exit ?_ | refine AW.ret ?_ | refine AW.label ?_ | refine AExit.norT ?_ | refine AExit.norB ?_ | refine AExit.retT ?_ | refine AExit.retB ?_ | refine AExit.exiT ?_ | refine AExit.exiB ?_ | refine AExit.exiN (by decide) ?_)
      have hD : ((longD a j).set j (t % 4294967296)).set (j + 1) (t / 4294967296) = longD a (j + 1) := by rw [longD, ← ex, ← et]
      rw [hD]
      have hlp2 : ∀ i, i < m'.nloc → m2.lp i = upd m'.lp mm.nloc (some lby) i := fun i hi => by
        rw [hI2.lp i (by omega), ← p6 i hi]
        show upd mB.lp mB.nloc _ i = _
        rw [upd_ne _ _ _ _ (by omega)]
      have hlp3 : ∀ i, i < m'.nloc → upd (upd m2.lp mB.nloc none) mm.nloc (some L) i = m'.lp i := fun i hi => by
        by_cases e : i = mm.nloc
        · rw [e, upd_same, hI.lp _ (by omega)]; exact (upd_same _ _ _).symm
        · rw [upd_ne _ _ _ _ e, upd_ne _ _ _ _ (by omega), hlp2 i hi, upd_ne _ _ _ _ e]
      have q1 : ∀ i, i < m'.nloc → i ≠ m.nloc + 1 → m2.loc i = m'.loc i := fun i hi h1 => (q0 i (by omega) (by omega) h1).trans (p2 i hi)
      refine ⟨rfl, ?_, ⟨Nat.le_refl _, ?_, fun i hi => ?_, fun i hi => (hlp3 i (by omega)).trans (hI.lp i hi), fun i hi => ?_, ?_, ?_, ?_, ?_⟩, ⟨?_, fun i h1 h2 => ?_, fun i hi => hlp3 i hi, fun i hi => ?_, ?_⟩⟩
      · show upd m2.lp mB.nloc none mm.nloc = _
        rw [upd_ne _ _ _ _ (by omega), hlp2 _ (by omega), upd_same]
      · show _ ≤ m2.nloc; omega
      · show ((m2.dropLp mB.nloc).setLoc (m.nloc + 1) _).loc i = _
        rw [setLoc_loc, setLoc_loc]
        by_cases e : i = m.nloc + 1
        · rw [if_pos e, if_pos e]
        · rw [if_neg e, if_neg e]
          have := hI.loc i hi
          rw [setLoc_loc, if_neg e] at this
          exact (q1 i (by omega) e).trans this
      · show m2.it i = _
        rw [hI2.it i (by omega)]
        show upd mB.it mB.nloc none i = _
        rw [upd_ne _ _ _ _ (by omega), p7 i (by omega)]
        exact hI.it i hi
      · exact hI2.ntok.trans (p8.1.trans hI.ntok)
      · exact hI2.top.trans (p8.2.1.trans hI.top)
      · exact hI2.wd.trans (p8.2.2.1.trans hI.wd)
      · exact hI2.arr.trans (p8.2.2.2.trans hI.arr)
      · show _ ≤ m2.nloc; omega
      · show ((m2.dropLp mB.nloc).setLoc (m.nloc + 1) _).loc i = _
        rw [setLoc_loc, if_neg (by omega)]
        exact q1 i h2 (by omega)
      · show m2.it i = _
        rw [hI2.it i (by omega)]
        show upd mB.it mB.nloc none i = _
        rw [upd_ne _ _ _ _ (by omega), p7 i hi]
      · show m'.ntok ≤ m2.ntok
        rw [hI2.ntok]; show m'.ntok ≤ mB.ntok; rw [p8.1]; exact Nat.le_refl _
  · refine ⟨Nat.le_refl _, Nat.le_refl _, fun i hi => ?_, fun i hi => rfl, fun i hi => rfl, rfl, rfl, rfl, rfl⟩
    rw [setLoc_loc]
    split
    · rename_i e; rw [e]; simp [n1, g1]
    · rfl
  · rintro _ m' ⟨rfl, hI, ho, hn'⟩
    have hlo := hI.lo'
    refine ⟨_, _, rfl, by omega, by rw [hI.lp _ (by omega)]; exact upd_same _ _ _, by rw [← hL]; simp, by rw [← hL], ?_⟩
    have e1 : m'.loc (m.nloc + 2) = some [.marr (m.nloc + 1) 0 (a.length + 1) (a.length + 1)] := by rw [hI.loc _ (by omega)]; simp [g2, n1]
    have e2 : m'.loc (m.nloc + 1) = some (wcells (longD a a.length)) := by rw [hI.loc _ (by omega)]; simp
    have l2 : m.nloc + 2 < m'.nloc := by omega
    have hdl := longD_len a a.length
    have F := (aand @e1 @l2); refine tF ?_; (try clear F)
    refine AList.sees (d := 57) (p' := .list .no (limbs (longD a a.length))) (m' := (m'.dropLp mm.nloc).dropLoc (m.nloc + 1)) ?_ ?_
    · simp only [upd_lit]
      have := Sees.fz (m := m'.dropLp mm.nloc) (p := .marr (m.nloc + 1) 0 (a.length + 1) (a.length + 1)) (n := m.nloc + 1) (s := 1) (cs := wcells (longD a a.length)) (by show _ < m'.nloc; omega) e2
      rw [PV.fz, if_pos ⟨rfl, Nat.le_refl _, by simp [hdl]⟩] at this
      have e : chunk 1 (a.length + 1) (((wcells (longD a a.length)).drop 0).take ((a.length + 1) * 1)) = limbs (longD a a.length) := by
        rw [List.drop_zero, Nat.mul_one, List.take_of_length_le (by simp [hdl]), ← hdl, chunk_wcells]
      rw [e] at this
      exact this
    refine tS1 fun K Kp hK hKp => ?_; refine Gives.at (nat_trim (longD a a.length) (by omega)) ?_; apply hK; clear hK hKp K Kp
    refine tS ?_
    refine Fin.ret rfl ?_ (by simp [upd_lit]) (by simp) ⟨rfl, rfl⟩
    have k0 : ∀ i, i < m.nloc → i ≠ m.nloc + 1 := fun i hi => by omega
    have hs := sm.lloc
    refine Same.mk (by show _ ≤ m'.nloc; omega) (by show _ ≤ m'.ntok; rw [hI.ntok]; exact sm.ltok) (fun i hi => ?_) (fun k hk => ?_) (fun i hi => ?_) (fun i hi => ?_) (fun k cs hk hd hc => ?_)
    · show upd m'.loc (m.nloc + 1) none i = _
      rw [upd_ne _ _ _ _ (by omega), hI.loc i (by omega), setLoc_loc, if_neg (by omega), ← sm.get hi]
      show upd mm.loc mm.nloc none i = _
      rw [upd_ne _ _ _ _ (by omega)]
    · show m'.top k = _ ∧ m'.wd k = _
      rw [hI.top, hI.wd]
      exact ⟨(sm.top k hk).1.symm, (sm.top k hk).2.symm⟩
    · show upd m'.lp mm.nloc none i = _
      rw [upd_ne _ _ _ _ (by omega), hI.lp i (by omega), ← sm.getL hi]
      show upd mm.lp mm.nloc _ i = _
      rw [upd_ne _ _ _ _ (by omega)]
    · show m'.it i = _
      rw [hI.it i (by omega), ← sm.getI hi]
      show upd mm.it mm.nloc none i = _
      rw [upd_ne _ _ _ _ (by omega)]
    · show m'.arr k = _
      rw [hI.arr]
      exact sm.getA hk hd hc
end Go.Proofs.YtgfadepkiejncaaGreat
namespace Go.Proofs.YtgfadepkiejncaaGreat
open Go.Ab
set_option maxHeartbeats 0
def tenP : List Int → Int → List Int
  | [], c => [c]
  | x :: l, c => (x * 10 + c) % 4294967296 :: tenP l ((x * 10 + c) / 4294967296)
theorem tenP_step : ∀ (l : List Int) (c x : Int) (k : Nat), ((tenP l c ++ List.replicate (k + 1) 0).set l.length ((x * 10 + (tenP l c ++ List.replicate (k + 1) 0)[l.length]?.getD 0) % 4294967296)).set (l.length + 1) ((x * 10 + (tenP l c ++ List.replicate (k + 1) 0)[l.length]?.getD 0) / 4294967296) = tenP (l ++ [x]) c ++ List.replicate k 0
  | [], c, x, k => by simp [tenP, List.replicate_succ]
  | y :: l, c, x, k => by
    have := tenP_step l ((y * 10 + c) / 4294967296) x k
    simp only [tenP, List.cons_append, List.length_cons, List.getElem?_cons_succ, List.set_cons_succ]
    rw [this]
theorem longD_tenP (a : List Int) : ∀ j, j ≤ a.length → longD a j = tenP (a.take j) 0 ++ List.replicate (a.length - j) 0
  | 0, _ => by simp [longD, tenP, List.replicate_succ]
  | j + 1, h => by
    have hj : j < a.length := by omega
    have hl : (a.take j).length = j := by simp; omega
    have h1 := tenP_step (a.take j) 0 a[j] (a.length - (j + 1))
    rw [show a.length - (j + 1) + 1 = a.length - j from by omega, ← longD_tenP a j (by omega), hl] at h1
    rw [longD, show a[j]?.getD 0 = a[j] from by simp [hj], h1, List.take_succ_eq_append_getElem hj]
theorem longD_all (a : List Int) : longD a a.length = tenP a 0 := by
  rw [longD_tenP a _ (Nat.le_refl _)]; simp
theorem trimN_cons (x : Int) (l : List Int) : ∀ n, trimN (x :: l) (n + 1) = if trimN l n = 0 then (if x = 0 then 0 else 1) else trimN l n + 1
  | 0 => by simp [trimN]
  | n + 1 => by
    have ih := trimN_cons x l n
    rw [trimN, List.getElem?_cons_succ, ih]
    by_cases h : l[n]?.getD 0 = 0
    · rw [if_pos h, trimN, if_pos h]
    · rw [if_neg h, trimN, if_neg h, if_neg (by omega)]
theorem trimN_zero {l : List Int} : trimN l l.length = 0 ↔ trimL l = [] := by
  unfold trimL
  constructor
  · intro h; rw [h]; rfl
  · intro h
    have h1 := congrArg List.length h
    have h2 := trimN_le l l.length
    rw [List.length_take, List.length_nil] at h1
    omega
theorem trimL_cons (x : Int) (l : List Int) : trimL (x :: l) = if trimL l = [] then (if x = 0 then [] else [x]) else x :: trimL l := by
  have h := trimN_cons x l l.length
  by_cases h0 : trimL l = []
  · rw [if_pos h0]
    rw [if_pos (trimN_zero.2 h0)] at h
    unfold trimL
    rw [List.length_cons, h]
    split <;> rfl
  · rw [if_neg h0]
    rw [if_neg (fun q => h0 (trimN_zero.1 q))] at h
    unfold trimL
    rw [List.length_cons, h]
    rfl
def lastOK (a : List Int) : Prop := a ≠ [] → a[a.length - 1]?.getD 0 ≠ 0
theorem lastOK_cons {x y : Int} {l : List Int} : lastOK (x :: y :: l) ↔ lastOK (y :: l) := by
  simp [lastOK]
theorem trimL_last : ∀ a : List Int, lastOK (trimL a)
  | [] => fun h => absurd rfl h
  | x :: l => by
    rw [trimL_cons]
    have ih := trimL_last l
    split
    · split
      · exact fun h => absurd rfl h
      · rename_i hx; intro _; simpa using hx
    · rename_i h0
      cases ht : trimL l with
      | nil => exact absurd ht h0
      | cons y l' => rw [ht] at ih; exact lastOK_cons.2 ih
theorem trim_ten : ∀ (l : List Int) (c : Int), l ≠ [] → limbOK l → lastOK l → 0 ≤ c → c < 4294967296 → trimL (tenP l c) = tenL l c ∧ tenL l c ≠ []
  | [], _, h, _, _, _, _ => absurd rfl h
  | [x], c, _, hl, hz, h0, h1 => by
    have hx := hl x (by simp)
    have hx0 : x ≠ 0 := by simpa [lastOK] using hz
    obtain ⟨t, et⟩ : ∃ t, t = x * 10 + c := ⟨_, rfl⟩
    simp only [tenP, tenL, ← et]
    refine ⟨?_, by simp⟩
    rw [trimL_cons, trimL_cons, show trimL [] = [] from rfl, if_pos rfl]
    by_cases h : t / 4294967296 = 0
    · rw [if_pos h, if_pos rfl, if_neg (by omega), if_neg (by omega)]
    · rw [if_neg h, if_neg (by simp), if_pos (by omega)]
      congr 2; omega
  | x :: y :: l, c, _, hl, hz, h0, h1 => by
    have hx := hl x (by simp)
    have ih := trim_ten (y :: l) ((x * 10 + c) / 4294967296) (by simp) (fun z hz => hl z (List.mem_cons_of_mem _ hz)) (lastOK_cons.1 hz) (by omega) (by omega)
    have e1 : tenP (x :: y :: l) c = (x * 10 + c) % 4294967296 :: tenP (y :: l) ((x * 10 + c) / 4294967296) := rfl
    have e2 : tenL (x :: y :: l) c = (x * 10 + c) % 4294967296 :: tenL (y :: l) ((x * 10 + c) / 4294967296) := rfl
    rw [e1, e2, trimL_cons, ih.1, if_neg ih.2]
    exact ⟨rfl, by simp⟩
theorem long_ten {a : List Int} (hl : limbOK a) (hz : lastOK a) : trimL (longD a a.length) = tenL a 0 := by
  rw [longD_all]
  cases a with
  | nil => rfl
  | cons x l => exact (trim_ten (x :: l) 0 (by simp) hl hz (Int.le_refl _) (by decide)).1
theorem tenL_last {a : List Int} (hl : limbOK a) (hz : lastOK a) : lastOK (tenL a 0) := by rw [← long_ten hl hz]; exact trimL_last _
theorem tenL_nil {a : List Int} (hl : limbOK a) (hz : lastOK a) : tenL a 0 = [] ↔ a = [] := by
  cases a with
  | nil => simp [tenL]
  | cons x l => simp [(trim_ten (x :: l) 0 (by simp) hl hz (Int.le_refl _) (by decide)).2]
end Go.Proofs.YtgfadepkiejncaaGreat
namespace Go.Ab
@[simp] theorem dropLoc_loc' (m : St) (n i : Nat) : (m.dropLoc n).loc i = if i = n then none else m.loc i := rfl
@[simp] theorem dropLoc_nloc' (m : St) (n : Nat) : (m.dropLoc n).nloc = m.nloc := rfl
end Go.Ab
namespace Go.Proofs.YtgfadepkiejncaaGreat
open Go.Ab
set_option maxHeartbeats 0
set_option maxRecDepth 100000
attribute [local irreducible] AW AList ACall DA AExit.then AExit.inBlock YCall DCall
@[simp] theorem ti_182 : tinfo Tryz.prog 182 = true := by kernel_rfl
@[simp] theorem ts_182 : tsize Tryz.prog 182 = 1 := by kernel_rfl
@[simp] theorem tg_182 : tagg Tryz.prog 182 = false := by kernel_rfl
@[simp] theorem tz_182 : tzero Tryz.prog 182 = some .nilFunc := by kernel_rfl
theorem bs181 (x y : Bool × List Int) (m : St) (K : PV → St → Prop) : abuildSlice Tryz.prog 181 2 [(0, intv x.1 x.2), (1, intv y.1 y.2)] m K ↔ K (.list .full (introws [x, y])) m := by
  have h := abuildSlice_all (P := Tryz.prog) (t := 181) (s := 2) (e := 24) (z := .agg #[.bool false, .slice none 0 0]) (xs := [intv x.1 x.2, intv y.1 y.2]) (rs := introws [x, y]) (m := m) (K := K) (by simp) (by simp) (by simp) (by decide) (by decide) (by simp) (by simp) (.cons rfl rfl (.cons rfl rfl .nil))
  have e : (introws [x, y]).map PV.stripL = introws [x, y] := by simp [introws, PV.stripL, PV.strip]
  rw [e] at h
  exact h
theorem nat_mul1 (a : List Int) (la : a.length < 16777216) (ha : limbOK a) (hz : lastOK a) (c : PV) : Gives Tryz.prog 204 [.list .no (limbs a), .list .no (limbs [10]), c] (.list .no (limbs (tenL a 0))) := by
  have hl := num_long a la ha
  rw [long_ten ha hz] at hl
  intro m
  refine ACall.of_aw Tryz.func204 Tryz.ntmps204 rfl rfl (by simp) ?_
  refine tS ?_
  refine AW.cond (t := true) (by simp [upd_lit]; omega) (fun _ => ?_) (fun h => by cases h)
  refine tS ?_
  refine tS1 fun K Kp hK hKp => ?_; refine Gives.at (hl) ?_; apply hK; clear hK hKp K Kp
  refine tS ?_
  exact Fin.ret rfl (Same.refl m) (by simp [upd_lit]) (by simp) ⟨rfl, rfl⟩
theorem nat_mul (a : List Int) (la : a.length < 16777216) (ha : limbOK a) (hz : lastOK a) : Gives Tryz.prog 193 [.list .no (limbs a), .list .no (limbs [10])] (.list .no (limbs (tenL a 0))) := by
  intro m
  refine ACall.of_aw Tryz.func193 Tryz.ntmps193 rfl rfl (by simp) ?_
  refine tS ?_
  refine tS1 fun K Kp hK hKp => ?_; refine Gives.at (nat_mul1 a la ha hz (.loc m.nloc 0)) ?_; apply hK; clear hK hKp K Kp
  refine tS ?_
  exact Fin.ret rfl Same.auto (by simp [upd_lit]) (by simp) ⟨rfl, rfl⟩
theorem num_mul1 (n : Bool) (a : List Int) (h : intOK n a) (ha : limbOK a) (l299 : a.length ≤ 299) : Gives Tryz.prog 190 [.ro [vB n, .list .no (limbs a)], .ro [vB false, .list .no (limbs [10])]] (intv n (tenL a 0)) := by
  have hz : lastOK a := h.2.2
  have tl := tenL_len a 0
  have tn := tenL_nil ha hz
  have tt : trimL (tenL a 0) = tenL a 0 := trimL_id (tenL_last ha hz)
  have hw := num_whole n (tenL a 0) (by omega) (by rw [tt]; omega)
  rw [tt] at hw
  have e : (n && decide (0 < (tenL a 0).length)) = n := by
    cases n with
    | false => rfl
    | true =>
      have : a ≠ [] := fun q => by have := h.2.1 q; cases this
      have : tenL a 0 ≠ [] := fun q => this (tn.1 q)
      simp [List.length_pos_iff, this]
  rw [e] at hw
  have hf := num_formed [(n, a), (false, [10])] (by simp) (by
    intro x hx
    simp at hx
    rcases hx with rfl | rfl
    · exact h
    · exact ⟨by simp, by simp, by simp⟩)
  intro m
  refine ACall.of_aw Tryz.func190 Tryz.ntmps190 rfl rfl (by simp) ?_
  refine tS ?_
  refine tS1 fun K Kp hK hKp => ?_
  refine (bs181 (n, a) (false, [10]) _ _).2 ?_
  apply hK; clear hK hKp K Kp
  refine tS ?_
  refine tS1 fun K Kp hK hKp => ?_; refine Gives.at (hf) ?_; apply hK; clear hK hKp K Kp
  refine tS ?_
  refine AW.draw [.S, .R, .S, .R, .S, .S, .R, .S, .R, .R, .R, .W] (by decide +kernel) ?_; have F := True.intro; refine dS 0 ?_; refine dR 1 ?_; refine dS 2 ?_; refine dR 3 ?_; refine dS 4 ?_; refine dS 5 ?_; refine dR 6 ?_; refine dS 7 ?_; refine dR 8 ?_; refine dC ((nat_mul a (by omega) ha hz)) 9 ?_; refine dC ((hw)) 10 ?_; refine dW 11 ?_; (try clear F); first | refine dN ?_ | refine dB ?_ | refine DA.done (by decide +kernel) ?_
  refine tS ?_
  exact Fin.retC (p := intv n (tenL a 0)) (q := intv n (tenL a 0)) rfl (by simp [upd_lit]) (((Same.refl m).newLoc _).setLoc (Nat.le_refl _) _) (by simp [PV.strip]) (by simp [PV.sc, PV.scL]) ⟨rfl, rfl⟩
theorem try_rec (m : St) (a b : PV) : DCall Tryz.prog 202 [a, b] m none (fun m' => m' = m) := by
  refine DCall.of_rec Tryz.func202 Tryz.ntmps202 rfl rfl (by simp) (by decide) rfl (.inr ⟨_, _, _, _, by decide, rfl⟩) fun σ h0 h5 h6 => ?_
  have h2 : σ 2 = .v .nilIface := h6 _ List.mem_cons_self 2 rfl
  have F := @h2; refine tF ?_; (try clear F)
  refine AList.opK (by decide) ?_; intro K Kp hK hKp
  refine op_nilNil rfl (by decide +kernel) (by simp [opv, upd_lit]) rfl ?_
  apply hK; clear hK hKp K Kp
  refine tS ?_
  refine AW.cond (t := true) (by simp [upd_lit]) (fun _ => ?_) (fun h => by cases h)
  refine tS ?_
  exact ⟨m, (Same.refl m).lv, rfl⟩
theorem num_try (g : FuncId) (caps : List PV) (n : Bool) (r : List Int) (hs : PV.scL 0 0 caps) (hst : PV.stripL caps = caps) (h : Gives Tryz.prog g caps (intv n r)) : Gives Tryz.prog 189 [.clo g [] caps] (.tup [intv n r, vE 0]) := by
  intro m
  refine ACall.of_defer Tryz.func189 Tryz.ntmps189 (pre := [_]) rfl rfl rfl (by simp) ?_
  refine tS ?_
  refine ⟨202, [], _, by simp [opv, upd_lit]; rfl, ?_⟩
  refine tS ?_
  refine tS1 fun K Kp hK hKp => ?_; refine Gives.at (h) ?_; apply hK; clear hK hKp K Kp
  refine tS ?_
  refine (try_rec _ _ _).mono ?_
  rintro s' rfl
  refine ⟨.tup [intv n r, vE 0], m, ?_, .inr ⟨?_, ?_⟩, by simp [PV.strip, PV.stripL], rfl⟩
  · simp [ResP, ResL, resV, upd_lit, show Tryz.f189.results.toList = [.cell 2 24, .cell 3 30] from rfl]; omega
  · have sm : Same m ((((m.newLoc [.v (.bool false), .list .full []]).newLoc [.v (.int .i64 0)]).setLoc m.nloc [vB n, .list .no (limbs r)]).setLoc (m.nloc + 1) [vE 0]) := ((((Same.refl m).newLoc _).newLoc _).setLoc (Nat.le_refl _) _).setLoc (by omega) _
    exact sm.lv
  · simp [PV.strip, PV.stripL, PV.sc, PV.scL]
theorem num_mul10 (n : Bool) (a : List Int) (h : intOK n a) (ha : limbOK a) (l299 : a.length ≤ 299) : Gives Tryz.prog 172 [intv n a, intv false [10]] (.tup [intv n (tenL a 0), vE 0]) := by
  intro m
  refine ACall.of_aw Tryz.func172 Tryz.ntmps172 rfl rfl (by simp) ?_
  refine tS ?_
  refine AList.frz (n := m.nloc) (d := 6) (cs := [vB n, .list .no (limbs a)]) (by simp; omega) (by simp; omega) ?_
  refine AList.frz (n := m.nloc + 1) (d := 6) (cs := [vB false, .list .no (limbs [10])]) (by simp) (by simp) ?_
  have e1 : m.nloc + 1 ≠ m.nloc := by omega
  simp only [upd_lit, PV.frz, PV.frzL, if_pos, if_neg e1, List.drop_zero]
  refine tS1 fun K Kp hK hKp => ?_; refine Gives.at (num_try 190 [.ro [vB n, .list .no (limbs a)], .ro [vB false, .list .no (limbs [10])]] n (tenL a 0) (by simp [PV.scL, PV.sc]) (by simp [PV.stripL, PV.strip]) (num_mul1 n a h ha l299)) ?_; apply hK; clear hK hKp K Kp
  refine tS ?_
  exact Fin.ret (p := .tup [intv n (tenL a 0), vE 0]) (q := .tup [intv n (tenL a 0), vE 0]) (by simp [ResP, ResL, resV, upd_lit, show Tryz.f172.results.toList = [.cell 4 24, .tmp 5] from rfl]) ((((((Same.refl m).newLoc _).newLoc _).newLoc _).dropLoc (Nat.le_refl _)).dropLoc (by omega) |>.setLoc (by omega) _) (by simp [PV.strip, PV.stripL]) (by simp [PV.sc, PV.scL]) ⟨rfl, rfl⟩
end Go.Proofs.YtgfadepkiejncaaGreat
namespace Go.Proofs.YtgfadepkiejncaaGreat
open Go.Ab
set_option maxHeartbeats 0
set_option maxRecDepth 100000
attribute [local irreducible] AW AList ACall DA AExit.then AExit.inBlock YCall DCall
theorem tens10_succ : ∀ (k : Nat) (l : List Int), tens10 (k + 1) l = tenL (tens10 k l) 0
  | 0, l => rfl
  | k + 1, l => by rw [tens10, tens10_succ k, tens10]
theorem tens10_good (k : Nat) (n : Bool) (a : List Int) (h : intOK n a) (ha : limbOK a) (hk : a.length + k ≤ 300) : intOK n (tens10 k a) ∧ limbOK (tens10 k a) := by
  induction k with
  | zero => exact ⟨h, ha⟩
  | succ k ih =>
    obtain ⟨h1, h2⟩ := ih (by omega)
    have hz : lastOK (tens10 k a) := h1.2.2
    have hl := tens10_len (k + 1) a
    rw [tens10_succ] at hl ⊢
    exact ⟨⟨by omega, fun q => h1.2.1 ((tenL_nil h2 hz).1 q), tenL_last h2 hz⟩, tenL_ok _ _⟩
theorem val_scaled (v : GV) (z : Int) (h : intOK v.neg v.abs) (ha : limbOK v.abs) (hz : v.abs.length + z.toNat ≤ 299) (hz2 : -1000000 ≤ z) : Gives Tryz.prog 161 [v.pv, vI z] (intv v.neg (tens10 z.toNat v.abs)) := by
  intro m
  refine ACall.of_aw Tryz.func161 Tryz.ntmps161 rfl rfl (by simp) ?_
  refine tS ?_
  refine AW.loop (ι := Nat) (fun k σ m' => k ≤ z.toNat ∧ Same m m' ∧ m'.loc (m.nloc + 1) = some [.v (.bool false), .list .full []] ∧ m'.loc (m.nloc + 2) = some [vB v.neg, .list .no (limbs (tens10 k v.abs))] ∧ m.nloc + 2 < m'.nloc ∧ σ 1 = vI (z - k) ∧ σ 5 = .loc (m.nloc + 2) 0 ∧ σ 4 = .loc (m.nloc + 1) 0) (fun k => z.toNat - k) 0 ?_ ?_
  · refine ⟨by omega, ((((Same.refl m).newLoc _).newLoc _).newLoc _).setLoc (by omega) _, ?_, ?_, ?_, ?_, ?_, ?_⟩ <;> simp [upd_lit, tens10]
  rintro k σ m' ⟨hk, sm, e1, e2, hn, h1, h5, h4⟩
  have F := (aand @h1 (aand @h5 @h4)); refine tF ?_; (try clear F)
  refine AW.condD (p := (k : Int) < z) (by simp [upd_lit]) (fun hlt => ?_) (fun hge => ?_)
  · obtain ⟨g1, g2⟩ := tens10_good k v.neg v.abs h ha (by omega)
    have hl := tens10_len k v.abs
    have F := (aand @h1 (aand @h5 @h4)); refine tF ?_; (try clear F)
    refine AW.draw [.R, .R, .R, .S, .S, .S, .W] (by decide +kernel) ?_; have F := (aand @h1 (aand @h5 (aand @h4 (aand @e2 @hn)))); refine dRT 0 ?_; refine dCT ((num_of10)) 1 ?_; refine dCT ((num_mul10 v.neg (tens10 k v.abs) g1 g2 (by omega))) 2 ?_; refine dST 3 ?_; refine dST 4 ?_; refine dST 5 ?_; refine dW 6 ?_; (try clear F); first | refine dN ?_ | refine dB ?_ | refine DA.done (by decide +kernel) ?_
    have F := @h1; refine tF ?_; (try clear F)
    refine ⟨k + 1, ⟨by omega, sm.setLoc (by omega) _, ?_, ?_, hn, ?_, by simp [upd_lit, h5], by simp [upd_lit, h4]⟩, by omega⟩
    · simp [e1]
    · simp [tens10_succ]
    · simp [upd_lit]; omega
  · have hn1 : m.nloc + 1 < m'.nloc := by omega
    have ek : k = z.toNat := by omega
    have F := (aand @h5 (aand @h4 (aand @e1 (aand @e2 (aand @hn @hn1))))); refine tF ?_; (try clear F)
    subst ek
    exact Fin.retC (p := intv v.neg (tens10 z.toNat v.abs)) (q := intv v.neg (tens10 z.toNat v.abs)) rfl (by simp [upd_lit, h4, hn1]) (sm.setLoc (by omega) _) (by simp [PV.strip]) (by simp [PV.sc, PV.scL]) ⟨rfl, rfl⟩
theorem by_number (a b : GV) : Gives Tryz.prog 131 [a.pv, b.pv] (vI (numbersF a.num b.num)) := by
  intro m
  refine ACall.of_aw Tryz.func131 Tryz.ntmps131 rfl rfl (by simp) ?_
  refine tS ?_
  refine tS1 fun K Kp hK hKp => ?_; refine Gives.at (cmp_int a.num b.num) ?_; apply hK; clear hK hKp K Kp
  refine tS ?_
  exact Fin.ret rfl (((Same.refl m).newLoc _).newLoc _) (by simp [upd_lit]) (by simp) ⟨rfl, rfl⟩
theorem by_int (a b : GV) (ha : intOK a.neg a.abs) (hb : intOK b.neg b.abs) : Gives Tryz.prog 132 [a.pv, b.pv] (vI (intsF a.neg a.abs b.neg b.abs)) := by
  intro m
  refine ACall.of_aw Tryz.func132 Tryz.ntmps132 rfl rfl (by simp) ?_
  refine tS ?_
  refine tS1 fun K Kp hK hKp => ?_; refine Gives.at (num_compare a.neg b.neg a.abs b.abs ha hb) ?_; apply hK; clear hK hKp K Kp
  refine tS ?_
  exact Fin.ret rfl (((Same.refl m).newLoc _).newLoc _) (by simp [upd_lit]) (by simp) ⟨rfl, rfl⟩
theorem by_text (a b : GV) : Gives Tryz.prog 134 [a.pv, b.pv] (vI (strF a.str b.str)) := by
  intro m
  refine ACall.of_aw Tryz.func134 Tryz.ntmps134 rfl rfl (by simp) ?_
  refine tS ?_
  refine tS1 fun K Kp hK hKp => ?_; refine Gives.at (strings_compare a.str b.str) ?_; apply hK; clear hK hKp K Kp
  refine tS ?_
  exact Fin.ret rfl (((Same.refl m).newLoc _).newLoc _) (by simp [upd_lit]) (by simp) ⟨rfl, rfl⟩
def scOK (v : GV) : Prop := intOK v.neg v.abs ∧ limbOK v.abs ∧ v.abs.length ≤ 40 ∧ 1 ≤ v.num ∧ v.num ≤ 20
theorem by_dec (a b : GV) (ha : scOK a) (hb : scOK b) : Gives Tryz.prog 133 [a.pv, b.pv] (vI (decF a b)) := by
  obtain ⟨a1, a2, a3, a4, a5⟩ := ha
  obtain ⟨b1, b2, b3, b4, b5⟩ := hb
  intro m
  refine ACall.of_aw Tryz.func133 Tryz.ntmps133 rfl rfl (by simp) ?_
  refine tS ?_
  have w1 : IntKind.i64.wrap (b.num - a.num) = b.num - a.num := wrap_i64 _ (by omega) (by omega)
  have w2 : IntKind.i64.wrap (a.num - b.num) = a.num - b.num := wrap_i64 _ (by omega) (by omega)
  have ga := tens10_good (b.num - a.num).toNat a.neg a.abs a1 a2 (by omega)
  have gb := tens10_good (a.num - b.num).toNat b.neg b.abs b1 b2 (by omega)
  refine AW.draw [.R, .S, .R, .S, .R, .S, .R, .R, .S, .R, .S, .R, .S, .R, .R, .S] (by decide +kernel) ?_; have F := (aand @w1 @w2); refine dR 0 ?_; refine dS 1 ?_; refine dR 2 ?_; refine dS 3 ?_; refine dR 4 ?_; refine dS 5 ?_; refine dC ((val_scaled a (b.num - a.num) a1 a2 (by omega) (by omega))) 6 ?_; refine dR 7 ?_; refine dS 8 ?_; refine dR 9 ?_; refine dS 10 ?_; refine dR 11 ?_; refine dS 12 ?_; refine dC ((val_scaled b (a.num - b.num) b1 b2 (by omega) (by omega))) 13 ?_; refine dC ((num_compare _ _ _ _ ga.1 gb.1)) 14 ?_; refine dS 15 ?_; (try clear F); first | refine dN ?_ | refine dB ?_ | refine DA.done (by decide +kernel) ?_
  refine tS ?_
  exact Fin.ret rfl (((Same.refl m).newLoc _).newLoc _) (by simp [upd_lit, decF]) (by simp) ⟨rfl, rfl⟩
end Go.Proofs.YtgfadepkiejncaaGreat
namespace Go.Proofs.YtgfadepkiejncaaGreat
open Go.Ab
set_option maxHeartbeats 0
theorem nF_neg (a b : Int) : numbersF b a = - numbersF a b := by unfold numbersF; split <;> split <;> (try split) <;> omega
theorem nF_zero {a b : Int} : numbersF a b = 0 ↔ a = b := by unfold numbersF; split <;> (try split) <;> omega
theorem nF_lt {a b : Int} : numbersF a b < 0 ↔ a < b := by unfold numbersF; split <;> (try split) <;> omega
def valN : List Int → Int
  | [] => 0
  | x :: l => x + 4294967296 * valN l
theorem limbOK_tail {x : Int} {l : List Int} (h : limbOK (x :: l)) : (0 ≤ x ∧ x < 4294967296) ∧ limbOK l := ⟨h x (by simp), fun y hy => h y (by simp [hy])⟩
theorem valN_nn : ∀ (l : List Int), limbOK l → 0 ≤ valN l
  | [], _ => Int.le_refl _
  | x :: l, h => by
    obtain ⟨h1, h2⟩ := limbOK_tail h
    have := valN_nn l h2
    simp only [valN]; omega
theorem lastOK_tail {x : Int} {l : List Int} (h : lastOK (x :: l)) (hl : l ≠ []) : lastOK l := by
  cases l with
  | nil => exact absurd rfl hl
  | cons y l => exact lastOK_cons.1 h
theorem valN_pos : ∀ (l : List Int), limbOK l → lastOK l → l ≠ [] → 1 ≤ valN l
  | [], _, _, h => absurd rfl h
  | [x], h, hz, _ => by
    have h1 := h x (by simp)
    have : x ≠ 0 := by simpa [lastOK] using hz
    simp only [valN]; omega
  | x :: y :: l, h, hz, _ => by
    obtain ⟨h1, h2⟩ := limbOK_tail h
    have := valN_pos (y :: l) h2 (lastOK_cons.1 hz) (by simp)
    rw [valN]; omega
theorem valN_lt : ∀ (a b : List Int), limbOK a → limbOK b → lastOK b → a.length < b.length → valN a < valN b
  | [], b, _, hb, hz, hl => by
    have : b ≠ [] := by rintro rfl; simp at hl
    have := valN_pos b hb hz this
    simp only [valN]; omega
  | x :: a, [], _, _, _, hl => by simp at hl
  | x :: a, y :: b, ha, hb, hz, hl => by
    obtain ⟨h1, h2⟩ := limbOK_tail ha
    obtain ⟨h3, h4⟩ := limbOK_tail hb
    have hl' : a.length < b.length := by simpa using hl
    have hne : b ≠ [] := by rintro rfl; simp at hl'
    have := valN_lt a b h2 h4 (lastOK_tail hz hne) hl'
    simp only [valN]; omega
theorem cmpAt_cons (x y : Int) (a b : List Int) : ∀ n, cmpAt (x :: a) (y :: b) (n + 1) = if cmpAt a b n ≠ 0 then cmpAt a b n else numbersF x y
  | 0 => by simp [cmpAt, numbersF]
  | n + 1 => by
    rw [cmpAt, cmpAt_cons x y a b n]
    simp only [List.getD_cons_succ]
    rw [cmpAt]
    split
    · simp
    split
    · simp
    · rfl
theorem cmpAt_val : ∀ (a b : List Int), a.length = b.length → limbOK a → limbOK b → cmpAt a b a.length = numbersF (valN a) (valN b)
  | [], [], _, _, _ => rfl
  | [], _ :: _, h, _, _ => by simp at h
  | _ :: _, [], h, _, _ => by simp at h
  | x :: a, y :: b, hl, ha, hb => by
    obtain ⟨h1, h2⟩ := limbOK_tail ha
    obtain ⟨h3, h4⟩ := limbOK_tail hb
    rw [List.length_cons, cmpAt_cons, cmpAt_val a b (by simpa using hl) h2 h4]
    simp only [valN]
    generalize valN a = p, valN b = q
    rcases Int.lt_trichotomy p q with h | h | h
    · have e : numbersF p q = -1 := by unfold numbersF; rw [if_pos h]
      rw [e, if_pos (by decide)]; unfold numbersF; rw [if_pos (by omega)]
    · subst h
      rw [nF_zero.2 rfl, if_neg (by decide)]
      unfold numbersF
      by_cases e3 : x < y
      · rw [if_pos e3, if_pos (by omega)]
      by_cases e4 : y < x
      · rw [if_neg e3, if_pos e4, if_neg (by omega), if_pos (by omega)]
      rw [if_neg e3, if_neg e4, if_neg (by omega), if_neg (by omega)]
    · have e : numbersF p q = 1 := by unfold numbersF; rw [if_neg (by omega), if_pos h]
      rw [e, if_pos (by decide)]; unfold numbersF; rw [if_neg (by omega), if_pos (by omega)]
theorem sizeF_val (a b : List Int) (ha : limbOK a) (hb : limbOK b) (za : lastOK a) (zb : lastOK b) : sizeF a b = numbersF (valN a) (valN b) := by
  unfold sizeF
  by_cases h : a.length = b.length
  · rw [if_neg (by omega)]; exact cmpAt_val a b h ha hb
  · rw [if_pos h]
    by_cases h1 : a.length < b.length
    · have := valN_lt a b ha hb zb h1
      rw [if_pos h1, numbersF, if_pos this]
    · have := valN_lt b a hb ha za (by omega)
      rw [if_neg h1, numbersF, if_neg (by omega), if_pos this]
theorem valN_inj : ∀ (a b : List Int), limbOK a → limbOK b → lastOK a → lastOK b → valN a = valN b → a = b := by
  intro a b ha hb za zb h
  have hl : a.length = b.length := by
    rcases Nat.lt_trichotomy a.length b.length with h1 | h1 | h1
    · have := valN_lt a b ha hb zb h1; omega
    · exact h1
    · have := valN_lt b a hb ha za h1; omega
  clear za zb
  induction a generalizing b with
  | nil => exact (List.eq_nil_of_length_eq_zero hl.symm).symm
  | cons x a ih =>
    cases b with
    | nil => simp at hl
    | cons y b =>
      obtain ⟨h1, h2⟩ := limbOK_tail ha
      obtain ⟨h3, h4⟩ := limbOK_tail hb
      simp only [valN] at h
      have e1 : valN a = valN b := by omega
      rw [ih b h2 h4 e1 (by simpa using hl), show x = y from by omega]
theorem valN_tenL : ∀ (l : List Int) (c : Int), limbOK l → 0 ≤ c → c < 4294967296 → valN (tenL l c) = valN l * 10 + c
  | [], c, _, h0, h1 => by
    simp only [tenL]
    split
    · simp only [valN]; omega
    · simp only [valN]; omega
  | x :: l, c, h, h0, h1 => by
    obtain ⟨h2, h3⟩ := limbOK_tail h
    obtain ⟨t, et⟩ : ∃ t, t = x * 10 + c := ⟨_, rfl⟩
    have := valN_tenL l (t / 4294967296) h3 (by omega) (by omega)
    simp only [tenL, valN, ← et, this]; omega
def sgn (n : Bool) (x : Int) : Int := if n then -x else x
theorem intsF_val {n n' : Bool} {a a' : List Int} (h : intOK n a) (h' : intOK n' a') (l : limbOK a) (l' : limbOK a') : intsF n a n' a' = numbersF (sgn n (valN a)) (sgn n' (valN a')) := by
  have z : lastOK a := h.2.2
  have z' : lastOK a' := h'.2.2
  have p := valN_nn a l
  have p' := valN_nn a' l'
  cases n with
  | false =>
    cases n' with
    | false => simp only [intsF, sgn]; exact sizeF_val a a' l l' z z'
    | true =>
      have : a' ≠ [] := fun e => by have := h'.2.1 e; cases this
      have := valN_pos a' l' z' this
      simp only [intsF, sgn, numbersF]
      rw [if_pos (by simp), if_neg (by simp), if_neg (by simp; omega), if_pos (by simp; omega)]
  | true =>
    have : a ≠ [] := fun e => by have := h.2.1 e; cases this
    have := valN_pos a l z this
    cases n' with
    | false =>
      simp only [intsF, sgn, numbersF]
      rw [if_pos (by simp), if_pos (by simp), if_pos (by simp; omega)]
    | true =>
      simp only [intsF, sgn]
      rw [if_neg (by simp)]
      simp only [if_true]
      rw [sizeF_val a' a l' l z' z]
      unfold numbersF
      by_cases e1 : valN a' < valN a
      · rw [if_pos e1, if_pos (by omega)]
      by_cases e2 : valN a < valN a'
      · rw [if_neg e1, if_pos e2, if_neg (by omega), if_pos (by omega)]
      rw [if_neg e1, if_neg e2, if_neg (by omega), if_neg (by omega)]
theorem sgn_inj {n n' : Bool} {a a' : List Int} (h : intOK n a) (h' : intOK n' a') (l : limbOK a) (l' : limbOK a') (e : sgn n (valN a) = sgn n' (valN a')) : n = n' ∧ a = a' := by
  have z : lastOK a := h.2.2
  have z' : lastOK a' := h'.2.2
  have p := valN_nn a l
  have p' := valN_nn a' l'
  have q : n = n' := by
    cases n <;> cases n' <;> simp only [sgn] at e <;> (try rfl)
    · have : a' ≠ [] := fun e => by have := h'.2.1 e; cases this
      have := valN_pos a' l' z' this
      simp at e; omega
    · have : a ≠ [] := fun e => by have := h.2.1 e; cases this
      have := valN_pos a l z this
      simp at e; omega
  subst q
  refine ⟨rfl, valN_inj a a' l l' z z' ?_⟩
  cases n <;> simp [sgn] at e <;> omega
theorem bl_irr : ∀ a : List UInt8, Op.bytesLess a a = false
  | [] => rfl
  | x :: a => by simp [Op.bytesLess, bl_irr a]
theorem bl_tri : ∀ a b : List UInt8, Op.bytesLess a b = false → Op.bytesLess b a = false → a = b
  | [], [], _, _ => rfl
  | [], _ :: _, h, _ => by simp [Op.bytesLess] at h
  | _ :: _, [], _, h => by simp [Op.bytesLess] at h
  | x :: a, y :: b, h, h' => by
    simp only [Op.bytesLess, Bool.or_eq_false_iff, decide_eq_false_iff_not] at h h'
    have : x = y := UInt8.le_antisymm (UInt8.not_lt.1 h'.1) (UInt8.not_lt.1 h.1)
    subst this
    rw [bl_tri a b (by simpa using h.2) (by simpa using h'.2)]
theorem bl_trans : ∀ a b c : List UInt8, Op.bytesLess a b = true → Op.bytesLess b c = true → Op.bytesLess a c = true
  | [], [], _, h, _ => by simp [Op.bytesLess] at h
  | [], _ :: _, [], _, h => by simp [Op.bytesLess] at h
  | [], _ :: _, _ :: _, _, _ => rfl
  | _ :: _, [], _, h, _ => by simp [Op.bytesLess] at h
  | _ :: _, _ :: _, [], _, h => by simp [Op.bytesLess] at h
  | x :: a, y :: b, z :: c, h, h' => by
    simp only [Op.bytesLess, Bool.or_eq_true, Bool.and_eq_true, decide_eq_true_eq, beq_iff_eq] at h h' ⊢
    rcases h with h | ⟨rfl, h⟩ <;> rcases h' with h' | ⟨rfl, h'⟩
    · exact .inl (UInt8.lt_trans h h')
    · exact .inl h
    · exact .inl h'
    · exact .inr ⟨rfl, bl_trans a b c h h'⟩
theorem str_ext {s t : ByteArray} (h : s.toList = t.toList) : s = t := by
  rw [Lib.toList_data, Lib.toList_data] at h
  cases s; cases t
  have := Array.toList_inj.1 h
  simp at this
  rw [this]
theorem strF_lt {s t : ByteArray} : strF s t < 0 ↔ Op.bytesLess s.toList t.toList = true := by
  unfold strF
  split
  · rename_i h; simp [h]
  · rename_i h; split <;> simp [h]
theorem strF_zero {s t : ByteArray} : strF s t = 0 ↔ s = t := by
  unfold strF
  constructor
  · intro h
    split at h
    · cases h
    · rename_i h1
      split at h
      · cases h
      · rename_i h2
        simp [h1] at h2
        exact str_ext h2
  · rintro rfl
    rw [if_neg (by simp [bl_irr]), if_neg (by simp)]
theorem strF_neg (s t : ByteArray) : strF t s = - strF s t := by
  by_cases h : Op.bytesLess s.toList t.toList = true
  · have h2 : Op.bytesLess t.toList s.toList = false := by
      cases e : Op.bytesLess t.toList s.toList with
      | false => rfl
      | true => have := bl_trans _ _ _ h e; rw [bl_irr] at this; cases this
    have h3 : t.toList ≠ s.toList := fun e => by rw [e, bl_irr] at h; cases h
    unfold strF
    rw [if_pos h, if_neg (by simp [h2]), if_pos (by simp [h2, h3])]
    rfl
  · have h := Bool.eq_false_iff.2 h
    by_cases h2 : Op.bytesLess t.toList s.toList = true
    · have h3 : s.toList ≠ t.toList := fun e => by rw [e, bl_irr] at h2; cases h2
      unfold strF
      rw [if_pos h2, if_neg (by simp [h]), if_pos (by simp [h, h3])]
    · have h2 := Bool.eq_false_iff.2 h2
      have := str_ext (bl_tri _ _ h h2)
      subst this
      have := (strF_zero (s := s) (t := s)).2 rfl
      omega
theorem restAt_cons (x : Int) (a : List Int) : ∀ (n : Nat) (r : Int), restAt (x :: a) (n + 1) r = (restAt a n r * 4294967296 + x) % 10
  | 0, r => by simp [restAt]
  | n + 1, r => by
    rw [restAt, restAt_cons x a n]
    rw [restAt]
    simp only [List.getD_cons_succ]
theorem restAt_val : ∀ (a : List Int), (restAt a a.length 0 - valN a) % 10 = 0
  | [] => rfl
  | x :: a => by
    have := restAt_val a
    rw [List.length_cons, restAt_cons, valN]
    omega
theorem restAt_range : ∀ (a : List Int), 0 ≤ restAt a a.length 0 ∧ restAt a a.length 0 < 10
  | [] => by simp [restAt]
  | x :: a => by rw [List.length_cons, restAt_cons]; omega
theorem tensF_val (a : List Int) : tensF a = decide (valN a % 10 = 0) := by
  have h1 := restAt_val a
  have h2 := restAt_range a
  unfold tensF
  by_cases h : valN a % 10 = 0
  · rw [decide_eq_true h, beq_iff_eq]; omega
  · rw [decide_eq_false h, beq_eq_false_iff_ne]; omega
theorem valN_tens10 : ∀ (k : Nat) (l : List Int), limbOK l → valN (tens10 k l) = valN l * 10 ^ k
  | 0, l, _ => by simp [tens10]
  | k + 1, l, h => by
    rw [tens10, valN_tens10 k _ (tenL_ok l 0), valN_tenL l 0 h (by omega) (by omega), Int.pow_succ, Int.add_zero, Int.mul_assoc, Int.mul_comm 10]
end Go.Proofs.YtgfadepkiejncaaGreat
