/- Texts of the proof, part Lc: they prove nothing by themselves that is claimed. -/
import Derived.Test.YtgfadepkiejncaaGreatLb
import Derived.Test.YtgfadepkiejncaaGreatLa
import Derived.Lib.Bytealg
import Derived.Laws.Externs
import Derived.Lib.Strings
set_option linter.unusedVariables false
set_option linter.unusedSimpArgs false
namespace Go.Ab
open Go.RowKit
theorem wpListIn_app {F : Fence} {n : Nat} {P : Program} {ops : Array Oper} {Q Q' : Exit → Act → World → Prop} {l2 : List Oper} (h1 : ∀ a w, Q' .normal a w → wpListIn F n P ops Q l2 a w) (h2 : ∀ e a w, (∀ _ : e = .normal, False) → Q' e a w → Q e a w) : ∀ (l1 : List Oper) (a : Act) (w : World), wpListIn F n P ops Q' l1 a w → wpListIn F n P ops Q (l1 ++ l2) a w
  | [], a, w, h => h1 a w h
  | o :: rest, a, w, h => by
    have ih := wpListIn_app h1 h2 rest
    rw [List.cons_append]
    unfold wpListIn at h ⊢
    split at h
    · rename_i hw
      rw [if_pos hw]
      obtain ⟨ha, hh⟩ := h
      refine ⟨ha, ?_⟩
      generalize (o.semAt F.round a.eval).run P w = r at *
      have lo : LetsOut Q' → LetsOut Q := fun ⟨a, w, q⟩ => ⟨a, w, h2 _ _ _ (by simp) q⟩
      cases r with
      | ok x w' =>
        cases x <;> simp only [Oper.uponIn] at hh ⊢
        case value v => exact ih _ _ hh
        case skip => exact ih _ _ hh
        case defer d => exact ih _ _ hh
        case enter f args =>
          refine ⟨hh.1, CallsIn.mono hh.2 fun e w'' he => ?_⟩
          cases e with
          | returned v => exact ih _ _ he
          | panicked ch => exact h2 _ _ _ (by simp) he
          | outgrown => exact lo he
        case round l f tmps assign body =>
          refine ⟨hh.1, RoundIn.mono hh.2 fun e w'' he => ?_⟩
          cases e with
          | returned v => exact ih _ _ he
          | panicked ch => exact h2 _ _ _ (by simp) he
          | outgrown => exact lo he
        case row row args => exact ⟨hh.1, RowsIn.mono hh.2 fun v w'' he => ih _ _ he⟩
      | halt x w' =>
        cases x <;> simp only [Oper.uponIn] at hh ⊢
        case panic v => exact h2 _ _ _ (by simp) hh
    · rename_i hw
      rw [if_neg hw]
      exact ⟨h.1, ih _ _ h.2⟩
def FinDf (P : Program) (fn : Func) (m : St) (g : FuncId) (ds : List PV) (R : ARes → St → Prop) : APost
  | .normal, σ, m' => DCall P g ds m' none (fun m'' => ∃ p m3, ResP P fn.results.toList σ m'' p ∧ LvS m m'' m3 p.strip ∧ R (.ret p.strip) m3)
  | .ret, σ, m' => DCall P g ds m' none (fun m'' => ∃ p m3, ResP P fn.results.toList σ m'' p ∧ LvS m m'' m3 p.strip ∧ R (.ret p.strip) m3)
  | .pan pv, σ, m' => DCall P g ds m' (some pv) (fun m'' => ∃ p m3, ResP P fn.results.toList σ m'' p ∧ LvS m m'' m3 p.strip ∧ R (.ret p.strip) m3)
  | _, _, _ => False
section
variable {P : Program} {m m' m'' : St} {Γ Γ' : Ctx} {w w' : World}
theorem ACall.of_defer {f : FuncId} {fn : Func} {N id : Nat} {A B : Code} {pre : List Oper} {fo : Operand} {dargs : Array Operand} {ts : Array TypeId} {ty : TypeId} {pos : String} {after : Array Edge} {ops : Array Oper} {args : List PV} {R : ARes → St → Prop} (hf : P.funcs[f]? = some fn) (hN : fn.ntmps = N)
    (hb : fn.body = some (.seq A (.seq (.region id ops false) B))) (hops : ops.toList = pre ++ [⟨none, .defer ⟨.value fo, dargs, ts⟩, ty, pos, after, none⟩]) (hn : (fn.name == "runtime.NumGoroutine") = false) (ha : args.length ≤ N)
    (h : AW P N A (AExit.then (fun σ m1 => AList P N ops (AExit.then (fun σ2 m2 => ∃ g first caps, Ab.opv σ2 fo = .clo g first caps ∧ AW P N B (FinDf P fn m g (first ++ dargs.toList.map (Ab.opv σ2) ++ caps) R) σ2 m2) (fun _ _ _ => False)) pre σ m1) (fun _ _ _ => False)) (slots0 args) m) : ACall P f args m R := by
  subst hN
  refine ⟨⟨fn, _, hf, hb, hn⟩, fun Γ w us hm hr => ?_⟩
  have hl : us.length = args.length := LRep.len _ _ hr
  refine callsIn_wide.1 (callsIn_of_wp_marks (F := Fence.wide) (n := 0) hf hb trivial ?_)
  refine wpIn_seq (wpIn_mono (h (Γ.withX (Γ.x.into w.heap.size)) { tmps := us.toArray ++ Array.replicate (fn.ntmps - us.toArray.size) undef, defers := [] } w ⟨?_, ⟨[], rfl, List.nodup_nil, fun _ h => by cases h⟩, hm.withX _ hm.xs.into, fun t => ?_⟩) ?_)
  · simp; omega
  · refine VRep.withX ?_ _
    unfold slots0
    by_cases ht : t < args.length
    · rw [List.getD_eq_getElem?_getD, List.getElem?_eq_getElem ht]
      obtain ⟨u, h1, h2⟩ := LRep.get _ _ hr t _ (List.getElem?_eq_getElem ht)
      have : (us.toArray ++ Array.replicate (fn.ntmps - us.toArray.size) undef).getD t undef = u := by
        rw [Array.getD_eq_getD_getElem?, Array.getElem?_append_left (by simp; omega)]
        simp [h1]
      rw [this]
      exact h2
    · rw [List.getD_eq_getElem?_getD, List.getElem?_eq_none (by omega)]
      trivial
  -- behind A
  rintro e₁ a₁ w₁ ⟨x₁, σ₁, m₁, Γ₁, h1, h2, h3, h4, h5⟩
  cases x₁ <;> simp only [AExit.then] at h1
  cases e₁ <;> simp only [XRep] at h2
  simp only [Exit.then]
  refine wpIn_seq (wpIn_region_list ?_)
  have hrnd1 : Γ₁.x.rnd = none := h4.x.rnd
  have hA := h1 Γ₁ a₁ w₁ h3
  rw [hrnd1] at hA
  rw [hops]
  refine wpListIn_app (Q' := fun e a w => match e with | .normal => ∃ σ₂ m₂ Γ₂, (∃ g first caps, Ab.opv σ₂ fo = .clo g first caps ∧ AW P fn.ntmps B (FinDf P fn m g (first ++ dargs.toList.map (Ab.opv σ₂) ++ caps) R) σ₂ m₂) ∧ Sim Γ₂ fn.ntmps σ₂ m₂ a w ∧ Γ₁.le Γ₂ ∧ Keeps Γ₁ w₁ w | _ => False) ?_ (fun e a w hne hq => by cases e <;> first | exact (hne rfl).elim | exact hq.elim) pre a₁ w₁ ?_
  rotate_left
  · refine wpList_mono (Q := Post Γ₁ w₁ fn.ntmps _) ?_ pre a₁ w₁ hA
    rintro e a w₂ ⟨x₂, σ₂, m₂, Γ₂, k1, k2, k3, k4, k5⟩
    cases x₂ <;> simp only [AExit.then] at k1
    cases e <;> simp only [XRep] at k2
    exact ⟨σ₂, m₂, Γ₂, k1, k3, k4, k5⟩
  -- the defer statement
  rintro a₂ w₂ ⟨σ₂, m₂, Γ₂, ⟨g, first, caps, hfo, hB⟩, k3, k4, k5⟩
  have hvf := k3.opv fo
  rw [hfo] at hvf
  obtain ⟨fs, cs, hef, hf1, hf2⟩ := hvf
  obtain ⟨d, hd⟩ : ∃ d : Deferred, d = { target := .fn (.func g) cs, args := fs ++ dargs.map a₂.eval } := ⟨_, rfl⟩
  have hrun : (execOp a₂.eval ⟨none, .defer ⟨.value fo, dargs, ts⟩, ty, pos, after, none⟩).run P w₂ = .ok (.defer d) w₂ := by
    subst hd
    simp only [execOp, resolve, Deferred.ofValue, hef, Sem.run_bind, Sem.run_pure, Result.andThen_ok]
  unfold wpListIn
  rw [if_pos (by simp [Region.wanted])]
  refine ⟨fun _ _ => trivial, ?_⟩
  have hsem : Oper.semAt (FW none).round a₂.eval ⟨none, .defer ⟨.value fo, dargs, ts⟩, ty, pos, after, none⟩ = execOp a₂.eval ⟨none, .defer ⟨.value fo, dargs, ts⟩, ty, pos, after, none⟩ := rfl
  have hfw : Fence.wide = FW none := rfl
  rw [hfw, hsem, hrun]
  simp only [Oper.uponIn, wpListIn, Exit.then, Act.put]
  -- the rest of the body, in a context that holds the deferred call
  obtain ⟨ms, hd1, hd2, hd3⟩ := k3.defers
  have l02 := h4.trans k4
  have kk02 : Keeps (Γ.withX (Γ.x.into w.heap.size)) w w₂ := h5.trans h4 k5
  have hfd : Γ₂.x.fd = [] := l02.x.fd
  have hdlo : Γ₂.x.dlo = w.heap.size := l02.x.dlo
  have hrnd2 : Γ₂.x.rnd = none := l02.x.rnd
  rw [hfd, List.append_nil] at hd1
  obtain ⟨x3, hx3⟩ : ∃ x3 : CtxX, x3 = { Γ₂.x with dlo := w₂.heap.size, fd := d :: a₂.defers } := ⟨_, rfl⟩
  have hxs3 : XSim (Γ₂.withX x3) w₂ := by
    subst hx3
    exact ⟨k3.mem.xs.mark, k3.mem.xs.lps, k3.mem.xs.rnd, Nat.le_refl _⟩
  have hm3 := k3.mem.withX x3 hxs3
  have hsim3 : Sim (Γ₂.withX x3) fn.ntmps σ₂ m₂ { a₂ with defers := d :: a₂.defers } w₂ := by
    refine ⟨k3.size, ⟨[], by subst hx3; rfl, List.nodup_nil, fun _ q => by cases q⟩, hm3, fun t => VRep.withX (k3.slots t) x3⟩
  have hB' := hB (Γ₂.withX x3) _ w₂ hsim3
  have hr3 : (Γ₂.withX x3).x.rnd = none := by subst hx3; exact hrnd2
  rw [hr3] at hB'
  refine wpIn_mono hB' ?_
  rintro e a' w' ⟨x, σ', m', Γ', g1, g2, g3, g4, g5⟩
  obtain ⟨ms', j1, j2, j3⟩ := g3.defers
  have hfd' : Γ'.x.fd = d :: a₂.defers := by rw [g4.x.fd]; subst hx3; rfl
  have hdlo' : Γ'.x.dlo = w₂.heap.size := by rw [g4.x.dlo]; subst hx3; rfl
  rw [hfd'] at j1
  -- the marks of B, of A
  have hsz : w.heap.size ≤ w₂.heap.size := kk02.below.size
  have hsz' : w₂.heap.size ≤ w'.heap.size := g5.below.size
  have hbase2 : Γ₂.base = Γ.base := l02.base
  have hbase' : Γ'.base = Γ.base := g4.base.trans hbase2
  -- memory with the caller's marks and those of A
  have hmarkA : ∀ D ∈ ms, Γ₂.x.mark D ∧ w.heap.size ≤ D ∧ D < w₂.heap.size := fun D hD => by
    obtain ⟨a, b⟩ := hd3 D hD
    exact ⟨a, by omega, (Array.getElem?_eq_some_iff.1 (k3.mem.xs.mark D a).2).1⟩
  obtain ⟨x4, hx4⟩ : ∃ x4 : CtxX, x4 = ⟨fun D => Γ.x.mark D ∨ D ∈ ms, Γ.x.lps, Γ.x.dlo, Γ.x.rnd, Γ.x.fd⟩ := ⟨_, rfl⟩
  have hmarks' : ∀ D, Γ₂.x.mark D → Γ'.x.mark D := fun D hD => g4.x.mark D (by subst hx3; exact hD)
  have hlps' : ∀ D, Γ.x.lps D → Γ'.x.lps D := fun D hD => g4.x.lps D (by subst hx3; exact l02.x.lps D hD)
  have hxs4 : XSim (Γ'.withX x4) w' := by
    subst hx4
    refine ⟨fun D hD => ?_, fun l hl => g3.mem.xs.lps l (hlps' l hl), fun l hl => hm.xs.rnd l hl, by have := hm.xs.dlo; show Γ.x.dlo ≤ _; omega⟩
    rcases hD with hD | hD
    · exact g3.mem.xs.mark D (hmarks' D (l02.x.mark D hD))
    · exact g3.mem.xs.mark D (hmarks' D (hmarkA D hD).1)
  have hm4 := g3.mem.withX x4 hxs4
  have hms4 : ∀ D ∈ ms', w'.heap[D]? = some (.deferred (some [])) ∧ (Γ'.withX x4).base ≤ D ∧ ¬ (Γ'.withX x4).x.mark D := fun D hD => by
    obtain ⟨a, b⟩ := g3.mem.xs.mark D (j3 D hD).1
    refine ⟨b, a, fun q => ?_⟩
    have h7 := (j3 D hD).2
    rw [hdlo'] at h7
    subst hx4
    rcases q with q | q
    · have h6 := (Array.getElem?_eq_some_iff.1 (hm.xs.mark D q).2).1
      omega
    · have := (hmarkA D q).2.2
      omega
  have hdrep : LRep (Γ'.withX x4) w' (first ++ dargs.toList.map (Ab.opv σ₂) ++ caps) (fs ++ dargs.map a₂.eval ++ cs).toList := by
    have q1 : LRep Γ₂ w₂ (first ++ dargs.toList.map (Ab.opv σ₂) ++ caps) (fs ++ dargs.map a₂.eval ++ cs).toList := by
      simp only [Array.toList_append, Array.toList_map]
      exact LRep.append _ _ _ _ (LRep.append _ _ _ _ hf1 (mapRep k3.opv _)) hf2
    have q2 : LRep (Γ₂.withX x3) w₂ _ _ := LRep.cut (x₀ := x3) (nl := Γ₂.nloc) (nt := Γ₂.ntok) _ _ (LRep.sc _ _ q1) q1
    have q3 := LRep.mono g4 g5 _ _ q2
    exact LRep.cut (x₀ := x4) (nl := Γ'.nloc) (nt := Γ'.ntok) _ _ (LRep.sc _ _ q3) q3
  have hslots4 : ∀ t, VRep (Γ'.withX x4) w' (σ' t) (a'.tmps.getD t undef) := fun t => VRep.withX (g3.slots t) x4
  have hkeep4 : Keeps Γ w w' := ⟨by have q := kk02.below.trans (show Below (Γ.withX (Γ.x.into w.heap.size)).base w₂ w' from by have := g5.below; rw [show (Γ₂.withX x3).base = (Γ.withX (Γ.x.into w.heap.size)).base from hbase2] at this; exact this); exact q, fun b o q => (g5.imm b o (l02.imm b o q)).trans (kk02.imm b o q)⟩
  have l04 : (Γ.withX Γ.x).le (Γ'.withX Γ.x) := by
    have l3 : (Γ₂.withX x3).le Γ' := g4
    refine ⟨hbase', Nat.le_trans l02.nloc l3.nloc, fun n hn => (l3.loc n (Nat.lt_of_lt_of_le hn l02.nloc)).trans (l02.loc n hn), fun b o q => l3.imm b o (l02.imm b o q), Nat.le_trans l02.ntok l3.ntok, fun k hk => ?_, fun k hk => (l3.wd k (Nat.lt_of_lt_of_le hk l02.ntok)).trans (l02.wd k hk), CtxX.le.refl _, fun b o q => (l3.immb b o q).elim (l02.immb b o) (fun r => .inr (by rw [show (Γ₂.withX x3).base = Γ.base from hbase2] at r; exact r))⟩
    rcases l02.tok k hk with ⟨t1, t2, t3⟩ | t1 <;> rcases l3.tok k (Nat.lt_of_lt_of_le hk l02.ntok) with ⟨u1, u2, u3⟩ | u1
    · exact .inl ⟨u1.trans t1, u2.trans t2, u3.trans t3⟩
    · exact .inr (by rw [show (Γ₂.withX x3).top k = Γ₂.top k from rfl, t1] at u1; exact u1)
    · exact .inr (by rw [show (Γ₂.withX x3).top k = Γ₂.top k from rfl] at u1; exact u1 ▸ t1)
    · exact .inr (Nat.lt_trans t1 u1)
  -- the way out
  have out : ∀ (pn : Option PV) (u : FrameMode), u ≠ .run → DMode (Γ'.withX x4) w' pn u →
      DCall P g (first ++ dargs.toList.map (Ab.opv σ₂) ++ caps) m' pn (fun m'' => ∃ p m3, ResP P fn.results.toList σ' m'' p ∧ LvS m m'' m3 p.strip ∧ R (.ret p.strip) m3) →
      LeavesInM Fence.wide 0 P fn a'.tmps (fun e w' => ∃ r m' Γ', R r m' ∧ ERep Γ' w' r e ∧ Γ.le Γ' ∧ Keeps Γ w w' ∧ MemSim Γ' m' w') a'.defers u w' := by
    intro pn u hu hmode hdc
    rw [j1]
    refine leavesM hu ms' w' j2 hms4 hm4 fun w₃ hm5 hk5 => ?_
    have hmode3 : DMode (Γ'.withX x4) w₃ pn u := by
      cases pn with
      | none => exact hmode
      | some p => obtain ⟨v, e, hv⟩ := hmode; exact ⟨v, e, VRep.mono (Ctx.le.refl _) hk5 _ _ hv⟩
    have hcall := hdc.2 (Γ'.withX x4) w₃ _ u hm5 (LRep.mono (Ctx.le.refl _) hk5 _ _ hdrep) hmode3
    rw [Array.toArray_toList] at hcall
    refine ⟨hu, .inr ⟨fun q => by simp [Fence.wide] at q, .func g, cs, g, fs ++ dargs.map a₂.eval ++ cs, by rw [hd], ?_, fun _ _ => trivial, ?_⟩⟩
    · rw [hd]; simp only [invoke]; exact run_callFunc hdc.1 _
    refine hcall.mono ?_
    rintro e u' w₄ ⟨v, m5, Γ₅, rfl, hset, ⟨p, m6, hp, hlv, hR⟩, hle5, hk6, hm6⟩
    simp only
    rw [hset, hd1]
    -- the marks of A
    have hkA : ∀ D, x4.mark D → Γ₅.x.mark D := fun D hD => hle5.x.mark D hD
    obtain ⟨G, hG⟩ : ∃ G : Ctx, G = Γ₅.withX Γ.x := ⟨_, rfl⟩
    have hsz4 : w.heap.size ≤ w₄.heap.size := by have := hk5.below.size; have := hk6.below.size; omega
    have hxs5 : XSim G w₄ := by
      subst hG
      refine ⟨fun D hD => hm6.xs.mark D (hkA D (by subst hx4; exact .inl hD)), fun l hl => hm6.xs.lps l (hle5.x.lps l (by subst hx4; exact hl)), fun l hl => hm.xs.rnd l hl, by have := hm.xs.dlo; show Γ.x.dlo ≤ _; omega⟩
    have hm7 : MemSim G m5 w₄ := by subst hG; exact hm6.withX Γ.x (by exact hxs5)
    have hbase5 : G.base = Γ.base := by subst hG; exact hle5.base.trans hbase'
    rw [← List.append_nil (ms.map _)]
    refine leavesM (Γ := G) (by simp) ms w₄ hd2 (fun D hD => ?_) hm7 fun w₅ hm8 hk8 => ?_
    · obtain ⟨a, b⟩ := hm6.xs.mark D (hkA D (by subst hx4; exact .inr hD))
      refine ⟨b, by rw [hbase5, ← hle5.base.trans hbase']; exact a, fun q => ?_⟩
      have q' : Γ.x.mark D := by subst hG; exact q
      have h6 := (Array.getElem?_eq_some_iff.1 (hm.xs.mark D q').2).1
      have := (hmarkA D hD).2.1
      omega
    · have l5 : (Γ.withX Γ.x).le G := by
        subst hG
        have l6 : (Γ'.withX Γ.x).le (Γ₅.withX Γ.x) := ⟨hle5.base, hle5.nloc, hle5.loc, hle5.imm, hle5.ntok, hle5.tok, hle5.wd, CtxX.le.refl _, hle5.immb⟩
        exact l04.trans l6
      have hx₃ : XSim (G.cut Γ.x m6.nloc m6.ntok) w₅ := by
        have := hm8.xs
        subst hG
        exact ⟨this.mark, this.lps, this.rnd, this.dlo⟩
      obtain ⟨q6, q7⟩ := hlv.sim hm l5 hx₃ hm8
      have hk45 : Keeps (Γ'.withX x4) w' w₄ := hk5.trans (Ctx.le.refl _) hk6
      have hkf : Keeps Γ w w₅ := by
        refine ⟨hkeep4.below.trans ?_, fun b o q => ?_⟩
        · have q1 := hk45.below
          rw [show (Γ'.withX x4).base = Γ.base from hbase'] at q1
          have q2 := hk8.below
          rw [hbase5] at q2
          exact q1.trans q2
        · have i1 : Γ'.imm b o := g4.imm b o (l02.imm b o q)
          have i2 : G.imm b o := by subst hG; exact hle5.imm b o i1
          exact ((hk8.imm b o i2).trans (hk45.imm b o i1)).trans (hkeep4.imm b o q)
      have hsl : ∀ t, VRep G w₅ (σ' t) (a'.tmps.getD t undef) := fun t => by
        have q1 := VRep.mono hle5 hk45 _ _ (hslots4 t)
        have q2 : VRep G w₄ (σ' t) (a'.tmps.getD t undef) := by subst hG; exact VRep.withX q1 Γ.x
        exact VRep.mono (Ctx.le.refl _) hk8 _ _ q2
      obtain ⟨rv, hrv, hrep⟩ := ResP_run (P := P) hsl hm8 hp
      refine ⟨rv, hrv, .ret p.strip, m6, _, hR, ?_, q7, hkf, q6⟩
      exact VRep.cut (Γ := G) _ _ (hlv.sc hm8 (VRep.strip _ _ hrep)) (VRep.strip _ _ hrep)
  cases x <;> cases e <;> simp only [XRep] at g2 <;> simp only [FinDf] at g1
  case normal.normal => exact out none .returning (by simp) rfl g1
  case ret.ret => exact out none .returning (by simp) rfl g1
  case pan.panic p ch =>
    obtain ⟨v, rfl, hv⟩ := g2
    exact out (some p) _ (by simp) ⟨v, rfl, VRep.withX hv x4⟩ g1
end
end Go.Ab
namespace Go.Ab
open Go.RowKit
section
variable {P : Program} {m : St} {K Kp : PV → St → Prop}
theorem tifc_und {t : TypeId} (h : tifc P t = true) : ∃ ms, P.underlying t = some (.interface ms) := by
  unfold tifc at h
  split at h
  · rename_i ms hd; exact ⟨ms, hd⟩
  · cases h
theorem run_equalIn_ifaceNil {t u : TypeId} {ms : Array (String × TypeId)} {v : Value} (w : World) (d : Nat) (hd : P.underlying t = some (.interface ms)) : (Op.equalIn (d + 1) t (.iface u v) .nilIface).run P w = .ok false w := by
  simp [Op.equalIn, run_underlying hd]
theorem run_equalIn_nilNil {t : TypeId} {ms : Array (String × TypeId)} (w : World) (d : Nat) (hd : P.underlying t = some (.interface ms)) : (Op.equalIn (d + 1) t .nilIface .nilIface).run P w = .ok true w := by
  simp [Op.equalIn, run_underlying hd]
theorem op_ifaceNil {o : Oper} {x : Operand} {t yt u : TypeId} {y : PV} {ρ : Operand → PV} (ho : o.op = .binOp .eql t x (.const .nilIface) yt) (ht : tifc P t = true) (hx : ρ x = .iface u y) (hn : ρ (.const .nilIface) = .v .nilIface) (h : K (.v (.bool false)) m) : OpOK P o ρ m K Kp := by
  intro Γ ev w hm hv
  have h1 := hv x
  rw [hx] at h1
  obtain ⟨v, h1, _⟩ := h1
  have h2 := hv (.const .nilIface)
  rw [hn] at h2
  replace h2 : ev (.const .nilIface) = .nilIface := h2
  obtain ⟨ms, hd⟩ := tifc_und ht
  have hg := run_eqGuard_bool (P := P) (w := w) .eql t x (.const .nilIface) (.iface u v) .nilIface (by simp) (by simp)
  have hr : (binOp .eql t (.iface u v) .nilIface).run P w = .ok (.bool false) w := by
    simp only [binOp]
    simp [Op.equal, Op.maxDepth, run_equalIn_ifaceNil w 9999 hd]
  simp only [execOp, ho, h1, h2, Sem.run_bind, hg, Result.andThen_ok, hr, Sem.run_pure, Up]
  exact .same hm h rfl
theorem op_nilNil {o : Oper} {x : Operand} {t yt : TypeId} {ρ : Operand → PV} (ho : o.op = .binOp .eql t x (.const .nilIface) yt) (ht : tifc P t = true) (hx : ρ x = .v .nilIface) (hn : ρ (.const .nilIface) = .v .nilIface) (h : K (.v (.bool true)) m) : OpOK P o ρ m K Kp := by
  intro Γ ev w hm hv
  have h1 := hv x
  rw [hx] at h1
  replace h1 : ev x = .nilIface := h1
  have h2 := hv (.const .nilIface)
  rw [hn] at h2
  replace h2 : ev (.const .nilIface) = .nilIface := h2
  obtain ⟨ms, hd⟩ := tifc_und ht
  have hr : (binOp .eql t .nilIface .nilIface).run P w = .ok (.bool true) w := by
    simp only [binOp]
    simp [Op.equal, Op.maxDepth, run_equalIn_nilNil w 9999 hd]
  have hg : (eqGuard .eql t x (.const .nilIface) .nilIface .nilIface).run P w = .ok () w := by
    unfold eqGuard
    cases x <;> simp [Sem.run_bind, Sem.run_pure]
  simp only [execOp, ho, h1, h2, Sem.run_bind, hg, Result.andThen_ok, hr, Sem.run_pure, Up]
  exact .same hm h rfl
theorem op_assert {o : Oper} {x : Operand} {xt t : TypeId} {y : PV} {ρ : Operand → PV} (ho : o.op = .typeAssert x xt t true) (ht : tconc P t = true) (hx : ρ x = .iface t y) (h : K (.tup [y, .v (.bool true)]) m) : OpOK P o ρ m K Kp := by
  intro Γ ev w hm hv
  have h1 := hv x
  rw [hx] at h1
  obtain ⟨v, h1, hy⟩ := h1
  have hr : (Instr.typeAssert (.iface t v) xt t true).run P w = .ok (.tuple #[v, .bool true]) w := by
    unfold tconc at ht
    split at ht
    · cases ht
    · rename_i d hne hd
      simp only [Instr.typeAssert, Sem.run_bind, run_underlying hd, Result.andThen_ok]
      cases d <;> first | exact (hne _ rfl).elim | (simp; done)
    · cases ht
  simp only [execOp, ho, h1, Sem.run_bind, hr, Result.andThen_ok, Sem.run_pure, Up]
  exact .same hm h ⟨_, rfl, v, _, rfl, hy, _, _, rfl, rfl, rfl⟩
theorem AList.opK {N : Nat} {ops : Array Oper} {Q : APost} {σ : Nat → PV} {d : Tmp} {op : Op} {ty : TypeId} {pos : String} {after : Array Edge} {rest : List Oper} (hd : d < N)
    (h : ∀ K Kp : PV → St → Prop, (∀ p m', AList P N ops Q rest (upd σ d p) m' → K p m') → (∀ p m', Q (.pan p) σ m' → Kp p m') → OpOK P ⟨some d, op, ty, pos, after, none⟩ (Ab.opv σ) m K Kp) :
    AList P N ops Q (⟨some d, op, ty, pos, after, none⟩ :: rest) σ m :=
  AList.step rfl (by simpa [dstOK] using hd) (h _ _ (fun _ _ h => h) (fun _ _ h => h))
end
end Go.Ab
namespace Go.Ab
open Go.RowKit
def St.putA (m : St) (k t : Nat) (cs : List PV) : St := { m with top := upd m.top k t, arr := upd m.arr k (some cs) }
def St.noA (m : St) (k : Nat) : St := { m with arr := upd m.arr k none }
def Ctx.putA (Γ : Ctx) (k t b cp' : Nat) : Ctx := { Γ with tok := upd Γ.tok k b, top := upd Γ.top k t, cp := upd Γ.cp k cp' }
theorem MemSim.putA {Γ : Ctx} {m : St} {w : World} (h : MemSim Γ m w) {k t b cp' : Nat} {cs : List PV} {c c0 : List Value} (hk : k < m.ntok) (hb : Γ.base ≤ b) (hni : ∀ o, ¬ Γ.imm b o)
    (htk : ∀ k', k' < m.ntok → k' ≠ k → m.top k' < DEAD → Γ.tok k' ≠ b) (hlc : ∀ n cs, n < m.nloc → m.loc n = some cs → Γ.loc n ≠ b) (hblk : Blk w b c) (hcl : c.length = cp' * Γ.wd k)
    (hblk0 : Blk w b c0) (hr : LRep Γ w cs c0) (h1 : ∀ u ∈ c0, u.oneCell' = true) (hcs : cs.length = t * m.wd k) (hle : (t = Γ.top k ∧ b = Γ.tok k ∧ cp' = Γ.cp k) ∨ Γ.top k < t) :
    Γ.le (Γ.putA k t b cp') ∧ MemSim (Γ.putA k t b cp') (m.putA k t cs) w := by
  have l : Γ.le (Γ.putA k t b cp') := by
    refine ⟨rfl, Nat.le_refl _, fun _ _ => rfl, fun _ _ h => h, Nat.le_refl _, fun k' hk' => ?_, fun _ _ => rfl, CtxX.le.refl _, fun _ _ h => .inl h⟩
    by_cases e : k' = k
    · subst e
      rcases hle with ⟨rfl, rfl, rfl⟩ | hlt
      · left; exact ⟨upd_same _ _ _, upd_same _ _ _, upd_same _ _ _⟩
      · right; show Γ.top k' < upd Γ.top k' _ k'; rw [upd_same]; exact hlt
    · left; exact ⟨upd_ne _ _ _ _ e, upd_ne _ _ _ _ e, upd_ne _ _ _ _ e⟩
  have hdd : ∀ k', k' ≠ k → (m.putA k t cs).top k' < DEAD → m.top k' < DEAD := fun k' hk' hd => by
    have e : (m.putA k t cs).top k' = m.top k' := upd_ne _ _ _ _ hk'
    rwa [e] at hd
  refine ⟨l, ⟨h.nloc, h.ntok, ?_, ?_, h.apart, h.inj, h.immlt, h.base, ?_, ?_, ?_, ?_, ?_, h.lps.mono l (Keeps.refl _ _) h.nloc (fun n L a b => ⟨a, b⟩) (fun n' L a b => rfl), h.its.mono l h.nloc (fun n x a b => ⟨a, b⟩) (fun _ _ q _ => q), h.xs.mono rfl rfl (fun _ _ q _ => q)⟩⟩
  · intro k' hk'
    show upd Γ.top k t k' = upd m.top k t k' ∧ Γ.wd k' = m.wd k'
    have := h.top k' hk'
    by_cases e : k' = k
    · subst e; simp [upd_same, this]
    · simp [upd_ne _ _ _ _ e, this]
  · intro n cs' hn hc'
    obtain ⟨c', h1, h2, h3⟩ := h.locs n cs' hn hc'
    exact ⟨c', h1, LRep.mono l (Keeps.refl _ _) _ _ h2, h3⟩
  · intro k' hk' hd
    show ∃ c, Blk _ (upd Γ.tok k b k') c ∧ c.length = upd Γ.cp k cp' k' * Γ.wd k'
    by_cases e : k' = k
    · subst e; rw [upd_same, upd_same]; exact ⟨c, hblk, hcl⟩
    · rw [upd_ne _ _ _ _ e, upd_ne _ _ _ _ e]; exact h.toks k' hk' (hdd k' e hd)
  · intro k' hk' hd
    show Γ.base ≤ upd Γ.tok k b k' ∧ ∀ o, Γ.imm (upd Γ.tok k b k') o → o < upd Γ.top k t k' * Γ.wd k'
    by_cases e : k' = k
    · subst e; rw [upd_same]; exact ⟨hb, fun o ho => absurd ho (hni o)⟩
    · rw [upd_ne _ _ _ _ e, upd_ne _ _ _ _ e]; exact h.tapart k' hk' (hdd k' e hd)
  · intro k1 k2 a1 a2 d1 d2 hq
    replace hq : upd Γ.tok k b k1 = upd Γ.tok k b k2 := hq
    by_cases e1 : k1 = k <;> by_cases e2 : k2 = k
    · rw [e1, e2]
    · subst e1; rw [upd_same, upd_ne _ _ _ _ e2] at hq; exact absurd hq.symm (htk k2 a2 e2 (hdd k2 e2 d2))
    · subst e2; rw [upd_same, upd_ne _ _ _ _ e1] at hq; exact absurd hq (htk k1 a1 e1 (hdd k1 e1 d1))
    · rw [upd_ne _ _ _ _ e1, upd_ne _ _ _ _ e2] at hq; exact h.tinj k1 k2 a1 a2 (hdd k1 e1 d1) (hdd k2 e2 d2) hq
  · intro k' n cs' hk' hd hn hc'
    show upd Γ.tok k b k' ≠ Γ.loc n
    by_cases e : k' = k
    · subst e; rw [upd_same]; exact fun q => hlc n cs' hn hc' q.symm
    · rw [upd_ne _ _ _ _ e]; exact h.tloc k' n cs' hk' (hdd k' e hd) hn hc'
  · intro k' ds hk' hd hq
    replace hq : upd m.arr k (some cs) k' = some ds := hq
    show (∀ o, ¬ Γ.imm (upd Γ.tok k b k') o) ∧ ds.length = upd m.top k t k' * m.wd k' ∧ ∃ c, Blk w (upd Γ.tok k b k') c ∧ LRep _ w ds c ∧ _
    by_cases e : k' = k
    · subst e
      rw [upd_same] at hq ⊢
      rw [upd_same]
      cases hq
      exact ⟨hni, hcs, c0, hblk0, LRep.mono l (Keeps.refl _ _) _ _ hr, h1⟩
    · rw [upd_ne _ _ _ _ e] at hq ⊢
      rw [upd_ne _ _ _ _ e]
      obtain ⟨h0, hl, c, h1, h2, h3⟩ := h.arrs k' ds hk' (hdd k' e hd) hq
      exact ⟨h0, hl, c, h1, LRep.mono l (Keeps.refl _ _) _ _ h2, h3⟩
theorem setCell_blkL {w : World} {b : Nat} {c : List Value} (h : Blk w b c) (off : Nat) (u : Value) : ∃ c', c'.length = c.length ∧ Blk (w.setCell ⟨b, off, none⟩ u) b c' := by
  obtain ⟨e, a, h, d, hd⟩ := h
  refine ⟨((c ++ d).set off u).take c.length, by simp, e, a.setIfInBounds off u, by simp only [World.setCell, Array.getElem?_modify, if_true, h]; rfl, ((c ++ d).set off u).drop c.length, ?_⟩
  rw [Array.toList_setIfInBounds, hd, List.take_append_drop]
theorem setCells_blkL {b : Nat} : ∀ (us : List Value) (w : World) (off : Nat) (c : List Value), Blk w b c → ∃ c', c'.length = c.length ∧ Blk (setCells w b off us) b c'
  | [], w, off, c, h => ⟨c, rfl, h⟩
  | u :: us, w, off, c, h => by
    obtain ⟨c1, e1, h1⟩ := setCell_blkL h off u
    obtain ⟨c2, e2, h2⟩ := setCells_blkL us _ (off + 1) c1 h1
    exact ⟨c2, e2.trans e1, h2⟩
theorem MemSim.tokWrite {Γ : Ctx} {m : St} {w : World} (h : MemSim Γ m w) {k off : Nat} {us : List Value} (hk : k < m.ntok) (hlv : m.top k < DEAD) (hni : ∀ o, ¬ Γ.imm (Γ.tok k) o) : MemSim Γ (m.noA k) (setCells w (Γ.tok k) off us) ∧ Keeps Γ w (setCells w (Γ.tok k) off us) := by
  obtain ⟨hb, _⟩ := h.tapart k hk hlv
  have hkp : Keeps Γ w (setCells w (Γ.tok k) off us) := ⟨setCells_below hb us w _, fun b o ho => by
    by_cases e : b = Γ.tok k
    · subst e; exact absurd ho (hni o)
    · exact cellAt_of_heap (setCells_heap us w _ b e) o⟩
  have l := Ctx.le.refl Γ
  obtain ⟨c, hblk, hcl⟩ := h.toks k hk hlv
  refine ⟨⟨h.nloc, h.ntok, h.top, ?_, h.apart, h.inj, ?_, ?_, ?_, h.tapart, h.tinj, h.tloc, ?_, h.lps.mono l hkp h.nloc (fun n L a b => ⟨a, b⟩) (fun n' L a b => setCells_heap us w _ _ fun e => h.lps.not_blk a b (e ▸ hblk)), h.its.mono l h.nloc (fun n x a b => ⟨a, b⟩) (heap_keep_cells hblk us _), h.xs.mono rfl rfl (heap_keep_cells hblk us _)⟩, hkp⟩
  · intro n cs' hn hc'
    obtain ⟨c', h1, h2, h3⟩ := h.locs n cs' hn hc'
    exact ⟨c', h1.of_heap (setCells_heap us w _ _ (fun e => h.tloc k n cs' hk hlv hn hc' e.symm)), LRep.mono l hkp _ _ h2, h3⟩
  · intro b o ho; rw [setCells_size]; exact h.immlt b o ho
  · rw [setCells_size]; exact h.base
  · intro k' hk' hd
    by_cases e : k' = k
    · subst e
      obtain ⟨c', e1, h1⟩ := setCells_blkL us w off c hblk
      exact ⟨c', h1, e1.trans hcl⟩
    · obtain ⟨c', h1, h2⟩ := h.toks k' hk' hd
      exact ⟨c', h1.of_heap (setCells_heap us w _ _ (fun q => e (h.tinj k' k hk' hk hd hlv q))), h2⟩
  · intro k' ds hk' hd hq
    replace hq : upd m.arr k none k' = some ds := hq
    by_cases e : k' = k
    · subst e; rw [upd_same] at hq; cases hq
    rw [upd_ne _ _ _ _ e] at hq
    obtain ⟨h0, hl, c, h1, h2, h3⟩ := h.arrs k' ds hk' hd hq
    exact ⟨h0, hl, c, h1.of_heap (setCells_heap us w _ _ (fun q => e (h.tinj k' k hk' hk hd hlv q))), LRep.mono l hkp _ _ h2, h3⟩
theorem St.putA_noA (m : St) (k t : Nat) (cs : List PV) : (m.noA k).putA k t cs = m.putA k t cs := by
  have : upd (upd m.arr k none) k (some cs) = upd m.arr k (some cs) := by funext i; simp only [upd]; split <;> rfl
  simp [St.putA, St.noA, this]
section
variable {P : Program} {m : St} {K Kp : PV → St → Prop} {Γ : Ctx} {w : World}
theorem MemSim.writeA (hm : MemSim Γ m w) {k off t : Nat} {cs : List PV} {us c0 : List Value} (hk : k < m.ntok) (hlv : m.top k < DEAD) (hni : ∀ o, ¬ Γ.imm (Γ.tok k) o)
    (hblk : Blk (setCells w (Γ.tok k) off us) (Γ.tok k) c0) (hr : LRep Γ w cs c0) (h1 : ∀ u ∈ c0, u.oneCell' = true) (hcs : cs.length = t * m.wd k) (hle : t = m.top k ∨ m.top k < t) :
    Γ.le (Γ.putA k t (Γ.tok k) (Γ.cp k)) ∧ Keeps Γ w (setCells w (Γ.tok k) off us) ∧ MemSim (Γ.putA k t (Γ.tok k) (Γ.cp k)) (m.putA k t cs) (setCells w (Γ.tok k) off us) := by
  obtain ⟨m1, kp⟩ := hm.tokWrite (us := us) (off := off) hk hlv hni
  obtain ⟨ht1, ht2⟩ := hm.top k hk
  obtain ⟨c, b1, b2⟩ := m1.toks k hk hlv
  obtain ⟨l, m2⟩ := m1.putA (k := k) (t := t) (b := Γ.tok k) (cp' := Γ.cp k) (cs := cs) hk (hm.tapart k hk hlv).1 hni (fun k' a e d q => e (hm.tinj k' k a hk d hlv q))
    (fun n cs a b q => hm.tloc k n cs hk hlv a b q.symm) b1 b2 hblk (LRep.mono (Ctx.le.refl Γ) kp _ _ hr) h1 hcs (hle.imp (fun q => ⟨by rw [q, ht1], rfl, rfl⟩) (fun q => by rw [ht1]; exact q))
  rw [St.putA_noA] at m2
  exact ⟨l, kp, m2⟩
theorem MemSim.moveA (hm : MemSim Γ m w) {k t cp' : Nat} {cs : List PV} {us : Array Value} {c0 d0 : List Value} (e : TypeId) (hk : k < m.ntok) (hu : us.toList = c0 ++ d0) (hr : LRep Γ w cs c0) (h1 : ∀ u ∈ c0, u.oneCell' = true)
    (hcp : cp' * m.wd k ≤ us.size) (hcs : cs.length = t * m.wd k) (hle : m.top k < t) :
    Γ.le (Γ.putA k t w.heap.size cp') ∧ Keeps Γ w (w.alloc (.cells us e)) ∧ MemSim (Γ.putA k t w.heap.size cp') (m.putA k t cs) (w.alloc (.cells us e)) := by
  obtain ⟨m1, kp⟩ := hm.alloc_any (.cells us e)
  obtain ⟨ht1, ht2⟩ := hm.top k hk
  have hb : Blk (w.alloc (.cells us e)) w.heap.size us.toList := Blk.new w us e
  obtain ⟨l, m2⟩ := m1.putA (k := k) (t := t) (b := w.heap.size) (cp' := cp') (cs := cs) (c := us.toList.take (cp' * m.wd k)) (c0 := c0) hk hm.base (fun o q => Nat.lt_irrefl _ (hm.immlt _ _ q))
    (fun k' a e' d q => by obtain ⟨c, h3, _⟩ := hm.toks k' a d; have := h3.lt; omega) (fun n cs' a b q => by obtain ⟨c, h3, _⟩ := hm.locs n cs' a b; have := h3.lt; omega)
    (Blk.take (d := us.toList.drop (cp' * m.wd k)) (by rw [List.take_append_drop]; exact hb)) (by rw [ht2]; simp; omega) (Blk.take (d := d0) (hu ▸ hb)) (LRep.mono (Ctx.le.refl Γ) kp _ _ hr) h1 hcs (.inr (by rw [ht1]; exact hle))
  exact ⟨l, kp, m2⟩
theorem op_appendA {o : Oper} {c : Call} {x y : Operand} {t e : TypeId} {o2 : Own} {k len : Nat} {cs : List PV} {news : List (List PV)} {ρ : Operand → PV} (ho : o.op = .call c) (hc : c.callee = .builtin .append) (ha : c.args.toList = [x, y]) (hts : c.argTypes.toList = [t, t])
    (he : telem P t = some e) (ht : tinfo P e = true) (hz : (tzero P e).map (fun z => z.cells.size) = some (tsize P e))
    (hx : ρ x = .mtok k len) (hy : ρ y = .list o2 news) (hk : k < m.ntok) (hlv : m.top k < DEAD) (harr : m.arr k = some cs) (hlen : len = m.top k) (hwd : m.wd k = tsize P e)
    (hw2 : RowsW (tsize P e) news) (hby : (len + news.length) * tbytes P e ≤ 140737488355328) (h62 : len + news.length ≤ 4611686018427387904) (hpos : 0 < news.length)
    (h : K (.mtok k (len + news.length)) (m.putA k (len + news.length) (cs ++ PV.stripL news.flatten))) : OpOK P o ρ m K Kp := by
  intro Γ ev w hm hv
  obtain ⟨h0, hl, c0, g1, g2, g3⟩ := hm.arrs k cs hk hlv harr
  obtain ⟨ht1, ht2⟩ := hm.top k hk
  have h1 := hv x
  rw [hx] at h1
  obtain ⟨_, _, a, cap, h1, h2⟩ := h1
  obtain ⟨rfl, h2, h3⟩ := h2 (by rw [hlen, ht1])
  have h4 := hv y
  rw [hy] at h4
  obtain ⟨callee, args, argTypes⟩ := c
  simp only at hc ha hts
  subst hc
  have hargs : args.map ev = #[ev x, ev y] := by rw [← Array.toArray_toList (xs := args), ha]; simp
  have htys : argTypes = #[t, t] := by rw [← Array.toArray_toList (xs := argTypes), hts]
  suffices hs : ∃ r w', (Builtin.append_ #[t, t] o.type #[ev x, ev y]).run P w = .ok r w' ∧ Then Γ w K r w' by
    obtain ⟨r, w', h3, h4⟩ := hs
    simp only [execOp, ho, resolve, Sem.run_bind, Sem.run_pure, Result.andThen_ok, invoke, builtin, hargs, htys, h3, Up]
    exact h4
  have hd := telem_und he
  obtain ⟨i, hi⟩ := tinfo_info ht
  have hsz : i.size = tsize P e := by simp [tsize, Program.cellsOf, hi]
  have hbt : i.bytes = tbytes P e := by simp [tbytes, Program.bytesOf, hi]
  obtain ⟨z, hz1, hz2⟩ : ∃ z, tzero P e = some z ∧ z.cells.size = tsize P e := by
    cases hq : tzero P e with
    | none => simp [hq] at hz
    | some z => simp [hq] at hz; exact ⟨z, rfl, hz⟩
  have hiz : i.zero = some z := by simpa [tzero, hi] using hz1
  obtain ⟨b, cap2, e4, b1, b2, b3, b4⟩ := h4
  cases b with
  | none => have := b2 rfl; omega
  | some bd =>
    obtain ⟨hsb, hsr⟩ := b3 bd rfl
    replace hsb := hsb.resolve_left (by omega)
    obtain ⟨bb, boff, bs⟩ := bd
    simp only at hsb hsr
    subst hsb
    obtain ⟨nws, n1, n2, n3, n4⟩ := rows_read hw2 hsr
    have n2' := LRep.strip _ _ n2
    have e1 := LRep.len _ _ g2
    have hfl := hw2.flat
    have hsl : (PV.stripL news.flatten).length = news.length * tsize P e := by rw [PV.stripL_length, hfl]
    rw [h1, e4]
    rw [hwd, ← hlen] at hl
    have hcs : (cs ++ PV.stripL news.flatten).length = (len + news.length) * m.wd k := by rw [List.length_append, hl, hsl, hwd, Nat.add_mul]
    have hmem : ∀ u ∈ c0 ++ nws, u.oneCell' = true := fun u hu => (List.mem_append.1 hu).elim (g3 u) (n3 u)
    by_cases hroom : len + news.length ≤ cap
    · obtain ⟨cb, hblk, hcl⟩ := hm.toks k hk hlv
      have hfit : len * tsize P e + nws.length ≤ cb.length := by
        rw [n1, hcl, ht2, hwd, ← h2, ← Nat.add_mul]; exact Nat.mul_le_mul_right _ hroom
      have hrun := run_append_room_cells (P := P) (w := w) t o.type e i hd hi (Γ.tok k) 0 len cap ⟨bb, boff, none⟩ news.length cap2 nws (by rw [n1, hsz]) n4 n3 hroom
        (fun j hj => by
          show (cellAt w (Γ.tok k) (0 + len * i.size + j)).isSome = true
          rw [hsz]
          have hlt : 0 + len * tsize P e + j < cb.length := by omega
          rw [cellAt_blk hblk hlt, List.getElem?_eq_getElem hlt]; rfl)
        (fun j hj => hblk.frozen _)
      have hbk : Blk (setCells w (Γ.tok k) (len * tsize P e) nws) (Γ.tok k) (c0 ++ nws) := by
        have q1 := setCells_blk nws w (len * tsize P e) cb hfit hblk
        rw [setL_eq nws cb _ hfit] at q1
        have q2 : cb.take (len * tsize P e) = c0 := by
          obtain ⟨ea, ar, r1, d1, r2⟩ := hblk
          obtain ⟨ea', ar', r1', d1', r2'⟩ := g1
          rw [r1] at r1'
          cases r1'
          rw [r2] at r2'
          have : c0.length = len * tsize P e := by omega
          have q3 := congrArg (List.take (len * tsize P e)) r2'
          rw [List.take_append_of_le_length (by omega), ← this, List.take_left] at q3
          rw [← this]; exact q3
        rw [q2] at q1
        exact Blk.take q1
      obtain ⟨l, kp, m2⟩ := hm.writeA (k := k) (off := len * tsize P e) (t := len + news.length) (us := nws) (c0 := c0 ++ nws) (cs := cs ++ PV.stripL news.flatten) hk hlv h0 hbk (LRep.append _ _ _ _ g2 n2') hmem hcs (.inr (by omega))
      refine ⟨_, _, hrun, ?_⟩
      rw [hsz, Nat.zero_add]
      refine ⟨_, _, _, h, ⟨by show k < Γ.ntok; rw [hm.ntok]; exact hk, ?_, _, _, rfl, fun _ => ⟨?_, ?_, hroom⟩⟩, l, kp, m2⟩
      · show _ ≤ upd Γ.top k _ k; rw [upd_same]; exact Nat.le_refl _
      · show _ = (⟨upd Γ.tok k _ k, 0, none⟩ : Addr); rw [upd_same]
      · show _ = upd Γ.cp k _ k; rw [upd_same]; exact h2
    · have hfit : Builtin.nextslicecap (len + news.length) cap * i.bytes ≤ 281474976710656 := by
        have h1 := nextslicecap_le (need := len + news.length) (old := cap) (by omega)
        have h2 : Builtin.nextslicecap (len + news.length) cap * i.bytes ≤ 2 * (len + news.length) * i.bytes := Nat.mul_le_mul_right _ h1
        rw [hbt] at h2 ⊢
        rw [Nat.mul_assoc] at h2
        omega
      have hrun := run_append_grow w t o.type e i z hd hi hiz ⟨Γ.tok k, 0, none⟩ len cap c0 (by rw [e1, hl, hsz]) (fun j v hj => by
        rw [add_addr]
        exact cellAt_blk' g1 (by simpa using hj)) ⟨bb, boff, none⟩ news.length cap2 nws (by rw [n1, hsz]) n4 (by omega) (by omega) hfit
      obtain ⟨hmd, hkd⟩ := hm.drew
      have hge := grownCap_ge w (len + news.length) cap e
      obtain ⟨l, kp, m2⟩ := hmd.moveA (k := k) (t := len + news.length) (cp' := grownCap w (len + news.length) cap e) (us := c0.toArray ++ nws.toArray ++ Builtin.zeroCells z.cells (grownCap w (len + news.length) cap e - (len + news.length))) (c0 := c0 ++ nws)
        (d0 := (Builtin.zeroCells z.cells (grownCap w (len + news.length) cap e - (len + news.length))).toList) (cs := cs ++ PV.stripL news.flatten) e hk (by simp) (LRep.mono (Ctx.le.refl Γ) hkd _ _ (LRep.append _ _ _ _ g2 n2')) hmem (by
          rw [hwd]
          simp only [Array.size_append, List.size_toArray, e1, hl, n1, zeroCells_size, hz2]
          rw [← Nat.add_mul, ← Nat.add_mul]
          exact Nat.mul_le_mul_right _ (by omega)) hcs (by omega)
      refine ⟨_, _, hrun, ?_⟩
      refine ⟨_, _, _, h, ⟨by show k < Γ.ntok; rw [hm.ntok]; exact hk, ?_, _, _, rfl, fun _ => ⟨?_, ?_, hge⟩⟩, l, hkd.trans (Ctx.le.refl _) kp, m2⟩
      · show _ ≤ upd Γ.top k _ k; rw [upd_same]; exact Nat.le_refl _
      · show _ = (⟨upd Γ.tok k _ k, 0, none⟩ : Addr); rw [upd_same]; rfl
      · show _ = upd Γ.cp k _ k; rw [upd_same]
theorem op_append0 {o : Oper} {c : Call} {x y : Operand} {t e : TypeId} {o2 : Own} {news : List (List PV)} {ρ : Operand → PV} (ho : o.op = .call c) (hc : c.callee = .builtin .append) (ha : c.args.toList = [x, y]) (hts : c.argTypes.toList = [t, t])
    (he : telem P t = some e) (ht : tinfo P e = true) (hz : (tzero P e).map (fun z => z.cells.size) = some (tsize P e)) (hx : ρ x = .list .full []) (hy : ρ y = .list o2 news)
    (hw2 : RowsW (tsize P e) news) (hby : news.length * tbytes P e ≤ 140737488355328) (h62 : news.length ≤ 4611686018427387904) (hpos : 0 < news.length)
    (h : K (.mtok m.ntok news.length) ((m.newTok 0 (tsize P e)).putA m.ntok news.length (PV.stripL news.flatten))) : OpOK P o ρ m K Kp := by
  intro Γ ev w hm hv
  have h1 := hv x
  rw [hx] at h1
  obtain ⟨a, cap, h1, _, a2, a3, a4⟩ := h1
  replace a4 : cap = 0 := a4
  subst a4
  have h4 := hv y
  rw [hy] at h4
  obtain ⟨callee, args, argTypes⟩ := c
  simp only at hc ha hts
  subst hc
  have hargs : args.map ev = #[ev x, ev y] := by rw [← Array.toArray_toList (xs := args), ha]; simp
  have htys : argTypes = #[t, t] := by rw [← Array.toArray_toList (xs := argTypes), hts]
  suffices hs : ∃ r w', (Builtin.append_ #[t, t] o.type #[ev x, ev y]).run P w = .ok r w' ∧ Then Γ w K r w' by
    obtain ⟨r, w', h3, h4⟩ := hs
    simp only [execOp, ho, resolve, Sem.run_bind, Sem.run_pure, Result.andThen_ok, invoke, builtin, hargs, htys, h3, Up]
    exact h4
  have hd := telem_und he
  obtain ⟨i, hi⟩ := tinfo_info ht
  have hsz : i.size = tsize P e := by simp [tsize, Program.cellsOf, hi]
  have hbt : i.bytes = tbytes P e := by simp [tbytes, Program.bytesOf, hi]
  obtain ⟨z, hz1, hz2⟩ : ∃ z, tzero P e = some z ∧ z.cells.size = tsize P e := by
    cases hq : tzero P e with
    | none => simp [hq] at hz
    | some z => simp [hq] at hz; exact ⟨z, rfl, hz⟩
  have hiz : i.zero = some z := by simpa [tzero, hi] using hz1
  obtain ⟨b, cap2, e4, b1, b2, b3, b4⟩ := h4
  cases b with
  | none => have := b2 rfl; omega
  | some bd =>
    obtain ⟨hsb, hsr⟩ := b3 bd rfl
    replace hsb := hsb.resolve_left (by omega)
    obtain ⟨bb, boff, bs⟩ := bd
    simp only at hsb hsr
    subst hsb
    obtain ⟨nws, n1, n2, n3, n4⟩ := rows_read hw2 hsr
    have n2' := LRep.strip _ _ n2
    have hsl : (PV.stripL news.flatten).length = news.length * tsize P e := by rw [PV.stripL_length, hw2.flat]
    rw [h1, e4]
    have fin : ∀ {cap' : Nat} {us : Array Value}, news.length ≤ cap' → us = nws.toArray ++ Builtin.zeroCells z.cells (cap' - news.length) →
        Then Γ w K (.slice (some ⟨w.heap.size, 0, none⟩) news.length cap') (w.drew.alloc (.cells us e)) := by
      intro cap' us hge hus
      subst hus
      obtain ⟨hmd, hkd⟩ := hm.drew
      have husz : (nws.toArray ++ Builtin.zeroCells z.cells (cap' - news.length)).size = cap' * tsize P e := by
        simp only [Array.size_append, List.size_toArray, n1, zeroCells_size, hz2]
        rw [← Nat.add_mul]; congr 1; omega
      obtain ⟨g1, g2, _⟩ := hmd.newTok (us := nws.toArray ++ Builtin.zeroCells z.cells (cap' - news.length)) (n := 0) (cap := cap') (width := tsize P e) (cs := []) (by rw [Nat.zero_mul]; rfl) (by simp) husz (Nat.zero_le _) e
      have hnt : Γ.ntok = m.ntok := hm.ntok
      have hk : m.ntok < (m.newTok 0 (tsize P e)).ntok := Nat.lt_succ_self _
      have htop : (m.newTok 0 (tsize P e)).top m.ntok = 0 := upd_same _ _ _
      have htok : (Γ.newTok w.drew.heap.size 0 cap' (tsize P e)).tok m.ntok = w.heap.size := by show upd Γ.tok Γ.ntok _ _ = _; rw [hnt, upd_same]; rfl
      have hlv : (m.newTok 0 (tsize P e)).top m.ntok < DEAD := by rw [htop]; decide
      have hb : Blk (w.drew.alloc (.cells (nws.toArray ++ Builtin.zeroCells z.cells (cap' - news.length)) e)) w.heap.size (nws.toArray ++ Builtin.zeroCells z.cells (cap' - news.length)).toList := Blk.new w.drew _ e
      obtain ⟨l, m2⟩ := g1.putA (k := m.ntok) (t := news.length) (b := w.heap.size) (cp' := cap') (cs := PV.stripL news.flatten) (c0 := nws) hk (by rw [← htok]; exact (g1.tapart _ hk hlv).1)
        (fun o ho => ho.elim (fun q => Nat.lt_irrefl _ (hm.immlt _ _ q)) (fun q => by omega)) (fun k' a e' d q => e' (g1.tinj k' m.ntok a hk d hlv (by rw [htok]; exact q)))
        (fun n cs' a b q => g1.tloc m.ntok n cs' hk hlv a b (by rw [htok]; exact q.symm)) hb
        (by show _ = cap' * upd Γ.wd Γ.ntok (tsize P e) m.ntok; rw [hnt, upd_same, ← husz]; simp) (Blk.take (d := (Builtin.zeroCells z.cells (cap' - news.length)).toList) (by simpa using hb))
        (LRep.mono (hkd.trans (Ctx.le.refl _) g2 |> fun _ => Ctx.le_newTok Γ w.drew.heap.size 0 cap' (tsize P e) hmd.base) (hkd.trans (Ctx.le.refl _) g2) _ _ n2') n3 (by rw [hsl]; show _ = _ * upd m.wd m.ntok _ m.ntok; rw [upd_same])
        (.inr (by show upd Γ.top Γ.ntok 0 m.ntok < _; rw [hnt, upd_same]; exact hpos))
      refine ⟨_, _, _, h, ⟨by show m.ntok < Γ.ntok + 1; omega, ?_, _, _, rfl, fun _ => ⟨?_, ?_, hge⟩⟩, (Ctx.le_newTok Γ w.drew.heap.size 0 cap' (tsize P e) hmd.base).trans l, hkd.trans (Ctx.le.refl _) g2, m2⟩
      · show _ ≤ upd _ m.ntok _ m.ntok; rw [upd_same]; exact Nat.le_refl _
      · show _ = (⟨upd _ m.ntok _ m.ntok, 0, none⟩ : Addr); rw [upd_same]
      · show _ = upd _ m.ntok _ m.ntok; rw [upd_same]
    cases a with
    | none =>
      have hrun := run_append_nil w t o.type e i z hd hi hiz ⟨bb, boff, none⟩ news.length cap2 nws (by rw [n1, hsz]) n4 hpos (by omega) (by rw [hbt]; omega)
      exact ⟨_, _, hrun, fin (grownCap_ge w _ 0 e) rfl⟩
    | some ad =>
      have hfit : Builtin.nextslicecap (0 + news.length) 0 * i.bytes ≤ 281474976710656 := by
        have h1 := nextslicecap_le (need := 0 + news.length) (old := 0) (by omega)
        have h2 : Builtin.nextslicecap (0 + news.length) 0 * i.bytes ≤ 2 * (0 + news.length) * i.bytes := Nat.mul_le_mul_right _ h1
        rw [hbt] at h2 ⊢
        rw [Nat.mul_assoc, Nat.zero_add] at h2
        rw [Nat.zero_add]
        omega
      have hrun := run_append_grow w t o.type e i z hd hi hiz ad 0 0 [] (by simp) (by simp) ⟨bb, boff, none⟩ news.length cap2 nws (by rw [n1, hsz]) n4 (by omega) (by omega) hfit
      refine ⟨_, _, hrun, ?_⟩
      simp only [Nat.zero_add]
      exact fin (grownCap_ge w _ 0 e) (by simp)
variable {N : Nat} {Q : APost} {σ : Nat → PV} {ops : Array Oper} {l : List Oper}
theorem AList.sees {d : Nat} {p' : PV} {m' : St} (hs : Sees (σ d) m p' m') (h : AList P N ops Q l (upd σ d p') m') : AList P N ops Q l σ m := by
  intro Γ a w hs0
  obtain ⟨Γ', h1, le, h2⟩ := hs Γ w _ hs0.mem (hs0.slots d)
  have hs' := hs0.mono le (Keeps.refl Γ w) h1
  have := h _ a w ⟨hs'.size, hs'.defers, h1, fun t => ?_⟩
  · rw [le.x.rnd] at this; exact wpList_mono (Post.later le (Keeps.refl _ _)) _ _ _ this
  · by_cases e : t = d
    · subst e; rw [upd_same]; exact h2
    · rw [upd_ne _ _ _ _ e]; exact hs'.slots t
theorem AW.sees {c : Code} {d : Nat} {p' : PV} {m' : St} (hs : Sees (σ d) m p' m') (h : AW P N c Q (upd σ d p') m') : AW P N c Q σ m := by
  intro Γ a w hs0
  obtain ⟨Γ', h1, le, h2⟩ := hs Γ w _ hs0.mem (hs0.slots d)
  have hs' := hs0.mono le (Keeps.refl Γ w) h1
  have := h _ a w ⟨hs'.size, hs'.defers, h1, fun t => ?_⟩
  · rw [le.x.rnd] at this; exact wpIn_mono this (Post.later le (Keeps.refl _ _))
  · by_cases e : t = d
    · subst e; rw [upd_same]; exact h2
    · rw [upd_ne _ _ _ _ e]; exact hs'.slots t
end
end Go.Ab
namespace Go.Ab
open Go.RowKit
def canTakeT (c : Cls) (g : Cls → Bool) (cls : List Cls) (ops : Array Oper) (bef : Array Nat) (listed : Array Bool) (i : Nat) : Bool :=
  listed.size == ops.size && (match ops[i]? with
  | none => false
  | some oi => (cls.getD i .W == c) && (Region.ready .any ops listed).contains i && (List.range ops.size).all fun j =>
    if (bef.getD j 0).testBit i then
      !listed.getD j true && (match ops[j]? with | some oj => oj.after.any fun e => Region.binds .any e && (e.on == i || (bef.getD e.on 0).testBit i) | none => false)
    else j == i || listed.getD j true || (match ops[j]? with | some oj => oi.apart ops oj && g (cls.getD j .W) | none => false))
def cv : PV → PV
  | .v (.agg us) => .agg (us.toList.map ofV)
  | .v (.slice none 0 0) => .list .full []
  | p => p
theorem cv_rep (p : PV) (Γ : Ctx) (w : World) (u : Value) (h : VRep Γ w p u) : VRep Γ w (cv p) u := by
  unfold cv
  split
  · replace h : u = _ := h
    subst h
    exact ⟨_, rfl, ofVs_rep Γ w _⟩
  · replace h : u = _ := h
    subst h
    exact ⟨none, 0, rfl, Nat.le_refl _, fun _ => rfl, (fun ad h => by cases h), rfl⟩
  · exact h
theorem OpOKo.of {P : Program} {o : Oper} {ρ : Operand → PV} {m : St} {K Kp : PV → St → Prop} (h : ∀ ρ', (∀ x ∈ o.op.operands.toList, ρ' x = ρ x) → OpOK P o ρ' m K Kp) : OpOKo P o ρ m K Kp := by
  intro Γ ev w hm hv
  classical
  refine h (fun x => if x ∈ o.op.operands.toList then ρ x else .any) (fun x hx => by simp only [if_pos hx]) Γ ev w hm fun x => ?_
  by_cases hx : x ∈ o.op.operands.toList
  · simp only [if_pos hx]; exact hv x hx
  · simp only [if_neg hx]; trivial
theorem aop_cv {P : Program} {o : Oper} {ρ : Operand → PV} {m : St} {K Kp : PV → St → Prop} (h : aop P o.op (fun x => cv (ρ x)) m K Kp) : OpOKo P o ρ m K Kp := OpOKo.weak (fun x => cv_rep (ρ x)) (aop_soundO o _ h)
section
variable {P : Program} {N : Nat} {l : List Oper} {cls : List Cls} {Q : APost} {σ : Nat → PV} {m : St} {listed : Array Bool} {fuel : Nat}
theorem canTakeT_spec {c : Cls} {g : Cls → Bool} {bef : Array Nat} {i : Nat} {oi : Oper} (hi : l[i]? = some oi) (h : canTakeT c g cls l.toArray bef listed i = true) : listed.size = l.toArray.size ∧ cls.getD i .W = c ∧ i ∈ Region.ready .any l.toArray listed ∧
    (∀ j oj, l.toArray[j]? = some oj → (bef.getD j 0).testBit i = true → listed.getD j true = false ∧ ∃ e ∈ oj.after, Region.binds .any e = true ∧ (e.on = i ∨ (bef.getD e.on 0).testBit i = true)) ∧
    (∀ j oj, l.toArray[j]? = some oj → j ≠ i → listed.getD j true = false → (bef.getD j 0).testBit i = false → oi.apart l.toArray oj = true ∧ g (cls.getD j .W) = true) := by
  unfold canTakeT at h
  have hi' : l.toArray[i]? = some oi := by simpa using hi
  rw [hi'] at h
  simp only [Bool.and_eq_true] at h
  obtain ⟨hsz, ⟨h1, h2⟩, h3⟩ := h
  refine ⟨by simpa using hsz, by simpa using h1, by simpa using h2, fun j oj hj hb => ?_, fun j oj hj hji hun hb => ?_⟩
  · have hlt : j < l.toArray.size := (Array.getElem?_eq_some_iff.1 hj).1
    have := List.all_eq_true.1 h3 j (by simpa using hlt)
    rw [if_pos hb, hj] at this
    simp only [Bool.and_eq_true, Bool.not_eq_true'] at this
    obtain ⟨k1, k2⟩ := this
    rw [Array.any_eq_true'] at k2
    obtain ⟨e, he, h5⟩ := k2
    simp only [Bool.and_eq_true, Bool.or_eq_true, beq_iff_eq] at h5
    exact ⟨k1, e, he, h5.1, h5.2⟩
  · have hlt : j < l.toArray.size := (Array.getElem?_eq_some_iff.1 hj).1
    have := List.all_eq_true.1 h3 j (by simpa using hlt)
    rw [if_neg (by rw [hb]; simp), hj, hun] at this
    simp only [Bool.or_false, Bool.or_eq_true, beq_iff_eq, hji, false_or, Bool.and_eq_true] at this
    exact ⟨this.1, by simpa using this.2⟩
theorem bef_inv {bef : Array Nat} {i : Nat} (hsz : listed.size = l.toArray.size) (h1 : ∀ j oj, l.toArray[j]? = some oj → (bef.getD j 0).testBit i = true → listed.getD j true = false ∧ ∃ e ∈ oj.after, Region.binds .any e = true ∧ (e.on = i ∨ (bef.getD e.on 0).testBit i = true)) :
    ∀ j, (bef.getD j 0).testBit i = true → listed.getD j true = false ∨ listed.size ≤ j := fun j hj => by
  rcases Nat.lt_or_ge j l.toArray.size with hlt | hge
  · exact .inl (h1 j _ (Array.getElem?_eq_getElem hlt) hj).1
  · right; omega
theorem DA.takeT {s : Bool} {p : PV} {oi : Oper} (i : Nat) (hi : l[i]? = some oi) (hd : dstOK N oi.dst = true) (hc : canTakeT (if s then .S else .R) (goesWith s) cls l.toArray (Region.before l.toArray) listed i = true) (hg : Got P N l.toArray s oi p σ m)
    (h : DA P N l cls Q fuel (listed.setIfInBounds i true) (put σ oi.dst p) m) : DA P N l cls Q (fuel + 1) listed σ m := by
  obtain ⟨hsz, hcl, hr, h1, h2⟩ := canTakeT_spec hi hc
  have hi' : l.toArray[i]? = some oi := by simpa using hi
  exact DAny.firstG (p := p) (oi := oi) (fun σ m => Got P N l.toArray s oi p σ m) (fun j => ((Region.before l.toArray).getD j 0).testBit i) (fun j => goesWith s (cls.getD j .W))
    (fun hg hk => hg.step hi' hd hcl hk) (fun hj ha hok hg hk => DStep.swap hj ha hok hg hk)
    (fun j oj hj hb => (h1 j oj hj hb).2) fuel listed σ m (bef_inv hsz h1) hsz (fun j oj hj hji hun hb => h2 j oj hj hji hun hb) hr hg h
theorem DA.takeLT {p : PV} {oi : Oper} (i : Nat) (hi : l[i]? = some oi) (hd : dstOK N oi.dst = true) (hc : canTakeT .L goesWithL cls l.toArray (Region.before l.toArray) listed i = true) (hg : GotL P N l.toArray oi p σ m)
    (h : DA P N l cls Q fuel (listed.setIfInBounds i true) (put σ oi.dst p) m) : DA P N l cls Q (fuel + 1) listed σ m := by
  obtain ⟨hsz, hcl, hr, h1, h2⟩ := canTakeT_spec hi hc
  have hi' : l.toArray[i]? = some oi := by simpa using hi
  exact DAny.firstG (p := p) (oi := oi) (fun σ m => GotL P N l.toArray oi p σ m) (fun j => ((Region.before l.toArray).getD j 0).testBit i) (fun j => goesWithL (cls.getD j .W))
    (fun hg hk => hg.step hi' hd hcl hk) (fun hj ha hok hg hk => DStep.swapL hj ha hok hg hk)
    (fun j oj hj hb => (h1 j oj hj hb).2) fuel listed σ m (bef_inv hsz h1) hsz (fun j oj hj hji hun hb => h2 j oj hj hji hun hb) hr hg h
theorem DA.ST {p : PV} {d : Tmp} {op : Op} {ty : TypeId} {pos : String} {after : Array Edge} (i : Nat) (hi : l[i]? = some ⟨some d, op, ty, pos, after, none⟩) (hc : canTakeT .S (goesWith true) cls l.toArray (Region.before l.toArray) listed i = true) (hd : d < N)
    (h1 : ∀ (m : St) (K : PV → St → Prop), K p m → aop P op (opv σ) m K (fun _ _ => False)) (h : DA P N l cls Q fuel (listed.setIfInBounds i true) (upd σ d p) m) : DA P N l cls Q (fuel + 1) listed σ m :=
  DA.takeT (s := true) i hi (by simpa [dstOK] using hd) hc (.inr ⟨rfl, fun m => aop_soundO _ _ (h1 m _ ⟨rfl, rfl⟩)⟩) h
theorem DA.RT {p : PV} {d : Tmp} {op : Op} {ty : TypeId} {pos : String} {after : Array Edge} (i : Nat) (hi : l[i]? = some ⟨some d, op, ty, pos, after, none⟩) (hc : canTakeT .R (goesWith false) cls l.toArray (Region.before l.toArray) listed i = true) (hd : d < N)
    (h1 : ∀ (K : PV → St → Prop), K p m → aop P op (opv σ) m K (fun _ _ => False)) (h : DA P N l cls Q fuel (listed.setIfInBounds i true) (upd σ d p) m) : DA P N l cls Q (fuel + 1) listed σ m :=
  DA.takeT (s := false) i hi (by simpa [dstOK] using hd) hc (.inr ⟨rfl, aop_soundO _ _ (h1 _ ⟨rfl, rfl⟩)⟩) h
theorem DA.K {d : Option Tmp} {op : Op} {ty : TypeId} {pos : String} {after : Array Edge} (i : Nat) (hi : l[i]? = some ⟨d, op, ty, pos, after, none⟩) (hc : isReady l.toArray listed [i] = true) (hw : cls.getD i .W = .W) (hd : dstOK N d = true)
    (h : ∀ K Kp : PV → St → Prop, (∀ p m', DA P N l cls Q fuel (listed.setIfInBounds i true) (put σ d p) m' → K p m') → (∀ p m', (∀ σ, Q (.pan p) σ m') → Kp p m') → OpOKo P ⟨d, op, ty, pos, after, none⟩ (opv σ) m K Kp) : DA P N l cls Q (fuel + 1) listed σ m := by
  have hr : Region.ready .any l.toArray listed = [i] := by simpa [isReady] using hc
  refine DA.one hr ⟨_, by simpa using hi, hd, .inr ⟨by simp [aWant], ?_⟩⟩
  simp only [hw]
  exact h _ _ (fun _ _ h => h) (fun _ _ h => h)
theorem DStep.K {d : Option Tmp} {op : Op} {ty : TypeId} {pos : String} {after : Array Edge} {i : Nat} {K : (Nat → PV) → St → Prop} {Qp : PV → St → Prop} (hi : l[i]? = some ⟨d, op, ty, pos, after, none⟩) (hw : cls.getD i .W = .W) (hd : dstOK N d = true)
    (h : ∀ K' Kp : PV → St → Prop, (∀ p m', K (put σ d p) m' → K' p m') → (∀ p m', Qp p m' → Kp p m') → OpOKo P ⟨d, op, ty, pos, after, none⟩ (opv σ) m K' Kp) : DStep P N l.toArray (fun i => cls.getD i .W) Qp i K σ m := by
  refine ⟨_, by simpa using hi, hd, .inr ⟨by simp [aWant], ?_⟩⟩
  simp only [hw]
  exact h _ _ (fun _ _ h => h) (fun _ _ h => h)
end
end Go.Ab
namespace Go.Ab
open Go.RowKit
section
variable {P : Program} {m : St} {K Kp : PV → St → Prop} {w : World}
theorem run_append_ty {t t2 e e2 ty : TypeId} (h1 : P.underlying t = some (.slice e)) (h2 : P.underlying t2 = some (.slice e2)) (args : Array Value) : (Builtin.append_ #[t, t2] ty args).run P w = (Builtin.append_ #[t, t] ty args).run P w := by
  have e1 : (#[t, t2] : Array TypeId)[1]? = some t2 := rfl
  have e2' : (#[t, t] : Array TypeId)[1]? = some t := rfl
  have e3 : (#[t, t2] : Array TypeId)[0]? = some t := rfl
  have e4 : (#[t, t] : Array TypeId)[0]? = some t := rfl
  unfold Builtin.append_
  rw [e1, e2', e3, e4]
  cases ha : args[0]? with
  | none => rfl
  | some s =>
    cases hb : args[1]? with
    | none => rfl
    | some x =>
      simp only [Sem.run_bind, run_underlying h1, Result.andThen_ok]
      cases s <;> try rfl
      simp only [Sem.run_bind, run_underlying h1, run_underlying h2, Result.andThen_ok, Sem.run_pure]
theorem op_retype {o : Oper} {x y : Operand} {t t2 : TypeId} {ρ : Operand → PV} (ho : o.op = .call ⟨.builtin .append, #[x, y], #[t, t2]⟩) (h1 : (telem P t).isSome = true) (h2 : (telem P t2).isSome = true)
    (h : OpOK P { o with op := .call ⟨.builtin .append, #[x, y], #[t, t]⟩ } ρ m K Kp) : OpOK P o ρ m K Kp := by
  intro Γ ev w hm hv
  have h3 := h Γ ev w hm hv
  obtain ⟨e, h1⟩ := Option.isSome_iff_exists.1 h1
  obtain ⟨e2, h2⟩ := Option.isSome_iff_exists.1 h2
  have he : (execOp ev o).run P w = (execOp ev { o with op := .call ⟨.builtin .append, #[x, y], #[t, t]⟩ }).run P w := by
    simp only [execOp, ho, resolve, Sem.run_bind, Sem.run_pure, Result.andThen_ok, invoke, builtin]
    rw [run_append_ty (telem_und h1) (telem_und h2)]
  rw [he]
  exact h3
theorem op_appendS {o : Oper} {x y : Operand} {t t2 : TypeId} {ρ : Operand → PV} (ho : o.op = .call ⟨.builtin .append, #[x, y], #[t, t2]⟩) (h1 : (telem P t).isSome = true) (h2 : (telem P t2).isSome = true)
    (h : aappend P [t, t] (cv (ρ x)) (cv (ρ y)) m K) : OpOK P o ρ m K Kp := by
  refine op_retype ho h1 h2 ?_
  refine OpOKo.op (aop_cv ?_)
  simp only [aop, acall]
  exact h
end
end Go.Ab
namespace Go.Ab
theorem aand {A B : Prop} (a : A) (b : B) : A ∧ B := ⟨a, b⟩
theorem Same.auto {m m' : St} (h : Same m m' := by repeat (first | exact Same.refl _ | assumption | refine Same.newLoc ?_ _ | refine Same.setLoc ?_ (by first | omega | (simp; done) | (simp; omega)) _)) : Same m m' := h
theorem AW.condT {P : Program} {N : Nat} {Q : APost} {σ : Nat → PV} {m : St} {c : Operand} {x y : Code} (hc : opv σ c = .v (.bool true)) (h : AW P N x Q σ m) : AW P N (.cond c x y) Q σ m := AW.cond hc (fun _ => h) (fun h => by cases h)
theorem AW.condF {P : Program} {N : Nat} {Q : APost} {σ : Nat → PV} {m : St} {c : Operand} {x y : Code} (hc : opv σ c = .v (.bool false)) (h : AW P N y Q σ m) : AW P N (.cond c x y) Q σ m := AW.cond hc (fun h => by cases h) (fun _ => h)
theorem Fin.gives {P : Program} {fn : Func} {m m' : St} {σ : Nat → PV} {p r : PV} (hm : Same m m') (hp : ResP P fn.results.toList σ m' p := by exact rfl) (hq : p.strip = r := by simp [upd_lit]) (hs : r.sc m.nloc m.ntok := by simp) : Fin P fn m (fun r' m' => r' = .ret r ∧ m' = m) .ret σ m' :=
  Fin.ret hp hm hq hs ⟨rfl, rfl⟩
section
variable {G K : Prop}
theorem tS (k : K) (h : K → G := by intro k_; (repeat (first | (refine AList.op (by decide) ?_; intro K Kp hK hKp; simp [↓aop, ↓Ab.opv, ↓upd_lit, ↓map_ta, ↓List.map_cons, ↓List.map_nil, Nat.add_assoc]; (try (simp (disch := omega) only [wrap_i64]; try simp [↓aop, ↓Ab.opv, ↓upd_lit, ↓map_ta, ↓List.map_cons, ↓List.map_nil, Nat.add_assoc])); apply hK; clear hK hKp K Kp) | (refine AList.op0 ?_; intro K Kp hK hKp; simp [↓aop, ↓Ab.opv, ↓upd_lit, ↓map_ta, ↓List.map_cons, ↓List.map_nil, Nat.add_assoc]; (try (simp (disch := omega) only [wrap_i64]; try simp [↓aop, ↓Ab.opv, ↓upd_lit, ↓map_ta, ↓List.map_cons, ↓List.map_nil, Nat.add_assoc])); apply hK; clear hK hKp K Kp) | refine AList.nil ?_ | refine AW.seq ?_ | refine AW.regionL ?_ | refine AW.block ?_ | refine AW.skip ?_ | refine AW.exit ?_ | refine AW.ret ?_ | refine AW.label ?_ | refine AExit.norT ?_ | refine AExit.norB ?_ | refine AExit.retT ?_ | refine AExit.retB ?_ | refine AExit.exiT ?_ | refine AExit.exiB ?_ | refine AExit.exiN (by decide) ?_)); exact k_) : G := h k
theorem tF (k : K) (h : K → G := by intro k_; (repeat (first | (refine AList.op (by decide) ?_; intro K Kp hK hKp; simp [↓aop, ↓Ab.opv, ↓upd_lit, ↓map_ta, ↓List.map_cons, ↓List.map_nil, Nat.add_assoc, F]; (try (simp (disch := omega) only [wrap_i64]; try simp [↓aop, ↓Ab.opv, ↓upd_lit, ↓map_ta, ↓List.map_cons, ↓List.map_nil, Nat.add_assoc, F])); apply hK; clear hK hKp K Kp) | (refine AList.op0 ?_; intro K Kp hK hKp; simp [↓aop, ↓Ab.opv, ↓upd_lit, ↓map_ta, ↓List.map_cons, ↓List.map_nil, Nat.add_assoc, F]; (try (simp (disch := omega) only [wrap_i64]; try simp [↓aop, ↓Ab.opv, ↓upd_lit, ↓map_ta, ↓List.map_cons, ↓List.map_nil, Nat.add_assoc, F])); apply hK; clear hK hKp K Kp) | refine AList.nil ?_ | refine AW.seq ?_ | refine AW.regionL ?_ | refine AW.block ?_ | refine AW.skip ?_ | refine AW.exit ?_ | refine AW.ret ?_ | refine AW.label ?_ | refine AExit.norT ?_ | refine AExit.norB ?_ | refine AExit.retT ?_ | refine AExit.retB ?_ | refine AExit.exiT ?_ | refine AExit.exiB ?_ | refine AExit.exiN (by decide) ?_)); exact k_) : G := h k
theorem tSn (k : K) (h : K → G := by intro k_; (repeat (first | (refine AList.op (by decide) ?_; intro K Kp hK hKp; simp [↓aop, ↓Ab.opv, ↓upd_lit, ↓map_ta, ↓List.map_cons, ↓List.map_nil, Nat.add_assoc]; (try (simp (disch := omega) only [wrap_i64]; try simp [↓aop, ↓Ab.opv, ↓upd_lit, ↓map_ta, ↓List.map_cons, ↓List.map_nil, Nat.add_assoc])); apply hK; clear hK hKp K Kp) | (refine AList.op0 ?_; intro K Kp hK hKp; simp [↓aop, ↓Ab.opv, ↓upd_lit, ↓map_ta, ↓List.map_cons, ↓List.map_nil, Nat.add_assoc]; (try (simp (disch := omega) only [wrap_i64]; try simp [↓aop, ↓Ab.opv, ↓upd_lit, ↓map_ta, ↓List.map_cons, ↓List.map_nil, Nat.add_assoc])); apply hK; clear hK hKp K Kp) | refine AList.nil ?_ | refine AW.seq ?_ | refine AW.regionL ?_ | refine AW.block ?_ | refine AW.skip ?_ | refine AW.exit ?_ | refine AW.label ?_ | refine AExit.norT ?_ | refine AExit.norB ?_ | refine AExit.retT ?_ | refine AExit.retB ?_ | refine AExit.exiT ?_ | refine AExit.exiB ?_ | refine AExit.exiN (by decide) ?_)); exact k_) : G := h k
theorem tSg (k : K) (h : K → G := by intro k_; (repeat (first | (refine AList.op (by decide) ?_; intro K Kp hK hKp; simp [↓aop, ↓Ab.opv, ↓upd_lit, ↓map_ta, ↓List.map_cons, ↓List.map_nil, Nat.add_assoc]; (try (simp (disch := omega) only [wrap_i64]; try simp [↓aop, ↓Ab.opv, ↓upd_lit, ↓map_ta, ↓List.map_cons, ↓List.map_nil, Nat.add_assoc])); apply hK; clear hK hKp K Kp) | (refine AList.op0 ?_; intro K Kp hK hKp; simp [↓aop, ↓Ab.opv, ↓upd_lit, ↓map_ta, ↓List.map_cons, ↓List.map_nil, Nat.add_assoc]; (try (simp (disch := omega) only [wrap_i64]; try simp [↓aop, ↓Ab.opv, ↓upd_lit, ↓map_ta, ↓List.map_cons, ↓List.map_nil, Nat.add_assoc])); apply hK; clear hK hKp K Kp) | (refine AList.opT rfl (by decide) (by decide) ?_ ?_; (focus (first | rfl | (simp [↓upd_lit, Nat.add_assoc]; done))); intro K Kp hK hKp; simp [↓aop, ↓Ab.opv, ↓upd_lit, ↓map_ta, ↓List.map_cons, ↓List.map_nil, Nat.add_assoc]; (try (simp (disch := omega) only [wrap_i64]; try simp [↓aop, ↓Ab.opv, ↓upd_lit, ↓map_ta, ↓List.map_cons, ↓List.map_nil, Nat.add_assoc])); apply hK; clear hK hKp K Kp) | (refine AList.opF rfl (by decide) (by decide) ?_ ?_; (focus (first | rfl | (simp [↓upd_lit, Nat.add_assoc]; done)))) | refine AList.nil ?_ | refine AW.seq ?_ | refine AW.regionL ?_ | refine AW.block ?_ | refine AW.skip ?_ | refine AW.exit ?_ | refine AW.ret ?_ | refine AW.label ?_ | refine AExit.norT ?_ | refine AExit.norB ?_ | refine AExit.retT ?_ | refine AExit.retB ?_ | refine AExit.exiT ?_ | refine AExit.exiB ?_ | refine AExit.exiN (by decide) ?_)); exact k_) : G := h k
theorem tFg (k : K) (h : K → G := by intro k_; (repeat (first | (refine AList.op (by decide) ?_; intro K Kp hK hKp; simp [↓aop, ↓Ab.opv, ↓upd_lit, ↓map_ta, ↓List.map_cons, ↓List.map_nil, Nat.add_assoc, F]; (try (simp (disch := omega) only [wrap_i64]; try simp [↓aop, ↓Ab.opv, ↓upd_lit, ↓map_ta, ↓List.map_cons, ↓List.map_nil, Nat.add_assoc, F])); apply hK; clear hK hKp K Kp) | (refine AList.op0 ?_; intro K Kp hK hKp; simp [↓aop, ↓Ab.opv, ↓upd_lit, ↓map_ta, ↓List.map_cons, ↓List.map_nil, Nat.add_assoc, F]; (try (simp (disch := omega) only [wrap_i64]; try simp [↓aop, ↓Ab.opv, ↓upd_lit, ↓map_ta, ↓List.map_cons, ↓List.map_nil, Nat.add_assoc, F])); apply hK; clear hK hKp K Kp) | (refine AList.opT rfl (by decide) (by decide) ?_ ?_; (focus (first | rfl | (simp [↓upd_lit, Nat.add_assoc, F]; done))); intro K Kp hK hKp; simp [↓aop, ↓Ab.opv, ↓upd_lit, ↓map_ta, ↓List.map_cons, ↓List.map_nil, Nat.add_assoc, F]; (try (simp (disch := omega) only [wrap_i64]; try simp [↓aop, ↓Ab.opv, ↓upd_lit, ↓map_ta, ↓List.map_cons, ↓List.map_nil, Nat.add_assoc, F])); apply hK; clear hK hKp K Kp) | (refine AList.opF rfl (by decide) (by decide) ?_ ?_; (focus (first | rfl | (simp [↓upd_lit, Nat.add_assoc, F]; done)))) | refine AList.nil ?_ | refine AW.seq ?_ | refine AW.regionL ?_ | refine AW.block ?_ | refine AW.skip ?_ | refine AW.exit ?_ | refine AW.ret ?_ | refine AW.label ?_ | refine AExit.norT ?_ | refine AExit.norB ?_ | refine AExit.retT ?_ | refine AExit.retB ?_ | refine AExit.exiT ?_ | refine AExit.exiB ?_ | refine AExit.exiN (by decide) ?_)); exact k_) : G := h k
theorem tSa (k : K) (h : K → G := by intro k_; (repeat (first | (refine AList.op (by decide) ?_; intro K Kp hK hKp; simp [↓aop, ↓Ab.opv, ↓upd_lit, ↓map_ta, ↓List.map_cons, ↓List.map_nil, Nat.add_assoc]; (try (simp (disch := omega) only [wrap_i64]; try simp [↓aop, ↓Ab.opv, ↓upd_lit, ↓map_ta, ↓List.map_cons, ↓List.map_nil, Nat.add_assoc])); apply hK; clear hK hKp K Kp) | (refine AList.op0 ?_; intro K Kp hK hKp; simp [↓aop, ↓Ab.opv, ↓upd_lit, ↓map_ta, ↓List.map_cons, ↓List.map_nil, Nat.add_assoc]; (try (simp (disch := omega) only [wrap_i64]; try simp [↓aop, ↓Ab.opv, ↓upd_lit, ↓map_ta, ↓List.map_cons, ↓List.map_nil, Nat.add_assoc])); apply hK; clear hK hKp K Kp) | (refine AList.opT rfl (by decide) (by decide) ?_ ?_; (focus (first | rfl | (simp [↓upd_lit, Nat.add_assoc]; done))); intro K Kp hK hKp; simp [↓aop, ↓Ab.opv, ↓upd_lit, ↓map_ta, ↓List.map_cons, ↓List.map_nil, Nat.add_assoc]; (try (simp (disch := omega) only [wrap_i64]; try simp [↓aop, ↓Ab.opv, ↓upd_lit, ↓map_ta, ↓List.map_cons, ↓List.map_nil, Nat.add_assoc])); apply hK; clear hK hKp K Kp) | (refine AList.opF rfl (by decide) (by decide) ?_ ?_; (focus (first | rfl | (simp [↓upd_lit, Nat.add_assoc]; done)))) | refine AList.nil ?_ | refine AW.seq ?_ | refine AW.regionL ?_ | refine AW.block ?_ | refine AW.skip ?_ | refine AW.exit ?_ | refine AW.ret ?_ | refine AW.label ?_ | refine AExit.norT ?_ | refine AExit.norB ?_ | refine AExit.retT ?_ | refine AExit.retB ?_ | refine AExit.exiT ?_ | refine AExit.exiB ?_ | refine AExit.exiN (by decide) ?_ | (refine AW.condT ?_ ?_; (focus (first | rfl | (simp [↓upd_lit]; done)))) | (refine AW.condF ?_ ?_; (focus (first | rfl | (simp [↓upd_lit]; done)))))); exact k_) : G := h k
theorem tFa (k : K) (h : K → G := by intro k_; (repeat (first | (refine AList.op (by decide) ?_; intro K Kp hK hKp; simp [↓aop, ↓Ab.opv, ↓upd_lit, ↓map_ta, ↓List.map_cons, ↓List.map_nil, Nat.add_assoc, F]; (try (simp (disch := omega) only [wrap_i64]; try simp [↓aop, ↓Ab.opv, ↓upd_lit, ↓map_ta, ↓List.map_cons, ↓List.map_nil, Nat.add_assoc, F])); apply hK; clear hK hKp K Kp) | (refine AList.op0 ?_; intro K Kp hK hKp; simp [↓aop, ↓Ab.opv, ↓upd_lit, ↓map_ta, ↓List.map_cons, ↓List.map_nil, Nat.add_assoc, F]; (try (simp (disch := omega) only [wrap_i64]; try simp [↓aop, ↓Ab.opv, ↓upd_lit, ↓map_ta, ↓List.map_cons, ↓List.map_nil, Nat.add_assoc, F])); apply hK; clear hK hKp K Kp) | (refine AList.opT rfl (by decide) (by decide) ?_ ?_; (focus (first | rfl | (simp [↓upd_lit, Nat.add_assoc, F]; done))); intro K Kp hK hKp; simp [↓aop, ↓Ab.opv, ↓upd_lit, ↓map_ta, ↓List.map_cons, ↓List.map_nil, Nat.add_assoc, F]; (try (simp (disch := omega) only [wrap_i64]; try simp [↓aop, ↓Ab.opv, ↓upd_lit, ↓map_ta, ↓List.map_cons, ↓List.map_nil, Nat.add_assoc, F])); apply hK; clear hK hKp K Kp) | (refine AList.opF rfl (by decide) (by decide) ?_ ?_; (focus (first | rfl | (simp [↓upd_lit, Nat.add_assoc, F]; done)))) | refine AList.nil ?_ | refine AW.seq ?_ | refine AW.regionL ?_ | refine AW.block ?_ | refine AW.skip ?_ | refine AW.exit ?_ | refine AW.ret ?_ | refine AW.label ?_ | refine AExit.norT ?_ | refine AExit.norB ?_ | refine AExit.retT ?_ | refine AExit.retB ?_ | refine AExit.exiT ?_ | refine AExit.exiB ?_ | refine AExit.exiN (by decide) ?_ | (refine AW.condT ?_ ?_; (focus (first | rfl | (simp [↓upd_lit, F]; done)))) | (refine AW.condF ?_ ?_; (focus (first | rfl | (simp [↓upd_lit, F]; done)))))); exact k_) : G := h k
theorem tSp (k : K) (h : K → G := by intro k_; (repeat (first | (refine AList.op (by decide) ?_; intro K Kp hK hKp; simp [↓aop, ↓Ab.opv, ↓upd_lit, ↓map_ta, ↓List.map_cons, ↓List.map_nil, Nat.add_assoc, apick_or, apick_and, -apick]; (try (simp (disch := omega) only [wrap_i64]; try simp [↓aop, ↓Ab.opv, ↓upd_lit, ↓map_ta, ↓List.map_cons, ↓List.map_nil, Nat.add_assoc, apick_or, apick_and, -apick])); apply hK; clear hK hKp K Kp) | (refine AList.op0 ?_; intro K Kp hK hKp; simp [↓aop, ↓Ab.opv, ↓upd_lit, ↓map_ta, ↓List.map_cons, ↓List.map_nil, Nat.add_assoc, apick_or, apick_and, -apick]; (try (simp (disch := omega) only [wrap_i64]; try simp [↓aop, ↓Ab.opv, ↓upd_lit, ↓map_ta, ↓List.map_cons, ↓List.map_nil, Nat.add_assoc, apick_or, apick_and, -apick])); apply hK; clear hK hKp K Kp) | (refine AList.opP' (c := ?_) (p := ?_) rfl (by decide) (by decide) ?_ ?_ ?_; rotate_left 2; (focus (first | rfl | (simp [↓upd_lit, Nat.add_assoc]; rfl))); (focus (intro he K Kp hK; have he2 := he; (try simp only [Bool.and_eq_true] at he2); simp [-Int.not_lt, -Int.not_le, -Nat.not_lt, -Nat.not_le] at he; simp [↓aop, ↓Ab.opv, ↓upd_lit, ↓map_ta, ↓List.map_cons, ↓List.map_nil, Nat.add_assoc, ↓he2, he, apick_or, apick_and, -apick]; (try (simp (disch := omega) only [wrap_i64]; try simp [↓aop, ↓Ab.opv, ↓upd_lit, ↓map_ta, ↓List.map_cons, ↓List.map_nil, Nat.add_assoc, ↓he2, he, apick_or, apick_and, -apick])); exact hK))) | (refine AList.opP (b := ?_) (c := ?_) (p := ?_) rfl (by decide) (by decide) ?_ ?_ ?_; rotate_left 3; (focus (first | rfl | (simp [↓upd_lit, Nat.add_assoc]; rfl))); (focus (intro he K Kp hK; have he2 := he; (try simp only [Bool.and_eq_true] at he2); simp [-Int.not_lt, -Int.not_le, -Nat.not_lt, -Nat.not_le] at he; simp [↓aop, ↓Ab.opv, ↓upd_lit, ↓map_ta, ↓List.map_cons, ↓List.map_nil, Nat.add_assoc, ↓he2, he, apick_or, apick_and, -apick]; (try (simp (disch := omega) only [wrap_i64]; try simp [↓aop, ↓Ab.opv, ↓upd_lit, ↓map_ta, ↓List.map_cons, ↓List.map_nil, Nat.add_assoc, ↓he2, he, apick_or, apick_and, -apick])); exact hK))) | refine AList.nil ?_ | refine AW.seq ?_ | refine AW.regionL ?_ | refine AW.block ?_ | refine AW.skip ?_ | refine AW.exit ?_ | refine AW.ret ?_ | refine AW.label ?_ | refine AExit.norT ?_ | refine AExit.norB ?_ | refine AExit.retT ?_ | refine AExit.retB ?_ | refine AExit.exiT ?_ | refine AExit.exiB ?_ | refine AExit.exiN (by decide) ?_)); exact k_) : G := h k
theorem tFp (k : K) (h : K → G := by intro k_; (repeat (first | (refine AList.op (by decide) ?_; intro K Kp hK hKp; simp [↓aop, ↓Ab.opv, ↓upd_lit, ↓map_ta, ↓List.map_cons, ↓List.map_nil, Nat.add_assoc, F, apick_or, apick_and, -apick]; (try (simp (disch := omega) only [wrap_i64]; try simp [↓aop, ↓Ab.opv, ↓upd_lit, ↓map_ta, ↓List.map_cons, ↓List.map_nil, Nat.add_assoc, F, apick_or, apick_and, -apick])); apply hK; clear hK hKp K Kp) | (refine AList.op0 ?_; intro K Kp hK hKp; simp [↓aop, ↓Ab.opv, ↓upd_lit, ↓map_ta, ↓List.map_cons, ↓List.map_nil, Nat.add_assoc, F, apick_or, apick_and, -apick]; (try (simp (disch := omega) only [wrap_i64]; try simp [↓aop, ↓Ab.opv, ↓upd_lit, ↓map_ta, ↓List.map_cons, ↓List.map_nil, Nat.add_assoc, F, apick_or, apick_and, -apick])); apply hK; clear hK hKp K Kp) | (refine AList.opP' (c := ?_) (p := ?_) rfl (by decide) (by decide) ?_ ?_ ?_; rotate_left 2; (focus (first | rfl | (simp [↓upd_lit, Nat.add_assoc, F]; rfl))); (focus (intro he K Kp hK; have he2 := he; (try simp only [Bool.and_eq_true] at he2); simp [-Int.not_lt, -Int.not_le, -Nat.not_lt, -Nat.not_le] at he; simp [↓aop, ↓Ab.opv, ↓upd_lit, ↓map_ta, ↓List.map_cons, ↓List.map_nil, Nat.add_assoc, F, ↓he2, he, apick_or, apick_and, -apick]; (try (simp (disch := omega) only [wrap_i64]; try simp [↓aop, ↓Ab.opv, ↓upd_lit, ↓map_ta, ↓List.map_cons, ↓List.map_nil, Nat.add_assoc, F, ↓he2, he, apick_or, apick_and, -apick])); exact hK))) | (refine AList.opP (b := ?_) (c := ?_) (p := ?_) rfl (by decide) (by decide) ?_ ?_ ?_; rotate_left 3; (focus (first | rfl | (simp [↓upd_lit, Nat.add_assoc, F]; rfl))); (focus (intro he K Kp hK; have he2 := he; (try simp only [Bool.and_eq_true] at he2); simp [-Int.not_lt, -Int.not_le, -Nat.not_lt, -Nat.not_le] at he; simp [↓aop, ↓Ab.opv, ↓upd_lit, ↓map_ta, ↓List.map_cons, ↓List.map_nil, Nat.add_assoc, F, ↓he2, he, apick_or, apick_and, -apick]; (try (simp (disch := omega) only [wrap_i64]; try simp [↓aop, ↓Ab.opv, ↓upd_lit, ↓map_ta, ↓List.map_cons, ↓List.map_nil, Nat.add_assoc, F, ↓he2, he, apick_or, apick_and, -apick])); exact hK))) | refine AList.nil ?_ | refine AW.seq ?_ | refine AW.regionL ?_ | refine AW.block ?_ | refine AW.skip ?_ | refine AW.exit ?_ | refine AW.ret ?_ | refine AW.label ?_ | refine AExit.norT ?_ | refine AExit.norB ?_ | refine AExit.retT ?_ | refine AExit.retB ?_ | refine AExit.exiT ?_ | refine AExit.exiB ?_ | refine AExit.exiN (by decide) ?_)); exact k_) : G := h k
theorem tSc {B : Prop} (t : B) (k : K) (h : B → K → G := by intro t_ k_; refine AList.opP' (c := ?_) (p := ?_) rfl (by decide) (by decide) ?_ ?_ ?_; rotate_left 2; (focus (first | rfl | (simp [↓upd_lit, Nat.add_assoc]; rfl))); (focus (intro he K Kp hK; have he2 := he; (try simp only [Bool.and_eq_true] at he2); simp [-Int.not_lt, -Int.not_le, -Nat.not_lt, -Nat.not_le] at he; simp [↓aop, ↓Ab.opv, ↓upd_lit, ↓map_ta, ↓List.map_cons, ↓List.map_nil, Nat.add_assoc, ↓he2, he, apick_or, apick_and, -apick]; refine Gives.at t_ ?_; exact hK)); exact k_) : G := h t k
theorem tFc {B : Prop} (t : B) (k : K) (h : B → K → G := by intro t_ k_; refine AList.opP' (c := ?_) (p := ?_) rfl (by decide) (by decide) ?_ ?_ ?_; rotate_left 2; (focus (first | rfl | (simp [↓upd_lit, Nat.add_assoc, F]; rfl))); (focus (intro he K Kp hK; have he2 := he; (try simp only [Bool.and_eq_true] at he2); simp [-Int.not_lt, -Int.not_le, -Nat.not_lt, -Nat.not_le] at he; simp [↓aop, ↓Ab.opv, ↓upd_lit, ↓map_ta, ↓List.map_cons, ↓List.map_nil, Nat.add_assoc, F, ↓he2, he, apick_or, apick_and, -apick]; refine Gives.at t_ ?_; exact hK)); exact k_) : G := h t k
theorem tSC {B : Prop} (t : B) (k : K) (h : B → K → G := by intro t_ k_; refine AList.opP (b := ?_) (c := ?_) (p := ?_) rfl (by decide) (by decide) ?_ ?_ ?_; rotate_left 3; (focus (first | rfl | (simp [↓upd_lit, Nat.add_assoc]; rfl))); (focus (intro he K Kp hK; have he2 := he; (try simp only [Bool.and_eq_true] at he2); simp [-Int.not_lt, -Int.not_le, -Nat.not_lt, -Nat.not_le] at he; simp [↓aop, ↓Ab.opv, ↓upd_lit, ↓map_ta, ↓List.map_cons, ↓List.map_nil, Nat.add_assoc, ↓he2, he, apick_or, apick_and, -apick]; refine Gives.at t_ ?_; exact hK)); exact k_) : G := h t k
variable {H1 H2 : (PV → St → Prop) → Prop} {X : (PV → St → Prop) → (PV → St → Prop) → Prop}
theorem tS1 (k : ∀ K Kp, H1 K → H2 Kp → X K Kp) (h : (∀ K Kp, H1 K → H2 Kp → X K Kp) → G := by intro k_; refine AList.op (by decide) ?_; intro K Kp hK hKp; simp [↓aop, ↓Ab.opv, ↓upd_lit, ↓map_ta, ↓List.map_cons, ↓List.map_nil, Nat.add_assoc]; (try (simp (disch := omega) only [wrap_i64]; try simp [↓aop, ↓Ab.opv, ↓upd_lit, ↓map_ta, ↓List.map_cons, ↓List.map_nil, Nat.add_assoc])); exact k_ K Kp hK hKp) : G := h k
theorem tF1 (k : ∀ K Kp, H1 K → H2 Kp → X K Kp) (h : (∀ K Kp, H1 K → H2 Kp → X K Kp) → G := by intro k_; refine AList.op (by decide) ?_; intro K Kp hK hKp; simp [↓aop, ↓Ab.opv, ↓upd_lit, ↓map_ta, ↓List.map_cons, ↓List.map_nil, Nat.add_assoc, F]; (try (simp (disch := omega) only [wrap_i64]; try simp [↓aop, ↓Ab.opv, ↓upd_lit, ↓map_ta, ↓List.map_cons, ↓List.map_nil, Nat.add_assoc, F])); exact k_ K Kp hK hKp) : G := h k
end
section
variable {P : Program} {N : Nat} {l : List Oper} {cls : List Cls} {Q : APost} {σ : Nat → PV} {m : St} {listed : Array Bool} {fuel : Nat} {B : Prop}
variable {p : PV} {d g j : Nat} {want : Bool} {op : Op} {ty : TypeId} {pos : String} {after : Array Edge}
theorem dS (i : Nat) (h : DA P N l cls Q fuel (listed.setIfInBounds i true) (upd σ d p) m) (hi : l[i]? = some ⟨some d, op, ty, pos, after, none⟩ := by exact rfl) (hc : canTake true cls l.toArray listed i = true := by decide +kernel) (hd : d < N := by decide) (h1 : ∀ (m : St) (K : PV → St → Prop), K p m → aop P op (opv σ) m K (fun _ _ => False) := by intro m K hK; simp [↓aop, ↓Ab.opv, ↓upd_lit, ↓map_ta, ↓List.map_cons, ↓List.map_nil, Nat.add_assoc, F]; (try (simp (disch := omega) only [wrap_i64]; try simp [↓aop, ↓Ab.opv, ↓upd_lit, ↓map_ta, ↓List.map_cons, ↓List.map_nil, Nat.add_assoc, F])); exact hK) : DA P N l cls Q (fuel + 1) listed σ m := DA.S i hi hc hd (h1) h
theorem dR (i : Nat) (h : DA P N l cls Q fuel (listed.setIfInBounds i true) (upd σ d p) m) (hi : l[i]? = some ⟨some d, op, ty, pos, after, none⟩ := by exact rfl) (hc : canTake false cls l.toArray listed i = true := by decide +kernel) (hd : d < N := by decide) (h1 : ∀ (K : PV → St → Prop), K p m → aop P op (opv σ) m K (fun _ _ => False) := by intro K hK; simp [↓aop, ↓Ab.opv, ↓upd_lit, ↓map_ta, ↓List.map_cons, ↓List.map_nil, Nat.add_assoc, F]; (try (simp (disch := omega) only [wrap_i64]; try simp [↓aop, ↓Ab.opv, ↓upd_lit, ↓map_ta, ↓List.map_cons, ↓List.map_nil, Nat.add_assoc, F])); exact hK) : DA P N l cls Q (fuel + 1) listed σ m := DA.R i hi hc hd (h1) h
theorem dC (t : B) (i : Nat) (h : DA P N l cls Q fuel (listed.setIfInBounds i true) (upd σ d p) m) (hi : l[i]? = some ⟨some d, op, ty, pos, after, none⟩ := by exact rfl) (hc : canTake false cls l.toArray listed i = true := by decide +kernel) (hd : d < N := by decide) (h1 : B → ∀ (K : PV → St → Prop), K p m → aop P op (opv σ) m K (fun _ _ => False) := by intro t_ K hK; simp [↓aop, ↓Ab.opv, ↓upd_lit, ↓map_ta, ↓List.map_cons, ↓List.map_nil, Nat.add_assoc, F]; (try (simp (disch := omega) only [wrap_i64]; try simp [↓aop, ↓Ab.opv, ↓upd_lit, ↓map_ta, ↓List.map_cons, ↓List.map_nil, Nat.add_assoc, F])); exact Gives.at t_ hK) : DA P N l cls Q (fuel + 1) listed σ m := DA.R i hi hc hd (h1 t) h
theorem dST (i : Nat) (h : DA P N l cls Q fuel (listed.setIfInBounds i true) (upd σ d p) m) (hi : l[i]? = some ⟨some d, op, ty, pos, after, none⟩ := by exact rfl) (hc : canTakeT .S (goesWith true) cls l.toArray (Region.before l.toArray) listed i = true := by decide +kernel) (hd : d < N := by decide) (h1 : ∀ (m : St) (K : PV → St → Prop), K p m → aop P op (opv σ) m K (fun _ _ => False) := by intro m K hK; simp [↓aop, ↓Ab.opv, ↓upd_lit, ↓map_ta, ↓List.map_cons, ↓List.map_nil, Nat.add_assoc, F]; (try (simp (disch := omega) only [wrap_i64]; try simp [↓aop, ↓Ab.opv, ↓upd_lit, ↓map_ta, ↓List.map_cons, ↓List.map_nil, Nat.add_assoc, F])); exact hK) : DA P N l cls Q (fuel + 1) listed σ m := DA.ST i hi hc hd (h1) h
theorem dRT (i : Nat) (h : DA P N l cls Q fuel (listed.setIfInBounds i true) (upd σ d p) m) (hi : l[i]? = some ⟨some d, op, ty, pos, after, none⟩ := by exact rfl) (hc : canTakeT .R (goesWith false) cls l.toArray (Region.before l.toArray) listed i = true := by decide +kernel) (hd : d < N := by decide) (h1 : ∀ (K : PV → St → Prop), K p m → aop P op (opv σ) m K (fun _ _ => False) := by intro K hK; simp [↓aop, ↓Ab.opv, ↓upd_lit, ↓map_ta, ↓List.map_cons, ↓List.map_nil, Nat.add_assoc, F]; (try (simp (disch := omega) only [wrap_i64]; try simp [↓aop, ↓Ab.opv, ↓upd_lit, ↓map_ta, ↓List.map_cons, ↓List.map_nil, Nat.add_assoc, F])); exact hK) : DA P N l cls Q (fuel + 1) listed σ m := DA.RT i hi hc hd (h1) h
theorem dCT (t : B) (i : Nat) (h : DA P N l cls Q fuel (listed.setIfInBounds i true) (upd σ d p) m) (hi : l[i]? = some ⟨some d, op, ty, pos, after, none⟩ := by exact rfl) (hc : canTakeT .R (goesWith false) cls l.toArray (Region.before l.toArray) listed i = true := by decide +kernel) (hd : d < N := by decide) (h1 : B → ∀ (K : PV → St → Prop), K p m → aop P op (opv σ) m K (fun _ _ => False) := by intro t_ K hK; simp [↓aop, ↓Ab.opv, ↓upd_lit, ↓map_ta, ↓List.map_cons, ↓List.map_nil, Nat.add_assoc, F]; (try (simp (disch := omega) only [wrap_i64]; try simp [↓aop, ↓Ab.opv, ↓upd_lit, ↓map_ta, ↓List.map_cons, ↓List.map_nil, Nat.add_assoc, F])); exact Gives.at t_ hK) : DA P N l cls Q (fuel + 1) listed σ m := DA.RT i hi hc hd (h1 t) h
theorem dSG (i : Nat) (h : DA P N l cls Q fuel (listed.setIfInBounds i true) (upd σ d p) m) (hi : l[i]? = some ⟨some d, op, ty, pos, after, some (j, want)⟩ := by exact rfl) (hc : canTake true cls l.toArray listed i = true := by decide +kernel) (hd : d < N := by decide) (hj : opDst l.toArray j = some g := by exact rfl) (hlt : g < N := by decide) (hb : σ g = .v (.bool want) := by first | rfl | (simp [↓upd_lit, F]; done)) (h1 : ∀ (m : St) (K : PV → St → Prop), K p m → aop P op (opv σ) m K (fun _ _ => False) := by intro m K hK; simp [↓aop, ↓Ab.opv, ↓upd_lit, ↓map_ta, ↓List.map_cons, ↓List.map_nil, Nat.add_assoc, F]; (try (simp (disch := omega) only [wrap_i64]; try simp [↓aop, ↓Ab.opv, ↓upd_lit, ↓map_ta, ↓List.map_cons, ↓List.map_nil, Nat.add_assoc, F])); exact hK) : DA P N l cls Q (fuel + 1) listed σ m := DA.SG i hi hc hd hj hlt hb (h1) h
theorem dRG (i : Nat) (h : DA P N l cls Q fuel (listed.setIfInBounds i true) (upd σ d p) m) (hi : l[i]? = some ⟨some d, op, ty, pos, after, some (j, want)⟩ := by exact rfl) (hc : canTake false cls l.toArray listed i = true := by decide +kernel) (hd : d < N := by decide) (hj : opDst l.toArray j = some g := by exact rfl) (hlt : g < N := by decide) (hb : σ g = .v (.bool want) := by first | rfl | (simp [↓upd_lit, F]; done)) (h1 : ∀ (K : PV → St → Prop), K p m → aop P op (opv σ) m K (fun _ _ => False) := by intro K hK; simp [↓aop, ↓Ab.opv, ↓upd_lit, ↓map_ta, ↓List.map_cons, ↓List.map_nil, Nat.add_assoc, F]; (try (simp (disch := omega) only [wrap_i64]; try simp [↓aop, ↓Ab.opv, ↓upd_lit, ↓map_ta, ↓List.map_cons, ↓List.map_nil, Nat.add_assoc, F])); exact hK) : DA P N l cls Q (fuel + 1) listed σ m := DA.RG i hi hc hd hj hlt hb (h1) h
theorem dCG (t : B) (i : Nat) (h : DA P N l cls Q fuel (listed.setIfInBounds i true) (upd σ d p) m) (hi : l[i]? = some ⟨some d, op, ty, pos, after, some (j, want)⟩ := by exact rfl) (hc : canTake false cls l.toArray listed i = true := by decide +kernel) (hd : d < N := by decide) (hj : opDst l.toArray j = some g := by exact rfl) (hlt : g < N := by decide) (hb : σ g = .v (.bool want) := by first | rfl | (simp [↓upd_lit, F]; done)) (h1 : B → ∀ (K : PV → St → Prop), K p m → aop P op (opv σ) m K (fun _ _ => False) := by intro t_ K hK; simp [↓aop, ↓Ab.opv, ↓upd_lit, ↓map_ta, ↓List.map_cons, ↓List.map_nil, Nat.add_assoc, F]; (try (simp (disch := omega) only [wrap_i64]; try simp [↓aop, ↓Ab.opv, ↓upd_lit, ↓map_ta, ↓List.map_cons, ↓List.map_nil, Nat.add_assoc, F])); exact Gives.at t_ hK) : DA P N l cls Q (fuel + 1) listed σ m := DA.RG i hi hc hd hj hlt hb (h1 t) h
theorem dXx (i : Nat) (h : DA P N l cls Q fuel (listed.setIfInBounds i true) (upd σ d (.v undef)) m) (hi : l[i]? = some ⟨some d, op, ty, pos, after, some (j, want)⟩ := by exact rfl) (hc : canTake true cls l.toArray listed i = true := by decide +kernel) (hd : d < N := by decide) (hj : opDst l.toArray j = some g := by exact rfl) (hlt : g < N := by decide) (hb : σ g = .v (.bool !want) ∨ σ g = .v undef := by first | exact .inl rfl | exact .inr rfl | (simp [↓upd_lit, F]; done)) : DA P N l cls Q (fuel + 1) listed σ m := DA.X (s := true) i hi hc hd hj hlt hb h
theorem dXX (i : Nat) (h : DA P N l cls Q fuel (listed.setIfInBounds i true) (upd σ d (.v undef)) m) (hi : l[i]? = some ⟨some d, op, ty, pos, after, some (j, want)⟩ := by exact rfl) (hc : canTake false cls l.toArray listed i = true := by decide +kernel) (hd : d < N := by decide) (hj : opDst l.toArray j = some g := by exact rfl) (hlt : g < N := by decide) (hb : σ g = .v (.bool !want) ∨ σ g = .v undef := by first | exact .inl rfl | exact .inr rfl | (simp [↓upd_lit, F]; done)) : DA P N l cls Q (fuel + 1) listed σ m := DA.X (s := false) i hi hc hd hj hlt hb h
theorem dW {X : Prop} {oi : Oper} (i : Nat) (k : X) (hi : l[i]? = some oi := by exact rfl) (hc : isReady l.toArray listed [i] = true := by decide +kernel) (hw : cls.getD i .W = .W := by exact rfl) (hg : oi.guard = none := by exact rfl) (hd : dstOK N oi.dst = true := by decide)
    (h : X → ∀ K Kp : PV → St → Prop, (∀ p m', DA P N l cls Q fuel (listed.setIfInBounds i true) (put σ oi.dst p) m' → K p m') → (∀ p m', (∀ σ, Q (.pan p) σ m') → Kp p m') → aop P oi.op (opv σ) m K Kp := by intro k_ K Kp hK hKp; simp [↓aop, ↓Ab.opv, ↓upd_lit, ↓map_ta, ↓List.map_cons, ↓List.map_nil, Nat.add_assoc, F]; (try (simp (disch := omega) only [wrap_i64]; try simp [↓aop, ↓Ab.opv, ↓upd_lit, ↓map_ta, ↓List.map_cons, ↓List.map_nil, Nat.add_assoc, F])); apply hK; clear hK hKp K Kp; exact k_) : DA P N l cls Q (fuel + 1) listed σ m :=
  DA.W i hi hc hw hg hd (h k)
theorem dN {nx : (Nat → PV) → St → Prop} (h : nx σ m) (hc : isReady l.toArray listed [] = true := by decide +kernel) : DA P N l cls (AExit.then nx Q) 0 listed σ m := DA.done hc (AExit.norT h)
theorem dB {i : Nat} (h : Q .normal σ m) (hc : isReady l.toArray listed [] = true := by decide +kernel) : DA P N l cls (AExit.inBlock i Q) 0 listed σ m := DA.done hc (AExit.norB h)
end
end Go.Ab
namespace Go.Ab
open Go.RowKit
section
variable {P : Program} {m : St} {Γ Γ' : Ctx} {w w' : World} {f : FuncId} {args args' : List PV}
mutual
def PV.free : PV → Prop
  | .any | .v _ => True
  | .agg cs => PV.freeL cs
  | .list o rows => (o = .no ∨ o = .full) ∧ rows = []
  | .marr .. => True
  | .tup xs => PV.freeL xs
  | _ => False
def PV.freeL : List PV → Prop
  | [] => True
  | x :: xs => x.free ∧ PV.freeL xs
end
mutual
theorem VRep.free {G : Ctx} (hn : G.nloc = Γ.nloc) (hl : ∀ n, n < Γ.nloc → G.loc n = Γ.loc n) : ∀ (p : PV) (u : Value), p.free → VRep Γ w p u → VRep G w p u
  | .any, _, _, _ => trivial
  | .v _, _, _, h => h
  | .agg cs, u, s, h => by
    obtain ⟨us, e, h⟩ := h
    exact ⟨us, e, LRep.free hn hl cs _ s h⟩
  | .list o rows, u, s, h => by
    obtain ⟨s, rfl⟩ := s
    obtain ⟨a, cap, e, h1, h2, h3, h4⟩ := h
    refine ⟨a, cap, e, h1, h2, fun ad hd => ⟨(h3 ad hd).1, trivial⟩, ?_⟩
    rcases s with rfl | rfl
    · trivial
    · exact h4
  | .marr n off len cap, u, s, h => by
    obtain ⟨h1, c, h2, h3⟩ := h
    exact ⟨by rw [hn]; exact h1, c, h2, by rw [hl n h1]; exact h3⟩
  | .tup xs, u, s, h => by
    obtain ⟨us, e, h⟩ := h
    exact ⟨us, e, LRep.free hn hl xs _ s h⟩
  | .ro _, _, s, _ => s.elim
  | .loc .., _, s, _ => s.elim
  | .clo .., _, s, _ => s.elim
  | .iface .., _, s, _ => s.elim
  | .yld _, _, s, _ => s.elim
  | .mtok .., _, s, _ => s.elim
  | .mptr .., _, s, _ => s.elim
theorem LRep.free {G : Ctx} (hn : G.nloc = Γ.nloc) (hl : ∀ n, n < Γ.nloc → G.loc n = Γ.loc n) : ∀ (xs : List PV) (us : List Value), PV.freeL xs → LRep Γ w xs us → LRep G w xs us
  | [], _, _, h => h
  | x :: xs, us, s, h => by
    obtain ⟨u, us', e, h1, h2⟩ := h
    exact ⟨u, us', e, VRep.free hn hl x _ s.1 h1, LRep.free hn hl xs _ s.2 h2⟩
end
def St.void (m : St) : St := ⟨fun _ => none, fun _ => none, m.nloc, fun _ => 0, fun _ => 0, 0, fun _ => none, fun _ => none⟩
def Ctx.lend (Γ : Ctx) (m : St) (w : World) : Ctx :=
  { Γ with x := ⟨fun _ => False, fun _ => False, w.heap.size, none, []⟩, base := w.heap.size, ntok := 0,
           imm := fun b o => Γ.imm b o ∨ ∃ n cs, n < m.nloc ∧ m.loc n = some cs ∧ b = Γ.loc n ∧ o < cs.length }
theorem MemSim.lend (h : MemSim Γ m w) : MemSim (Γ.lend m w) m.void w := by
  refine ⟨h.nloc, rfl, fun k hk => absurd hk (Nat.not_lt_zero _), fun n cs hn hc => (by cases hc), fun n cs hn hc => (by cases hc), fun n n' cs cs' hn hn' hc => (by cases hc), ?_, Nat.le_refl _,
    fun k hk => absurd hk (Nat.not_lt_zero _), fun k hk => absurd hk (Nat.not_lt_zero _), fun k k' hk => absurd hk (Nat.not_lt_zero _), fun k n cs hk => absurd hk (Nat.not_lt_zero _), fun k cs hk => absurd hk (Nat.not_lt_zero _), ⟨fun n L hn hc => (by cases hc), fun n n' L L' hn hn' hc => (by cases hc)⟩, ⟨fun n L hn hc => (by cases hc), fun n n' L L' hn hn' hc => (by cases hc)⟩,
    ⟨fun D hD => hD.elim, fun l hl => hl.elim, (fun l hl => by cases hl), Nat.le_refl _⟩⟩
  rintro b o (q | ⟨n, cs, hn, hc, rfl, _⟩)
  · exact h.immlt b o q
  · obtain ⟨c, h1, _⟩ := h.locs n cs hn hc
    exact h1.lt
def St.adopt (m m1 : St) : St := { m with nloc := m1.nloc, loc := fun n => if n < m.nloc then m.loc n else m1.loc n, lp := fun n => if n < m.nloc then m.lp n else none, it := fun n => if n < m.nloc then m.it n else none }
def FreeN (m m1 : St) : Prop := ∀ n cs, m.nloc ≤ n → n < m1.nloc → m1.loc n = some cs → PV.freeL cs
theorem ACall.lend {R : PV → St → Prop} (h : ACall P f args' m.void (fun r m1 => ∃ p, r = .ret p ∧ p.free ∧ FreeN m m1 ∧ R p m1))
    (ha : ∀ Γ w us, MemSim Γ m w → LRep Γ w args us → LRep (Γ.lend m w) w args' us) : ACall P f args m (fun r m2 => ∃ p m1, r = .ret p ∧ R p m1 ∧ m.nloc ≤ m1.nloc ∧ m2 = m.adopt m1) := by
  refine ⟨h.1, fun Γ w us hm hr => ?_⟩
  refine (h.2 (Γ.lend m w) w us hm.lend (ha Γ w us hm hr)).mono ?_
  rintro e w' ⟨r, m1, Γ', ⟨p, rfl, hpf, hfree, hR⟩, h2, h3, h4, h5⟩
  have hbel : Below w.heap.size w w' := by have := h4.below; exact this
  have himm : ∀ b o, Γ'.imm b o → b < w.heap.size → (Γ.imm b o ∨ ∃ n cs, n < m.nloc ∧ m.loc n = some cs ∧ b = Γ.loc n ∧ o < cs.length) := fun b o q hb => by
    rcases h3.immb b o q with q | q
    · exact q
    · have : w.heap.size ≤ b := q; omega
  have hheap : ∀ k, k < w.heap.size → w'.heap[k]? = w.heap[k]? := fun k hk => hbel.block k hk
  have hnl : Γ'.nloc = m1.nloc := h5.nloc
  have hnl2 : m.nloc ≤ m1.nloc := by have := h3.nloc; rw [hnl] at this; have h6 : Γ.nloc = m.nloc := hm.nloc; show m.nloc ≤ _; rw [← h6]; exact this
  have hloc : ∀ n, n < m.nloc → Γ'.loc n = Γ.loc n := fun n hn => h3.loc n (by show n < Γ.nloc; rw [hm.nloc]; exact hn)
  obtain ⟨G, hG⟩ : ∃ G : Ctx, G = { Γ with nloc := Γ'.nloc, loc := Γ'.loc, imm := fun b o => Γ.imm b o ∨ (Γ'.imm b o ∧ w.heap.size ≤ b) } := ⟨_, rfl⟩
  have hbase := hm.base
  have hGi : ∀ b o, G.imm b o ↔ Γ.imm b o ∨ (Γ'.imm b o ∧ w.heap.size ≤ b) := by subst hG; exact fun b o => Iff.rfl
  have hGl : G.loc = Γ'.loc := by subst hG; rfl
  have hGn : G.nloc = Γ'.nloc := by subst hG; rfl
  have hGt : G.tok = Γ.tok := by subst hG; rfl
  have hGb : G.base = Γ.base := by subst hG; rfl
  have hGx : G.x = Γ.x := by subst hG; rfl
  have l : Γ.le G := by
    refine ⟨hGb, by rw [hGn, hnl, hm.nloc]; exact hnl2, fun n hn => ?_, fun b o q => (hGi b o).2 (.inl q), by subst hG; exact Nat.le_refl _, fun _ _ => .inl (by subst hG; exact ⟨rfl, rfl, rfl⟩), fun _ _ => (by subst hG; rfl), by rw [hGx]; exact CtxX.le.refl _, fun b o q => ((hGi b o).1 q).imp id (fun r => by have := r.2; omega)⟩
    rw [hGl]; exact hloc n (by rw [← hm.nloc]; exact hn)
  have hk : Keeps Γ w w' := ⟨⟨hbel.1, hbel.2, hbel.3, hbel.4, fun k hk => hheap k (by omega)⟩, fun b o q => cellAt_of_heap (hheap b (hm.immlt b o q)) o⟩
  have hlt : ∀ n cs, n < m.nloc → m.loc n = some cs → Γ.loc n < w.heap.size := fun n cs hn hc => by obtain ⟨c, h1, _⟩ := hm.locs n cs hn hc; exact h1.lt
  have hltt : ∀ k, k < m.ntok → m.top k < DEAD → Γ.tok k < w.heap.size := fun k hk hd => by obtain ⟨c, h1, _⟩ := hm.toks k hk hd; exact h1.lt
  have hsz : w.heap.size ≤ w'.heap.size := hbel.size
  have hobj : ∀ (k : Nat) (o : Obj), w.heap[k]? = some o → o.isCells = false → w'.heap[k]? = some o := fun k o q _ => by
    have hlt' : k < w.heap.size := (Array.getElem?_eq_some_iff.1 q).1
    rw [hheap k hlt']; exact q
  have hnew : ∀ n cs, n < m1.nloc → m1.loc n = some cs → w.heap.size ≤ Γ'.loc n := fun n cs hn hc => by
    have := (h5.apart n cs hn hc).1
    have hb : Γ'.base = w.heap.size := h3.base
    omega
  refine ⟨.ret p, m.adopt m1, G, ⟨p, m1, rfl, hR, hnl2, rfl⟩, ?_, l, hk, ?_⟩
  · cases e with
    | returned v => exact VRep.free (Γ := Γ') hGn (fun n _ => by rw [hGl]) p v hpf h2
    | panicked _ => exact h2.elim
    | outgrown => exact h2.elim
  have ad1 : ∀ n cs, (m.adopt m1).loc n = some cs → (n < m.nloc ∧ m.loc n = some cs) ∨ (m.nloc ≤ n ∧ m1.loc n = some cs) := fun n cs hc => by
    simp only [St.adopt] at hc
    by_cases hn : n < m.nloc
    · rw [if_pos hn] at hc; exact .inl ⟨hn, hc⟩
    · rw [if_neg hn] at hc; exact .inr ⟨by omega, hc⟩
  have hlps : ∀ n L, n < (m.adopt m1).nloc → (m.adopt m1).lp n = some L → n < m.nloc ∧ m.lp n = some L := fun n L _ hc => by
    simp only [St.adopt] at hc
    by_cases hn : n < m.nloc
    · rw [if_pos hn] at hc; exact ⟨hn, hc⟩
    · rw [if_neg hn] at hc; cases hc
  have hits : ∀ n L, n < (m.adopt m1).nloc → (m.adopt m1).it n = some L → n < m.nloc ∧ m.it n = some L := fun n L _ hc => by
    simp only [St.adopt] at hc
    by_cases hn : n < m.nloc
    · rw [if_pos hn] at hc; exact ⟨hn, hc⟩
    · rw [if_neg hn] at hc; cases hc
  refine ⟨by rw [hGn, hnl]; rfl, by subst hG; exact hm.ntok, by subst hG; exact hm.top, fun n cs hn hc => ?_, fun n cs hn hc => ?_, fun n n' cs cs' hn hn' hc hc' he => ?_, fun b o q => ?_, by rw [hGb]; omega, fun k hk' hd => ?_, fun k hk' hd => ?_,
    by rw [hGt]; exact hm.tinj, fun k n cs hk' hd hn hc => ?_, fun k ds hk' hd hq => ?_, ?_, ?_, hm.xs.mono hGx hGb hobj hsz⟩
  · rcases ad1 n cs hc with ⟨q, hc⟩ | ⟨q, hc⟩
    · obtain ⟨c, h6, h7, h8⟩ := hm.locs n cs q hc
      rw [hGl, hloc n q]
      exact ⟨c, h6.of_heap (hheap _ (hlt n cs q hc)), LRep.mono l hk _ _ h7, h8⟩
    · obtain ⟨c, h6, h7, h8⟩ := h5.locs n cs hn hc
      rw [hGl]
      exact ⟨c, h6, LRep.free (Γ := Γ') hGn (fun n _ => by rw [hGl]) _ _ (hfree n cs q hn hc) h7, h8⟩
  · rcases ad1 n cs hc with ⟨q, hc⟩ | ⟨q, hc⟩
    · obtain ⟨h6, h7⟩ := hm.apart n cs q hc
      rw [hGl, hloc n q, hGb]
      refine ⟨h6, fun o r => ?_⟩
      rcases (hGi _ o).1 r with r | ⟨_, r⟩
      · exact h7 o r
      · have := hlt n cs q hc; omega
    · obtain ⟨h6, h7⟩ := h5.apart n cs hn hc
      have h8 := hnew n cs hn hc
      rw [hGl, hGb]
      refine ⟨by omega, fun o r => ?_⟩
      rcases (hGi _ o).1 r with r | ⟨r, _⟩
      · have := hm.immlt _ _ r; omega
      · exact h7 o r
  · rw [hGl] at he
    rcases ad1 n cs hc with ⟨q, hc⟩ | ⟨q, hc⟩ <;> rcases ad1 n' cs' hc' with ⟨q', hc'⟩ | ⟨q', hc'⟩
    · rw [hloc n q, hloc n' q'] at he
      exact hm.inj n n' cs cs' q q' hc hc' he
    · rw [hloc n q] at he
      have h6 := hlt n cs q hc
      have h7 := hnew n' cs' hn' hc'
      omega
    · rw [hloc n' q'] at he
      have h6 := hlt n' cs' q' hc'
      have h7 := hnew n cs hn hc
      omega
    · exact h5.inj n n' cs cs' hn hn' hc hc' he
  · rcases (hGi b o).1 q with q | ⟨q, _⟩
    · have := hm.immlt b o q; omega
    · exact h5.immlt b o q
  · obtain ⟨c, h6, h7⟩ := hm.toks k hk' hd
    rw [hGt]
    exact ⟨c, h6.of_heap (hheap _ (hltt k hk' hd)), by subst hG; exact h7⟩
  · obtain ⟨h6, h7⟩ := hm.tapart k hk' hd
    rw [hGt, hGb]
    refine ⟨h6, fun o q => ?_⟩
    rcases (hGi _ o).1 q with q | ⟨_, q⟩
    · have e1 : G.top k = Γ.top k ∧ G.wd k = Γ.wd k := by subst hG; exact ⟨rfl, rfl⟩
      rw [e1.1, e1.2]; exact h7 o q
    · have := hltt k hk' hd; omega
  · rw [hGt, hGl]
    rcases ad1 n cs hc with ⟨q, hc⟩ | ⟨q, hc⟩
    · rw [hloc n q]; exact hm.tloc k n cs hk' hd q hc
    · have h6 := hltt k hk' hd
      have h7 := hnew n cs hn hc
      omega
  · obtain ⟨h0, hl', c, h6, h7, h8⟩ := hm.arrs k ds hk' hd hq
    rw [hGt]
    refine ⟨fun o q => ?_, hl', c, h6.of_heap (hheap _ (hltt k hk' hd)), LRep.mono l hk _ _ h7, h8⟩
    rcases (hGi _ o).1 q with q | ⟨_, q⟩
    · exact h0 o q
    · have := hltt k hk' hd; omega
  · exact hm.lps.mono l hk hm.nloc hlps (fun n L a b => hheap _ (hm.lps.lt a b))
  · exact hm.its.mono l hm.nloc hits hobj
end
end Go.Ab
namespace Go.Proofs.YtgfadepkiejncaaGreat
open Go.Ab Go.RowKit
set_option maxHeartbeats 0
def MTa (m : St) (lo hi : Nat) (a : List Int) (A : PV) : Prop :=
  (a = [] ∧ A = .list .no [] ∧ lo ≤ hi) ∨ ∃ n, a ≠ [] ∧ A = .marr n 0 a.length a.length ∧ lo ≤ n ∧ n < hi ∧ n < m.nloc ∧ m.loc n = some (limbs a).flatten
def MTl (m : St) (lo hi k : Nat) (rows : List (List PV)) (L : PV) : Prop :=
  (k = 0 ∧ L = .list .no [] ∧ lo ≤ hi) ∨ ∃ n, k ≠ 0 ∧ L = .marr n 0 k k ∧ lo ≤ n ∧ n < hi ∧ n < m.nloc ∧ m.loc n = some rows.flatten
mutual
def MTc (m : St) : Nat → Nat → GV → List PV → Prop
  | lo, hi, .mk k n ng a s l, cs => ∃ A L rows l1 l2, cs = [vI k, vI n, vB ng, A, vS s, L] ∧ MTa m lo l1 a A ∧ MTr m l1 l2 l rows ∧ MTl m l2 hi l.length rows L
def MTr (m : St) : Nat → Nat → List GV → List (List PV) → Prop
  | lo, hi, [], rows => rows = [] ∧ lo ≤ hi
  | lo, hi, v :: l, rows => ∃ r rs mid, rows = r :: rs ∧ MTc m lo mid v r ∧ MTr m mid hi l rs
end
theorem MTa.le {m : St} {lo hi : Nat} {a : List Int} {A : PV} (h : MTa m lo hi a A) : lo ≤ hi := by
  rcases h with ⟨_, _, h⟩ | ⟨n, _, _, h1, h2, _⟩ <;> omega
theorem MTl.le {m : St} {lo hi k : Nat} {rows : List (List PV)} {L : PV} (h : MTl m lo hi k rows L) : lo ≤ hi := by
  rcases h with ⟨_, _, h⟩ | ⟨n, _, _, h1, h2, _⟩ <;> omega
mutual
theorem MTc.le {m : St} : ∀ {v : GV} {lo hi : Nat} {cs : List PV}, MTc m lo hi v cs → lo ≤ hi
  | .mk k n ng a s l, lo, hi, cs, h => by
    obtain ⟨A, L, rows, l1, l2, _, h1, h2, h3⟩ := h
    have := h1.le
    have := MTr.le h2
    have := h3.le
    omega
theorem MTr.le {m : St} : ∀ {l : List GV} {lo hi : Nat} {rows : List (List PV)}, MTr m lo hi l rows → lo ≤ hi
  | [], _, _, _, h => h.2
  | v :: l, lo, hi, rows, h => by
    obtain ⟨r, rs, mid, _, h1, h2⟩ := h
    have := MTc.le h1
    have := MTr.le h2
    omega
end
theorem MTa.mono {m m' : St} {lo hi : Nat} {a : List Int} {A : PV} (hn : hi ≤ m'.nloc) (hl : ∀ n, lo ≤ n → n < hi → m'.loc n = m.loc n) (h : MTa m lo hi a A) : MTa m' lo hi a A := by
  rcases h with h | ⟨n, h0, h1, h2, h3, h4, h5⟩
  · exact .inl h
  · exact .inr ⟨n, h0, h1, h2, h3, by omega, by rw [hl n h2 h3]; exact h5⟩
theorem MTl.mono {m m' : St} {lo hi k : Nat} {rows : List (List PV)} {L : PV} (hn : hi ≤ m'.nloc) (hl : ∀ n, lo ≤ n → n < hi → m'.loc n = m.loc n) (h : MTl m lo hi k rows L) : MTl m' lo hi k rows L := by
  rcases h with h | ⟨n, h0, h1, h2, h3, h4, h5⟩
  · exact .inl h
  · exact .inr ⟨n, h0, h1, h2, h3, by omega, by rw [hl n h2 h3]; exact h5⟩
mutual
theorem MTc.mono {m m' : St} : ∀ {v : GV} {lo hi : Nat} {cs : List PV}, hi ≤ m'.nloc → (∀ n, lo ≤ n → n < hi → m'.loc n = m.loc n) → MTc m lo hi v cs → MTc m' lo hi v cs
  | .mk k n ng a s l, lo, hi, cs, hn, hl, h => by
    obtain ⟨A, L, rows, l1, l2, e, h1, h2, h3⟩ := h
    have a1 := h1.le
    have a2 := MTr.le h2
    have a3 := h3.le
    exact ⟨A, L, rows, l1, l2, e, h1.mono (by omega) (fun n x y => hl n x (by omega)), MTr.mono (by omega) (fun n x y => hl n (by omega) (by omega)) h2, h3.mono hn (fun n x y => hl n (by omega) y)⟩
theorem MTr.mono {m m' : St} : ∀ {l : List GV} {lo hi : Nat} {rows : List (List PV)}, hi ≤ m'.nloc → (∀ n, lo ≤ n → n < hi → m'.loc n = m.loc n) → MTr m lo hi l rows → MTr m' lo hi l rows
  | [], _, _, _, _, _, h => h
  | v :: l, lo, hi, rows, hn, hl, h => by
    obtain ⟨r, rs, mid, e, h1, h2⟩ := h
    have a1 := MTc.le h1
    have a2 := MTr.le h2
    exact ⟨r, rs, mid, e, MTc.mono (by omega) (fun n x y => hl n x (by omega)) h1, MTr.mono hn (fun n x y => hl n (by omega) y) h2⟩
end
theorem MTr.append {m : St} : ∀ {l l' : List GV} {lo mid hi : Nat} {rows rows' : List (List PV)}, MTr m lo mid l rows → MTr m mid hi l' rows' → MTr m lo hi (l ++ l') (rows ++ rows')
  | [], l', lo, mid, hi, rows, rows', h, h' => by
    obtain ⟨rfl, h⟩ := h
    cases l' with
    | nil => exact ⟨h'.1, by have := h'.2; omega⟩
    | cons v l' =>
      obtain ⟨r, rs, md, e, h1, h2⟩ := h'
      exact ⟨r, rs, md, e, MTc.widen h h1, h2⟩
  | v :: l, l', lo, mid, hi, rows, rows', h, h' => by
    obtain ⟨r, rs, md, rfl, h1, h2⟩ := h
    exact ⟨r, rs ++ rows', md, rfl, h1, MTr.append h2 h'⟩
where
  MTc.widen {m : St} : ∀ {v : GV} {lo lo' hi : Nat} {cs : List PV}, lo ≤ lo' → MTc m lo' hi v cs → MTc m lo hi v cs
    | .mk k n ng a s l, lo, lo', hi, cs, hl, h => by
      obtain ⟨A, L, rows, l1, l2, e, h1, h2, h3⟩ := h
      refine ⟨A, L, rows, l1, l2, e, ?_, h2, h3⟩
      rcases h1 with ⟨q1, q2, q3⟩ | ⟨n, q0, q1, q2, q3⟩
      · exact .inl ⟨q1, q2, by omega⟩
      · exact .inr ⟨n, q0, q1, by omega, q3⟩
theorem MTr.len {m : St} : ∀ {l : List GV} {lo hi : Nat} {rows : List (List PV)}, MTr m lo hi l rows → rows.length = l.length
  | [], _, _, _, h => by rw [h.1]; rfl
  | v :: l, lo, hi, rows, h => by
    obtain ⟨r, rs, md, rfl, _, h2⟩ := h
    simp [MTr.len h2]
theorem MTc.len {m : St} {v : GV} {lo hi : Nat} {cs : List PV} (h : MTc m lo hi v cs) : cs.length = 6 := by
  cases v; obtain ⟨A, L, rows, l1, l2, rfl, _⟩ := h; rfl
theorem MTr.w {m : St} : ∀ {l : List GV} {lo hi : Nat} {rows : List (List PV)}, MTr m lo hi l rows → RowsW 6 rows
  | [], _, _, _, h => by rw [h.1]; intro r hr; cases hr
  | v :: l, lo, hi, rows, h => by
    obtain ⟨r, rs, md, rfl, h1, h2⟩ := h
    intro x hx
    rcases List.mem_cons.1 hx with rfl | hx
    · exact h1.len
    · exact MTr.w h2 x hx
theorem MTa.free {m : St} {lo hi : Nat} {a : List Int} {A : PV} (h : MTa m lo hi a A) : A.free := by
  rcases h with ⟨_, rfl, _⟩ | ⟨n, _, rfl, _⟩
  · exact ⟨.inl rfl, rfl⟩
  · trivial
theorem MTl.free {m : St} {lo hi k : Nat} {rows : List (List PV)} {L : PV} (h : MTl m lo hi k rows L) : L.free := by
  rcases h with ⟨_, rfl, _⟩ | ⟨n, _, rfl, _⟩
  · exact ⟨.inl rfl, rfl⟩
  · trivial
theorem MTc.free {m : St} {v : GV} {lo hi : Nat} {cs : List PV} (h : MTc m lo hi v cs) : PV.freeL cs := by
  cases v; obtain ⟨A, L, rows, l1, l2, rfl, h1, _, h3⟩ := h
  exact ⟨trivial, trivial, trivial, h1.free, trivial, h3.free, trivial⟩
theorem freeL_append : ∀ {xs ys : List PV}, PV.freeL xs → PV.freeL ys → PV.freeL (xs ++ ys)
  | [], _, _, h => h
  | _ :: _, _, h, h' => ⟨h.1, freeL_append h.2 h'⟩
theorem MTr.free {m : St} : ∀ {l : List GV} {lo hi : Nat} {rows : List (List PV)}, MTr m lo hi l rows → PV.freeL rows.flatten
  | [], _, _, _, h => by rw [h.1]; trivial
  | v :: l, lo, hi, rows, h => by
    obtain ⟨r, rs, md, rfl, h1, h2⟩ := h
    exact freeL_append h1.free (MTr.free h2)
theorem limbs_free : ∀ a : List Int, PV.freeL (limbs a).flatten
  | [] => trivial
  | x :: a => ⟨trivial, limbs_free a⟩
section
variable {m : St} {Γ : Ctx} {w : World}
theorem lend_cells (hm : MemSim Γ m w) {n : Nat} {cs cs' : List PV} (hn : n < m.nloc) (hc : m.loc n = some cs) (hl : cs'.length = cs.length) (h : ∀ us, LRep Γ w cs us → LRep (Γ.lend m w) w cs' us) : CRep (Γ.lend m w) w cs' (Γ.loc n) 0 := by
  obtain ⟨c, h1, h2, h7⟩ := hm.locs n cs hn hc
  have hlen := LRep.len _ _ h2
  refine CRep.mk cs' c _ 0 (h c h2) fun i u hi' => ⟨?_, h7 u (List.mem_of_getElem? hi'), .inr ⟨n, cs, hn, hc, rfl, ?_⟩⟩
  · have : i < c.length := (List.getElem?_eq_some_iff.1 hi').1
    rw [Nat.zero_add, cellAt_blk h1 this]; exact hi'
  · have : i < c.length := (List.getElem?_eq_some_iff.1 hi').1
    omega
theorem lend_list (hm : MemSim Γ m w) {n k : Nat} {rows rows' : List (List PV)} (hn : n < m.nloc) (hc : m.loc n = some rows.flatten) (hl : rows'.flatten.length = rows.flatten.length) (hk : rows'.length = k) (h : ∀ us, LRep Γ w rows.flatten us → LRep (Γ.lend m w) w rows'.flatten us) (u : Value) (hu : VRep Γ w (.marr n 0 k k) u) : VRep (Γ.lend m w) w (.list .no rows') u := by
  obtain ⟨_, cap, h1, rfl⟩ := hu
  subst hk
  refine ⟨some ⟨Γ.loc n, 0, none⟩, cap, rfl, h1, (fun q => by cases q), fun ad hd => ?_, trivial⟩
  cases hd
  exact ⟨.inr rfl, (SRep.flat _ _ _).2 (lend_cells hm hn hc hl h)⟩
theorem lend_nil (u : Value) (hu : VRep Γ w (.list .no []) u) : VRep (Γ.lend m w) w (.list .no []) u := by
  obtain ⟨a, cap, e, h1, h2, h3, h4⟩ := hu
  exact ⟨a, cap, e, h1, h2, fun ad hd => ⟨(h3 ad hd).1, trivial⟩, trivial⟩
theorem lend_v : ∀ (xs : List PV) (us : List Value), (∀ x ∈ xs, ∃ v, x = .v v) → LRep Γ w xs us → LRep (Γ.lend m w) w xs us
  | [], _, _, h => h
  | x :: xs, us, hx, h => by
    obtain ⟨u, us', e, h1, h2⟩ := h
    obtain ⟨v, rfl⟩ := hx x (by simp)
    exact ⟨u, us', e, h1, lend_v xs _ (fun y hy => hx y (by simp [hy])) h2⟩
theorem limbs_v (a : List Int) : ∀ x ∈ (limbs a).flatten, ∃ v, x = PV.v v := by
  induction a with
  | nil => intro x hx; cases hx
  | cons y a ih =>
    intro x hx
    simp only [limbs, List.map_cons, List.flatten_cons, List.mem_append, List.mem_singleton] at hx ih
    rcases hx with rfl | hx
    · exact ⟨_, rfl⟩
    · exact ih x hx
theorem MTa.lend (hm : MemSim Γ m w) {lo hi : Nat} {a : List Int} {A : PV} (h : MTa m lo hi a A) (u : Value) (hu : VRep Γ w A u) : VRep (Γ.lend m w) w (.list .no (limbs a)) u := by
  rcases h with ⟨rfl, rfl, _⟩ | ⟨n, _, rfl, _, _, hn, hc⟩
  · exact lend_nil u hu
  · exact lend_list hm hn hc rfl (by simp) (fun us h => lend_v _ _ (limbs_v a) h) u hu
theorem rows_flat_len' : ∀ l : List GV, (GV.rows l).flatten.length = l.length * 6
  | [] => rfl
  | v :: l => by
    rw [GV.rows, List.flatten_cons, List.length_append, cells_len, rows_flat_len' l, List.length_cons, Nat.add_mul]; omega
mutual
theorem MTc.lend (hm : MemSim Γ m w) : ∀ {v : GV} {lo hi : Nat} {cs : List PV}, MTc m lo hi v cs → ∀ us, LRep Γ w cs us → LRep (Γ.lend m w) w v.cells us
  | .mk k n ng a s l, lo, hi, cs, h, us, hu => by
    obtain ⟨A, L, rows, l1, l2, rfl, h1, h2, h3⟩ := h
    obtain ⟨u0, us, rfl, e0, u1, us1, rfl, e1, u2, us2, rfl, e2, u3, us3, rfl, e3, u4, us4, rfl, e4, u5, us5, rfl, e5, rfl⟩ := hu
    refine ⟨u0, _, rfl, e0, u1, _, rfl, e1, u2, _, rfl, e2, u3, _, rfl, h1.lend hm u3 e3, u4, _, rfl, e4, u5, _, rfl, ?_, rfl⟩
    rcases h3 with ⟨hk, rfl, _⟩ | ⟨q, _, rfl, _, _, hn, hc⟩
    · have : l = [] := List.length_eq_zero_iff.1 hk
      subst this
      exact lend_nil u5 e5
    · refine lend_list hm hn hc ?_ (by simp) (MTr.lend hm h2) u5 e5
      rw [rows_flat_len', (MTr.w h2).flat, MTr.len h2]
theorem MTr.lend (hm : MemSim Γ m w) : ∀ {l : List GV} {lo hi : Nat} {rows : List (List PV)}, MTr m lo hi l rows → ∀ us, LRep Γ w rows.flatten us → LRep (Γ.lend m w) w (GV.rows l).flatten us
  | [], _, _, _, h, us, hu => by rw [h.1] at hu; exact hu
  | v :: l, lo, hi, rows, h, us, hu => by
    obtain ⟨r, rs, md, rfl, h1, h2⟩ := h
    rw [List.flatten_cons] at hu
    have k1 := LRep.take r.length _ _ hu
    have k2 := LRep.drop r.length _ _ hu
    rw [List.take_left] at k1
    rw [List.drop_left] at k2
    have := LRep.append _ _ _ _ (MTc.lend hm h1 _ k1) (MTr.lend hm h2 _ k2)
    rwa [List.take_append_drop] at this
end
theorem MTc.lendV (hm : MemSim Γ m w) {v : GV} {lo hi : Nat} {cs : List PV} (h : MTc m lo hi v cs) (u : Value) (hu : VRep Γ w (.agg cs) u) : VRep (Γ.lend m w) w v.pv u := by
  obtain ⟨us, e, hu⟩ := hu
  exact ⟨us, e, h.lend hm _ hu⟩
end
end Go.Proofs.YtgfadepkiejncaaGreat
namespace Go.Ab
open Go.RowKit
section
variable {m : St} {Γ : Ctx} {w : World}
def St.endTok (m : St) (k : Nat) : St := { m with top := upd m.top k DEAD, arr := upd m.arr k none }
def Ctx.endTok (Γ : Ctx) (k : Nat) : Ctx := { Γ with top := upd Γ.top k DEAD }
theorem Sees.mtok {k len : Nat} {cs : List PV} (hk : k < m.ntok) (hlv : m.top k < DEAD) (ha : m.arr k = some cs) (hlen : len = m.top k) : Sees (.mtok k len) m (.marr m.nloc 0 len len) ((m.endTok k).newLoc cs) := by
  intro Γ w v h hv
  obtain ⟨hv1, hv2, a, cap, rfl, hv3⟩ := hv
  obtain ⟨ht1, ht2⟩ := h.top k hk
  obtain ⟨rfl, rfl, hcap⟩ := hv3 (by rw [hlen, ht1])
  obtain ⟨h0, hl, c, h1, h2, h7⟩ := h.arrs k cs hk hlv ha
  obtain ⟨hb, _⟩ := h.tapart k hk hlv
  have hnl : Γ.nloc = m.nloc := h.nloc
  obtain ⟨G, hG⟩ : ∃ G, G = (Γ.endTok k).newLoc (Γ.tok k) := ⟨_, rfl⟩
  have l : Γ.le G := by
    subst hG
    refine ⟨rfl, Nat.le_succ _, fun n hn => upd_ne _ _ _ _ (by show n ≠ Γ.nloc; omega), fun _ _ q => q, Nat.le_refl _, fun i hi => ?_, fun _ _ => rfl, CtxX.le.refl _, fun _ _ q => .inl q⟩
    by_cases e : i = k
    · subst e; refine .inr ?_
      show Γ.top i < upd Γ.top i DEAD i
      rw [upd_same, ht1]; exact hlv
    · exact .inl ⟨upd_ne _ _ _ _ e, rfl, rfl⟩
  have key : ∀ n cs', n < m.nloc + 1 → upd m.loc m.nloc (some cs) n = some cs' → (n = m.nloc ∧ cs' = cs ∧ G.loc n = Γ.tok k) ∨ (n < m.nloc ∧ m.loc n = some cs' ∧ G.loc n = Γ.loc n) := by
    intro n cs' hn hc
    subst hG
    by_cases e : n = m.nloc
    · subst e; rw [upd_same] at hc; exact .inl ⟨rfl, by injection hc with hc; exact hc.symm, by show upd Γ.loc Γ.nloc _ m.nloc = _; rw [hnl, upd_same]⟩
    · rw [upd_ne _ _ _ _ e] at hc; exact .inr ⟨by omega, hc, by show upd Γ.loc Γ.nloc _ n = _; rw [upd_ne _ _ _ _ (by omega)]⟩
  have tk : ∀ i, (m.endTok k).top i < DEAD → i ≠ k ∧ m.top i < DEAD := fun i hi => by
    have hi' : upd m.top k DEAD i < DEAD := hi
    by_cases e : i = k
    · rw [e, upd_same] at hi'; exact absurd hi' (Nat.lt_irrefl _)
    · rw [upd_ne _ _ _ _ e] at hi'; exact ⟨e, hi'⟩
  have gt : ∀ i, i ≠ k → G.top i = Γ.top i := fun i hi => by subst hG; exact upd_ne _ _ _ _ hi
  have gi : G.imm = Γ.imm := by subst hG; rfl
  have gb : G.base = Γ.base := by subst hG; rfl
  have gk : G.tok = Γ.tok ∧ G.wd = Γ.wd ∧ G.cp = Γ.cp := by subst hG; exact ⟨rfl, rfl, rfl⟩
  refine ⟨G, ⟨?_, ?_, fun i hi => ?_, fun n cs' hn hc => ?_, fun n cs' hn hc => ?_, fun n n' c1 c2 hn hn' hc hc' hq => ?_, by rw [gi]; exact h.immlt, by rw [gb]; exact h.base, fun i hi hd => ?_, fun i hi hd => ?_, fun i j hi hj hd hd' => ?_, fun i n cs' hi hd hn hc => ?_, fun i ds hi hd hq => ?_, ?_, ?_, ?_⟩, l, ?_⟩
  · subst hG; show Γ.nloc + 1 = m.nloc + 1; omega
  · subst hG; exact h.ntok
  · subst hG
    refine ⟨?_, (h.top i hi).2⟩
    show upd Γ.top k DEAD i = upd m.top k DEAD i
    by_cases e : i = k
    · rw [e, upd_same, upd_same]
    · rw [upd_ne _ _ _ _ e, upd_ne _ _ _ _ e]; exact (h.top i hi).1
  · rcases key n cs' hn hc with ⟨_, rfl, q⟩ | ⟨a1, b1, q⟩
    · rw [q]; exact ⟨c, h1, LRep.mono l (Keeps.refl _ _) _ _ h2, h7⟩
    · rw [q]
      obtain ⟨c', q1, q2, q3⟩ := h.locs n cs' a1 b1
      exact ⟨c', q1, LRep.mono l (Keeps.refl _ _) _ _ q2, q3⟩
  · rw [gb, gi]
    rcases key n cs' hn hc with ⟨_, rfl, q⟩ | ⟨a1, b1, q⟩
    · rw [q]; exact ⟨hb, h0⟩
    · rw [q]; exact h.apart n cs' a1 b1
  · rcases key n c1 hn hc with ⟨a1, _, q⟩ | ⟨a1, b1, q⟩ <;> rcases key n' c2 hn' hc' with ⟨a2, _, q'⟩ | ⟨a2, b2, q'⟩
    · omega
    · rw [q, q'] at hq; exact absurd hq (h.tloc k n' c2 hk hlv a2 b2)
    · rw [q, q'] at hq; exact absurd hq.symm (h.tloc k n c1 hk hlv a1 b1)
    · rw [q, q'] at hq; exact h.inj n n' c1 c2 a1 a2 b1 b2 hq
  · obtain ⟨e, hd'⟩ := tk i hd
    rw [gk.1, gk.2.1, gk.2.2]; exact h.toks i hi hd'
  · obtain ⟨e, hd'⟩ := tk i hd
    rw [gk.1, gk.2.1, gb, gi, gt i e]; exact h.tapart i hi hd'
  · obtain ⟨e, q⟩ := tk i hd
    obtain ⟨e', q'⟩ := tk j hd'
    rw [gk.1]; exact h.tinj i j hi hj q q'
  · obtain ⟨e, q⟩ := tk i hd
    rw [gk.1]
    rcases key n cs' hn hc with ⟨_, rfl, r⟩ | ⟨a1, b1, r⟩
    · rw [r]; exact fun z => e (h.tinj i k hi hk q hlv z)
    · rw [r]; exact h.tloc i n cs' hi q a1 b1
  · obtain ⟨e, q⟩ := tk i hd
    have hq' : upd m.arr k none i = some ds := hq
    rw [upd_ne _ _ _ _ e] at hq'
    obtain ⟨r0, r1, c', r2, r3, r4⟩ := h.arrs i ds hi q hq'
    rw [gk.1, gi]
    refine ⟨r0, ?_, c', r2, LRep.mono l (Keeps.refl _ _) _ _ r3, r4⟩
    show _ = upd m.top k DEAD i * m.wd i
    rw [upd_ne _ _ _ _ e]; exact r1
  · refine h.lps.mono l (Keeps.refl _ _) hnl (fun n L a b => ?_) (fun n L a b => rfl)
    have b' : upd m.lp m.nloc none n = some L := b
    by_cases e : n = m.nloc
    · rw [e, upd_same] at b'; cases b'
    · rw [upd_ne _ _ _ _ e] at b'
      have a' : n < m.nloc + 1 := a
      exact ⟨by omega, b'⟩
  · refine h.its.mono l hnl (fun n L a b => ?_) (fun _ _ q _ => q)
    have b' : upd m.it m.nloc none n = some L := b
    by_cases e : n = m.nloc
    · rw [e, upd_same] at b'; cases b'
    · rw [upd_ne _ _ _ _ e] at b'
      have a' : n < m.nloc + 1 := a
      exact ⟨by omega, b'⟩
  · exact h.xs.mono (by subst hG; rfl) gb (fun _ _ q _ => q)
  · refine ⟨?_, Γ.cp k, hcap, ?_⟩
    · subst hG; show m.nloc < Γ.nloc + 1; omega
    · have : G.loc m.nloc = Γ.tok k := by subst hG; show upd Γ.loc Γ.nloc _ m.nloc = _; rw [hnl, upd_same]
      rw [this]
theorem Sees.agg {xs ys : List PV} {p p' : PV} {m' : St} (h : Sees p m p' m') : Sees (.agg (xs ++ p :: ys)) m (.agg (xs ++ p' :: ys)) m' := by
  intro Γ w v hm hv
  obtain ⟨us, rfl, hu⟩ := hv
  have k1 := LRep.take xs.length _ _ hu
  have k2 := LRep.drop xs.length _ _ hu
  rw [List.take_left] at k1
  rw [List.drop_left] at k2
  obtain ⟨u, us', e, h1, h2⟩ := k2
  obtain ⟨Γ', g1, g2, g3⟩ := h Γ w u hm h1
  refine ⟨Γ', g1, g2, us, rfl, ?_⟩
  have := LRep.append _ _ _ _ (LRep.mono g2 (Keeps.refl _ _) _ _ k1) (show LRep Γ' w (p' :: ys) _ from ⟨u, us', rfl, g3, LRep.mono g2 (Keeps.refl _ _) _ _ h2⟩)
  rwa [← e, List.take_append_drop] at this
end
end Go.Ab
namespace Go.Proofs.YtgfadepkiejncaaGreat
open Go.Ab
set_option maxHeartbeats 0
attribute [local irreducible] AW AList ACall DA AExit.then AExit.inBlock
def sameInt (n : Bool) (a : List Int) (n' : Bool) (a' : List Int) : Bool := n == n' && a == a'
abbrev intv (n : Bool) (a : List Int) : PV := .agg [vB n, .list .no (limbs a)]
theorem ref_sameInt (n n' : Bool) (a a' : List Int) (ha : a.length < 1152921504606846976) (ha' : a'.length < 1152921504606846976) : Gives Tryz.prog 93 [intv n a, intv n' a'] (vB (sameInt n a n' a')) := by
  intro m
  refine ACall.of_aw Tryz.func93 Tryz.ntmps93 rfl rfl (by simp) ?_
  refine tS ?_
  cases hb : (n == n') with
  | false =>
    have F := @hb; refine tFg ?_; (try clear F)
    refine AW.cond (t := true) (by simp [upd_lit, hb]) (fun _ => ?_) (fun h => by cases h)
    refine tS ?_
    exact Fin.ret rfl (((Same.refl m).newLoc _).newLoc _) (by simp [upd_lit]; rfl) (by simp) ⟨by simp [sameInt, hb], rfl⟩
  | true =>
    have F := @hb; refine tFg ?_; (try clear F)
    refine AW.condD (p := a.length ≠ a'.length) (by simp [upd_lit, hb, Int.natCast_inj]) (fun hl => ?_) (fun hl => ?_)
    · refine tS ?_
      exact Fin.ret rfl (((Same.refl m).newLoc _).newLoc _) (by simp [upd_lit]; rfl) (by simp) ⟨by simp [sameInt, hb]; intro e; exact hl (by rw [e]), rfl⟩
    have hl : a.length = a'.length := by simpa using hl
    refine tS ?_
    refine AW.loop (ι := Nat) (fun i σ m' => i ≤ a.length ∧ a.take i = a'.take i ∧ σ 5 = vI i ∧ σ 2 = .loc m.nloc 0 ∧ σ 3 = .loc (m.nloc + 1) 0 ∧ m' = (m.newLoc [vB n, .list .no (limbs a)]).newLoc [vB n', .list .no (limbs a')]) (fun i => a.length - i) 0 ?_ ?_
    · simp [upd_lit, limbs]
    rintro i σ m' ⟨hi, ht, h5, h2, h3, rfl⟩
    have F := (aand @h5 (aand @h2 @h3)); refine tF ?_; (try clear F)
    refine AW.condD (p := i < a.length) (by simp [upd_lit]) (fun hlt => ?_) (fun hge => ?_)
    · have hlt' : i < a'.length := by omega
      have F := (aand @h5 (aand @h2 @h3)); refine tF ?_; (try clear F)
      refine AW.draw [.S, .R, .S, .S, .R, .S, .R, .S, .S, .R, .S] (by decide +kernel) ?_; have F := (aand @h5 (aand @h2 (aand @h3 (aand @limbs_getD (aand @hlt @hlt'))))); refine dS 0 ?_; refine dR 1 ?_; refine dS 2 ?_; refine dS 3 ?_; refine dR 4 ?_; refine dS 5 ?_; refine dR 6 ?_; refine dS 7 ?_; refine dS 8 ?_; refine dR 9 ?_; refine dS 10 ?_; (try clear F); first | refine dN ?_ | refine dB ?_ | refine DA.done (by decide +kernel) ?_
      refine AW.condD (p := a[i] ≠ a'[i]) (by simp [upd_lit]) (fun hc => ?_) (fun hc => ?_)
      · refine tS ?_
        refine Fin.ret rfl (((Same.refl m).newLoc _).newLoc _) (by simp [upd_lit]; rfl) (by simp) ⟨?_, rfl⟩
        simp [sameInt, hb]; intro e; subst e; exact hc rfl
      · have F := (aand @h5 (aand @h2 @h3)); refine tF ?_; (try clear F)
        refine ⟨i + 1, ⟨by omega, ?_, ?_, ?_, ?_, rfl⟩, by omega⟩
        · rw [List.take_succ_eq_append_getElem hlt, List.take_succ_eq_append_getElem hlt', ht]; simp at hc; rw [hc]
        · simp [upd_lit]
        · simp [upd_lit, h2]
        · simp [upd_lit, h3]
    · refine tS ?_
      have hge : i = a.length := by omega
      subst hge
      exact Fin.ret rfl (((Same.refl m).newLoc _).newLoc _) (by simp [upd_lit]; rfl) (by simp) ⟨by rw [List.take_length, hl, List.take_length] at ht; simp [sameInt, hb, ht], rfl⟩
end Go.Proofs.YtgfadepkiejncaaGreat
namespace Go.Proofs.YtgfadepkiejncaaGreat
open Go.Ab
set_option maxHeartbeats 0
attribute [local irreducible] AW AList ACall DA AExit.then AExit.inBlock
mutual
def sameV : GV → GV → Bool
  | .mk k n ng a s l, .mk k' n' ng' a' s' l' => !(k != k' || n != n' || !(s.toList == s'.toList) || l.length != l'.length || !(sameInt ng a ng' a')) && sameL l l'
def sameL : List GV → List GV → Bool
  | a :: l, b :: l' => sameV a b && sameL l l'
  | _, _ => true
end
theorem sameV_eq (a b : GV) : sameV a b = (!(a.kind != b.kind || a.num != b.num || !(a.str.toList == b.str.toList) || a.els.length != b.els.length || !(sameInt a.neg a.abs b.neg b.abs)) && sameL a.els b.els) := by
  cases a; cases b; rfl
theorem sameL_of : ∀ (l l' : List GV), l.length = l'.length → (∀ i (h : i < l.length) (h' : i < l'.length), sameV l[i] l'[i] = true) → sameL l l' = true
  | [], [], _, _ => rfl
  | a :: l, b :: l', hl, h => by
    simp only [sameL, Bool.and_eq_true]
    exact ⟨h 0 (by simp) (by simp), sameL_of l l' (by simpa using hl) fun i h1 h2 => h (i + 1) (by simpa using h1) (by simpa using h2)⟩
  | [], _ :: _, hl, _ => by simp at hl
  | _ :: _, [], hl, _ => by simp at hl
theorem sameL_not : ∀ (l l' : List GV) (i : Nat) (h : i < l.length) (h' : i < l'.length), sameV l[i] l'[i] = false → sameL l l' = false
  | a :: l, b :: l', 0, _, _, h => by simp only [List.getElem_cons_zero] at h; simp [sameL, h]
  | a :: l, b :: l', i + 1, h1, h2, h => by
    have := sameL_not l l' i (by simpa using h1) (by simpa using h2) (by simpa using h)
    simp [sameL, this]
theorem ref_same (a b : GV) (ha : a.ok) (hb : b.ok) : Gives Tryz.prog 34 [a.pv, b.pv] (vB (sameV a b)) := by
  induction hk : nodes a using Nat.strongRecOn generalizing a b with
  | _ k ih =>
  subst hk
  have la := ha.len
  have lb := hb.len
  intro m
  refine ACall.of_aw Tryz.func34 Tryz.ntmps34 rfl rfl (by simp) ?_
  refine tSp ?_
  refine tSc (ref_sameInt _ _ _ _ ha.abs hb.abs) ?_
  refine tSp ?_
  obtain ⟨c, hc⟩ : ∃ c, c = (a.kind != b.kind || a.num != b.num || !(a.str.toList == b.str.toList) || a.els.length != b.els.length || !(sameInt a.neg a.abs b.neg b.abs)) := ⟨_, rfl⟩
  refine AW.cond (t := c) (by subst hc; simp [↓upd_lit, Int.natCast_inj, bne]) (fun h => ?_) (fun h => ?_)
  · refine tS ?_
    exact Fin.ret rfl (((Same.refl m).newLoc _).newLoc _) (by simp [upd_lit]; rfl) (by simp) ⟨by rw [sameV_eq, ← hc, h]; rfl, rfl⟩
  rw [hc] at h
  simp only [Bool.or_eq_false_iff, Bool.not_eq_false', bne_eq_false_iff_eq] at h
  have hl : a.els.length = b.els.length := h.1.2
  refine tS ?_
  refine AW.loop (ι := Nat) (fun i σ m' => i ≤ a.els.length ∧ (∀ j (h1 : j < a.els.length) (h2 : j < b.els.length), j < i → sameV a.els[j] b.els[j] = true) ∧ σ 5 = vI i ∧ σ 2 = .loc m.nloc 0 ∧ σ 3 = .loc (m.nloc + 1) 0 ∧ m' = (m.newLoc a.cells).newLoc b.cells) (fun i => a.els.length - i) 0 ?_ ?_
  · simp [upd_lit]
  rintro i σ m' ⟨hi, ht, h5, h2, h3, rfl⟩
  have F := (aand @h5 (aand @h2 @h3)); refine tF ?_; (try clear F)
  refine AW.condD (p := i < a.els.length) (by simp [upd_lit]) (fun hlt => ?_) (fun hge => ?_)
  · have hlt' : i < b.els.length := by omega
    have hg := nodes_get a.els i hlt
    have hn := nodes_eq a
    have F := (aand @h5 (aand @h2 @h3)); refine tF ?_; (try clear F)
    refine AW.draw [.S, .R, .S, .S, .R, .S, .R, .S, .S, .R, .R, .S] (by decide +kernel) ?_; have F := (aand @h5 (aand @h2 (aand @h3 (aand @rows_getD (aand @hlt @hlt'))))); refine dS 0 ?_; refine dR 1 ?_; refine dS 2 ?_; refine dS 3 ?_; refine dR 4 ?_; refine dS 5 ?_; refine dR 6 ?_; refine dS 7 ?_; refine dS 8 ?_; refine dR 9 ?_; refine dC (ih _ (by omega) a.els[i] b.els[i] (ha.el i hlt) (hb.el i hlt') rfl) 10 ?_; refine dS 11 ?_; (try clear F); first | refine dN ?_ | refine dB ?_ | refine DA.done (by decide +kernel) ?_
    cases hc : sameV a.els[i] b.els[i] with
    | false =>
      refine AW.cond (t := true) (by simp [upd_lit, hc]) (fun _ => ?_) (fun h => by cases h)
      refine tS ?_
      refine Fin.ret rfl (((Same.refl m).newLoc _).newLoc _) (by simp [upd_lit]; rfl) (by simp) ⟨?_, rfl⟩
      rw [sameV_eq, sameL_not _ _ i hlt hlt' hc, Bool.and_false]
    | true =>
      refine AW.cond (t := false) (by simp [upd_lit, hc]) (fun h => by cases h) (fun _ => ?_)
      have F := (aand @h5 (aand @h2 @h3)); refine tF ?_; (try clear F)
      refine ⟨i + 1, ⟨by omega, ?_, ?_, ?_, ?_, rfl⟩, by omega⟩
      · intro j h1 h2 hj
        by_cases e : j = i
        · subst e; exact hc
        · exact ht j h1 h2 (by omega)
      · simp [upd_lit]
      · simp [upd_lit, h2]
      · simp [upd_lit, h3]
  · refine tS ?_
    refine Fin.ret rfl (((Same.refl m).newLoc _).newLoc _) (by simp [upd_lit]; rfl) (by simp) ⟨?_, rfl⟩
    rw [sameV_eq, sameL_of _ _ hl fun j h1 h2 => ht j h1 h2 (by omega)]
    simp [h.1.1.1.1, h.1.1.1.2, h.1.1.2, h.2, hl]
end Go.Proofs.YtgfadepkiejncaaGreat
namespace Go.Proofs.YtgfadepkiejncaaGreat
open Go.Ab
set_option maxHeartbeats 0
attribute [local irreducible] AW AList ACall DA AExit.then AExit.inBlock
mutual
def deep : GV → Nat
  | .mk _ _ _ _ _ l => 1 + deepL l
def deepL : List GV → Nat
  | [] => 0
  | v :: l => max (deep v) (deepL l)
end
theorem deep_eq (v : GV) : deep v = 1 + deepL v.els := by cases v; rfl
theorem deepL_take (l : List GV) (i : Nat) (h : i < l.length) : deepL (l.take (i + 1)) = max (deepL (l.take i)) (deep l[i]) := by
  induction l generalizing i with
  | nil => simp at h
  | cons v l ih =>
    cases i with
    | zero => simp [deepL]
    | succ i => simp [deepL, ih i (by simpa using h), Nat.max_assoc]
mutual
theorem deep_le : ∀ v : GV, deep v ≤ nodes v
  | .mk _ _ _ _ _ l => by have := deepL_le l; simp [deep, nodes]; omega
theorem deepL_le : ∀ l : List GV, deepL l ≤ nodesL l
  | [] => by simp [deepL]
  | v :: l => by have := deep_le v; have := deepL_le l; simp [deepL, nodesL]; omega
end
theorem ref_deep (v : GV) (hv : nodes v < 1152921504606846976) : Gives Tryz.prog 33 [v.pv] (vI (deep v)) := by
  induction hk : nodes v using Nat.strongRecOn generalizing v with
  | _ k ih =>
  subst hk
  have hn := nodes_eq v
  have hl := nodesL_len v.els
  intro m
  refine ACall.of_aw Tryz.func33 Tryz.ntmps33 rfl rfl (by simp) ?_
  refine tS ?_
  refine AW.loop (ι := Nat) (fun i σ m' => i ≤ v.els.length ∧ σ 3 = vI (1 + deepL (v.els.take i)) ∧ σ 4 = vI i ∧ σ 1 = .loc m.nloc 0 ∧ m' = m.newLoc v.cells) (fun i => v.els.length - i) 0 ?_ ?_
  · simp [upd_lit, deepL]
  rintro i σ m' ⟨hi, h3, h4, h1, rfl⟩
  have hnb := nodesL_take_le v.els i
  have hdb := deepL_le (v.els.take i)
  have F := (aand @h1 (aand @h3 @h4)); refine tF ?_; (try clear F)
  refine AW.condD (p := i < v.els.length) (by simp [upd_lit]) (fun hlt => ?_) (fun hge => ?_)
  · have hg := nodes_get v.els i hlt
    have ht := deepL_take v.els i hlt
    have hd := deep_le v.els[i]
    have F := (aand @h1 (aand @h3 (aand @h4 (aand @hlt @rows_getD)))); refine tF ?_; (try clear F)
    have F := (aand @h1 (aand @h3 @h4)); refine tF1 fun K Kp hK hKp => ?_; (try clear F); refine Gives.at (ih _ (by omega) v.els[i] (by omega) rfl) ?_; apply hK; clear hK hKp K Kp
    have F := (aand @h1 (aand @h3 @h4)); refine tF ?_; (try clear F)
    refine ⟨i + 1, ⟨by omega, ?_, ?_, ?_, rfl⟩, by omega⟩
    · simp [upd_lit, ht]; omega
    · simp [upd_lit]
    · simp [upd_lit, h1]
  · have F := @h3; refine tF ?_; (try clear F)
    have hge : i = v.els.length := by omega
    subst hge
    exact Fin.ret rfl ((Same.refl m).newLoc _) (by simp [upd_lit]; rfl) (by simp) ⟨by simp [deep_eq], rfl⟩
mutual
def walkV : GV → List GV
  | .mk k n ng a s l => .mk k n ng a s l :: walkL l
def walkL : List GV → List GV
  | [] => []
  | v :: l => walkV v ++ walkL l
end
theorem walk_eq (v : GV) : walkV v = v :: walkL v.els := by cases v; rfl
theorem walkL_take (l : List GV) (i : Nat) (h : i < l.length) : walkL (l.take (i + 1)) = walkL (l.take i) ++ walkV l[i] := by
  induction l generalizing i with
  | nil => simp at h
  | cons v l ih =>
    cases i with
    | zero => simp [walkL]
    | succ i => simp [walkL, ih i (by simpa using h)]
mutual
theorem walk_len : ∀ v : GV, (walkV v).length = nodes v
  | .mk _ _ _ _ _ l => by have := walkL_len l; simp [walkV, nodes, this]; omega
theorem walkL_len : ∀ l : List GV, (walkL l).length = nodesL l
  | [] => rfl
  | v :: l => by have := walk_len v; have := walkL_len l; simp [walkL, nodesL]; omega
end
theorem ref_walk (v : GV) (hv : nodes v < 1099511627776) : Gives Tryz.prog 38 [v.pv] (GV.pvs (walkV v)) := by
  induction hk : nodes v using Nat.strongRecOn generalizing v with
  | _ k ih =>
  subst hk
  have hn := nodes_eq v
  have hl := nodesL_len v.els
  intro m
  refine ACall.of_aw Tryz.func38 Tryz.ntmps38 rfl rfl (by simp) ?_
  refine tS ?_
  refine AW.loop (ι := Nat) (fun i σ m' => i ≤ v.els.length ∧ (∃ o, σ 3 = .list o (GV.rows (v :: walkL (v.els.take i))) ∧ Ow (m.newLoc v.cells) m' o 6 (1 + nodesL (v.els.take i))) ∧ σ 4 = vI i ∧ σ 1 = .loc m.nloc 0) (fun i => v.els.length - i) 0 ?_ ?_
  · refine ⟨by simp, ⟨.full, by simp [upd_lit, walkL, GV.rows], .full (Same.refl _)⟩, by simp [upd_lit], by simp [upd_lit]⟩
  rintro i σ m' ⟨hi, ⟨o, h3, ho⟩, h4, h1⟩
  have hnb := nodesL_take_le v.els i
  have hm1 : m'.loc m.nloc = some v.cells := (ho.same.get (by simp)).trans (by simp)
  have hm2 : m.nloc < m'.nloc := Nat.lt_of_lt_of_le (by simp) ho.same.lloc
  have F := (aand @h1 (aand @h3 (aand @h4 (aand @hm1 @hm2)))); refine tF ?_; (try clear F)
  refine AW.condD (p := i < v.els.length) (by simp [upd_lit]) (fun hlt => ?_) (fun hge => ?_)
  · have hg := nodes_get v.els i hlt
    have ht := nodesL_take v.els i hlt
    have hw := walkL_take v.els i hlt
    have hb := nodesL_take_le v.els (i + 1)
    have F := (aand @h1 (aand @h3 (aand @h4 (aand @hm1 (aand @hm2 (aand @hlt @rows_getD)))))); refine tF ?_; (try clear F)
    have F := (aand @h1 (aand @h3 @h4)); refine tF1 fun K Kp hK hKp => ?_; (try clear F); refine Gives.at (ih _ (by omega) v.els[i] (by omega) rfl) ?_; apply hK; clear hK hKp K Kp
    refine AList.op (by decide) ?_; intro K Kp hK hKp; simp [h3, upd_lit]
    refine app25 ho (by simp [walkL_len, Nat.add_comm]) (by simp [walkL_len, walk_len]; omega) fun o' m'' ho' _ => hK _ _ ?_; clear hK hKp K Kp
    have F := @h4; refine tF ?_; (try clear F)
    refine ⟨i + 1, ⟨by omega, ⟨o', ?_, ?_⟩, ?_, ?_⟩, by omega⟩
    · simp [upd_lit, hw]
    · rw [walk_len] at ho'; rw [ht, ← Nat.add_assoc]; exact ho'
    · simp [upd_lit]
    · simp [upd_lit, h1]
  · have F := @h3; refine tF ?_; (try clear F)
    have hge : i = v.els.length := by omega
    subst hge
    exact Fin.ret rfl (((Same.refl m).newLoc _).trans ho.same) (by simp [upd_lit]; rfl) (by simp) ⟨by simp [walk_eq, PV.strip], rfl⟩
end Go.Proofs.YtgfadepkiejncaaGreat
namespace Go.Proofs.YtgfadepkiejncaaGreat
open Go.Ab
set_option maxHeartbeats 0
attribute [local irreducible] AW AList ACall DA AExit.then AExit.inBlock
mutual
def wt : GV → Int → Int
  | .mk _ _ _ _ _ l, most => wtL l most 1
def wtL : List GV → Int → Int → Int
  | [], _, n => n
  | v :: l, most, n => if n ≤ most then wtL l most (n + wt v (most - n)) else n
end
theorem wt_eq (v : GV) (most : Int) : wt v most = wtL v.els most 1 := by cases v; rfl
mutual
theorem wt_spec : ∀ (v : GV) (most : Int), 1 ≤ wt v most ∧ (wt v most ≤ 1 ∨ wt v most ≤ most + 1) ∧ (wt v most ≤ most → wt v most = nodes v)
  | .mk _ _ _ _ _ l, most => by
    obtain ⟨h1, h2, h3⟩ := wtL_spec l most 1 (.inl (Int.le_refl _))
    refine ⟨h1, h2, fun h => ?_⟩
    have := h3 h
    simp only [wt, nodes]; rw [this]; simp
theorem wtL_spec : ∀ (l : List GV) (most n : Int), (n ≤ 1 ∨ n ≤ most + 1) → n ≤ wtL l most n ∧ (wtL l most n ≤ 1 ∨ wtL l most n ≤ most + 1) ∧ (wtL l most n ≤ most → wtL l most n = n + nodesL l)
  | [], most, n, h => ⟨Int.le_refl _, h, fun _ => by simp [wtL, nodesL]⟩
  | v :: l, most, n, h => by
    simp only [wtL]
    split
    · rename_i hn
      obtain ⟨h1, h2, h3⟩ := wt_spec v (most - n)
      obtain ⟨k1, k2, k3⟩ := wtL_spec l most (n + wt v (most - n)) (by omega)
      refine ⟨by omega, k2, fun h => ?_⟩
      have := k3 h
      have := h3 (by omega)
      simp only [nodesL]; omega
    · rename_i hn
      exact ⟨Int.le_refl _, h, fun h => absurd h hn⟩
end
theorem drop_get {α : Type} (l : List α) (i : Nat) (h : i < l.length) : l.drop i = l[i] :: l.drop (i + 1) := List.drop_eq_getElem_cons h
theorem law_weight (v : GV) (most : Int) (hv : v.ok) (hm : -4611686018427387904 ≤ most ∧ most < 4611686018427387904) : Gives Tryz.prog 79 [v.pv, vI most] (vI (wt v most)) := by
  induction hk : nodes v using Nat.strongRecOn generalizing v most with
  | _ k ih =>
  subst hk
  have hn := nodes_eq v
  have hl := hv.len
  intro m
  refine ACall.of_aw Tryz.func79 Tryz.ntmps79 rfl rfl (by simp) ?_
  refine tS ?_
  refine AW.loop (ι := Nat) (fun i σ m' => i ≤ v.els.length ∧ (∃ n : Int, σ 5 = vI n ∧ 1 ≤ n ∧ (n ≤ 1 ∨ n ≤ most + 1) ∧ wtL (v.els.drop i) most n = wt v most) ∧ σ 6 = vI i ∧ σ 1 = vI most ∧ σ 2 = .loc m.nloc 0 ∧ m' = m.newLoc v.cells) (fun i => v.els.length - i) 0 ?_ ?_
  · refine ⟨by simp, ⟨1, by simp [upd_lit], by omega, by omega, by simp [wt_eq]⟩, by simp [upd_lit], by simp [upd_lit], by simp [upd_lit], rfl⟩
  rintro i σ m' ⟨hi, ⟨n, h5, hn1, hn2, hw⟩, h6, h1, h2, rfl⟩
  have F := (aand @h1 (aand @h2 (aand @h5 @h6))); refine tFp ?_; (try clear F)
  refine AW.condD (p := i < v.els.length ∧ n ≤ most) (by simp [upd_lit]) (fun hlt => ?_) (fun hge => ?_)
  · obtain ⟨hlt, hle⟩ := hlt
    have hg := nodes_get v.els i hlt
    obtain ⟨s1, s2, s3⟩ := wt_spec v.els[i] (most - n)
    rw [drop_get _ _ hlt, wtL, if_pos hle] at hw
    have F := (aand @h1 (aand @h2 (aand @h5 (aand @h6 (aand @hlt @rows_getD))))); refine tF ?_; (try clear F)
    have F := (aand @h1 (aand @h2 (aand @h5 @h6))); refine tF1 fun K Kp hK hKp => ?_; (try clear F); refine Gives.at (ih _ (by omega) v.els[i] (most - n) (hv.el i hlt) (by omega) rfl) ?_; apply hK; clear hK hKp K Kp
    have F := (aand @h1 (aand @h2 (aand @h5 @h6))); refine tF ?_; (try clear F)
    refine ⟨i + 1, ⟨by omega, ⟨n + wt v.els[i] (most - n), ?_, by omega, by omega, hw⟩, ?_, ?_, ?_, rfl⟩, by omega⟩
    · simp [upd_lit]
    · simp [upd_lit]
    · simp [upd_lit, h1]
    · simp [upd_lit, h2]
  · have F := @h5; refine tF ?_; (try clear F)
    have : n = wt v most := by
      rw [← hw]
      by_cases hlt : i < v.els.length
      · rw [drop_get _ _ hlt, wtL, if_neg (by omega)]
      · rw [List.drop_eq_nil_of_le (by omega), wtL]
    exact Fin.ret rfl ((Same.refl m).newLoc _) (by simp [upd_lit]; rfl) (by simp) ⟨by rw [this], rfl⟩
def numbersF (a b : Int) : Int := if a < b then -1 else if b < a then 1 else 0
theorem ref_numbers (a b : Int) : Gives Tryz.prog 87 [vI a, vI b] (vI (numbersF a b)) := by
  intro m
  refine ACall.of_aw Tryz.func87 Tryz.ntmps87 rfl rfl (by simp) ?_
  refine tS ?_
  refine AW.condD (p := a < b) (by simp [upd_lit]) (fun h => ?_) (fun h => ?_)
  · refine tS ?_
    exact Fin.ret rfl (Same.refl m) (by simp [upd_lit]; rfl) (by simp) ⟨by simp [numbersF, h], rfl⟩
  refine tS ?_
  refine AW.condD (p := b < a) (by simp [upd_lit]) (fun h' => ?_) (fun h' => ?_)
  · refine tS ?_
    exact Fin.ret rfl (Same.refl m) (by simp [upd_lit]; rfl) (by simp) ⟨by simp [numbersF, h, h'], rfl⟩
  refine tS ?_
  exact Fin.ret rfl (Same.refl m) (by simp [upd_lit]; rfl) (by simp) ⟨by simp [numbersF, h, h'], rfl⟩
end Go.Proofs.YtgfadepkiejncaaGreat
namespace Go.Proofs.YtgfadepkiejncaaGreat
open Go.Ab
set_option maxHeartbeats 0
attribute [local irreducible] AW AList ACall DA AExit.then AExit.inBlock
def cmpAt (a b : List Int) : Nat → Int
  | 0 => 0
  | i + 1 => if a.getD i 0 < b.getD i 0 then -1 else if b.getD i 0 < a.getD i 0 then 1 else cmpAt a b i
def sizeF (a b : List Int) : Int := if a.length ≠ b.length then (if a.length < b.length then -1 else 1) else cmpAt a b a.length
theorem ref_size (a b : List Int) (la : a.length < 1152921504606846976) (lb : b.length < 1152921504606846976) : Gives Tryz.prog 136 [.list .no (limbs a), .list .no (limbs b)] (vI (sizeF a b)) := by
  intro m
  refine ACall.of_aw Tryz.func136 Tryz.ntmps136 rfl rfl (by simp) ?_
  refine tS ?_
  refine AW.condD (p := a.length ≠ b.length) (by simp [upd_lit, Int.natCast_inj]) (fun hl => ?_) (fun hl => ?_)
  · refine tS ?_
    refine AW.condD (p := a.length < b.length) (by simp [upd_lit]) (fun h => ?_) (fun h => ?_)
    · refine tS ?_
      exact Fin.ret rfl (Same.refl m) (by simp [upd_lit]; rfl) (by simp) ⟨by simp [sizeF, hl, h], rfl⟩
    · refine tS ?_
      exact Fin.ret rfl (Same.refl m) (by simp [upd_lit]; rfl) (by simp) ⟨by simp [sizeF, hl, h], rfl⟩
  have hl : a.length = b.length := by simpa using hl
  refine tS ?_
  refine AW.loop (ι := Nat) (fun i σ m' => i ≤ a.length ∧ cmpAt a b i = sizeF a b ∧ σ 5 = vI ((i : Int) - 1) ∧ σ 0 = .list .no (limbs a) ∧ σ 1 = .list .no (limbs b) ∧ m' = m) (fun i => i) a.length ?_ ?_
  · simp [upd_lit, sizeF, hl]
  rintro i σ m' ⟨hi, hc, h5, h0, h1, rfl⟩
  have F := (aand @h5 (aand @h0 @h1)); refine tF ?_; (try clear F)
  refine AW.condD (p := 0 < i) (by simp [upd_lit]; omega) (fun hlt => ?_) (fun hge => ?_)
  · obtain ⟨j, rfl⟩ : ∃ j, i = j + 1 := ⟨i - 1, by omega⟩
    have ja : j < a.length := by omega
    have jb : j < b.length := by omega
    have ga : a.getD j 0 = a[j] := by simp [List.getD, ja]
    have gb : b.getD j 0 = b[j] := by simp [List.getD, jb]
    rw [cmpAt, ga, gb] at hc
    have h5' : σ 5 = vI j := by rw [h5]; congr 1; congr 1; omega
    have F := (aand @h5' (aand @h0 @h1)); refine tF ?_; (try clear F)
    refine AW.draw [.S, .S, .S, .R, .S, .S, .S, .R, .S] (by decide +kernel) ?_; have F := (aand @h5' (aand @h0 (aand @h1 (aand @limbs_getD (aand @ja @jb))))); refine dS 0 ?_; refine dS 1 ?_; refine dS 2 ?_; refine dR 3 ?_; refine dS 4 ?_; refine dS 5 ?_; refine dS 6 ?_; refine dR 7 ?_; refine dS 8 ?_; (try clear F); first | refine dN ?_ | refine dB ?_ | refine DA.done (by decide +kernel) ?_
    refine AW.condD (p := a[j] < b[j]) (by simp [upd_lit]) (fun h => ?_) (fun h => ?_)
    · refine tS ?_
      exact Fin.ret rfl (Same.refl _) (by simp [upd_lit]; rfl) (by simp) ⟨by rw [if_pos h] at hc; rw [← hc], rfl⟩
    rw [if_neg h] at hc
    refine tS ?_
    refine AW.draw [.S, .S, .S, .R, .S, .S, .S, .R, .S] (by decide +kernel) ?_; have F := (aand @h5' (aand @h0 (aand @h1 (aand @limbs_getD (aand @ja @jb))))); refine dS 0 ?_; refine dS 1 ?_; refine dS 2 ?_; refine dR 3 ?_; refine dS 4 ?_; refine dS 5 ?_; refine dS 6 ?_; refine dR 7 ?_; refine dS 8 ?_; (try clear F); first | refine dN ?_ | refine dB ?_ | refine DA.done (by decide +kernel) ?_
    refine AW.condD (p := b[j] < a[j]) (by simp [upd_lit]) (fun h' => ?_) (fun h' => ?_)
    · refine tS ?_
      exact Fin.ret rfl (Same.refl _) (by simp [upd_lit]; rfl) (by simp) ⟨by rw [if_pos h'] at hc; rw [← hc], rfl⟩
    rw [if_neg h'] at hc
    have F := @h5'; refine tF ?_; (try clear F)
    refine ⟨j, ⟨by omega, hc, ?_, ?_, ?_, rfl⟩, by omega⟩
    · simp [upd_lit]
    · simp [upd_lit, h0]
    · simp [upd_lit, h1]
  · refine tS ?_
    have : i = 0 := by omega
    subst this
    exact Fin.ret rfl (Same.refl _) (by simp [upd_lit]; rfl) (by simp) ⟨by rw [← hc]; rfl, rfl⟩
def intsF (n : Bool) (a : List Int) (n' : Bool) (a' : List Int) : Int := if n ≠ n' then (if n then -1 else 1) else if n then sizeF a' a else sizeF a a'
theorem ref_ints (n n' : Bool) (a a' : List Int) (la : a.length < 1152921504606846976) (lb : a'.length < 1152921504606846976) : Gives Tryz.prog 88 [intv n a, intv n' a'] (vI (intsF n a n' a')) := by
  intro m
  refine ACall.of_aw Tryz.func88 Tryz.ntmps88 rfl rfl (by simp) ?_
  refine tS ?_
  have sm : Same m ((m.newLoc [vB n, .list .no (limbs a)]).newLoc [vB n', .list .no (limbs a')]) := ((Same.refl m).newLoc _).newLoc _
  cases hn : (n == n') with
  | false =>
    have hne : n ≠ n' := by simpa using hn
    refine AW.cond (t := true) (by simp [upd_lit, hn]) (fun _ => ?_) (fun h => by cases h)
    refine tS ?_
    refine AW.cond (t := n) (by simp [upd_lit]) (fun h => ?_) (fun h => ?_)
    · refine tS ?_
      exact Fin.ret rfl sm (by simp [upd_lit]; rfl) (by simp) ⟨by simp only [intsF]; rw [if_pos hne, if_pos h], rfl⟩
    · refine tS ?_
      exact Fin.ret rfl sm (by simp [upd_lit]; rfl) (by simp) ⟨by simp only [intsF]; rw [if_pos hne, if_neg (by simp [h])], rfl⟩
  | true =>
    have he : ¬ n ≠ n' := by simpa using hn
    refine AW.cond (t := false) (by simp [upd_lit, hn]) (fun h => by cases h) (fun _ => ?_)
    refine tS ?_
    refine AW.cond (t := n) (by simp [upd_lit]) (fun h => ?_) (fun h => ?_)
    · refine tS ?_
      refine tS1 fun K Kp hK hKp => ?_; refine Gives.at (ref_size a' a lb la) ?_; apply hK; clear hK hKp K Kp
      refine tS ?_
      exact Fin.ret rfl sm (by simp [upd_lit]; rfl) (by simp) ⟨by simp only [intsF]; rw [if_neg he, if_pos h], rfl⟩
    · refine tS ?_
      refine tS1 fun K Kp hK hKp => ?_; refine Gives.at (ref_size a a' la lb) ?_; apply hK; clear hK hKp K Kp
      refine tS ?_
      exact Fin.ret rfl sm (by simp [upd_lit]; rfl) (by simp) ⟨by simp only [intsF]; rw [if_neg he, if_neg (by simp [h])], rfl⟩
end Go.Proofs.YtgfadepkiejncaaGreat
namespace Go.Proofs.YtgfadepkiejncaaGreat
open Go.Ab
set_option maxHeartbeats 0
attribute [local irreducible] AW AList ACall DA AExit.then AExit.inBlock
def tenL : List Int → Int → List Int
  | [], c => if 0 < c then [c % 4294967296] else []
  | x :: l, c => (x * 10 + c) % 4294967296 :: tenL l ((x * 10 + c) / 4294967296)
def limbOK (l : List Int) : Prop := ∀ x ∈ l, 0 ≤ x ∧ x < 4294967296
theorem ref_tenfold (n : Bool) (a : List Int) (la : a.length < 549755813888) (ha : limbOK a) : Gives Tryz.prog 137 [intv n a] (intv n (tenL a 0)) := by
  intro m
  refine ACall.of_aw Tryz.func137 Tryz.ntmps137 rfl rfl (by simp) ?_
  refine tS ?_
  refine AW.loop (ι := Nat) (fun i σ m' => i ≤ a.length ∧ (∃ p c o, m'.loc (m.nloc + 2) = some [vB n, .list o (limbs p)] ∧ Ow m m' o 1 p.length ∧ p.length = i ∧ 0 ≤ c ∧ c < 10 ∧ σ 4 = vQ c ∧ p ++ tenL (a.drop i) c = tenL a 0) ∧
    m'.loc m.nloc = some [vB n, .list .no (limbs a)] ∧ m'.loc (m.nloc + 1) = some [vB false, .list .full []] ∧ m.nloc + 2 < m'.nloc ∧ σ 5 = vI i ∧ σ 1 = .loc m.nloc 0 ∧ σ 2 = .loc (m.nloc + 1) 0 ∧ σ 3 = .loc (m.nloc + 2) 0) (fun i => a.length - i) 0 ?_ ?_
  · refine ⟨by simp, ⟨[], 0, .full, by simp [limbs], .full ((((Same.refl m).newLoc _).newLoc _).newLoc _ |>.setLoc (by omega) _), rfl, by omega, by omega, by simp [upd_lit], by simp⟩, by simp; omega, by simp, by simp, by simp [upd_lit], by simp [upd_lit], by simp [upd_lit], by simp [upd_lit]⟩
  rintro i σ m' ⟨hi, ⟨p, c, o, hl2, ho, hp, hc0, hc1, h4, ht⟩, hl0, hl1, hnl, h5, h1, h2, h3⟩
  have hn0 : m.nloc < m'.nloc := by omega
  have F := (aand @h1 (aand @h2 (aand @h3 (aand @h4 (aand @h5 (aand @hl0 (aand @hl2 (aand @hnl @hn0)))))))); refine tF ?_; (try clear F)
  refine AW.condD (p := i < a.length) (by simp [upd_lit]) (fun hlt => ?_) (fun hge => ?_)
  · have hx := ha a[i] (List.getElem_mem hlt)
    have w1 : IntKind.u64.wrap a[i] = a[i] := wrap_u64 _ (by omega) (by omega)
    have w2 : IntKind.u64.wrap (a[i] * 10) = a[i] * 10 := wrap_u64 _ (by omega) (by omega)
    have w3 : IntKind.u64.wrap (a[i] * 10 + c) = a[i] * 10 + c := wrap_u64 _ (by omega) (by omega)
    rw [drop_get _ _ hlt, tenL] at ht
    have F := (aand @h1 (aand @h2 (aand @h3 (aand @h4 (aand @h5 (aand @hl0 (aand @hl2 (aand @hnl (aand @hn0 (aand @limbs_getD (aand @hlt (aand @w1 (aand @w2 (aand @w3 @wrap_u32)))))))))))))); refine tF ?_; (try clear F)
    refine AList.op (by decide) ?_; intro K Kp hK hKp; simp [upd_lit]
    refine app22 (l' := [(a[i] * 10 + c) % 4294967296]) ho rfl (by simp; omega) fun o' m'' ho' hs => hK _ _ ?_; clear hK hKp K Kp
    have gl2 : m''.loc (m.nloc + 2) = some [vB n, .list o (limbs p)] := by rw [hs.loc]; exact hl2
    have gl0 : m''.loc m.nloc = some [vB n, .list .no (limbs a)] := by rw [hs.loc]; exact hl0
    have gl1 : m''.loc (m.nloc + 1) = some [vB false, .list .full []] := by rw [hs.loc]; exact hl1
    have gnl : m.nloc + 2 < m''.nloc := by rw [hs.nloc]; exact hnl
    have F := (aand @h1 (aand @h2 (aand @h3 (aand @h4 (aand @h5 (aand @gl0 (aand @gl2 @gnl))))))); refine tF ?_; (try clear F)
    refine ⟨i + 1, ⟨by omega, ⟨p ++ [(a[i] * 10 + c) % 4294967296], (a[i] * 10 + c) / 4294967296, o', ?_, ⟨ho'.1.setLoc (by omega) _, ?_, ho'.2.2⟩, by simp [hp], by omega, by omega, ?_, ?_⟩, ?_, ?_, ?_, ?_, ?_, ?_, ?_⟩, by omega⟩
    · simp
    · have := ho'.2.1; simp at this ⊢; exact this
    · simp [upd_lit]
    · rw [List.append_assoc]; exact ht
    · simp [gl0]
    · simp [gl1]
    · simp; exact gnl
    · simp [upd_lit]
    · simp [upd_lit, h1]
    · simp [upd_lit, h2]
    · simp [upd_lit, h3]
  · have F := (aand @h1 (aand @h2 (aand @h3 (aand @h4 (aand @h5 (aand @hl0 (aand @hl2 (aand @hnl @hn0)))))))); refine tF ?_; (try clear F)
    have hi' : i = a.length := by omega
    subst hi'
    have hn1 : m.nloc + 1 < m'.nloc := by omega
    rw [List.drop_eq_nil_of_le (Nat.le_refl _), tenL] at ht
    refine AW.condD (p := 0 < c) (by simp [upd_lit]) (fun hc => ?_) (fun hc => ?_)
    · rw [if_pos hc] at ht
      have F := (aand @h1 (aand @h2 (aand @h3 (aand @h4 (aand @h5 (aand @hl0 (aand @hl2 (aand @hnl (aand @hn0 @wrap_u32))))))))); refine tF ?_; (try clear F)
      refine AList.op (by decide) ?_; intro K Kp hK hKp; simp [upd_lit]
      refine app22 (l' := [c % 4294967296]) ho rfl (by simp; omega) fun o' m'' ho' hs => hK _ _ ?_; clear hK hKp K Kp
      have gl2 : m''.loc (m.nloc + 2) = some [vB n, .list o (limbs p)] := by rw [hs.loc]; exact hl2
      have gl1 : m''.loc (m.nloc + 1) = some [vB false, .list .full []] := by rw [hs.loc]; exact hl1
      have gnl : m.nloc + 2 < m''.nloc := by rw [hs.nloc]; exact hnl
      have gn1 : m.nloc + 1 < m''.nloc := by omega
      have F := (aand @h1 (aand @h2 (aand @h3 (aand @h4 (aand @h5 (aand @gl1 (aand @gl2 (aand @gnl @gn1)))))))); refine tF ?_; (try clear F)
      refine Fin.retC (p := .agg [vB n, .list o' (limbs (p ++ [c % 4294967296]))]) rfl (by simp [upd_lit, h2, gn1]) ((ho'.1.setLoc (by omega) _).setLoc (by omega) _) (by simp [ht]) (by simp) ⟨rfl, rfl⟩
    · rw [if_neg hc, List.append_nil] at ht
      have F := (aand @h1 (aand @h2 (aand @h3 (aand @h4 (aand @h5 (aand @hl1 (aand @hl2 (aand @hnl @hn1)))))))); refine tF ?_; (try clear F)
      refine Fin.retC (p := .agg [vB n, .list o (limbs p)]) rfl (by simp [upd_lit, h2, hn1]) (ho.1.setLoc (by omega) _) (by simp [ht]) (by simp) ⟨rfl, rfl⟩
theorem tenL_len : ∀ (l : List Int) (c : Int), (tenL l c).length ≤ l.length + 1
  | [], c => by simp only [tenL]; split <;> simp
  | x :: l, c => by have := tenL_len l ((x * 10 + c) / 4294967296); simp [tenL]; omega
theorem tenL_ok : ∀ (l : List Int) (c : Int), limbOK (tenL l c)
  | [], c, x, h => by
    simp only [tenL] at h; split at h
    · simp at h; omega
    · simp at h
  | y :: l, c, x, h => by
    simp only [tenL, List.mem_cons] at h
    rcases h with h | h
    · omega
    · exact tenL_ok l _ x h
def tens10 : Nat → List Int → List Int
  | 0, l => l
  | k + 1, l => tens10 k (tenL l 0)
theorem tens10_len : ∀ (k : Nat) (l : List Int), (tens10 k l).length ≤ l.length + k
  | 0, l => by simp [tens10]
  | k + 1, l => by have := tens10_len k (tenL l 0); have := tenL_len l 0; simp [tens10]; omega
def decF (a b : GV) : Int := intsF a.neg (tens10 (b.num - a.num).toNat a.abs) b.neg (tens10 (a.num - b.num).toNat b.abs)
def decOK (v : GV) : Prop := v.abs.length < 68719476736 ∧ -68719476736 ≤ v.num ∧ v.num ≤ 68719476736
theorem ref_decimals (a b : GV) (ha : a.ok) (hb : b.ok) (da : decOK a) (db : decOK b) : Gives Tryz.prog 89 [a.pv, b.pv] (vI (decF a b)) := by
  obtain ⟨da1, da2, da3⟩ := da
  obtain ⟨db1, db2, db3⟩ := db
  intro m
  refine ACall.of_aw Tryz.func89 Tryz.ntmps89 rfl rfl (by simp) ?_
  refine tS ?_
  refine AW.loop (ι := Int) (fun n σ m' => (∃ x, m'.loc (m.nloc + 2) = some [vB a.neg, .list .no (limbs x)] ∧ limbOK x ∧ (x.length : Int) + (b.num - n).toNat ≤ a.abs.length + (b.num - a.num).toNat ∧ tens10 (b.num - n).toNat x = tens10 (b.num - a.num).toNat a.abs) ∧ a.num ≤ n ∧
    (n ≤ a.num ∨ n ≤ b.num) ∧ σ 7 = vI n ∧ σ 2 = .loc m.nloc 0 ∧ σ 3 = .loc (m.nloc + 1) 0 ∧ σ 5 = .loc (m.nloc + 2) 0 ∧ σ 6 = .loc (m.nloc + 3) 0 ∧ m'.loc m.nloc = some a.cells ∧ m'.loc (m.nloc + 1) = some b.cells ∧ m'.loc (m.nloc + 3) = some [vB b.neg, .list .no (limbs b.abs)] ∧ m'.nloc = m.nloc + 4 ∧ Same m m') (fun n => (b.num - n).toNat) a.num ?_ ?_
  · exact ⟨⟨a.abs, by simp, ha.limb, by omega, rfl⟩, by omega, by omega, by simp [upd_lit], by simp [upd_lit], by simp [upd_lit], by simp [upd_lit], by simp [upd_lit], by simp [Nat.add_assoc], by simp [Nat.add_assoc], by simp [Nat.add_assoc], by simp [Nat.add_assoc], Same.auto⟩
  rintro n σ m' ⟨⟨x, hl2, hx, hlen, hten⟩, hn1, hn2, h7, h2, h3, h5, h6, hl0, hl1, hl3, hnl, sm⟩
  have F := (aand @h2 (aand @h3 (aand @h5 (aand @h6 (aand @h7 (aand @hl0 (aand @hl1 (aand @hl2 (aand @hl3 @hnl))))))))); refine tF ?_; (try clear F)
  refine AW.condD (p := n < b.num) (by simp [upd_lit]) (fun hlt => ?_) (fun hge => ?_)
  · obtain ⟨k, hk⟩ : ∃ k, (b.num - n).toNat = k + 1 := ⟨(b.num - n).toNat - 1, by omega⟩
    have hk' : (b.num - (n + 1)).toNat = k := by omega
    rw [hk, tens10] at hten
    have hl := tenL_len x 0
    have F := (aand @h2 (aand @h3 (aand @h5 (aand @h6 (aand @h7 (aand @hl0 (aand @hl1 (aand @hl2 (aand @hl3 @hnl))))))))); refine tF ?_; (try clear F)
    have F := (aand @h2 (aand @h3 (aand @h5 (aand @h6 (aand @h7 (aand @hl0 (aand @hl1 (aand @hl2 (aand @hl3 @hnl))))))))); refine tF1 fun K Kp hK hKp => ?_; (try clear F); refine Gives.at (ref_tenfold a.neg x (by omega) hx) ?_; apply hK; clear hK hKp K Kp
    have F := (aand @h2 (aand @h3 (aand @h5 (aand @h6 (aand @h7 (aand @hl0 (aand @hl1 (aand @hl2 (aand @hl3 @hnl))))))))); refine tF ?_; (try clear F)
    refine ⟨n + 1, ⟨⟨tenL x 0, by simp, tenL_ok x 0, by omega, by rw [hk']; exact hten⟩, by omega, by omega, ?_, ?_, ?_, ?_, ?_, ?_, ?_, ?_, ?_, ?_⟩, by omega⟩
    · simp [upd_lit]
    · simp [upd_lit, h2]
    · simp [upd_lit, h3]
    · simp [upd_lit, h5]
    · simp [upd_lit, h6]
    · simp [hl0]
    · simp [hl1]
    · simp [hl3]
    · simp [hnl]
    · exact sm.setLoc (by omega) _
  · have F := (aand @h2 (aand @h3 (aand @h5 (aand @h6 (aand @h7 (aand @hl0 (aand @hl1 (aand @hl2 (aand @hl3 @hnl))))))))); refine tF ?_; (try clear F)
    have hk : (b.num - n).toNat = 0 := by omega
    rw [hk, tens10] at hten
    refine AW.loop (ι := Int) (fun n σ m' => (∃ y, m'.loc (m.nloc + 3) = some [vB b.neg, .list .no (limbs y)] ∧ limbOK y ∧ (y.length : Int) + (a.num - n).toNat ≤ b.abs.length + (a.num - b.num).toNat ∧ tens10 (a.num - n).toNat y = tens10 (a.num - b.num).toNat b.abs) ∧ b.num ≤ n ∧
      (n ≤ b.num ∨ n ≤ a.num) ∧ σ 8 = vI n ∧ σ 2 = .loc m.nloc 0 ∧ σ 3 = .loc (m.nloc + 1) 0 ∧ σ 5 = .loc (m.nloc + 2) 0 ∧ σ 6 = .loc (m.nloc + 3) 0 ∧ m'.loc m.nloc = some a.cells ∧ m'.loc (m.nloc + 1) = some b.cells ∧ m'.loc (m.nloc + 2) = some [vB a.neg, .list .no (limbs x)] ∧ m'.nloc = m.nloc + 4 ∧ Same m m') (fun n => (a.num - n).toNat) b.num ?_ ?_
    · exact ⟨⟨b.abs, hl3, hb.limb, by omega, rfl⟩, by omega, by omega, by simp [upd_lit], by simp [upd_lit, h2], by simp [upd_lit, h3], by simp [upd_lit, h5], by simp [upd_lit, h6], hl0, hl1, hl2, hnl, sm⟩
    clear sm hl0 hl1 hl2 hl3 hnl h2 h3 h5 h6 h7 hge hn1 hn2
    rintro n σ m' ⟨⟨y, hl3, hy, hlen', hten'⟩, hn1, hn2, h8, h2, h3, h5, h6, hl0, hl1, hl2, hnl, sm⟩
    have F := (aand @h2 (aand @h3 (aand @h5 (aand @h6 (aand @h8 (aand @hl0 (aand @hl1 (aand @hl2 (aand @hl3 @hnl))))))))); refine tF ?_; (try clear F)
    refine AW.condD (p := n < a.num) (by simp [upd_lit]) (fun hlt => ?_) (fun hge => ?_)
    · obtain ⟨k, hk⟩ : ∃ k, (a.num - n).toNat = k + 1 := ⟨(a.num - n).toNat - 1, by omega⟩
      have hk' : (a.num - (n + 1)).toNat = k := by omega
      rw [hk, tens10] at hten'
      have hl := tenL_len y 0
      have F := (aand @h2 (aand @h3 (aand @h5 (aand @h6 (aand @h8 (aand @hl0 (aand @hl1 (aand @hl2 (aand @hl3 @hnl))))))))); refine tF ?_; (try clear F)
      have F := (aand @h2 (aand @h3 (aand @h5 (aand @h6 (aand @h8 (aand @hl0 (aand @hl1 (aand @hl2 (aand @hl3 @hnl))))))))); refine tF1 fun K Kp hK hKp => ?_; (try clear F); refine Gives.at (ref_tenfold b.neg y (by omega) hy) ?_; apply hK; clear hK hKp K Kp
      have F := (aand @h2 (aand @h3 (aand @h5 (aand @h6 (aand @h8 (aand @hl0 (aand @hl1 (aand @hl2 (aand @hl3 @hnl))))))))); refine tF ?_; (try clear F)
      refine ⟨n + 1, ⟨⟨tenL y 0, by simp, tenL_ok y 0, by omega, by rw [hk']; exact hten'⟩, by omega, by omega, ?_, ?_, ?_, ?_, ?_, ?_, ?_, ?_, ?_, ?_⟩, by omega⟩
      · simp [upd_lit]
      · simp [upd_lit, h2]
      · simp [upd_lit, h3]
      · simp [upd_lit, h5]
      · simp [upd_lit, h6]
      · simp [hl0]
      · simp [hl1]
      · simp [hl2]
      · simp [hnl]
      · exact sm.setLoc (by omega) _
    · have hk : (a.num - n).toNat = 0 := by omega
      rw [hk, tens10] at hten'
      have F := (aand @h2 (aand @h3 (aand @h5 (aand @h6 (aand @h8 (aand @hl0 (aand @hl1 (aand @hl2 (aand @hl3 @hnl))))))))); refine tF ?_; (try clear F)
      have F := (aand @h2 (aand @h3 (aand @h5 (aand @h6 (aand @h8 (aand @hl0 (aand @hl1 (aand @hl2 (aand @hl3 @hnl))))))))); refine tF1 fun K Kp hK hKp => ?_; (try clear F); refine Gives.at (ref_ints a.neg b.neg x y (by omega) (by omega)) ?_; apply hK; clear hK hKp K Kp
      have F := (aand @h2 (aand @h3 (aand @h5 (aand @h6 (aand @h8 (aand @hl0 (aand @hl1 (aand @hl2 (aand @hl3 @hnl))))))))); refine tF ?_; (try clear F)
      exact Fin.ret rfl sm (by simp [upd_lit]; rfl) (by simp) ⟨by rw [decF, ← hten, ← hten'], rfl⟩
end Go.Proofs.YtgfadepkiejncaaGreat
namespace Go.Proofs.YtgfadepkiejncaaGreat
open Go.Ab
set_option maxHeartbeats 0
attribute [local irreducible] AW AList ACall DA AExit.then AExit.inBlock
def restAt (a : List Int) : Nat → Int → Int
  | 0, r => r
  | i + 1, r => restAt a i ((r * 4294967296 + a.getD i 0) % 10)
def tensF (a : List Int) : Bool := restAt a a.length 0 == 0
theorem ref_tens (a : List Int) (la : a.length < 1152921504606846976) (ha : limbOK a) : Gives Tryz.prog 158 [.list .no (limbs a)] (vB (tensF a)) := by
  intro m
  refine ACall.of_aw Tryz.func158 Tryz.ntmps158 rfl rfl (by simp) ?_
  refine tS ?_
  refine AW.loop (ι := Nat) (fun i σ m' => i ≤ a.length ∧ (∃ r, σ 3 = vQ r ∧ 0 ≤ r ∧ r < 10 ∧ restAt a i r = restAt a a.length 0) ∧ σ 4 = vI ((i : Int) - 1) ∧ σ 0 = .list .no (limbs a) ∧ m' = m) (fun i => i) a.length ?_ ?_
  · exact ⟨by simp, ⟨0, by simp [upd_lit], by omega, by omega, rfl⟩, by simp [upd_lit], by simp [upd_lit], rfl⟩
  rintro i σ m' ⟨hi, ⟨r, h3, hr0, hr1, hr⟩, h4, h0, rfl⟩
  have F := (aand @h3 (aand @h4 @h0)); refine tF ?_; (try clear F)
  refine AW.condD (p := 0 < i) (by simp [upd_lit]; omega) (fun hlt => ?_) (fun hge => ?_)
  · obtain ⟨j, rfl⟩ : ∃ j, i = j + 1 := ⟨i - 1, by omega⟩
    have ja : j < a.length := by omega
    have ga : a.getD j 0 = a[j] := by simp [List.getD, ja]
    have h4' : σ 4 = vI j := by rw [h4]; congr 1; congr 1; omega
    have hx := ha a[j] (List.getElem_mem ja)
    rw [restAt, ga] at hr
    have w1 : IntKind.u64.wrap a[j] = a[j] := wrap_u64 _ (by omega) (by omega)
    have w2 : IntKind.u64.wrap (r * 4294967296) = r * 4294967296 := wrap_u64 _ (by omega) (by omega)
    have w3 : IntKind.u64.wrap (r * 4294967296 + a[j]) = r * 4294967296 + a[j] := wrap_u64 _ (by omega) (by omega)
    have w4 : (r * 4294967296 + a[j]).tmod 10 = (r * 4294967296 + a[j]) % 10 := Int.tmod_eq_emod_of_nonneg (by omega)
    have F := (aand @h3 (aand @h4' (aand @h0 (aand @limbs_getD (aand @ja (aand @w1 (aand @w2 (aand @w3 @w4)))))))); refine tF ?_; (try clear F)
    refine ⟨j, ⟨by omega, ⟨(r * 4294967296 + a[j]) % 10, ?_, by omega, by omega, hr⟩, ?_, ?_, rfl⟩, by omega⟩
    · simp [upd_lit]
    · simp [upd_lit]
    · simp [upd_lit, h0]
  · have : i = 0 := by omega
    subst this
    have F := @h3; refine tF ?_; (try clear F)
    exact Fin.ret rfl (Same.refl _) (by simp [upd_lit]; rfl) (by simp) ⟨by simp [tensF, ← hr, restAt], rfl⟩
def textB (b : Int) : Bool := !((decide (b < 32) || decide (126 < b)) && !decide (b = 10))
def textF (s : ByteArray) : Bool := (List.range s.size).all fun i => textB (byteAt s i)
theorem ref_text (s : ByteArray) (ls : s.size < 1152921504606846976) : Gives Tryz.prog 159 [vS s] (vB (textF s)) := by
  intro m
  refine ACall.of_aw Tryz.func159 Tryz.ntmps159 rfl rfl (by simp) ?_
  refine tS ?_
  refine AW.loop (ι := Nat) (fun i σ m' => i ≤ s.size ∧ (∀ j, j < i → textB (byteAt s j) = true) ∧ σ 3 = vI i ∧ σ 0 = vS s ∧ m' = m) (fun i => s.size - i) 0 ?_ ?_
  · exact ⟨by simp, fun j hj => by omega, by simp [upd_lit], by simp [upd_lit], rfl⟩
  rintro i σ m' ⟨hi, hj, h3, h0, rfl⟩
  have F := (aand @h3 @h0); refine tF ?_; (try clear F)
  refine AW.condD (p := i < s.size) (by simp [upd_lit]) (fun hlt => ?_) (fun hge => ?_)
  · have F := (aand @h3 (aand @h0 @hlt)); refine tFp ?_; (try clear F)
    cases hc : textB (byteAt s i) with
    | false =>
      refine AW.cond (t := !textB (byteAt s i)) (by simp [upd_lit, textB]) (fun _ => ?_) (fun h => by rw [hc] at h; cases h)
      refine tS ?_
      refine Fin.ret rfl (Same.refl _) (by simp [upd_lit]; rfl) (by simp) ⟨?_, rfl⟩
      have : textF s = false := by
        rw [textF, List.all_eq_false]
        exact ⟨i, by simpa using hlt, by simp [hc]⟩
      rw [this]
    | true =>
      refine AW.cond (t := !textB (byteAt s i)) (by simp [upd_lit, textB]) (fun h => by rw [hc] at h; cases h) (fun _ => ?_)
      have F := @h3; refine tF ?_; (try clear F)
      refine ⟨i + 1, ⟨by omega, ?_, by simp [upd_lit], by simp [upd_lit, h0], rfl⟩, by omega⟩
      intro j hj'
      by_cases e : j = i
      · subst e; exact hc
      · exact hj j (by omega)
  · refine tS ?_
    refine Fin.ret rfl (Same.refl _) (by simp [upd_lit]; rfl) (by simp) ⟨?_, rfl⟩
    have : textF s = true := by
      simp only [textF, List.all_eq_true, List.mem_range]
      exact fun j h => hj j (by omega)
    rw [this]
def fieldsF (v : GV) : Bool :=
  let k := v.kind
  if (decide (k < 0) || decide (8 < k)) = true then false else
  let whole := decide (k = 2) || decide (k = 3)
  if (!whole && (v.neg || decide (0 < v.abs.length))) = true then false else
  if ((!decide (k = 4) && !v.str.toList.isEmpty) || ((!decide (k = 7) && !decide (k = 8)) && decide (0 < v.els.length))) = true then false else
  (decide (v.num = 0) || decide (k = 1) || decide (k = 3) || decide (k = 5) || decide (k = 6))
theorem ref_fields (v : GV) (hv : v.ok) : Gives Tryz.prog 128 [v.pv] (vB (fieldsF v)) := by
  have hl := hv.len
  have ha := hv.abs
  intro m
  have sm : Same m (m.newLoc v.cells) := (Same.refl m).newLoc _
  refine ACall.of_aw Tryz.func128 Tryz.ntmps128 rfl rfl (by simp) ?_
  refine tSp ?_
  refine AW.condD (p := (decide (v.kind < 0) || decide (8 < v.kind)) = true) (by simp [upd_lit]) (fun h1 => ?_) (fun h1 => ?_)
  · refine tS ?_
    exact Fin.ret rfl sm (by simp [upd_lit]; rfl) (by simp) ⟨by rw [fieldsF, if_pos h1], rfl⟩
  refine tSp ?_
  refine AW.condD (p := (!(decide (v.kind = 2) || decide (v.kind = 3)) && (v.neg || decide (0 < v.abs.length))) = true) (by simp [upd_lit]) (fun h2 => ?_) (fun h2 => ?_)
  · refine tS ?_
    exact Fin.ret rfl sm (by simp [upd_lit]; rfl) (by simp) ⟨by rw [fieldsF, if_neg h1, if_pos h2], rfl⟩
  refine tSp ?_
  refine AW.cond (t := ((!decide (v.kind = 4) && !v.str.toList.isEmpty) || ((!decide (v.kind = 7) && !decide (v.kind = 8)) && decide (0 < v.els.length)))) (by simp [upd_lit]) (fun h3 => ?_) (fun h3 => ?_)
  · refine tS ?_
    exact Fin.ret rfl sm (by simp [upd_lit]; rfl) (by simp) ⟨by rw [fieldsF, if_neg h1, if_neg h2, if_pos h3], rfl⟩
  refine tSp ?_
  exact Fin.ret rfl sm (by simp [upd_lit]; rfl) (by simp) ⟨by rw [fieldsF, if_neg h1, if_neg h2, if_neg (by rw [h3]; simp)], rfl⟩
def lastZ (a : List Int) : Bool := decide (a[a.length - 1]?.getD 0 = 0)
def formF (v : GV) : Bool :=
  let k := v.kind
  if k = 1 then decide (v.num = 0) || decide (v.num = 1) else
  if k = 5 then decide (1 ≤ v.num) else
  if k = 6 then decide (0 ≤ v.num) else
  if k = 2 ∨ k = 3 then
    (if ((decide (0 < v.abs.length) && lastZ v.abs) || (decide (v.abs = []) && v.neg)) = true then false else
     if k = 3 then (decide (1 ≤ v.num) && decide (v.num ≤ 20)) && (decide (v.num = 1) || !tensF v.abs) else true) else
  if k = 4 then textF v.str else
  if k = 7 then decide (v.els = []) || !decide ((v.els[v.els.length - 1]?.getD default).kind = 0) else true
theorem ref_form (v : GV) (hv : v.ok) : Gives Tryz.prog 129 [v.pv] (vB (formF v)) := by
  have hl := hv.len
  have ha := hv.abs
  intro m
  have sm : Same m (m.newLoc v.cells) := (Same.refl m).newLoc _
  refine ACall.of_aw Tryz.func129 Tryz.ntmps129 rfl rfl (by simp) ?_
  refine tSp ?_
  refine AW.condD (p := v.kind = 1) (by simp [upd_lit]) (fun h1 => ?_) (fun h1 => ?_)
  · refine tSp ?_
    exact Fin.ret rfl sm (by simp [upd_lit]; rfl) (by simp) ⟨by rw [formF, if_pos h1], rfl⟩
  refine tSp ?_
  refine AW.condD (p := v.kind = 5) (by simp [upd_lit]) (fun h5 => ?_) (fun h5 => ?_)
  · refine tSp ?_
    exact Fin.ret rfl sm (by simp [upd_lit]; rfl) (by simp) ⟨by rw [formF, if_neg h1, if_pos h5], rfl⟩
  refine tSp ?_
  refine AW.condD (p := v.kind = 6) (by simp [upd_lit]) (fun h6 => ?_) (fun h6 => ?_)
  · refine tSp ?_
    exact Fin.ret rfl sm (by simp [upd_lit]; rfl) (by simp) ⟨by rw [formF, if_neg h1, if_neg h5, if_pos h6], rfl⟩
  refine tSp ?_
  have hlast : ∀ h : 0 < v.abs.length, rowI (limbs v.abs) (v.abs.length - 1) = [vW (v.abs.getD (v.abs.length - 1) 0)] := fun h => by
    rw [limbs_getD _ _ (by omega)]; simp [List.getD, show v.abs.length - 1 < v.abs.length from by omega]
  have hi0 : ∀ h : 0 < v.abs.length, ((v.abs.length : Int) - 1).toNat = v.abs.length - 1 := fun h => by omega
  have hz1 : ∀ h : 0 < v.abs.length, 1 ≤ (v.abs.length : Int) := fun h => by omega
  have hz2 : (v.abs.length : Int) - 1 < v.abs.length := by omega
  by_cases h2 : v.kind = 2
  · refine AW.cond (t := true) (by simp [upd_lit, h2]) (fun _ => ?_) (fun h => by cases h)
    refine tSp ?_
    refine AW.cond (t := true) (by simp [upd_lit, h2]) (fun _ => ?_) (fun h => by cases h)
    have F := (aand @hlast (aand @hi0 (aand @hz1 @hz2))); refine tFp ?_; (try clear F)
    refine AW.cond (t := ((decide (0 < v.abs.length) && lastZ v.abs) || (decide (v.abs = []) && v.neg))) (by simp [upd_lit, lastZ]) (fun hz => ?_) (fun hz => ?_)
    · refine tSp ?_
      exact Fin.ret rfl sm (by simp [upd_lit]; rfl) (by simp) ⟨by rw [formF, if_neg h1, if_neg h5, if_neg h6, if_pos (by omega), if_pos hz], rfl⟩
    refine tSp ?_
    refine AW.condD (p := v.kind = 3) (by simp [upd_lit]) (fun k3 => ?_) (fun k3 => ?_)
    · exact absurd k3 (by omega)
    · refine tSp ?_
      exact Fin.ret rfl sm (by simp [upd_lit]; rfl) (by simp) ⟨by rw [formF, if_neg h1, if_neg h5, if_neg h6, if_pos (by omega), if_neg (by rw [hz]; simp), if_neg k3], rfl⟩
  refine AW.cond (t := false) (by simp [upd_lit, h2]) (fun h => by cases h) (fun _ => ?_)
  refine tSp ?_
  by_cases h3 : v.kind = 3
  · refine AW.cond (t := true) (by simp [upd_lit, h3]) (fun _ => ?_) (fun h => by cases h)
    have F := (aand @hlast (aand @hi0 (aand @hz1 @hz2))); refine tFp ?_; (try clear F)
    refine AW.cond (t := ((decide (0 < v.abs.length) && lastZ v.abs) || (decide (v.abs = []) && v.neg))) (by simp [upd_lit, lastZ]) (fun hz => ?_) (fun hz => ?_)
    · refine tSp ?_
      exact Fin.ret rfl sm (by simp [upd_lit]; rfl) (by simp) ⟨by rw [formF, if_neg h1, if_neg h5, if_neg h6, if_pos (by omega), if_pos hz], rfl⟩
    refine tSp ?_
    refine AW.condD (p := v.kind = 3) (by simp [upd_lit]) (fun k3 => ?_) (fun k3 => ?_)
    · refine tSp ?_
      refine tSC (ref_tens v.abs ha hv.limb) ?_
      refine tSp ?_
      exact Fin.ret rfl sm (by simp [upd_lit]; rfl) (by simp) ⟨by rw [formF, if_neg h1, if_neg h5, if_neg h6, if_pos (by omega), if_neg (by rw [hz]; simp), if_pos k3], rfl⟩
    · exact absurd h3 k3
  refine AW.cond (t := false) (by simp [upd_lit, h3]) (fun h => by cases h) (fun _ => ?_)
  have hn : ¬ (v.kind = 2 ∨ v.kind = 3) := by omega
  refine tSp ?_
  refine AW.condD (p := v.kind = 4) (by simp [upd_lit]) (fun h4 => ?_) (fun h4 => ?_)
  · refine tSp ?_
    refine tS1 fun K Kp hK hKp => ?_; refine Gives.at (ref_text v.str hv.str) ?_; apply hK; clear hK hKp K Kp
    refine tSp ?_
    exact Fin.ret rfl sm (by simp [upd_lit]; rfl) (by simp) ⟨by rw [formF, if_neg h1, if_neg h5, if_neg h6, if_neg hn, if_pos h4], rfl⟩
  refine tSp ?_
  refine AW.condD (p := v.kind = 7) (by simp [upd_lit]) (fun h7 => ?_) (fun h7 => ?_)
  · have hpos : ∀ h : ¬ v.els = [], 0 < v.els.length := fun h => List.length_pos_iff.2 h
    have hle : ∀ h : ¬ v.els = [], rowI (GV.rows v.els) (v.els.length - 1) = (v.els.getD (v.els.length - 1) default).cells := fun h => by
      have := hpos h
      rw [rows_getD _ _ (by omega)]; simp [List.getD, show v.els.length - 1 < v.els.length from by omega]
    have hi1 : ∀ h : ¬ v.els = [], ((v.els.length : Int) - 1).toNat = v.els.length - 1 := fun h => by have := hpos h; omega
    have hy1 : ∀ h : ¬ v.els = [], 1 ≤ (v.els.length : Int) := fun h => by have := hpos h; omega
    have hy2 : (v.els.length : Int) - 1 < v.els.length := by omega
    have F := (aand @hle (aand @hi1 (aand @hy1 @hy2))); refine tFp ?_; (try clear F)
    exact Fin.ret rfl sm (by simp [upd_lit]; rfl) (by simp) ⟨by rw [formF, if_neg h1, if_neg h5, if_neg h6, if_neg hn, if_neg h4, if_pos h7], rfl⟩
  refine tSp ?_
  exact Fin.ret rfl sm (by simp [upd_lit]; rfl) (by simp) ⟨by rw [formF, if_neg h1, if_neg h5, if_neg h6, if_neg hn, if_neg h4, if_neg h7], rfl⟩
end Go.Proofs.YtgfadepkiejncaaGreat
namespace Go.Proofs.YtgfadepkiejncaaGreat
open Go.Ab
set_option maxHeartbeats 0
attribute [local irreducible] AW AList ACall DA AExit.then AExit.inBlock
def strF (s t : ByteArray) : Int := if Op.bytesLess s.toList t.toList = true then -1 else if (!(Op.bytesLess s.toList t.toList || s.toList == t.toList)) = true then 1 else 0
mutual
def cmpV : GV → GV → Int
  | .mk k n ng a s l, .mk k' n' ng' a' s' l' =>
    if k ≠ k' then numbersF k k' else
    if k = 2 then intsF ng a ng' a' else
    if k = 3 then decF (.mk k n ng a s l) (.mk k' n' ng' a' s' l') else
    if k = 4 then strF s s' else
    if k = 7 ∨ k = 8 then (if l.length ≠ l'.length then numbersF l.length l'.length else cmpL l l') else numbersF n n'
def cmpL : List GV → List GV → Int
  | a :: l, b :: l' => if cmpV a b ≠ 0 then cmpV a b else cmpL l l'
  | _, _ => 0
end
theorem cmpV_eq (a b : GV) : cmpV a b = (if a.kind ≠ b.kind then numbersF a.kind b.kind else
    if a.kind = 2 then intsF a.neg a.abs b.neg b.abs else
    if a.kind = 3 then decF a b else
    if a.kind = 4 then strF a.str b.str else
    if a.kind = 7 ∨ a.kind = 8 then (if a.els.length ≠ b.els.length then numbersF a.els.length b.els.length else cmpL a.els b.els) else numbersF a.num b.num) := by
  cases a; cases b; rfl
mutual
def GV.dk : GV → Prop
  | .mk k n ng a s l => (k = 3 → decOK (.mk k n ng a s l)) ∧ GV.dkL l
def GV.dkL : List GV → Prop
  | [] => True
  | v :: l => v.dk ∧ GV.dkL l
end
theorem dkL_get : ∀ (l : List GV) (i : Nat) (h : i < l.length), GV.dkL l → (l[i]).dk
  | v :: l, 0, _, h => h.1
  | v :: l, i + 1, hi, h => dkL_get l i (by simpa using hi) h.2
theorem GV.dk.self {v : GV} (h : v.dk) (hk : v.kind = 3) : decOK v := by cases v; exact h.1 hk
theorem GV.dk.els {v : GV} (h : v.dk) : GV.dkL v.els := by cases v; exact h.2
theorem GV.dk.el {v : GV} (h : v.dk) (i : Nat) (hi : i < v.els.length) : (v.els[i]).dk := dkL_get _ _ _ h.els
theorem ref_compare (a b : GV) (ha : a.ok) (hb : b.ok) (da : a.dk) (db : b.dk) : Gives Tryz.prog 23 [a.pv, b.pv] (vI (cmpV a b)) := by
  induction hk : nodes a using Nat.strongRecOn generalizing a b with
  | _ k ih =>
  subst hk
  have la := ha.len
  have lb := hb.len
  intro m
  have sm : Same m ((m.newLoc a.cells).newLoc b.cells) := ((Same.refl m).newLoc _).newLoc _
  refine ACall.of_aw Tryz.func23 Tryz.ntmps23 rfl rfl (by simp) ?_
  refine tS ?_
  refine AW.condD (p := a.kind ≠ b.kind) (by simp [upd_lit]) (fun hk => ?_) (fun hk => ?_)
  · refine tS ?_
    refine tS1 fun K Kp hK hKp => ?_; refine Gives.at (ref_numbers a.kind b.kind) ?_; apply hK; clear hK hKp K Kp
    refine tS ?_
    exact Fin.ret rfl sm (by simp [upd_lit]; rfl) (by simp) ⟨by rw [cmpV_eq, if_pos hk], rfl⟩
  refine tS ?_
  refine AW.condD (p := a.kind = 2) (by simp [upd_lit]) (fun h2 => ?_) (fun h2 => ?_)
  · refine tS ?_
    refine tS1 fun K Kp hK hKp => ?_; refine Gives.at (ref_ints a.neg b.neg a.abs b.abs ha.abs hb.abs) ?_; apply hK; clear hK hKp K Kp
    refine tS ?_
    exact Fin.ret rfl sm (by simp [upd_lit]; rfl) (by simp) ⟨by rw [cmpV_eq, if_neg hk, if_pos h2], rfl⟩
  refine tS ?_
  refine AW.condD (p := a.kind = 3) (by simp [upd_lit]) (fun h3 => ?_) (fun h3 => ?_)
  · refine tS ?_
    refine tS1 fun K Kp hK hKp => ?_; refine Gives.at (ref_decimals a b ha hb (da.self h3) (db.self (by omega))) ?_; apply hK; clear hK hKp K Kp
    refine tS ?_
    exact Fin.ret rfl sm (by simp [upd_lit]; rfl) (by simp) ⟨by rw [cmpV_eq, if_neg hk, if_neg h2, if_pos h3], rfl⟩
  refine tS ?_
  refine AW.condD (p := a.kind = 4) (by simp [upd_lit]) (fun h4 => ?_) (fun h4 => ?_)
  · refine tS ?_
    refine AW.cond (t := Op.bytesLess a.str.toList b.str.toList) (by simp [upd_lit]) (fun hs => ?_) (fun hs => ?_)
    · refine tS ?_
      exact Fin.ret rfl sm (by simp [upd_lit]; rfl) (by simp) ⟨by rw [cmpV_eq, if_neg hk, if_neg h2, if_neg h3, if_pos h4, strF, if_pos hs], rfl⟩
    refine tS ?_
    refine AW.cond (t := !(Op.bytesLess a.str.toList b.str.toList || a.str.toList == b.str.toList)) (by simp [upd_lit]) (fun ht => ?_) (fun ht => ?_)
    · refine tS ?_
      exact Fin.ret rfl sm (by simp [upd_lit]; rfl) (by simp) ⟨by rw [cmpV_eq, if_neg hk, if_neg h2, if_neg h3, if_pos h4, strF, if_neg (by rw [hs]; simp), if_pos ht], rfl⟩
    refine tS ?_
    exact Fin.ret rfl sm (by simp [upd_lit]; rfl) (by simp) ⟨by rw [cmpV_eq, if_neg hk, if_neg h2, if_neg h3, if_pos h4, strF, if_neg (by rw [hs]; simp), if_neg (by rw [ht]; simp)], rfl⟩
  refine tS ?_
  by_cases h7 : a.kind = 7
  · refine AW.cond (t := true) (by simp [upd_lit, h7]) (fun _ => ?_) (fun h => by cases h)
    refine tS ?_
    refine AW.cond (t := true) (by simp [upd_lit, h7]) (fun _ => ?_) (fun h => by cases h)
    have h78 : a.kind = 7 ∨ a.kind = 8 := .inl h7
    refine tS ?_
    refine AW.condD (p := a.els.length ≠ b.els.length) (by simp [upd_lit, Int.natCast_inj]) (fun hl => ?_) (fun hl => ?_)
    · refine tS ?_
      refine tS1 fun K Kp hK hKp => ?_; refine Gives.at (ref_numbers a.els.length b.els.length) ?_; apply hK; clear hK hKp K Kp
      refine tS ?_
      exact Fin.ret rfl sm (by simp [upd_lit]; rfl) (by simp) ⟨by rw [cmpV_eq, if_neg hk, if_neg h2, if_neg h3, if_neg h4, if_pos h78, if_pos hl], rfl⟩
    have hle : a.els.length = b.els.length := by simpa using hl
    have hE : cmpV a b = cmpL a.els b.els := by rw [cmpV_eq, if_neg hk, if_neg h2, if_neg h3, if_neg h4, if_pos h78, if_neg hl]
    refine tS ?_
    refine AW.loop (ι := Nat) (fun i σ m' => i ≤ a.els.length ∧ cmpL (a.els.drop i) (b.els.drop i) = cmpL a.els b.els ∧ σ 5 = vI i ∧ σ 2 = .loc m.nloc 0 ∧ σ 3 = .loc (m.nloc + 1) 0 ∧ m' = (m.newLoc a.cells).newLoc b.cells) (fun i => a.els.length - i) 0 ?_ ?_
    · exact ⟨by simp, by simp, by simp [upd_lit], by simp [upd_lit], by simp [upd_lit], rfl⟩
    rintro i σ m' ⟨hi, hc, h5, h2', h3', rfl⟩
    have F := (aand @h5 (aand @h2' @h3')); refine tF ?_; (try clear F)
    refine AW.condD (p := i < a.els.length) (by simp [upd_lit]) (fun hlt => ?_) (fun hge => ?_)
    · have hlt' : i < b.els.length := by omega
      have hg := nodes_get a.els i hlt
      have hn := nodes_eq a
      rw [drop_get _ _ hlt, drop_get _ _ hlt', cmpL] at hc
      have F := (aand @h5 (aand @h2' @h3')); refine tF ?_; (try clear F)
      refine AW.draw [.S, .R, .S, .S, .R, .S, .R, .S, .S, .R, .R, .S] (by decide +kernel) ?_; have F := (aand @h5 (aand @h2' (aand @h3' (aand @rows_getD (aand @hlt @hlt'))))); refine dS 0 ?_; refine dR 1 ?_; refine dS 2 ?_; refine dS 3 ?_; refine dR 4 ?_; refine dS 5 ?_; refine dR 6 ?_; refine dS 7 ?_; refine dS 8 ?_; refine dR 9 ?_; refine dC (ih _ (by omega) a.els[i] b.els[i] (ha.el i hlt) (hb.el i hlt') (da.el i hlt) (db.el i hlt') rfl) 10 ?_; refine dS 11 ?_; (try clear F); first | refine dN ?_ | refine dB ?_ | refine DA.done (by decide +kernel) ?_
      refine tS ?_
      refine AW.condD (p := cmpV a.els[i] b.els[i] ≠ 0) (by simp [upd_lit]) (fun h0 => ?_) (fun h0 => ?_)
      · refine tS ?_
        rw [if_pos h0] at hc
        exact Fin.ret rfl sm (by simp [upd_lit]; rfl) (by simp) ⟨by rw [hE, hc], rfl⟩
      · rw [if_neg h0] at hc
        have F := @h5; refine tF ?_; (try clear F)
        exact ⟨i + 1, ⟨by omega, hc, by simp [upd_lit], by simp [upd_lit, h2'], by simp [upd_lit, h3'], rfl⟩, by omega⟩
    · refine tS ?_
      have e : i = a.els.length := by omega
      rw [List.drop_eq_nil_of_le (by omega), List.drop_eq_nil_of_le (by omega), cmpL] at hc
      · exact Fin.ret rfl sm (by simp [upd_lit]; rfl) (by simp) ⟨by rw [hE, ← hc], rfl⟩
      · intros; simp_all
  refine AW.cond (t := false) (by simp [upd_lit, h7]) (fun h => by cases h) (fun _ => ?_)
  refine tS ?_
  by_cases h8 : a.kind = 8
  · refine AW.cond (t := true) (by simp [upd_lit, h8]) (fun _ => ?_) (fun h => by cases h)
    have h78 : a.kind = 7 ∨ a.kind = 8 := .inr h8
    refine tS ?_
    refine AW.condD (p := a.els.length ≠ b.els.length) (by simp [upd_lit, Int.natCast_inj]) (fun hl => ?_) (fun hl => ?_)
    · refine tS ?_
      refine tS1 fun K Kp hK hKp => ?_; refine Gives.at (ref_numbers a.els.length b.els.length) ?_; apply hK; clear hK hKp K Kp
      refine tS ?_
      exact Fin.ret rfl sm (by simp [upd_lit]; rfl) (by simp) ⟨by rw [cmpV_eq, if_neg hk, if_neg h2, if_neg h3, if_neg h4, if_pos h78, if_pos hl], rfl⟩
    have hle : a.els.length = b.els.length := by simpa using hl
    have hE : cmpV a b = cmpL a.els b.els := by rw [cmpV_eq, if_neg hk, if_neg h2, if_neg h3, if_neg h4, if_pos h78, if_neg hl]
    refine tS ?_
    refine AW.loop (ι := Nat) (fun i σ m' => i ≤ a.els.length ∧ cmpL (a.els.drop i) (b.els.drop i) = cmpL a.els b.els ∧ σ 5 = vI i ∧ σ 2 = .loc m.nloc 0 ∧ σ 3 = .loc (m.nloc + 1) 0 ∧ m' = (m.newLoc a.cells).newLoc b.cells) (fun i => a.els.length - i) 0 ?_ ?_
    · exact ⟨by simp, by simp, by simp [upd_lit], by simp [upd_lit], by simp [upd_lit], rfl⟩
    rintro i σ m' ⟨hi, hc, h5, h2', h3', rfl⟩
    have F := (aand @h5 (aand @h2' @h3')); refine tF ?_; (try clear F)
    refine AW.condD (p := i < a.els.length) (by simp [upd_lit]) (fun hlt => ?_) (fun hge => ?_)
    · have hlt' : i < b.els.length := by omega
      have hg := nodes_get a.els i hlt
      have hn := nodes_eq a
      rw [drop_get _ _ hlt, drop_get _ _ hlt', cmpL] at hc
      have F := (aand @h5 (aand @h2' @h3')); refine tF ?_; (try clear F)
      refine AW.draw [.S, .R, .S, .S, .R, .S, .R, .S, .S, .R, .R, .S] (by decide +kernel) ?_; have F := (aand @h5 (aand @h2' (aand @h3' (aand @rows_getD (aand @hlt @hlt'))))); refine dS 0 ?_; refine dR 1 ?_; refine dS 2 ?_; refine dS 3 ?_; refine dR 4 ?_; refine dS 5 ?_; refine dR 6 ?_; refine dS 7 ?_; refine dS 8 ?_; refine dR 9 ?_; refine dC (ih _ (by omega) a.els[i] b.els[i] (ha.el i hlt) (hb.el i hlt') (da.el i hlt) (db.el i hlt') rfl) 10 ?_; refine dS 11 ?_; (try clear F); first | refine dN ?_ | refine dB ?_ | refine DA.done (by decide +kernel) ?_
      refine tS ?_
      refine AW.condD (p := cmpV a.els[i] b.els[i] ≠ 0) (by simp [upd_lit]) (fun h0 => ?_) (fun h0 => ?_)
      · refine tS ?_
        rw [if_pos h0] at hc
        exact Fin.ret rfl sm (by simp [upd_lit]; rfl) (by simp) ⟨by rw [hE, hc], rfl⟩
      · rw [if_neg h0] at hc
        have F := @h5; refine tF ?_; (try clear F)
        exact ⟨i + 1, ⟨by omega, hc, by simp [upd_lit], by simp [upd_lit, h2'], by simp [upd_lit, h3'], rfl⟩, by omega⟩
    · refine tS ?_
      have e : i = a.els.length := by omega
      rw [List.drop_eq_nil_of_le (by omega), List.drop_eq_nil_of_le (by omega), cmpL] at hc
      · exact Fin.ret rfl sm (by simp [upd_lit]; rfl) (by simp) ⟨by rw [hE, ← hc], rfl⟩
      · intros; simp_all
  refine AW.cond (t := false) (by simp [upd_lit, h8]) (fun h => by cases h) (fun _ => ?_)
  refine tS ?_
  refine tS1 fun K Kp hK hKp => ?_; refine Gives.at (ref_numbers a.num b.num) ?_; apply hK; clear hK hKp K Kp
  refine tS ?_
  exact Fin.ret rfl sm (by simp [upd_lit]; rfl) (by simp) ⟨by rw [cmpV_eq, if_neg hk, if_neg h2, if_neg h3, if_neg h4, if_neg (by omega)], rfl⟩
end Go.Proofs.YtgfadepkiejncaaGreat
namespace Go.Proofs.YtgfadepkiejncaaGreat
open Go.Ab
set_option maxHeartbeats 0
attribute [local irreducible] AW AList ACall DA AExit.then AExit.inBlock
def badSet (k : Int) (prev : Option GV) (v : GV) : Bool := decide (k = 8) && (decide (v.kind = 0) || (match prev with | none => false | some p => decide (0 ≤ cmpV p v)))
mutual
def folV : GV → Int → Int → Int → Int × Int
  | .mk k n ng a s l, N, E, d =>
    if E ≠ 0 then (N, E) else
    if (decide (3000 ≤ N) || decide (20 < d)) = true then (0, 3) else
    if (!fieldsF (.mk k n ng a s l) || !formF (.mk k n ng a s l)) = true then (0, 2) else
    if (decide (40 < (a.length : Int)) || decide (1000 < (s.size : Int))) = true then (0, 3) else folL k none l (N + 1) d
def folL : Int → Option GV → List GV → Int → Int → Int × Int
  | _, _, [], N, _ => (N, 0)
  | k, p, v :: l, N, d =>
    if (folV v N 0 (d + 1)).2 ≠ 0 then folV v N 0 (d + 1) else
    if badSet k p v = true then (0, 2) else folL k (some v) l (folV v N 0 (d + 1)).1 d
end
theorem folV_eq (v : GV) (N E d : Int) : folV v N E d = (if E ≠ 0 then (N, E) else
    if (decide (3000 ≤ N) || decide (20 < d)) = true then (0, 3) else
    if (!fieldsF v || !formF v) = true then (0, 2) else
    if (decide (40 < (v.abs.length : Int)) || decide (1000 < (v.str.size : Int))) = true then (0, 3) else folL v.kind none v.els (N + 1) d) := by
  cases v; rfl
mutual
theorem fol_nn : ∀ (v : GV) (N E d : Int), 0 ≤ N → 0 ≤ (folV v N E d).1
  | .mk k n ng a s l, N, E, d, h => by
    simp only [folV]
    split
    · exact h
    split
    · simp
    split
    · simp
    split
    · simp
    exact folL_nn k none l (N + 1) d (by omega)
theorem folL_nn : ∀ (k : Int) (p : Option GV) (l : List GV) (N d : Int), 0 ≤ N → 0 ≤ (folL k p l N d).1
  | k, p, [], N, d, h => by simp only [folL]; exact h
  | k, p, v :: l, N, d, h => by
    simp only [folL]
    have h1 := fol_nn v N 0 (d + 1) h
    split
    · exact h1
    split
    · simp
    exact folL_nn k (some v) l _ d h1
end
mutual
theorem fol_dk : ∀ (v : GV) (N d : Int), (folV v N 0 d).2 = 0 → v.dk
  | .mk k n ng a s l, N, d, h => by
    simp only [folV] at h
    split at h
    · rename_i h0; exact absurd rfl h0
    split at h
    · simp at h
    split at h
    · simp at h
    rename_i hf
    split at h
    · simp at h
    rename_i hl
    refine ⟨fun hk => ?_, folL_dk k none l (N + 1) d h⟩
    subst hk
    have hf2 : formF (.mk 3 n ng a s l) = true := by simp at hf; exact hf.2
    simp [formF, GV.kind, GV.num, GV.abs, GV.neg] at hf2
    simp at hl
    have n1 : 1 ≤ n := of_decide_eq_true hf2.2.1.1
    have n2 : n ≤ 20 := of_decide_eq_true hf2.2.1.2
    clear hf2
    refine ⟨by simp [GV.abs]; omega, by simp [GV.num]; omega, by simp [GV.num]; omega⟩
theorem folL_dk : ∀ (k : Int) (p : Option GV) (l : List GV) (N d : Int), (folL k p l N d).2 = 0 → GV.dkL l
  | k, p, [], N, d, h => trivial
  | k, p, v :: l, N, d, h => by
    simp only [folL] at h
    split at h
    · exact absurd h (by assumption)
    rename_i h0
    split at h
    · simp at h
    exact ⟨fol_dk v N (d + 1) (by simpa using h0), folL_dk k (some v) l _ d h⟩
end
abbrev way (N E : Int) : PV := .agg [vI N, vE E]
def prevOf (l : List GV) : Nat → Option GV
  | 0 => none
  | i + 1 => l[i]?
theorem ref_followed (v : GV) (N E d : Int) (hv : v.ok) (hN : 0 ≤ N) (hd : -4611686018427387904 ≤ d ∧ d < 4611686018427387904) : Gives Tryz.prog 84 [way N E, v.pv, vI d] (way (folV v N E d).1 (folV v N E d).2) := by
  induction hk : nodes v using Nat.strongRecOn generalizing v N E d with
  | _ k ih =>
  subst hk
  have hl := hv.len
  have ha := hv.abs
  have hs := hv.str
  intro m
  refine ACall.of_aw Tryz.func84 Tryz.ntmps84 rfl rfl (by simp) ?_
  refine tS ?_
  refine AW.condD (p := E ≠ 0) (by simp [upd_lit]) (fun h1 => ?_) (fun h1 => ?_)
  · refine tS ?_
    exact Fin.retC (p := way N E) (q := way N E) rfl (by simp [upd_lit]) Same.auto (by simp) (by simp) ⟨by rw [folV_eq, if_pos h1], rfl⟩
  have hE : E = 0 := by omega
  subst hE
  refine tSp ?_
  refine AW.condD (p := (decide (3000 ≤ N) || decide (20 < d)) = true) (by simp [upd_lit]) (fun h2 => ?_) (fun h2 => ?_)
  · refine tS ?_
    exact Fin.retC (p := way 0 3) (q := way 0 3) rfl (by simp [upd_lit]) Same.auto (by simp) (by simp) ⟨by rw [folV_eq, if_neg (by simp), if_pos h2], rfl⟩
  have hN2 : N < 3000 := by simp at h2; omega
  have hd2 : d ≤ 20 := by simp at h2; omega
  refine tSp ?_
  refine tS1 fun K Kp hK hKp => ?_; refine Gives.at (ref_fields v hv) ?_; apply hK; clear hK hKp K Kp
  refine tSp ?_
  refine tSc (ref_form v hv) ?_
  refine tSp ?_
  refine AW.condD (p := (!fieldsF v || !formF v) = true) (by simp [upd_lit]) (fun h3 => ?_) (fun h3 => ?_)
  · refine tS ?_
    exact Fin.retC (p := way 0 2) (q := way 0 2) rfl (by simp [upd_lit]) Same.auto (by simp) (by simp) ⟨by rw [folV_eq, if_neg (by simp), if_neg h2, if_pos h3], rfl⟩
  refine tSp ?_
  refine AW.condD (p := (decide (40 < (v.abs.length : Int)) || decide (1000 < (v.str.size : Int))) = true) (by simp [upd_lit]) (fun h4 => ?_) (fun h4 => ?_)
  · refine tS ?_
    exact Fin.retC (p := way 0 3) (q := way 0 3) rfl (by simp [upd_lit]) Same.auto (by simp) (by simp) ⟨by rw [folV_eq, if_neg (by simp), if_neg h2, if_neg h3, if_pos h4], rfl⟩
  have hR : folV v N 0 d = folL v.kind none v.els (N + 1) d := by rw [folV_eq, if_neg (by simp), if_neg h2, if_neg h3, if_neg h4]
  refine tS ?_
  refine AW.loop (ι := Nat) (fun i σ m' => i ≤ v.els.length ∧ (∃ M, m'.loc m.nloc = some [vI M, vE 0] ∧ 0 ≤ M ∧ folL v.kind (prevOf v.els i) (v.els.drop i) M d = folV v N 0 d) ∧ (∀ j (h : j < v.els.length), j < i → (v.els[j]).dk) ∧
    m'.loc (m.nloc + 1) = some v.cells ∧ m'.loc (m.nloc + 2) = some [vI 0, vE 0] ∧ m'.nloc = m.nloc + 3 ∧ Same m m' ∧ σ 7 = vI i ∧ σ 2 = vI d ∧ σ 3 = .loc m.nloc 0 ∧ σ 4 = .loc (m.nloc + 1) 0 ∧ σ 6 = .loc (m.nloc + 2) 0) (fun i => v.els.length - i) 0 ?_ ?_
  · exact ⟨by simp, ⟨N + 1, by simp [Nat.add_assoc], by omega, by simp [prevOf, hR]⟩, fun j _ h => by omega, by simp [Nat.add_assoc], by simp [Nat.add_assoc], by simp [Nat.add_assoc], Same.auto, by simp [upd_lit], by simp [upd_lit], by simp [upd_lit], by simp [upd_lit], by simp [upd_lit]⟩
  rintro i σ m' ⟨hi, ⟨M, q0, hM, hF⟩, hdk, q1, q2, qn, sm, h7, g2, g3, g4, g6⟩
  have F := (aand @q0 (aand @q1 (aand @q2 (aand @qn (aand @h7 (aand @g2 (aand @g3 (aand @g4 @g6)))))))); refine tF ?_; (try clear F)
  refine AW.condD (p := i < v.els.length) (by simp [upd_lit]) (fun hlt => ?_) (fun hge => ?_)
  · have hg := nodes_get v.els i hlt
    have hn := nodes_eq v
    rw [drop_get _ _ hlt, folL] at hF
    have F := (aand @q0 (aand @q1 (aand @q2 (aand @qn (aand @h7 (aand @g2 (aand @g3 (aand @g4 @g6)))))))); refine tF ?_; (try clear F)
    have hnl := fol_nn v.els[i] M 0 (d + 1) hM
    refine AW.draw [.R, .S, .R, .S, .S, .R, .S, .S, .R, .W] (by decide +kernel) ?_; have F := (aand @q0 (aand @q1 (aand @q2 (aand @qn (aand @h7 (aand @g2 (aand @g3 (aand @g4 (aand @g6 (aand @rows_getD @hlt)))))))))); refine dR 0 ?_; refine dS 1 ?_; refine dR 2 ?_; refine dS 3 ?_; refine dS 4 ?_; refine dR 5 ?_; refine dS 6 ?_; refine dS 7 ?_; refine dC (ih _ (by omega) v.els[i] M 0 (d + 1) (hv.el i hlt) hM (by omega) rfl) 8 ?_; refine dW 9 ?_; (try clear F); first | refine dN ?_ | refine dB ?_ | refine DA.done (by decide +kernel) ?_
    have F := (aand @q0 (aand @q1 (aand @q2 (aand @qn (aand @h7 (aand @g2 (aand @g3 (aand @g4 @g6)))))))); refine tF ?_; (try clear F)
    refine AW.condD (p := (folV v.els[i] M 0 (d + 1)).2 ≠ 0) (by simp [upd_lit]) (fun h5 => ?_) (fun h5 => ?_)
    · rw [if_pos h5] at hF
      have F := (aand @q0 (aand @q1 (aand @q2 (aand @qn (aand @h7 (aand @g2 (aand @g3 (aand @g4 @g6)))))))); refine tF ?_; (try clear F)
      exact Fin.retC (p := way (folV v.els[i] M 0 (d + 1)).1 (folV v.els[i] M 0 (d + 1)).2) (q := way (folV v.els[i] M 0 (d + 1)).1 (folV v.els[i] M 0 (d + 1)).2) rfl (by simp [upd_lit, g6, qn]) Same.auto (by simp) (by simp) ⟨by rw [← hF], rfl⟩
    rw [if_neg h5] at hF
    have h0 : (folV v.els[i] M 0 (d + 1)).2 = 0 := by simpa using h5
    have hdki := fol_dk _ _ _ h0
    have F := (aand @q0 (aand @q1 (aand @q2 (aand @qn (aand @h7 (aand @g2 (aand @g3 (aand @g4 @g6)))))))); refine tF ?_; (try clear F)
    have nx : ∀ σ' : Nat → PV, σ' 7 = vI (i + 1) → σ' 2 = vI d → σ' 3 = .loc m.nloc 0 → σ' 4 = .loc (m.nloc + 1) 0 → σ' 6 = .loc (m.nloc + 2) 0 → badSet v.kind (prevOf v.els i) v.els[i] = false →
        ∃ j, (j ≤ v.els.length ∧ (∃ M', (m'.setLoc m.nloc [vI (folV v.els[i] M 0 (d + 1)).1, vE 0]).loc m.nloc = some [vI M', vE 0] ∧ 0 ≤ M' ∧ folL v.kind (prevOf v.els j) (v.els.drop j) M' d = folV v N 0 d) ∧ (∀ k (h : k < v.els.length), k < j → (v.els[k]).dk) ∧
    (m'.setLoc m.nloc [vI (folV v.els[i] M 0 (d + 1)).1, vE 0]).loc (m.nloc + 1) = some v.cells ∧ (m'.setLoc m.nloc [vI (folV v.els[i] M 0 (d + 1)).1, vE 0]).loc (m.nloc + 2) = some [vI 0, vE 0] ∧ (m'.setLoc m.nloc [vI (folV v.els[i] M 0 (d + 1)).1, vE 0]).nloc = m.nloc + 3 ∧ Same m (m'.setLoc m.nloc [vI (folV v.els[i] M 0 (d + 1)).1, vE 0]) ∧ σ' 7 = vI j ∧ σ' 2 = vI d ∧ σ' 3 = .loc m.nloc 0 ∧ σ' 4 = .loc (m.nloc + 1) 0 ∧ σ' 6 = .loc (m.nloc + 2) 0) ∧ v.els.length - j < v.els.length - i := by
      intro σ' a1 a2 a3 a4 a5 hb
      rw [if_neg (by rw [hb]; simp)] at hF
      refine ⟨i + 1, ⟨by omega, ⟨(folV v.els[i] M 0 (d + 1)).1, by simp, hnl, ?_⟩, fun k h hk => ?_, by simp [q1], by simp [q2], by simp [qn], Same.auto, a1, a2, a3, a4, a5⟩, by omega⟩
      · simpa [prevOf, hlt] using hF
      · by_cases e : k = i
        · subst e; exact hdki
        · exact hdk k h (by omega)
    rw [h0]
    by_cases hA : v.kind = 8
    · by_cases hB : v.els[i].kind = 0
      · have hb : badSet v.kind (prevOf v.els i) v.els[i] = true := by simp [badSet, hA, hB]
        rw [if_pos hb] at hF
        refine AW.draw [.S, .R, .S, .S, .S, .R, .S, .S, .S, .R, .S, .S, .S, .S, .S, .S, .R, .S, .S, .S, .R, .S, .R, .S, .S, .R, .R, .S, .S, .S, .S] (by decide +kernel) ?_; have F := (aand @hA (aand @hB (aand @q1 (aand @q2 (aand @qn (aand @h7 (aand @g2 (aand @g3 (aand @g4 (aand @g6 (aand @rows_getD @hlt))))))))))); refine dS 0 ?_; refine dR 1 ?_; refine dS 2 ?_; refine dS 3 ?_; refine dSG 4 ?_; refine dRG 5 ?_; refine dSG 6 ?_; refine dSG 7 ?_; refine dSG 8 ?_; refine dRG 9 ?_; refine dSG 10 ?_; refine dSG 11 ?_; refine dXx 12 ?_; refine dXx 13 ?_; refine dXx 14 ?_; refine dXx 15 ?_; refine dXX 16 ?_; refine dXx 17 ?_; refine dXx 18 ?_; refine dXx 19 ?_; refine dXX 20 ?_; refine dXx 21 ?_; refine dXX 22 ?_; refine dXx 23 ?_; refine dXx 24 ?_; refine dXX 25 ?_; refine dXX 26 ?_; refine dXx 27 ?_; refine dXx 28 ?_; refine dSG 29 ?_; refine dS 30 ?_; (try clear F); first | refine dN ?_ | refine dB ?_ | refine DA.done (by decide +kernel) ?_
        refine AW.cond (t := true) (by simp [upd_lit]) (fun _ => ?_) (fun h => by cases h)
        have F := (aand @q0 (aand @q1 (aand @q2 (aand @qn (aand @h7 (aand @g2 (aand @g3 (aand @g4 @g6)))))))); refine tF ?_; (try clear F)
        exact Fin.retC (p := way 0 2) (q := way 0 2) rfl (by simp [upd_lit, g6, qn]) Same.auto (by simp) (by simp) ⟨by rw [← hF], rfl⟩
      · cases i with
        | zero =>
          have hb : badSet v.kind (prevOf v.els 0) v.els[0] = false := by simp [badSet, hA, hB, prevOf]
          refine AW.draw [.S, .R, .S, .S, .S, .R, .S, .S, .S, .R, .S, .S, .S, .S, .S, .S, .R, .S, .S, .S, .R, .S, .R, .S, .S, .R, .R, .S, .S, .S, .S] (by decide +kernel) ?_; have F := (aand @hA (aand @hB (aand @q1 (aand @q2 (aand @qn (aand @h7 (aand @g2 (aand @g3 (aand @g4 (aand @g6 (aand @rows_getD @hlt))))))))))); refine dS 0 ?_; refine dR 1 ?_; refine dS 2 ?_; refine dS 3 ?_; refine dSG 4 ?_; refine dRG 5 ?_; refine dSG 6 ?_; refine dSG 7 ?_; refine dSG 8 ?_; refine dRG 9 ?_; refine dSG 10 ?_; refine dSG 11 ?_; refine dSG 12 ?_; refine dSG 13 ?_; refine dSG 14 ?_; refine dXx 15 ?_; refine dXX 16 ?_; refine dXx 17 ?_; refine dXx 18 ?_; refine dXx 19 ?_; refine dXX 20 ?_; refine dXx 21 ?_; refine dXX 22 ?_; refine dXx 23 ?_; refine dXx 24 ?_; refine dXX 25 ?_; refine dXX 26 ?_; refine dXx 27 ?_; refine dSG 28 ?_; refine dSG 29 ?_; refine dS 30 ?_; (try clear F); first | refine dN ?_ | refine dB ?_ | refine DA.done (by decide +kernel) ?_
          refine AW.cond (t := false) (by simp [upd_lit]) (fun h => by cases h) (fun _ => ?_)
          have F := (aand @q0 (aand @q1 (aand @q2 (aand @qn (aand @h7 (aand @g2 (aand @g3 (aand @g4 @g6)))))))); refine tF ?_; (try clear F)
          exact nx _ (by simp [upd_lit]) (by simp [upd_lit, g2]) (by simp [upd_lit, g3]) (by simp [upd_lit, g4]) (by simp [upd_lit, g6]) hb
        | succ i =>
          have hlp : i < v.els.length := by omega
          have hi0 : 0 ≤ (i : Int) + 1 := by omega
          have hi1 : (i : Int) + 1 < v.els.length := by omega
          have hi2 : ((i : Int) + 1).toNat = i + 1 := by omega
          refine AW.draw [.S, .R, .S, .S, .S, .R, .S, .S, .S, .R, .S, .S, .S, .S, .S, .S, .R, .S, .S, .S, .R, .S, .R, .S, .S, .R, .R, .S, .S, .S, .S] (by decide +kernel) ?_; have F := (aand @hA (aand @hB (aand @hlp (aand @hi0 (aand @hi1 (aand @hi2 (aand @q1 (aand @q2 (aand @qn (aand @h7 (aand @g2 (aand @g3 (aand @g4 (aand @g6 (aand @rows_getD @hlt))))))))))))))); refine dS 0 ?_; refine dR 1 ?_; refine dS 2 ?_; refine dS 3 ?_; refine dSG 4 ?_; refine dRG 5 ?_; refine dSG 6 ?_; refine dSG 7 ?_; refine dSG 8 ?_; refine dRG 9 ?_; refine dSG 10 ?_; refine dSG 11 ?_; refine dSG 12 ?_; refine dSG 13 ?_; refine dSG 14 ?_; refine dSG 15 ?_; refine dRG 16 ?_; refine dSG 17 ?_; refine dSG 18 ?_; refine dSG 19 ?_; refine dRG 20 ?_; refine dSG 21 ?_; refine dRG 22 ?_; refine dSG 23 ?_; refine dSG 24 ?_; refine dRG 25 ?_; refine dCG (ref_compare v.els[i] v.els[i + 1] (hv.el i hlp) (hv.el (i + 1) hlt) (hdk i hlp (by omega)) hdki) 26 ?_; refine dSG 27 ?_; refine dSG 28 ?_; refine dSG 29 ?_; refine dS 30 ?_; (try clear F); first | refine dN ?_ | refine dB ?_ | refine DA.done (by decide +kernel) ?_
          have hpv : prevOf v.els (i + 1) = some v.els[i] := by simp [prevOf, hlp]
          have hbe : badSet v.kind (prevOf v.els (i + 1)) v.els[i + 1] = decide (0 ≤ cmpV v.els[i] v.els[i + 1]) := by rw [hpv]; simp [badSet, hA, hB]
          refine AW.cond (t := badSet v.kind (prevOf v.els (i + 1)) v.els[i + 1]) (by rw [hbe]; simp [upd_lit]) (fun hb => ?_) (fun hb => ?_)
          · rw [if_pos hb] at hF
            have F := (aand @q0 (aand @q1 (aand @q2 (aand @qn (aand @h7 (aand @g2 (aand @g3 (aand @g4 @g6)))))))); refine tF ?_; (try clear F)
            exact Fin.retC (p := way 0 2) (q := way 0 2) rfl (by simp [upd_lit, g6, qn]) Same.auto (by simp) (by simp) ⟨by rw [← hF], rfl⟩
          · have F := (aand @q0 (aand @q1 (aand @q2 (aand @qn (aand @h7 (aand @g2 (aand @g3 (aand @g4 @g6)))))))); refine tF ?_; (try clear F)
            exact nx _ (by simp [upd_lit]) (by simp [upd_lit, g2]) (by simp [upd_lit, g3]) (by simp [upd_lit, g4]) (by simp [upd_lit, g6]) hb
    · have hb : badSet v.kind (prevOf v.els i) v.els[i] = false := by simp [badSet, hA]
      refine AW.draw [.S, .R, .S, .S, .S, .R, .S, .S, .S, .R, .S, .S, .S, .S, .S, .S, .R, .S, .S, .S, .R, .S, .R, .S, .S, .R, .R, .S, .S, .S, .S] (by decide +kernel) ?_; have F := (aand @hA (aand @q1 (aand @q2 (aand @qn (aand @h7 (aand @g2 (aand @g3 (aand @g4 (aand @g6 (aand @rows_getD @hlt)))))))))); refine dS 0 ?_; refine dR 1 ?_; refine dS 2 ?_; refine dS 3 ?_; refine dXx 4 ?_; refine dXX 5 ?_; refine dXx 6 ?_; refine dXx 7 ?_; refine dXx 8 ?_; refine dXX 9 ?_; refine dXx 10 ?_; refine dXx 11 ?_; refine dXx 12 ?_; refine dXx 13 ?_; refine dXx 14 ?_; refine dXx 15 ?_; refine dXX 16 ?_; refine dXx 17 ?_; refine dXx 18 ?_; refine dXx 19 ?_; refine dXX 20 ?_; refine dXx 21 ?_; refine dXX 22 ?_; refine dXx 23 ?_; refine dXx 24 ?_; refine dXX 25 ?_; refine dXX 26 ?_; refine dXx 27 ?_; refine dXx 28 ?_; refine dXx 29 ?_; refine dS 30 ?_; (try clear F); first | refine dN ?_ | refine dB ?_ | refine DA.done (by decide +kernel) ?_
      refine AW.cond (t := false) (by simp [upd_lit, hA]) (fun h => by cases h) (fun _ => ?_)
      have F := (aand @q0 (aand @q1 (aand @q2 (aand @qn (aand @h7 (aand @g2 (aand @g3 (aand @g4 @g6)))))))); refine tF ?_; (try clear F)
      exact nx _ (by simp [upd_lit]) (by simp [upd_lit, g2]) (by simp [upd_lit, g3]) (by simp [upd_lit, g4]) (by simp [upd_lit, g6]) hb
  · have F := (aand @q0 (aand @q1 (aand @q2 (aand @qn (aand @h7 (aand @g2 (aand @g3 (aand @g4 @g6)))))))); refine tF ?_; (try clear F)
    have e : i = v.els.length := by omega
    rw [List.drop_eq_nil_of_le (by omega), folL] at hF
    exact Fin.retC (p := way M 0) (q := way M 0) rfl (by simp [upd_lit, g6, qn]) (sm.setLoc (by omega) _) (by simp) (by simp) ⟨by rw [← hF], rfl⟩
def checkF (v : GV) : Int := (folV v 0 0 1).2
theorem ref_check (v : GV) (hv : v.ok) : Gives Tryz.prog 20 [v.pv] (vE (checkF v)) := by
  intro m
  refine ACall.of_aw Tryz.func20 Tryz.ntmps20 rfl rfl (by simp) ?_
  refine tS ?_
  refine tS1 fun K Kp hK hKp => ?_; refine Gives.at (ref_followed v 0 0 1 hv (by omega) (by omega)) ?_; apply hK; clear hK hKp K Kp
  refine tS ?_
  exact Fin.ret rfl Same.auto (by simp [upd_lit]; rfl) (by simp) ⟨rfl, rfl⟩
end Go.Proofs.YtgfadepkiejncaaGreat
namespace Go.Proofs.YtgfadepkiejncaaGreat
open Go.Ab
set_option maxHeartbeats 0
attribute [local irreducible] AW AList ACall DA AExit.then AExit.inBlock
theorem okL_append : ∀ (a b : List GV), GV.okL a → GV.okL b → GV.okL (a ++ b)
  | [], b, _, h => h
  | v :: a, b, h, k => ⟨h.1, okL_append a b h.2 k⟩
mutual
theorem walk_ok : ∀ v : GV, v.ok → GV.okL (walkV v)
  | .mk k n ng a s l, h => ⟨h, walkL_ok l h.2.2.2.2.2.2⟩
theorem walkL_ok : ∀ l : List GV, GV.okL l → GV.okL (walkL l)
  | [], _ => trivial
  | v :: l, h => okL_append _ _ (walk_ok v h.1) (walkL_ok l h.2)
end
def small (x : GV) : Bool := !(decide (60 < (x.abs.length : Int)) || decide (1100 < (x.str.size : Int)))
def lightF (v : GV) (most : Int) : Bool := if most < wt v most then false else (walkV v).all small
theorem all_false {l : List GV} {f : GV → Bool} (i : Nat) (h : i < l.length) (hf : f l[i] = false) : l.all f = false := by
  rw [List.all_eq_false]; exact ⟨l[i], List.getElem_mem h, by simp [hf]⟩
theorem law_light (v : GV) (most : Int) (hv : v.ok) (h0 : 0 ≤ most) (h1 : most < 1099511627776) : Gives Tryz.prog 17 [v.pv, vI most] (vB (lightF v most)) := by
  intro m
  refine ACall.of_aw Tryz.func17 Tryz.ntmps17 rfl rfl (by simp) ?_
  refine tS ?_
  refine tS1 fun K Kp hK hKp => ?_; refine Gives.at (law_weight v most hv (by omega)) ?_; apply hK; clear hK hKp K Kp
  refine tS ?_
  refine AW.condD (p := most < wt v most) (by simp [upd_lit]) (fun hw => ?_) (fun hw => ?_)
  · refine tS ?_
    exact Fin.ret rfl Same.auto (by simp [upd_lit]; rfl) (by simp) ⟨by rw [lightF, if_pos hw], rfl⟩
  obtain ⟨w1, w2, w3⟩ := wt_spec v most
  have hn : nodes v < 1099511627776 := by have := w3 (by omega); omega
  have hok := walk_ok v hv
  have hlen := walk_len v
  have hL : lightF v most = (walkV v).all small := by rw [lightF, if_neg hw]
  refine tS ?_
  refine tS1 fun K Kp hK hKp => ?_; refine Gives.at (ref_walk v hn) ?_; apply hK; clear hK hKp K Kp
  refine tS ?_
  refine AW.loop (ι := Nat) (fun i σ m' => i ≤ (walkV v).length ∧ (∀ j (h : j < (walkV v).length), j < i → small (walkV v)[j] = true) ∧ σ 6 = vI i ∧ σ 5 = GV.pvs (walkV v) ∧ m' = m.newLoc v.cells) (fun i => (walkV v).length - i) 0 ?_ ?_
  · exact ⟨by simp, fun j _ h => by omega, by simp [upd_lit], by simp [upd_lit], rfl⟩
  rintro i σ m' ⟨hi, hj, h6, h5, rfl⟩
  have F := (aand @h6 @h5); refine tF ?_; (try clear F)
  refine AW.condD (p := i < (walkV v).length) (by simp [upd_lit]) (fun hlt => ?_) (fun hge => ?_)
  · have hoi := okL_get _ i hlt hok
    have la := hoi.abs
    have ls := hoi.str
    have F := (aand @h6 (aand @h5 (aand @rows_getD @hlt))); refine tFp ?_; (try clear F)
    cases hc : small (walkV v)[i] with
    | false =>
      refine AW.cond (t := !small (walkV v)[i]) (by simp [upd_lit, small]) (fun _ => ?_) (fun h => by rw [hc] at h; cases h)
      refine tS ?_
      exact Fin.ret rfl Same.auto (by simp [upd_lit]; rfl) (by simp) ⟨by rw [hL, all_false i hlt hc], rfl⟩
    | true =>
      refine AW.cond (t := !small (walkV v)[i]) (by simp [upd_lit, small]) (fun h => by rw [hc] at h; cases h) (fun _ => ?_)
      have F := @h6; refine tF ?_; (try clear F)
      refine ⟨i + 1, ⟨by omega, ?_, by simp [upd_lit], by simp [upd_lit, h5], rfl⟩, by omega⟩
      intro j h hj'
      by_cases e : j = i
      · subst e; exact hc
      · exact hj j h (by omega)
  · refine tS ?_
    have : (walkV v).all small = true := by
      rw [List.all_eq_true]
      intro x hx
      obtain ⟨j, hj1, rfl⟩ := List.getElem_of_mem hx
      exact hj j hj1 (by omega)
    exact Fin.ret rfl Same.auto (by simp [upd_lit]; rfl) (by simp) ⟨by rw [hL, this], rfl⟩
def formedF (v : GV) : Bool := lightF v 400 && decide (checkF v = 0)
theorem law_formed (v : GV) (hv : v.ok) : Gives Tryz.prog 21 [v.pv] (vB (formedF v)) := by
  intro m
  refine ACall.of_aw Tryz.func21 Tryz.ntmps21 rfl rfl (by simp) ?_
  refine tS ?_
  refine tS1 fun K Kp hK hKp => ?_; refine Gives.at (law_light v 400 hv (by omega) (by omega)) ?_; apply hK; clear hK hKp K Kp
  refine tSp ?_
  refine tSc (ref_check v hv) ?_
  refine tSp ?_
  exact Fin.ret rfl Same.auto (by simp [upd_lit]; rfl) (by simp) ⟨by rw [formedF], rfl⟩
end Go.Proofs.YtgfadepkiejncaaGreat
namespace Go.Proofs.YtgfadepkiejncaaGreat
open Go.Ab
set_option maxHeartbeats 0
attribute [local irreducible] AW AList ACall DA AExit.then AExit.inBlock YCall
theorem val_all (v : GV) : Gives Tryz.prog 92 [v.pv] (.clo 138 [] [.ro v.cells]) := by
  intro m
  refine ACall.of_aw Tryz.func92 Tryz.ntmps92 rfl rfl (by simp) ?_
  refine tSn ?_
  refine AW.frz (n := m.nloc) (d := 2) (cs := v.cells) (by simp) (by simp) ?_
  refine tS ?_
  exact Fin.ret rfl ((Same.newLoc (Same.refl m) _).dropLoc (Nat.le_refl _)) (by simp [upd_lit]) (by simp) ⟨rfl, rfl⟩
structure Agr (b : Nat) (m m' : St) : Prop where
  lo : b ≤ m.nloc
  lo' : b ≤ m'.nloc
  loc : ∀ n, n < b → m'.loc n = m.loc n
  lp : ∀ n, n < b → m'.lp n = m.lp n
  it : ∀ n, n < b → m'.it n = m.it n
  ntok : m'.ntok = m.ntok
  top : m'.top = m.top
  wd : m'.wd = m.wd
  arr : m'.arr = m.arr
structure Only (b : Nat) (m m' : St) : Prop where
  nloc : m.nloc ≤ m'.nloc
  loc : ∀ n, b ≤ n → n < m.nloc → m'.loc n = m.loc n
  lp : ∀ n, n < m.nloc → m'.lp n = m.lp n
  it : ∀ n, n < m.nloc → m'.it n = m.it n
  ntok : m.ntok ≤ m'.ntok
theorem Only.refl (b : Nat) (m : St) : Only b m m := ⟨Nat.le_refl _, fun _ _ _ => rfl, fun _ _ => rfl, fun _ _ => rfl, Nat.le_refl _⟩
theorem Only.trans {b : Nat} {m m' m'' : St} (h : Only b m m') (k : Only b m' m'') : Only b m m'' :=
  ⟨Nat.le_trans h.nloc k.nloc, fun n a c => (k.loc n a (Nat.lt_of_lt_of_le c h.nloc)).trans (h.loc n a c), fun n c => (k.lp n (Nat.lt_of_lt_of_le c h.nloc)).trans (h.lp n c), fun n c => (k.it n (Nat.lt_of_lt_of_le c h.nloc)).trans (h.it n c), Nat.le_trans h.ntok k.ntok⟩
theorem Only.same {b : Nat} {m m' : St} (h : Same m m') : Only b m m' :=
  ⟨h.lloc, fun n _ c => h.get c, fun n c => h.getL c, fun n c => h.getI c, h.ltok⟩
theorem Agr.same {b : Nat} {m m' : St} (h : Same m m') (hb : b ≤ m.nloc) (h1 : m'.ntok = m.ntok) (h2 : m'.top = m.top) (h3 : m'.wd = m.wd) (h4 : m'.arr = m.arr := by rfl) : Agr b m m' :=
  ⟨hb, Nat.le_trans hb h.lloc, fun n c => h.get (by omega), fun n c => h.getL (by omega), fun n c => h.getI (by omega), h1, h2, h3, h4⟩
structure Yields (P : Program) (n b : Nat) (m0 : St) (xs : List (List PV)) (I : Nat → St → Prop) : Prop where
  nb : n < b
  agr : ∀ j m m', Agr b m m' → I j m → I j m'
  sc : ∀ i, i < b → (∀ j m', I j m' → m'.loc i = m0.loc i) ∨ (∀ j m' cs, I j m' → m'.loc i = some cs → PV.scL b m'.ntok cs)
  scA : ∀ k, (k < m0.ntok ∧ ∀ j m', I j m' → m'.arr k = m0.arr k ∧ m0.ntok ≤ m'.ntok) ∨ (∀ j m' cs, I j m' → k < m'.ntok → m'.arr k = some cs → PV.scL b m'.ntok cs)
  call : ∀ j (h : j < xs.length) m', b ≤ m'.nloc → I j m' → YCall P n xs[j] m' (fun r m'' => r = .ret (vB true) ∧ I (j + 1) m'' ∧ Only b m' m'' ∧ m''.nloc = m'.nloc)
theorem leaves_of {b : Nat} {m0 : St} {I : Nat → St → Prop} (sc : ∀ i, i < b → (∀ j m', I j m' → m'.loc i = m0.loc i) ∨ (∀ j m' cs, I j m' → m'.loc i = some cs → PV.scL b m'.ntok cs))
    (scA : ∀ k, (k < m0.ntok ∧ ∀ j m', I j m' → m'.arr k = m0.arr k ∧ m0.ntok ≤ m'.ntok) ∨ (∀ j m' cs, I j m' → k < m'.ntok → m'.arr k = some cs → PV.scL b m'.ntok cs))
    {m m' : St} {j j' : Nat} (hb : b ≤ m.nloc) (h : I j m) (h' : I j' m') (o : Only b m m') : Ab.Leaves m m' { m' with nloc := m.nloc } := by
  refine ⟨rfl, o.ntok, o.nloc, Nat.le_refl _, fun i hi => ⟨rfl, ?_⟩, fun k _ => ⟨rfl, rfl⟩, fun i hi => ⟨rfl, o.lp i hi⟩, fun i hi => rfl, fun k cs hk _ hc => ⟨hc, ?_⟩⟩
  rotate_left
  · rcases scA k with ⟨k1, k2⟩ | k2
    · obtain ⟨a1, a2⟩ := k2 _ _ h
      exact .inl ⟨by omega, by rw [a1, ← (k2 _ _ h').1]; exact hc⟩
    · exact .inr (PV.scL_mono hb (Nat.le_refl _) cs (k2 j' m' cs h' hk hc))
  by_cases hib : i < b
  · rcases sc i hib with k | k
    · exact .inl ((k _ _ h').trans (k _ _ h).symm)
    · exact .inr fun cs hc => PV.scL_mono hb (Nat.le_refl _) cs (k j' m' cs h' hc)
  · exact .inl (o.loc i (by omega) hi)
theorem Yields.leaves {P : Program} {n b : Nat} {m0 : St} {xs : List (List PV)} {I : Nat → St → Prop} (y : Yields P n b m0 xs I) {m m' : St} {j j' : Nat} (hb : b ≤ m.nloc) (h : I j m) (h' : I j' m') (o : Only b m m') :
    ∃ m'', Ab.Leaves m m' m'' ∧ I j' m'' ∧ Only b m m'' ∧ m''.nloc = m.nloc :=
  ⟨_, leaves_of y.sc y.scA hb h h' o, y.agr _ m' _ ⟨Nat.le_trans hb o.nloc, hb, fun _ _ => rfl, fun _ _ => rfl, fun _ _ => rfl, rfl, rfl, rfl, rfl⟩ h', ⟨Nat.le_refl _, o.loc, o.lp, o.it, o.ntok⟩, rfl⟩
theorem walkL_get : ∀ (l : List GV) (i : Nat) (h : i < l.length) (j : Nat), j < (walkV l[i]).length → (walkL l)[nodesL (l.take i) + j]? = (walkV l[i])[j]?
  | v :: l, 0, _, j, hj => by
    simp only [List.getElem_cons_zero] at hj
    simp only [walkL, List.take_zero, nodesL, Nat.zero_add, List.getElem_cons_zero]
    rw [List.getElem?_append_left hj]
  | v :: l, i + 1, h, j, hj => by
    simp only [List.getElem_cons_succ] at hj
    simp only [walkL, List.take_succ_cons, nodesL, List.getElem_cons_succ]
    rw [List.getElem?_append_right (by rw [walk_len]; omega), walk_len, show nodes v + nodesL (l.take i) + j - nodes v = nodesL (l.take i) + j from by omega]
    exact walkL_get l i (by simpa using h) j hj
theorem val_iter {n b : Nat} {m0 : St} {xs : List GV} {I : Nat → St → Prop} (y : Yields Tryz.prog n b m0 (xs.map fun x => [x.pv]) I) (v : GV) (hv : nodes v < 1152921504606846976) (k : Nat) (hseg : ∀ i (h : i < (walkV v).length), xs[k + i]? = some (walkV v)[i]) (p q : Nat) (m : St)
    (hI : I k m) (hb : b ≤ m.nloc) (hp : m.loc p = some [.yld n]) (hq : m.loc q = some [.clo 139 [] [.loc p 0, .loc q 0]]) (hpb : b ≤ p ∧ p < m.nloc) (hqb : b ≤ q ∧ q < m.nloc) :
    ACall Tryz.prog 139 [v.pv, .loc p 0, .loc q 0] m (fun r m' => r = .ret (vB true) ∧ I (k + nodes v) m' ∧ Only b m m' ∧ m'.nloc = m.nloc) := by
  induction hk : nodes v using Nat.strongRecOn generalizing v k m with
  | _ N ih =>
  subst hk
  have hn := nodes_eq v
  have hl := nodesL_len v.els
  have pm : p ≠ m.nloc := by omega
  have qm : q ≠ m.nloc := by omega
  refine ACall.of_aw Tryz.func139 Tryz.ntmps139 rfl rfl (by simp) ?_
  have hp1 : p < m.nloc + 1 := by omega
  have hq1 : q < m.nloc + 1 := by omega
  have o1 : Only b m (m.newLoc v.cells) := .same ((Same.refl m).newLoc _)
  have hI1 : I k (m.newLoc v.cells) := y.agr _ m _ (.same ((Same.refl m).newLoc _) hb rfl rfl rfl) hI
  have hx0 : xs[k]? = some v := by have := hseg 0 (by rw [walk_len]; omega); simpa [walk_eq] using this
  obtain ⟨hk0, hk1⟩ := List.getElem?_eq_some_iff.1 hx0
  have F := (aand @hp (aand @pm @hp1)); refine tF ?_; (try clear F)
  refine AList.op (by decide) ?_; intro K Kp hK hKp; simp [upd_lit]
  have hc := y.call k (by simpa using hk0) (m.newLoc v.cells) (by simp; omega) hI1
  simp only [List.getElem_map, hk1] at hc
  refine hc.mono ?_
  rintro _ m1 ⟨rfl, hI2, o2, n2⟩
  apply hK; clear hK hKp K Kp
  have n2' : m1.nloc = m.nloc + 1 := by rw [n2]; rfl
  have e3 : m1.loc m.nloc = some v.cells := (o2.loc _ (by omega) (by simp)).trans (by simp)
  have ep : m1.loc p = some [.yld n] := (o2.loc _ hpb.1 (by simp; omega)).trans (by simp [pm, hp])
  have eq : m1.loc q = some [.clo 139 [] [.loc p 0, .loc q 0]] := (o2.loc _ hqb.1 (by simp; omega)).trans (by simp [qm, hq])
  refine tS ?_
  refine AW.cond (t := false) (by simp [upd_lit]) (fun h => by cases h) (fun _ => ?_)
  have F := (aand @e3 @n2'); refine tF ?_; (try clear F)
  refine AW.loop (ι := Nat) (fun i σ m' => i ≤ v.els.length ∧ I (k + 1 + nodesL (v.els.take i)) m' ∧ Only b m1 m' ∧ σ 14 = vI i ∧ σ 13 = vI v.els.length ∧ σ 12 = GV.pvs v.els ∧ σ 2 = .loc q 0) (fun i => v.els.length - i) 0 ?_ ?_
  · exact ⟨by simp, by simpa [nodesL] using hI2, .refl _ _, by simp [upd_lit], by simp [upd_lit], by simp [upd_lit], by simp [upd_lit]⟩
  rintro i σ m' ⟨hi, hIi, oi, s14, s13, s12, s2⟩
  have F := (aand @s14 (aand @s13 (aand @s12 @s2))); refine tF ?_; (try clear F)
  refine AW.condD (p := i < v.els.length) (by simp [upd_lit]) (fun hlt => ?_) (fun hge => ?_)
  · have hg := nodes_get v.els i hlt
    have ht := nodesL_take v.els i hlt
    have F := (aand @s14 (aand @s13 (aand @s12 (aand @s2 (aand @rows_getD @hlt))))); refine tF ?_; (try clear F)
    have nl' : m.nloc + 1 ≤ m'.nloc := by have := oi.nloc; omega
    have qn : q ≠ m'.nloc := by omega
    have pn : p ≠ m'.nloc := by omega
    have qn1 : q < m'.nloc + 1 := by omega
    have eq' : m'.loc q = some [.clo 139 [] [.loc p 0, .loc q 0]] := (oi.loc _ hqb.1 (by omega)).trans eq
    have ep' : m'.loc p = some [.yld n] := (oi.loc _ hpb.1 (by omega)).trans ep
    have F := (aand @s2 (aand @qn (aand @qn1 @eq'))); refine tF ?_; (try clear F)
    refine AList.op (by decide) ?_; intro K Kp hK hKp; simp [upd_lit]
    have sm2 : Same m' ((m'.newLoc [.v (.int .i64 0), .v (.int .i64 0), .v (.bool false), .list .full [], .v (.string ⟨#[]⟩), .list .full []]).setLoc m'.nloc v.els[i].cells) := ((Same.refl m').newLoc _).setLoc (Nat.le_refl _) _
    have hc := ih _ (by omega) v.els[i] (by omega) (k + 1 + nodesL (v.els.take i)) (fun j hj => ?_) _ (y.agr _ m' _ (.same sm2 (by omega) rfl rfl rfl) hIi) (by simp; omega) (by simp [pn, ep']) (by simp [qn, eq']) ⟨hpb.1, by simp; omega⟩ ⟨hqb.1, by simp; omega⟩ rfl
    · refine hc.mono ?_
      rintro _ m2 ⟨rfl, hI3, o3, n3⟩
      apply hK; clear hK hKp K Kp
      refine tS ?_
      refine AW.cond (t := false) (by simp [upd_lit]) (fun h => by cases h) (fun _ => ?_)
      have F := @s14; refine tF ?_; (try clear F)
      refine ⟨i + 1, ⟨by omega, ?_, (oi.trans (.same sm2)).trans o3, by simp [upd_lit], by simp [upd_lit, s13], by simp [upd_lit, s12], by simp [upd_lit, s2]⟩, by omega⟩
      rw [ht, ← Nat.add_assoc]; exact hI3
    · have hb2 := nodesL_take_le v.els (i + 1)
      rw [walk_len] at hj
      have h1 := hseg (1 + nodesL (v.els.take i) + j) (by rw [walk_len]; omega)
      have h2 := walkL_get v.els i hlt j (by rw [walk_len]; exact hj)
      rw [show k + 1 + nodesL (v.els.take i) + j = k + (1 + nodesL (v.els.take i) + j) from by omega, h1, ← List.getElem?_eq_getElem, walk_eq, show 1 + nodesL (v.els.take i) + j = (nodesL (v.els.take i) + j) + 1 from by omega, List.getElem?_cons_succ, h2, List.getElem?_eq_getElem]
  · refine tS ?_
    have e : i = v.els.length := by omega
    subst e
    rw [List.take_length] at hIi
    obtain ⟨m'', l1, l2, l3, l4⟩ := y.leaves hb hI hIi (o1.trans (o2.trans oi))
    exact ⟨_, m'', rfl, .inr ⟨l1.lv, by simp [upd_lit]⟩, by simp [upd_lit], by rw [hn, ← Nat.add_assoc]; exact l2, l3, l4⟩
theorem val_all1 {n b : Nat} {m0 : St} (v : GV) {I : Nat → St → Prop} (y : Yields Tryz.prog n b m0 ((walkV v).map fun x => [x.pv]) I) (hv : nodes v < 1152921504606846976) (m : St) (hI : I 0 m) (hb : b ≤ m.nloc) :
    ACall Tryz.prog 138 [.yld n, .ro v.cells] m (fun r m' => r = .ret (.tup []) ∧ I (nodes v) m' ∧ Only b m m' ∧ m'.nloc = m.nloc) := by
  have hnb := y.nb
  refine ACall.of_aw Tryz.func138 Tryz.ntmps138 rfl rfl (by simp) ?_
  refine tS ?_
  refine AList.op (by decide) ?_; intro K Kp hK hKp; simp [upd_lit]
  have sm : Same m (((m.newLoc [.yld n]).newLoc [.v .nilFunc]).setLoc (m.nloc + 1) [.clo 139 [] [.loc m.nloc 0, .loc (m.nloc + 1) 0]]) := Same.auto
  have hc := val_iter y v hv 0 (fun i h => by rw [Nat.zero_add, List.getElem?_eq_getElem h]) m.nloc (m.nloc + 1) _ (y.agr _ m _ (.same sm hb rfl rfl rfl) hI) (by simp; omega) (by simp) (by simp) ⟨hb, by simp; omega⟩ ⟨by omega, by simp⟩
  refine hc.mono ?_
  rintro _ m1 ⟨rfl, h1, h2, h3⟩
  apply hK; clear hK hKp K Kp
  refine tS ?_
  obtain ⟨m'', l1, l2, l3, l4⟩ := y.leaves hb hI h1 ((Only.same sm).trans h2)
  exact ⟨.tup [], m'', ⟨[], rfl, rfl⟩, .inr ⟨l1.lv, by simp⟩, by simp, by simpa using l2, l3, l4⟩
end Go.Proofs.YtgfadepkiejncaaGreat
namespace Go.Proofs.YtgfadepkiejncaaGreat
open Go.Ab
set_option maxHeartbeats 0
attribute [local irreducible] AW AList ACall DA AExit.then AExit.inBlock YCall
theorem Agr.trans {b : Nat} {m m' m'' : St} (h : Agr b m m') (k : Agr b m' m'') : Agr b m m'' :=
  ⟨h.lo, k.lo', fun n c => (k.loc n c).trans (h.loc n c), fun n c => (k.lp n c).trans (h.lp n c), fun n c => (k.it n c).trans (h.it n c), k.ntok.trans h.ntok, k.top.trans h.top, k.wd.trans h.wd, k.arr.trans h.arr⟩
theorem Agr.refl {b : Nat} {m : St} (h : b ≤ m.nloc) : Agr b m m := ⟨h, h, fun _ _ => rfl, fun _ _ => rfl, fun _ _ => rfl, rfl, rfl, rfl, rfl⟩
theorem Yields.ofVar {P : Program} {c b : Nat} {mm : St} {L : LoopA} {xs : List (List PV)} {f : Nat → List PV} (hc : c < mm.nloc) (hb : b = mm.nloc + 1) (hst : L.st = .ready) (hp : L.pend = none) (hps : ∀ x ∈ xs, x.length = L.params.length) (hlt : ∀ t ∈ L.params, t < L.N)
    (hsc : ∀ j a t, PV.scL a t (f j))
    (h : ∀ j (h : j < xs.length) m', Agr b ((mm.newLp L).setLoc c (f j)) m' → AW P L.N L.assign (AExit.then (fun σ' m'' => m'' = m' ∧ AW P L.N L.body (fun x _ m₂ => x = .normal ∧ ∃ m₃, m₂ = (m'.setLp mm.nloc { L with st := .busy }).setLoc c m₃ ∧ m₃ = f (j + 1)) σ' (m'.setLp mm.nloc { L with st := .busy })) (fun _ _ _ => False)) (parm L.σ L.params xs[j]) m') :
    Yields P mm.nloc b (mm.newLp L) xs (fun j m' => Agr b ((mm.newLp L).setLoc c (f j)) m') := by
  subst hb
  refine ⟨by omega, fun j m m' a i => i.trans a, fun i hi => ?_, fun k => ?_, fun j hj m' hb' hI => ?_⟩
  · by_cases e : i = c
    · subst e
      refine .inr fun j m' cs hI hcs => ?_
      have := hI.loc i hi
      rw [setLoc_loc, if_pos rfl, hcs] at this
      cases this
      exact hsc _ _ _
    · refine .inl fun j m' hI => ?_
      rw [hI.loc i hi, setLoc_loc, if_neg e]
  · by_cases hk : k < mm.ntok
    · exact .inl ⟨hk, fun j m' hI => ⟨by rw [hI.arr]; rfl, Nat.le_of_eq hI.ntok.symm⟩⟩
    · exact .inr fun j m' cs hI hk' _ => by rw [hI.ntok] at hk'; exact absurd hk' hk
  · have hn : mm.nloc < m'.nloc := by omega
    have hL : m'.lp mm.nloc = some L := by rw [hI.lp _ (by omega)]; simp
    refine YCall.of_aw hn hL hst hp (hps _ (List.getElem_mem hj)) hlt ?_
    refine (h j hj m' hI).mono fun x σ m₁ hx => ?_
    cases x <;> simp only [AExit.then] at hx ⊢
    obtain ⟨rfl, hx⟩ := hx
    refine ⟨hn, hL, hx.mono fun x σ m₂ hq => ?_⟩
    obtain ⟨rfl, m₃, rfl, rfl⟩ := hq
    refine ⟨m₁.setLoc c (f (j + 1)), by simp, ?_, rfl, ?_, ⟨Nat.le_refl _, fun n h1 h2 => by rw [setLoc_loc, if_neg (by omega)], fun _ _ => rfl, fun _ _ => rfl, Nat.le_refl _⟩, rfl⟩
    · refine ⟨rfl, Nat.le_refl _, Nat.le_refl _, Nat.le_refl _, fun n hn' => ⟨rfl, ?_⟩, fun _ _ => ⟨rfl, rfl⟩, fun n hn' => ⟨?_, ?_⟩, fun _ _ => rfl, fun k cs hk _ hc => ⟨hc, .inl ⟨hk, hc⟩⟩⟩
      · by_cases e : n = c
        · subst e; refine .inr fun cs hcs => ?_
          simp at hcs; subst hcs; exact hsc _ _ _
        · exact .inl (by simp [e])
      · by_cases e : n = mm.nloc
        · simp [e, hL]
        · simp [e]
      · by_cases e : n = mm.nloc
        · simp [e, hL]
        · simp [e]
    · refine ⟨hI.lo, hI.lo', fun i hi => ?_, fun i hi => hI.lp i hi, fun i hi => hI.it i hi, hI.ntok, hI.top, hI.wd, hI.arr⟩
      simp only [setLoc_loc]
      split
      · rfl
      · rename_i e; have := hI.loc i hi; rw [setLoc_loc, if_neg e] at this; exact this
theorem val_nodes (v : GV) (hv : nodes v < 1152921504606846976) : Gives Tryz.prog 30 [v.pv] (vI (nodes v)) := by
  intro m
  refine ACall.of_aw Tryz.func30 Tryz.ntmps30 rfl rfl (by simp) ?_
  refine tS ?_
  refine tS1 fun K Kp hK hKp => ?_; refine Gives.at (val_all v) ?_; apply hK; clear hK hKp K Kp
  refine tS ?_
  refine AW.rangeFunc (f := 138) (first := []) (caps := [.ro v.cells]) (by simp [upd_lit]) (fun fn => ?_)
  have n1 : (((m.newLoc v.cells).newLoc [vI 0]).setLoc (m.nloc + 1) [vI 0]).nloc = m.nloc + 2 := rfl
  have sm : Same m (((m.newLoc v.cells).newLoc [vI 0]).setLoc (m.nloc + 1) [vI 0]) := Same.auto
  have hnl := walk_len v
  generalize hL : LoopA.mk _ _ _ _ _ _ _ _ = L
  refine ACall.mono (val_all1 v (Yields.ofVar (L := L) (P := Tryz.prog) (c := m.nloc + 1) (mm := ((m.newLoc v.cells).newLoc [vI 0]).setLoc (m.nloc + 1) [vI 0]) (f := fun j => [vI j]) (by rw [n1]; omega) rfl (by rw [← hL]) (by rw [← hL]) ?_ ?_ ?_ ?_) hv _ ?_ (by simp)) ?_
  · intro x hx
    obtain ⟨y, _, rfl⟩ := List.mem_map.1 hx
    rw [← hL]; rfl
  · rw [← hL]; intro t ht; simp at ht; subst ht; exact (by decide : (6 : Nat) < 10)
  · intro j a t; exact ⟨trivial, trivial⟩
  · intro j hj m' hI
    have hj' : j < nodes v := by simpa [hnl] using hj
    have e1 : m'.loc (m.nloc + 1) = some [vI j] := by rw [hI.loc _ (by rw [n1]; omega)]; simp
    have e2 : m.nloc + 1 < m'.nloc := by have := hI.lo'; rw [n1] at this; omega
    subst hL
    simp only [List.getElem_map, parm]
    refine AW.skip ?_
    refine AExit.norT ⟨rfl, ?_⟩
    have F := (aand @e1 @e2); refine tF ?_; (try clear F)
    exact ⟨rfl, _, rfl, by simp⟩
  · refine ⟨by simp, by simp, fun i hi => ?_, fun i hi => rfl, fun i hi => rfl, rfl, rfl, rfl, rfl⟩
    by_cases e : i = m.nloc + 1 <;> simp [e]
  · rintro _ m' ⟨rfl, hI, ho, hn'⟩
    refine ⟨_, _, rfl, by rw [hn']; simp, by rw [hI.lp _ (by simp)]; simp; rfl, by rw [← hL]; simp, by rw [← hL], ?_⟩
    have e1 : m'.loc (m.nloc + 1) = some [vI (nodes v)] := by rw [hI.loc _ (by rw [n1]; omega)]; simp
    have e2 : m.nloc + 1 < m'.nloc := by have := hI.lo'; rw [n1] at this; omega
    have F := (aand @e1 @e2); refine tF ?_; (try clear F)
    refine Fin.ret rfl ?_ (by simp [upd_lit]) (by simp) ⟨rfl, rfl⟩
    have hs := hI.lo'
    rw [n1] at hs
    refine Same.mk (by simp; omega) (by simp [hI.ntok]) (fun i hi => ?_) (fun k hk => ?_) (fun i hi => ?_) (fun i hi => ?_) (fun k cs _ _ hc => (congrFun hI.arr k).trans hc)
    · simp; rw [hI.loc i (by rw [n1]; omega)]; simp [Nat.add_assoc, show i ≠ m.nloc + 2 from by omega, show i ≠ m.nloc + 1 from by omega, show i ≠ m.nloc from by omega]
    · simp [hI.top, hI.wd]
    · simp; rw [if_neg (by omega), hI.lp i (by rw [n1]; omega)]; simp [Nat.add_assoc, show i ≠ m.nloc + 2 from by omega, show i ≠ m.nloc + 1 from by omega, show i ≠ m.nloc from by omega]
    · rw [show (m'.dropLp (m.nloc + 2)).it = m'.it from rfl, hI.it i (by rw [n1]; omega)]; simp [upd_lit, St.newLp, Nat.add_assoc, show i ≠ m.nloc + 2 from by omega, show i ≠ m.nloc + 1 from by omega, show i ≠ m.nloc from by omega]
end Go.Proofs.YtgfadepkiejncaaGreat
namespace Go.Proofs.YtgfadepkiejncaaGreat
open Go.Ab
set_option maxHeartbeats 0
attribute [local irreducible] AW AList ACall DA AExit.then AExit.inBlock YCall
theorem val_deep (v : GV) (hv : nodes v < 1152921504606846976) : Gives Tryz.prog 32 [v.pv] (vI (deep v)) := by
  induction hk : nodes v using Nat.strongRecOn generalizing v with
  | _ k ih =>
  subst hk
  have hn := nodes_eq v
  have hl := nodesL_len v.els
  intro m
  refine ACall.of_aw Tryz.func32 Tryz.ntmps32 rfl rfl (by simp) ?_
  refine tS ?_
  refine AW.loop (ι := Nat) (fun i σ m' => i ≤ v.els.length ∧ σ 3 = vI (deepL (v.els.take i)) ∧ σ 9 = vI i ∧ σ 8 = vI v.els.length ∧ σ 7 = GV.pvs v.els ∧ Same m m') (fun i => v.els.length - i) 0 ?_ ?_
  · exact ⟨by simp, by simp [upd_lit, deepL], by simp [upd_lit], by simp [upd_lit], by simp [upd_lit], Same.auto⟩
  rintro i σ m' ⟨hi, h3, h9, h8, h7, sm⟩
  have hnb := nodesL_take_le v.els i
  have hdb := deepL_le (v.els.take i)
  have F := (aand @h3 (aand @h7 (aand @h8 @h9))); refine tF ?_; (try clear F)
  refine AW.condD (p := i < v.els.length) (by simp [upd_lit]) (fun hlt => ?_) (fun hge => ?_)
  · have hg := nodes_get v.els i hlt
    have ht := deepL_take v.els i hlt
    have hd := deep_le v.els[i]
    have F := (aand @h3 (aand @h7 (aand @h8 (aand @h9 (aand @hlt @rows_getD))))); refine tF ?_; (try clear F)
    have F := (aand @h3 @h9); refine tF1 fun K Kp hK hKp => ?_; (try clear F); refine Gives.at (ih _ (by omega) v.els[i] (by omega) rfl) ?_; apply hK; clear hK hKp K Kp
    have F := (aand @h3 @h9); refine tF ?_; (try clear F)
    refine ⟨i + 1, ⟨by omega, ?_, by simp [upd_lit], by simp [upd_lit, h8], by simp [upd_lit, h7], (sm.newLoc _).setLoc sm.lloc _⟩, by omega⟩
    simp [upd_lit, ht]; (try omega)
  · have hge : i = v.els.length := by omega
    subst hge
    rw [List.take_length] at h3 hdb
    have F := @h3; refine tF ?_; (try clear F)
    exact Fin.ret rfl sm (by simp [upd_lit]; rfl) (by simp) ⟨by rw [deep_eq]; simp [Int.add_comm], rfl⟩
end Go.Proofs.YtgfadepkiejncaaGreat
namespace Go.Proofs.YtgfadepkiejncaaGreat
open Go.Ab
set_option maxHeartbeats 0
attribute [local irreducible] AW AList ACall DA AExit.then AExit.inBlock YCall
theorem clone22 (a : List Int) (la : a.length ≤ 1099511627776) : Gives Tryz.prog 94 [.list .no (limbs a)] (.list .no (limbs a)) := by
  intro m
  refine ACall.of_aw Tryz.func94 Tryz.ntmps94 rfl rfl (by simp) ?_
  refine tS ?_
  refine AList.op (by decide) ?_; intro K Kp hK hKp; simp [upd_lit]
  refine ⟨?_, fun h0 => ?_⟩
  · apply hK; clear hK hKp K Kp
    refine tS ?_
    refine AW.cond (t := false) (by simp [upd_lit]) (fun h => by cases h) (fun _ => ?_)
    refine tS ?_
    refine AList.op (by decide) ?_; intro K Kp hK hKp; simp [upd_lit]
    refine app22 (l := []) (m0 := m) (.full (Same.refl m)) rfl (by simpa using la) fun o' m'' ho' _ => hK _ _ ?_; clear hK hKp K Kp
    refine tS ?_
    exact Fin.ret rfl ho'.1 (by simp [upd_lit]) (by simp) ⟨rfl, rfl⟩
  · apply hK; clear hK hKp K Kp
    refine tS ?_
    refine AW.cond (t := true) (by simp [upd_lit]) (fun _ => ?_) (fun h => by cases h)
    refine tSn ?_
    refine AW.nilS (d := 2) (by simp [upd_lit]) ?_
    refine tS ?_
    exact Fin.ret rfl (Same.refl m) (by simp [upd_lit]; rfl) (by simp) ⟨by rw [h0], rfl⟩
end Go.Proofs.YtgfadepkiejncaaGreat
namespace Go.Proofs.YtgfadepkiejncaaGreat
open Go.Ab
set_option maxHeartbeats 0
attribute [local irreducible] AW AList ACall DA AExit.then AExit.inBlock YCall
theorem walkL_mem {x : GV} : ∀ {l : List GV} {i : Nat} (h : i < l.length), x ∈ walkV l[i] → x ∈ walkL l
  | v :: l, 0, _, hx => by simp only [walkL]; exact List.mem_append_left _ hx
  | v :: l, i + 1, h, hx => by simp only [walkL]; exact List.mem_append_right _ (walkL_mem (by simpa using h) hx)
theorem walk_mem {x v : GV} {i : Nat} (h : i < v.els.length) (hx : x ∈ walkV v.els[i]) : x ∈ walkV v := by rw [walk_eq]; exact List.mem_cons_of_mem _ (walkL_mem h hx)
theorem walk_self (v : GV) : v ∈ walkV v := by rw [walk_eq]; exact List.mem_cons_self
end Go.Proofs.YtgfadepkiejncaaGreat
namespace Go.Proofs.YtgfadepkiejncaaGreat
open Go.Ab
set_option maxHeartbeats 0
set_option maxRecDepth 100000
attribute [local irreducible] AW AList ACall DA AExit.then AExit.inBlock YCall
theorem Yields.ofSt {P : Program} {b : Nat} {mm : St} {L : LoopA} {xs : List (List PV)} {S : Nat → St} (hb : b = mm.nloc + 1) (hst : L.st = .ready) (hp : L.pend = none) (hps : ∀ x ∈ xs, x.length = L.params.length) (hlt : ∀ t ∈ L.params, t < L.N)
    (hL : ∀ j, (S j).lp mm.nloc = some L)
    (sc : ∀ i, i < b → (∀ j, (S j).loc i = (mm.newLp L).loc i) ∨ (∀ j cs, (S j).loc i = some cs → PV.scL b (S j).ntok cs))
    (scA : ∀ k, (k < mm.ntok ∧ ∀ j, (S j).arr k = mm.arr k ∧ mm.ntok ≤ (S j).ntok) ∨ (∀ j cs, k < (S j).ntok → (S j).arr k = some cs → PV.scL b (S j).ntok cs))
    (h : ∀ j (h : j < xs.length) m', Agr b (S j) m' → AW P L.N L.assign (AExit.then (fun σ' m'' => mm.nloc < m''.nloc ∧ m''.lp mm.nloc = some L ∧ AW P L.N L.body (fun x _ m₂ => x = .normal ∧ m₂.lp mm.nloc = some { L with st := .busy } ∧ Agr b (S (j + 1)) (m₂.setLp mm.nloc L) ∧ Only b m' (m₂.setLp mm.nloc L)) σ' (m''.setLp mm.nloc { L with st := .busy })) (fun _ _ _ => False)) (parm L.σ L.params xs[j]) m') :
    Yields P mm.nloc b (mm.newLp L) xs (fun j m' => Agr b (S j) m') := by
  have sc' : ∀ i, i < b → (∀ j m', Agr b (S j) m' → m'.loc i = (mm.newLp L).loc i) ∨ (∀ j m' cs, Agr b (S j) m' → m'.loc i = some cs → PV.scL b m'.ntok cs) := fun i hi => by
    rcases sc i hi with k | k
    · exact .inl fun j m' a => (a.loc i hi).trans (k j)
    · exact .inr fun j m' cs a hc => by rw [a.ntok]; exact k j cs (by rw [← a.loc i hi]; exact hc)
  have scA' : ∀ k, (k < (mm.newLp L).ntok ∧ ∀ j m', Agr b (S j) m' → m'.arr k = (mm.newLp L).arr k ∧ (mm.newLp L).ntok ≤ m'.ntok) ∨ (∀ j m' cs, Agr b (S j) m' → k < m'.ntok → m'.arr k = some cs → PV.scL b m'.ntok cs) := fun k => by
    rcases scA k with ⟨k1, k2⟩ | k2
    · exact .inl ⟨k1, fun j m' a => ⟨by rw [a.arr]; exact (k2 j).1, by rw [a.ntok]; exact (k2 j).2⟩⟩
    · exact .inr fun j m' cs a hk hc => by rw [a.ntok] at hk ⊢; exact k2 j cs hk (by rw [← a.arr]; exact hc)
  subst hb
  refine ⟨by omega, fun j m m' a i => i.trans a, sc', scA', fun j hj m' hb' hI => ?_⟩
  have hn : mm.nloc < m'.nloc := by omega
  have hL' : m'.lp mm.nloc = some L := by rw [hI.lp _ (by omega)]; exact hL j
  refine YCall.of_aw hn hL' hst hp (hps _ (List.getElem_mem hj)) hlt ?_
  refine (h j hj m' hI).mono fun x σ m₁ hx => ?_
  cases x <;> simp only [AExit.then] at hx ⊢
  obtain ⟨h1, h2, hx⟩ := hx
  refine ⟨h1, h2, hx.mono fun x σ m₂ hq => ?_⟩
  obtain ⟨rfl, q1, q2, q3⟩ := hq
  refine ⟨_, q1, leaves_of (I := fun j m' => Agr (mm.nloc + 1) (S j) m') sc' scA' hb' hI q2 q3, rfl, ?_, ⟨Nat.le_refl _, q3.loc, q3.lp, q3.it, q3.ntok⟩, rfl⟩
  exact q2.trans ⟨q2.lo', hb', fun _ _ => rfl, fun _ _ => rfl, fun _ _ => rfl, rfl, rfl, rfl, rfl⟩
section
variable (m0 : St) (c : Nat) (xs : List GV) (j : Nat)
end
theorem PV.scL_append {a b : Nat} : ∀ {xs ys : List PV}, PV.scL a b xs → PV.scL a b ys → PV.scL a b (xs ++ ys)
  | [], _, _, h => h
  | _ :: _, _, h, k => ⟨h.1, PV.scL_append h.2 k⟩
end Go.Proofs.YtgfadepkiejncaaGreat
namespace Go.Proofs.YtgfadepkiejncaaGreat
open Go.Ab
set_option maxHeartbeats 0
set_option maxRecDepth 100000
attribute [local irreducible] AW AList ACall DA AExit.then AExit.inBlock YCall
theorem isNaN_int (a : Int) : Gives Tryz.prog 130 [vI a] (vB false) := by
  intro m
  refine ACall.of_aw Tryz.func130 Tryz.ntmps130 rfl rfl (by simp) ?_
  refine tS ?_
  exact Fin.ret rfl (Same.refl m) (by simp [upd_lit]) (by simp) ⟨rfl, rfl⟩
theorem cmp_int (a b : Int) : Gives Tryz.prog 85 [vI a, vI b] (vI (numbersF a b)) := by
  intro m
  refine ACall.of_aw Tryz.func85 Tryz.ntmps85 rfl rfl (by simp) ?_
  refine tS ?_
  refine tS1 fun K Kp hK hKp => ?_; refine Gives.at (isNaN_int a) ?_; apply hK; clear hK hKp K Kp
  refine tS ?_
  refine tS1 fun K Kp hK hKp => ?_; refine Gives.at (isNaN_int b) ?_; apply hK; clear hK hKp K Kp
  refine tS ?_
  refine AW.cond (t := false) (by simp [upd_lit]) (fun h => by cases h) (fun _ => ?_)
  refine tS ?_
  refine AW.cond (t := false) (by simp [upd_lit]) (fun h => by cases h) (fun _ => ?_)
  refine tS ?_
  refine AW.condD (p := a < b) (by simp [upd_lit]) (fun h => ?_) (fun h => ?_)
  · refine tS ?_
    exact Fin.ret rfl (Same.refl m) (by simp [upd_lit]; rfl) (by simp) ⟨by simp [numbersF, h], rfl⟩
  refine tS ?_
  refine AW.condD (p := b < a) (by simp [upd_lit]) (fun h' => ?_) (fun h' => ?_)
  · refine tS ?_
    exact Fin.ret rfl (Same.refl m) (by simp [upd_lit]; rfl) (by simp) ⟨by simp [numbersF, h, h'], rfl⟩
  refine tS ?_
  exact Fin.ret rfl (Same.refl m) (by simp [upd_lit]; rfl) (by simp) ⟨by simp [numbersF, h, h'], rfl⟩
theorem isNaN_u32 (a : Int) : Gives Tryz.prog 210 [vW a] (vB false) := by
  intro m
  refine ACall.of_aw Tryz.func210 Tryz.ntmps210 rfl rfl (by simp) ?_
  refine tS ?_
  exact Fin.ret rfl (Same.refl m) (by simp [upd_lit]) (by simp) ⟨rfl, rfl⟩
theorem cmp_u32 (a b : Int) : Gives Tryz.prog 201 [vW a, vW b] (vI (numbersF a b)) := by
  intro m
  refine ACall.of_aw Tryz.func201 Tryz.ntmps201 rfl rfl (by simp) ?_
  refine tS ?_
  refine tS1 fun K Kp hK hKp => ?_; refine Gives.at (isNaN_u32 a) ?_; apply hK; clear hK hKp K Kp
  refine tS ?_
  refine tS1 fun K Kp hK hKp => ?_; refine Gives.at (isNaN_u32 b) ?_; apply hK; clear hK hKp K Kp
  refine tS ?_
  refine AW.cond (t := false) (by simp [upd_lit]) (fun h => by cases h) (fun _ => ?_)
  refine tS ?_
  refine AW.cond (t := false) (by simp [upd_lit]) (fun h => by cases h) (fun _ => ?_)
  refine tS ?_
  refine AW.condD (p := a < b) (by simp [upd_lit]) (fun h => ?_) (fun h => ?_)
  · refine tS ?_
    exact Fin.ret rfl (Same.refl m) (by simp [upd_lit]; rfl) (by simp) ⟨by simp [numbersF, h], rfl⟩
  refine tS ?_
  refine AW.condD (p := b < a) (by simp [upd_lit]) (fun h' => ?_) (fun h' => ?_)
  · refine tS ?_
    exact Fin.ret rfl (Same.refl m) (by simp [upd_lit]; rfl) (by simp) ⟨by simp [numbersF, h, h'], rfl⟩
  refine tS ?_
  exact Fin.ret rfl (Same.refl m) (by simp [upd_lit]; rfl) (by simp) ⟨by simp [numbersF, h, h'], rfl⟩
def signF (n : Bool) (a : List Int) : Int := if a.length = 0 then 0 else if n then -1 else 1
theorem num_sign (n : Bool) (a : List Int) : Gives Tryz.prog 187 [intv n a] (vI (signF n a)) := by
  intro m
  refine ACall.of_aw Tryz.func187 Tryz.ntmps187 rfl rfl (by simp) ?_
  refine tS ?_
  refine AW.condD (p := a.length = 0) (by simp [upd_lit]) (fun h => ?_) (fun h => ?_)
  · refine tS ?_
    exact Fin.ret rfl ((Same.refl m).newLoc _) (by simp [upd_lit]; rfl) (by simp) ⟨by simp [signF, h], rfl⟩
  refine tS ?_
  refine AW.cond (t := n) (by simp [upd_lit]) (fun h' => ?_) (fun h' => ?_)
  · refine tS ?_
    exact Fin.ret rfl ((Same.refl m).newLoc _) (by simp [upd_lit]; rfl) (by simp) ⟨by simp [signF, h, h'], rfl⟩
  refine tS ?_
  exact Fin.ret rfl ((Same.refl m).newLoc _) (by simp [upd_lit]; rfl) (by simp) ⟨by simp [signF, h, h'], rfl⟩
theorem nat_compare (a b : List Int) (la : a.length < 1152921504606846976) (lb : b.length < 1152921504606846976) : Gives Tryz.prog 188 [.list .no (limbs a), .list .no (limbs b)] (vI (sizeF a b)) := by
  intro m
  refine ACall.of_aw Tryz.func188 Tryz.ntmps188 rfl rfl (by simp) ?_
  refine tS ?_
  refine AW.condD (p := a.length ≠ b.length) (by simp [upd_lit, Int.natCast_inj]) (fun hl => ?_) (fun hl => ?_)
  · refine tS ?_
    refine tS1 fun K Kp hK hKp => ?_; refine Gives.at (cmp_int a.length b.length) ?_; apply hK; clear hK hKp K Kp
    refine tS ?_
    exact Fin.ret rfl (Same.refl m) (by simp [upd_lit]; rfl) (by simp) ⟨by
      simp only [sizeF, if_pos hl, numbersF]
      by_cases h : a.length < b.length
      · simp [h]
      · have : b.length < a.length := by omega
        simp [h, this], rfl⟩
  have hl : a.length = b.length := by simpa using hl
  refine tS ?_
  refine AW.loop (ι := Nat) (fun i σ m' => i ≤ a.length ∧ cmpAt a b i = sizeF a b ∧ σ 5 = vI ((i : Int) - 1) ∧ σ 0 = .list .no (limbs a) ∧ σ 1 = .list .no (limbs b) ∧ m' = m) (fun i => i) a.length ?_ ?_
  · simp [upd_lit, sizeF, hl]
  rintro i σ m' ⟨hi, hc, h5, h0, h1, rfl⟩
  have F := (aand @h5 (aand @h0 @h1)); refine tF ?_; (try clear F)
  refine AW.condD (p := 0 < i) (by simp [upd_lit]; omega) (fun hlt => ?_) (fun hge => ?_)
  · obtain ⟨j, rfl⟩ : ∃ j, i = j + 1 := ⟨i - 1, by omega⟩
    have ja : j < a.length := by omega
    have jb : j < b.length := by omega
    have ga : a.getD j 0 = a[j] := by simp [List.getD, ja]
    have gb : b.getD j 0 = b[j] := by simp [List.getD, jb]
    rw [cmpAt, ga, gb] at hc
    have h5' : σ 5 = vI j := by rw [h5]; congr 1; congr 1; omega
    have F := (aand @h5' (aand @h0 @h1)); refine tF ?_; (try clear F)
    refine AW.draw [.S, .S, .S, .R, .S, .S, .S, .R, .S] (by decide +kernel) ?_; have F := (aand @h5' (aand @h0 (aand @h1 (aand @limbs_getD (aand @ja @jb))))); refine dS 0 ?_; refine dS 1 ?_; refine dS 2 ?_; refine dR 3 ?_; refine dS 4 ?_; refine dS 5 ?_; refine dS 6 ?_; refine dR 7 ?_; refine dS 8 ?_; (try clear F); first | refine dN ?_ | refine dB ?_ | refine DA.done (by decide +kernel) ?_
    refine AW.condD (p := a[j] ≠ b[j]) (by simp [upd_lit]) (fun h => ?_) (fun h => ?_)
    · refine tS ?_
      refine AW.draw [.S, .S, .S, .R, .S, .S, .S, .R, .R, .S] (by decide +kernel) ?_; have F := (aand @h5' (aand @h0 (aand @h1 (aand @limbs_getD (aand @ja @jb))))); refine dS 0 ?_; refine dS 1 ?_; refine dS 2 ?_; refine dR 3 ?_; refine dS 4 ?_; refine dS 5 ?_; refine dS 6 ?_; refine dR 7 ?_; refine dC ((cmp_u32 a[j] b[j])) 8 ?_; refine dS 9 ?_; (try clear F); first | refine dN ?_ | refine dB ?_ | refine DA.done (by decide +kernel) ?_
      refine tS ?_
      exact Fin.ret rfl (Same.refl _) (by simp [upd_lit]; rfl) (by simp) ⟨by
        rw [← hc, numbersF]
        by_cases h1 : a[j] < b[j]
        · simp [h1]
        · have : b[j] < a[j] := by omega
          simp [h1, this], rfl⟩
    have h : a[j] = b[j] := by simpa using h
    rw [if_neg (by omega), if_neg (by omega)] at hc
    have F := @h5'; refine tF ?_; (try clear F)
    refine ⟨j, ⟨by omega, hc, ?_, ?_, ?_, rfl⟩, by omega⟩
    · simp [upd_lit]
    · simp [upd_lit, h0]
    · simp [upd_lit, h1]
  · refine tS ?_
    have : i = 0 := by omega
    subst this
    exact Fin.ret rfl (Same.refl _) (by simp [upd_lit]; rfl) (by simp) ⟨by rw [← hc]; rfl, rfl⟩
end Go.Proofs.YtgfadepkiejncaaGreat
namespace Go.Ab
open Go.RowKit
section
variable {P : Program} {m : St} {K Kp : PV → St → Prop}
theorem op_cmpstr {o : Oper} {c : Call} {x y : Operand} {f : FuncId} {fn : Func} {a b : ByteArray} {ρ : Operand → PV} (ho : o.op = .call c) (hc : c.callee = .value (.func f)) (ha : c.args.toList = [x, y]) (hf : P.funcs[f]? = some fn) (hn : (fn.name == "runtime.NumGoroutine") = false)
    (hb : fn.body.isNone = true) (h1 : Extern.findNext fn = none) (h2 : Extern.find fn = some Extern.BytealgCompare.compare) (hfn : ρ (.func f) = .clo f [] []) (hx : ρ x = .v (.string a)) (hy : ρ y = .v (.string b)) (h : K (.v (.int .i64 (Lib.compareBytes a.data.toList b.data.toList))) m) : OpOK P o ρ m K Kp := by
  intro Γ ev w hm hv
  have e1 := hv x
  rw [hx] at e1
  replace e1 : ev x = .string a := e1
  have e2 := hv y
  rw [hy] at e2
  replace e2 : ev y = .string b := e2
  obtain ⟨callee, args, argTypes⟩ := c
  simp only at hc ha
  subst hc
  have hargs : args.map ev = #[.string a, .string b] := by rw [← Array.toArray_toList (xs := args), ha]; simp [e1, e2]
  have hrun := run_callFunc_extern hf hn hb h1 h2 #[.string a, .string b] w
  rw [Lib.run_compareString] at hrun
  simp only [Result.andThen] at hrun
  have e3 := hv (.func f)
  rw [hfn] at e3
  obtain ⟨fs, us, hef, q1, q2⟩ := e3
  have q1' : fs = #[] := by simpa using congrArg List.toArray (show fs.toList = [] from q1)
  have q2' : us = #[] := by simpa using congrArg List.toArray (show us.toList = [] from q2)
  subst q1' q2'
  have hr : (execOp ev o).run P w = .ok (.value (.int .i64 (Lib.compareBytes a.data.toList b.data.toList))) w := by
    simp only [execOp, ho, resolve, Deferred.ofValue, hef, Sem.run_bind, Sem.run_pure, Result.andThen_ok, invoke, hargs]
    simpa using hrun
  rw [hr]
  exact .same hm h rfl
end
end Go.Ab
namespace Go.Proofs.YtgfadepkiejncaaGreat
open Go.Ab
set_option maxHeartbeats 0
set_option maxRecDepth 100000
attribute [local irreducible] AW AList ACall DA AExit.then AExit.inBlock YCall
theorem cmpB_less : ∀ a b : List UInt8, Lib.compareBytes a b = if Op.bytesLess a b = true then -1 else if (!(Op.bytesLess a b || a == b)) = true then 1 else 0
  | [], [] => rfl
  | [], _ :: _ => rfl
  | _ :: _, [] => rfl
  | x :: a, y :: b => by
    simp only [Lib.compareBytes, Op.bytesLess]
    by_cases h : x < y
    · simp [h]
    · by_cases h' : y < x
      · have : x ≠ y := fun e => by subst e; exact h h'
        simp [h, h', this]
      · have : x = y := UInt8.le_antisymm (UInt8.not_lt.1 h') (UInt8.not_lt.1 h)
        subst this
        simp [h, cmpB_less a b]
theorem cmpB_strF (s t : ByteArray) : Lib.compareBytes s.data.toList t.data.toList = strF s t := by
  unfold strF
  rw [cmpB_less, Lib.toList_data, Lib.toList_data]
theorem bytealg_compare (s t : ByteArray) : Gives Tryz.prog 174 [vS s, vS t] (vI (strF s t)) := by
  intro m
  refine ACall.of_aw Tryz.func174 Tryz.ntmps174 rfl rfl (by simp) ?_
  refine tS ?_
  refine AList.opK (by decide) fun K Kp hK hKp => op_cmpstr (f := 195) (a := s) (b := t) rfl rfl rfl Tryz.func195 (by kernel_rfl) (by kernel_rfl) (by kernel_rfl) (by kernel_rfl) (by simp [opv]) (by simp [opv, upd_lit]) (by simp [opv, upd_lit]) (hK _ _ ?_)
  rw [cmpB_strF]
  refine tS ?_
  exact Fin.ret rfl (Same.refl m) (by simp [upd_lit]) (by simp) ⟨rfl, rfl⟩
theorem strings_compare (s t : ByteArray) : Gives Tryz.prog 162 [vS s, vS t] (vI (strF s t)) := by
  intro m
  refine ACall.of_aw Tryz.func162 Tryz.ntmps162 rfl rfl (by simp) ?_
  refine tS ?_
  refine tS1 fun K Kp hK hKp => ?_; refine Gives.at (bytealg_compare s t) ?_; apply hK; clear hK hKp K Kp
  refine tS ?_
  exact Fin.ret rfl (Same.refl m) (by simp [upd_lit]) (by simp) ⟨rfl, rfl⟩
def orF : List Int → Int
  | [] => 0
  | x :: l => if x ≠ 0 then x else orF l
theorem cmp_or (l : List Int) (ll : l.length < 1152921504606846976) : Gives Tryz.prog 163 [.list .no (ints l)] (vI (orF l)) := by
  intro m
  refine ACall.of_aw Tryz.func163 Tryz.ntmps163 rfl rfl (by simp) ?_
  refine tS ?_
  refine AW.loop (ι := Nat) (fun i σ m' => i ≤ l.length ∧ orF l = orF (l.drop i) ∧ σ 8 = vI i ∧ σ 7 = vI l.length ∧ σ 6 = .list .no (ints l) ∧ σ 3 = vI 0 ∧ m' = m) (fun i => l.length - i) 0 ?_ ?_
  · exact ⟨by simp, rfl, by simp [upd_lit], by simp [upd_lit], by simp [upd_lit], by simp [upd_lit], rfl⟩
  rintro i σ m' ⟨hi, hc, h8, h7, h6, h3, rfl⟩
  have F := (aand @h8 (aand @h7 (aand @h6 @h3))); refine tF ?_; (try clear F)
  refine AW.condD (p := i < l.length) (by simp [upd_lit]) (fun hlt => ?_) (fun hge => ?_)
  · rw [List.drop_eq_getElem_cons hlt] at hc
    have F := (aand @h8 (aand @h7 (aand @h6 (aand @h3 (aand @hlt @ints_getD))))); refine tF ?_; (try clear F)
    refine AW.condD (p := l[i] ≠ 0) (by simp [upd_lit]) (fun h => ?_) (fun h => ?_)
    · refine tS ?_
      exact Fin.ret rfl (Same.refl _) (by simp [upd_lit]; rfl) (by simp) ⟨by rw [hc, orF, if_pos h], rfl⟩
    · have F := @h8; refine tF ?_; (try clear F)
      refine ⟨i + 1, ⟨by omega, by rw [hc, orF, if_neg h], by simp [upd_lit], by simp [upd_lit, h7], by simp [upd_lit, h6], by simp [upd_lit, h3], rfl⟩, by omega⟩
  · have F := @h3; refine tF ?_; (try clear F)
    have : i = l.length := by omega
    subst this
    exact Fin.ret rfl (Same.refl _) (by simp [upd_lit]; rfl) (by simp) ⟨by rw [hc, List.drop_length]; rfl, rfl⟩
end Go.Proofs.YtgfadepkiejncaaGreat
namespace Go.Proofs.YtgfadepkiejncaaGreat
open Go.Ab
set_option maxHeartbeats 0
set_option maxRecDepth 100000
attribute [local irreducible] AW AList ACall DA AExit.then AExit.inBlock YCall
def intOK (n : Bool) (a : List Int) : Prop := a.length ≤ 300 ∧ (a = [] → n = false) ∧ (a ≠ [] → a[a.length - 1]?.getD 0 ≠ 0)
theorem num_check (n : Bool) (a : List Int) (h : intOK n a) : Gives Tryz.prog 170 [intv n a] (vE 0) := by
  obtain ⟨h1, h2, h3⟩ := h
  intro m
  refine ACall.of_aw Tryz.func170 Tryz.ntmps170 rfl rfl (by simp) ?_
  by_cases ha : a = []
  · have hn := h2 ha
    subst ha hn
    refine tSg ?_
    refine AW.cond (t := false) (by simp [upd_lit]) (fun h => by cases h) (fun _ => ?_)
    refine tS ?_
    exact Fin.ret rfl ((Same.refl m).newLoc _) (by simp [upd_lit]) (by simp) ⟨rfl, rfl⟩
  · have hl : 0 < a.length := List.length_pos_iff.2 ha
    have h3 := h3 ha
    obtain ⟨k, hk⟩ : ∃ k, a.length = k + 1 := ⟨a.length - 1, by omega⟩
    have ek : k < a.length := by omega
    have h3 : a[k] ≠ 0 := by simpa [hk, List.getElem?_eq_getElem ek] using h3
    have e7 : ¬ 300 < a.length := by omega
    have e1 : ¬ (300 : Int) < a.length := by omega
    have e8 : (a.length : Int) - 1 = (k : Int) := by omega
    have F := (aand @hl (aand @e7 (aand @e1 (aand @e8 (aand @ek (aand @limbs_getD (aand @h3 @ha))))))); refine tFg ?_; (try clear F)
    refine AW.cond (t := false) (by simp [upd_lit]) (fun h => by cases h) (fun _ => ?_)
    refine tS ?_
    exact Fin.ret rfl ((Same.refl m).newLoc _) (by simp [upd_lit]) (by simp) ⟨rfl, rfl⟩
theorem order_eq {n n' : Bool} {a a' : List Int} (h : intOK n a) (h' : intOK n' a') : (if signF n a ≠ signF n' a' then numbersF (signF n a) (signF n' a') else if n = true then sizeF a' a else sizeF a a') = intsF n a n' a' := by
  obtain ⟨_, h2, _⟩ := h
  obtain ⟨_, h2', _⟩ := h'
  cases a with
  | nil =>
    have := h2 rfl; subst this
    cases a' with
    | nil => have := h2' rfl; subst this; rfl
    | cons y b => cases n' <;> simp [signF, numbersF, intsF, sizeF]
  | cons x a =>
    cases a' with
    | nil => have := h2' rfl; subst this; cases n <;> simp [signF, numbersF, intsF, sizeF]
    | cons y b => cases n <;> cases n' <;> simp [signF, numbersF, intsF]
theorem num_order (n n' : Bool) (a a' : List Int) (h : intOK n a) (h' : intOK n' a') : Gives Tryz.prog 171 [intv n a, intv n' a'] (vI (intsF n a n' a')) := by
  have la := h.1
  have lb := h'.1
  intro m
  refine ACall.of_aw Tryz.func171 Tryz.ntmps171 rfl rfl (by simp) ?_
  have sm : Same m ((m.newLoc [vB n, .list .no (limbs a)]).newLoc [vB n', .list .no (limbs a')]) := ((Same.refl m).newLoc _).newLoc _
  refine tS ?_
  refine AW.draw [.R, .R, .R, .R, .S, .S] (by decide +kernel) ?_; have F := True.intro; refine dR 0 ?_; refine dC ((num_sign n a)) 1 ?_; refine dR 2 ?_; refine dC ((num_sign n' a')) 3 ?_; refine dS 4 ?_; refine dS 5 ?_; (try clear F); first | refine dN ?_ | refine dB ?_ | refine DA.done (by decide +kernel) ?_
  refine tS ?_
  refine AW.condD (p := signF n a ≠ signF n' a') (by simp [upd_lit]) (fun hs => ?_) (fun hs => ?_)
  · refine tS ?_
    refine tS1 fun K Kp hK hKp => ?_; refine Gives.at (cmp_int (signF n a) (signF n' a')) ?_; apply hK; clear hK hKp K Kp
    refine tS ?_
    exact Fin.ret rfl sm (by simp [upd_lit]; rfl) (by simp) ⟨by rw [← order_eq h h', if_pos hs], rfl⟩
  refine tS ?_
  refine AW.cond (t := n) (by simp [upd_lit]) (fun hn => ?_) (fun hn => ?_)
  · refine tS ?_
    refine tS1 fun K Kp hK hKp => ?_; refine Gives.at (nat_compare a' a (by omega) (by omega)) ?_; apply hK; clear hK hKp K Kp
    refine tS ?_
    exact Fin.ret rfl sm (by simp [upd_lit]; rfl) (by simp) ⟨by rw [← order_eq h h', if_neg hs, if_pos hn], rfl⟩
  · refine tS ?_
    refine tS1 fun K Kp hK hKp => ?_; refine Gives.at (nat_compare a a' (by omega) (by omega)) ?_; apply hK; clear hK hKp K Kp
    refine tS ?_
    exact Fin.ret rfl sm (by simp [upd_lit]; rfl) (by simp) ⟨by rw [← order_eq h h', if_neg hs, if_neg (by simp [hn])], rfl⟩
theorem num_compare (n n' : Bool) (a a' : List Int) (h : intOK n a) (h' : intOK n' a') : Gives Tryz.prog 160 [intv n a, intv n' a'] (vI (intsF n a n' a')) := by
  intro m
  refine ACall.of_aw Tryz.func160 Tryz.ntmps160 rfl rfl (by simp) ?_
  have sm : Same m ((m.newLoc [vB n, .list .no (limbs a)]).newLoc [vB n', .list .no (limbs a')]) := ((Same.refl m).newLoc _).newLoc _
  refine tS ?_
  refine tS1 fun K Kp hK hKp => ?_; refine Gives.at (num_check n a h) ?_; apply hK; clear hK hKp K Kp
  refine tSg ?_
  refine tSc (num_check n' a' h') ?_
  refine tSg ?_
  refine AW.cond (t := false) (by simp [upd_lit]) (fun h => by cases h) (fun _ => ?_)
  refine tS ?_
  refine tS1 fun K Kp hK hKp => ?_; refine Gives.at (num_order n n' a a' h h') ?_; apply hK; clear hK hKp K Kp
  refine tS ?_
  exact Fin.ret rfl sm (by simp [upd_lit]) (by simp) ⟨rfl, rfl⟩
end Go.Proofs.YtgfadepkiejncaaGreat
namespace Go.Proofs.YtgfadepkiejncaaGreat
open Go.Ab
set_option maxHeartbeats 0
set_option maxRecDepth 100000
attribute [local irreducible] AW AList ACall DA AExit.then AExit.inBlock YCall DCall
def trimN (a : List Int) : Nat → Nat
  | 0 => 0
  | n + 1 => if a[n]?.getD 0 = 0 then trimN a n else n + 1
def trimL (a : List Int) : List Int := a.take (trimN a a.length)
theorem trimN_le (a : List Int) : ∀ n, trimN a n ≤ n
  | 0 => Nat.le_refl _
  | n + 1 => by simp only [trimN]; split; exact Nat.le_succ_of_le (trimN_le a n); exact Nat.le_refl _
theorem trimL_id {a : List Int} (h : a ≠ [] → a[a.length - 1]?.getD 0 ≠ 0) : trimL a = a := by
  cases hl : a.length with
  | zero => have : a = [] := List.eq_nil_of_length_eq_zero hl; subst this; rfl
  | succ n =>
    have hne : a ≠ [] := by rintro rfl; simp at hl
    have := h hne
    rw [hl] at this
    unfold trimL
    rw [hl, trimN, if_neg (by simpa using this), ← hl, List.take_length]
theorem limbs_take (a : List Int) (n : Nat) : (limbs a).take n = limbs (a.take n) := by simp [limbs, List.map_take]
theorem slice163 (a : List Int) (i : Nat) (hi : i ≤ a.length) (m : St) (K : PV → St → Prop) (h : K (.list .no (limbs (a.take i))) m) : aslice Tryz.prog 163 (.list .no (limbs a)) none (some (vI i)) none m K := by
  simp [aslice, abnd, limbs_take]
  exact ⟨hi, h⟩
theorem nat_trim (a : List Int) (la : a.length < 1152921504606846976) : Gives Tryz.prog 194 [.list .no (limbs a)] (.list .no (limbs (trimL a))) := by
  intro m
  refine ACall.of_aw Tryz.func194 Tryz.ntmps194 rfl rfl (by simp) ?_
  refine tS ?_
  refine AW.loop (ι := Nat) (fun i σ m' => i ≤ a.length ∧ trimN a i = trimN a a.length ∧ σ 3 = vI i ∧ σ 0 = .list .no (limbs a) ∧ m' = m) (fun i => i) a.length ?_ ?_
  · exact ⟨Nat.le_refl _, rfl, by simp [upd_lit], by simp [upd_lit], rfl⟩
  rintro i σ m' ⟨hi, hc, h3, h0, rfl⟩
  cases i with
  | zero =>
    have F := (aand @h3 @h0); refine tFg ?_; (try clear F)
    refine AW.cond (t := false) (by simp [upd_lit]) (fun h => by cases h) (fun _ => ?_)
    have F := (aand @h3 @h0); refine tF ?_; (try clear F)
    have F := @h0; refine tF1 fun K Kp hK hKp => ?_; (try clear F)
    refine slice163 a 0 hi _ _ ?_
    apply hK; clear hK hKp K Kp
    refine tS ?_
    exact Fin.ret rfl (Same.refl _) (by simp [upd_lit]; rfl) (by simp) ⟨by rw [trimL, ← hc]; rfl, rfl⟩
  | succ i =>
    have e1 : (0 : Int) < ((i + 1 : Nat) : Int) := by omega
    have e2 : (((i + 1 : Nat) : Int) - 1) = (i : Int) := by omega
    have e3 : i < a.length := by omega
    have F := (aand @h3 (aand @h0 (aand @e1 (aand @e2 (aand @e3 @limbs_getD))))); refine tFg ?_; (try clear F)
    refine AW.condD (p := a[i] = 0) (by simp [upd_lit]) (fun hz => ?_) (fun hz => ?_)
    · have F := (aand @h3 (aand @h0 @e2)); refine tF ?_; (try clear F)
      refine ⟨i, ⟨by omega, ?_, by simp [upd_lit], by simp [upd_lit, h0], rfl⟩, by omega⟩
      rw [← hc, trimN, if_pos (by simp [List.getElem?_eq_getElem e3, hz])]
    · have F := (aand @h3 @h0); refine tF ?_; (try clear F)
      have F := @h0; refine tF1 fun K Kp hK hKp => ?_; (try clear F)
      refine slice163 a (i + 1) hi _ _ ?_
      apply hK; clear hK hKp K Kp
      refine tS ?_
      exact Fin.ret rfl (Same.refl _) (by simp [upd_lit]; rfl) (by simp) ⟨by rw [trimL, ← hc, trimN, if_neg (by simp [List.getElem?_eq_getElem e3, hz])], rfl⟩
theorem num_must (e : Int) : Gives Tryz.prog 203 [vB true, vE e] (.tup []) := by
  intro m
  refine ACall.of_aw Tryz.func203 Tryz.ntmps203 rfl rfl (by simp) ?_
  refine tS ?_
  refine AW.cond (t := false) (by simp [upd_lit]) (fun h => by cases h) (fun _ => ?_)
  refine tS ?_
  exact Fin.normal (p := .tup []) ⟨[], rfl, rfl⟩ (Same.refl m) rfl trivial ⟨rfl, rfl⟩
end Go.Proofs.YtgfadepkiejncaaGreat
namespace Go.Proofs.YtgfadepkiejncaaGreat
open Go.Ab
set_option maxHeartbeats 0
attribute [local irreducible] AW AList ACall DA AExit.then AExit.inBlock YCall DCall
theorem caught_none (m : St) (a : PV) : DCall Tryz.prog 82 [a] m none (fun m' => m' = m) := by
  refine DCall.of_rec Tryz.func82 Tryz.ntmps82 (tail := #[]) rfl rfl (by simp) (by decide) rfl (.inl rfl) fun σ h0 h5 _ => ?_
  refine AW.block ?_
  refine AW.seq ?_
  refine AW.regionL ?_
  refine AList.opK (by decide) ?_; intro K Kp hK hKp
  refine op_nilNil rfl (by decide +kernel) (by simpa [recV] using h5) rfl ?_
  apply hK; clear hK hKp K Kp
  refine tS ?_
  refine AW.cond (t := true) (by simp [upd_lit]) (fun _ => ?_) (fun h => by cases h)
  have F := @h5; refine tF ?_; (try clear F)
  exact ⟨m, (Same.refl m).lv, rfl⟩
set_option maxRecDepth 100000 in
theorem caught_pan (m : St) (n : Nat) (e : Int) (hn : n < m.nloc) (hc : m.loc n = some [vE 0]) : DCall Tryz.prog 82 [.loc n 0] m (some (.iface 117 (.agg [vE e]))) (fun m' => m' = m.setLoc n [vE e]) := by
  refine DCall.of_rec Tryz.func82 Tryz.ntmps82 (tail := #[]) rfl rfl (by simp) (by decide) rfl (.inl rfl) fun σ h0 h5 _ => ?_
  have ha : σ 0 = .loc n 0 := by rw [h0 0 (by decide) (by simp)]; rfl
  refine AW.block ?_
  refine AW.seq ?_
  refine AW.regionL ?_
  refine AList.opK (by decide) ?_; intro K Kp hK hKp
  refine op_ifaceNil rfl (by decide +kernel) (by simpa [recV] using h5) rfl ?_
  apply hK; clear hK hKp K Kp
  refine tS ?_
  refine AW.cond (t := false) (by simp [upd_lit]) (fun h => by cases h) (fun _ => ?_)
  refine AW.seq ?_
  refine AW.regionL ?_
  refine AList.opK (by decide) ?_; intro K Kp hK hKp
  have h5' : opv (upd σ 7 (.v (.bool false))) (.tmp 5) = .iface 117 (.agg [vE e]) := by simpa [recV, upd_lit] using h5
  have hoa : ∀ pos, K (.tup [.agg [vE e], vB true]) m → OpOK Tryz.prog ⟨some 8, .typeAssert (.tmp 5) 20 117 true, 0, pos, #[], none⟩ (opv (upd σ 7 (.v (.bool false)))) m K Kp := fun pos h => @op_assert Tryz.prog m K Kp ⟨some 8, .typeAssert (.tmp 5) 20 117 true, 0, pos, #[], none⟩ (.tmp 5) 20 117 (.agg [vE e]) _ rfl (by simp) h5' h
  refine hoa _ ?_
  apply hK; clear hK hKp K Kp hoa
  refine tS ?_
  refine AW.cond (t := true) (by simp [upd_lit]) (fun _ => ?_) (fun h => by cases h)
  have n1 : n ≠ m.nloc := by omega
  have n2 : n < m.nloc + 1 := by omega
  have F := (aand @ha (aand @n1 (aand @n2 @hc))); refine tF ?_; (try clear F)
  refine ⟨m.setLoc n [vE e], ⟨Nat.le_refl _, Nat.le_refl _, by simp, Nat.le_refl _, fun k cs hk hq => ?_, fun _ _ => ⟨rfl, rfl⟩, fun k L hk hq => ?_, fun k x hk hq => ?_, fun k cs hk hd hq => ⟨hq, .inl ⟨hk, hq⟩⟩⟩, rfl⟩
  · have hk' : k < m.nloc := hk
    have k1 : k ≠ m.nloc := by omega
    by_cases hkn : k = n
    · subst hkn
      simp at hq ⊢
      subst hq
      exact ⟨rfl, .inr ⟨trivial, trivial⟩⟩
    · simp [hkn] at hq
      simp [hkn, k1, hq, hk']
  · have hk' : k < m.nloc := hk
    have k1 : k ≠ m.nloc := by omega
    simp [k1] at hq ⊢
    exact ⟨hk', hq⟩
  · have hk' : k < m.nloc := hk
    have k1 : k ≠ m.nloc := by omega
    simp [k1] at hq ⊢
    exact hq
theorem check_of {v : GV} {r : RR} {m' : EM} {callM : CallM} (hM : CallMOK Tryz.prog callM) {e : Int} (hr : r = .ret (.tup []) ∧ e = 0 ∨ r = .pan (.iface 117 (.agg [vE e]))) (hm' : m'.cells 1 = some [vE 0] ∧ 1 < m'.nloc)
    (h : callM 83 [.loc 2 0, v.pv, vI 1] (((EM.empty.new (.cells v.cells)).new (.cells [vE 0])).new (.cells [vI 3000, vI 20, vI 0])) = .ok (r, m')) : ∀ m, ACall Tryz.prog 19 [v.pv] m (fun r' s' => r' = .ret (vE e) ∧ s' = m) := by
  refine ACall.closed (r0 := .ret (vE e)) ?_ ⟨cells_sc 0 0 v, trivial⟩ trivial
  refine ACall.of_defer Tryz.func19 Tryz.ntmps19 (pre := []) rfl rfl rfl (by simp) ?_
  refine tS ?_
  refine ⟨82, [], [], rfl, ?_⟩
  have hcall := hM _ _ _ _ _ h
  rw [st_new_cells, st_new_cells, st_new_cells, st_empty] at hcall
  have z0 : St.empty.nloc = 0 := rfl
  have F := @z0; refine tF ?_; (try clear F)
  refine AList.op (by decide) ?_; intro K Kp hK hKp; simp [upd_lit]
  refine hcall.mono ?_
  obtain ⟨hc1, hc2⟩ := hm'
  replace hc1 : m'.st.loc 1 = some [vE 0] := hc1
  replace hc2 : 1 < m'.st.nloc := hc2
  rintro r' s' ⟨rfl, rfl⟩
  rcases hr with ⟨rfl, rfl⟩ | rfl
  · simp only [RR.toA]
    apply hK; clear hK hKp K Kp
    have F := (aand @z0 (aand @hc1 @hc2)); refine tF ?_; (try clear F)
    refine (caught_none _ _).mono ?_
    rintro s' rfl
    refine ⟨vE 0, _, ?_, .inl rfl, rfl⟩
    simp [ResP, resV, upd_lit, z0, hc2, show Tryz.f19.results.toList = [.cell 2 30] from rfl]
  · simp only [RR.toA]
    apply hKp; clear hK hKp K Kp
    refine AExit.panT ?_
    refine (caught_pan _ 1 e hc2 hc1).mono ?_
    rintro s' rfl
    refine ⟨vE e, _, ?_, .inl rfl, rfl⟩
    simp [ResP, resV, upd_lit, z0, hc2, show Tryz.f19.results.toList = [.cell 2 30] from rfl]
end Go.Proofs.YtgfadepkiejncaaGreat
namespace Go.Proofs.YtgfadepkiejncaaGreat
open Go.Ab
set_option maxHeartbeats 0
mutual
def GV.ofC : List PV → Option GV
  | [.v (.int .i64 k), .v (.int .i64 n), .v (.bool b), .list .no a, .v (.string s), .list .no r] => match limbsOf a, GV.ofR r with | some a, some l => some (.mk k n b a s l) | _, _ => none
  | _ => none
def GV.ofR : List (List PV) → Option (List GV)
  | [] => some []
  | r :: rs => match GV.ofC r, GV.ofR rs with | some v, some l => some (v :: l) | _, _ => none
def limbsOf : List (List PV) → Option (List Int)
  | [] => some []
  | [.v (.int .u32 x)] :: l => match limbsOf l with | some l => some (x :: l) | none => none
  | _ => none
end
theorem limbsOf_spec : ∀ (l : List (List PV)) (xs : List Int), limbsOf l = some xs → l = limbs xs := by
  intro l
  induction l with
  | nil => intro xs h; simp [limbsOf] at h; subst h; rfl
  | cons r l ih =>
    intro xs h
    unfold limbsOf at h
    split at h
    · rename_i e; cases e
    · rename_i x l' e
      cases e
      split at h
      · rename_i ys hy; cases h
        rw [ih _ hy]; rfl
      · cases h
    · cases h
mutual
theorem ofC_spec : ∀ (cs : List PV) (v : GV), GV.ofC cs = some v → cs = v.cells
  | cs, v, h => by
    unfold GV.ofC at h
    split at h
    · rename_i k n b a s r
      split at h
      · rename_i xs l hx hl; cases h
        rw [limbsOf_spec _ _ hx, ofR_spec _ _ hl]
        rfl
      · cases h
    · cases h
termination_by cs => SizeOf.sizeOf cs
theorem ofR_spec : ∀ (rs : List (List PV)) (l : List GV), GV.ofR rs = some l → rs = GV.rows l
  | [], l, h => by simp [GV.ofR] at h; subst h; rfl
  | r :: rs, l, h => by
    unfold GV.ofR at h
    split at h
    · rename_i v l' hv hl; cases h
      rw [ofC_spec _ _ hv, ofR_spec _ _ hl]; rfl
    · cases h
termination_by rs => SizeOf.sizeOf rs
end
def spc1 : CallM → FuncId → List PV → Option (ER PV) := fun callM f args =>
  match f, args with
  | 30, [.agg cs] => match GV.ofC cs with | some v => if nodes v < 1152921504606846976 then some (.ok (vI (nodes v))) else none | none => none
  | 94, [.list .no r] => match limbsOf r with | some l => if l.length ≤ 1099511627776 then some (.ok (.list .no (limbs l))) else none | none => none
  | 19, [.agg cs] => match GV.ofC cs with
    | some v => match callM 83 [.loc 2 0, v.pv, vI 1] (((EM.empty.new (.cells v.cells)).new (.cells [vE 0])).new (.cells [vI 3000, vI 20, vI 0])) with
      | .ok (r, m') => match m'.cells 1 with
        | some [.v (.int .i64 0)] => if 1 < m'.nloc then (match r with
          | .pan (.iface 117 (.agg [.v (.int .i64 e)])) => some (.ok (vE e))
          | .ret (.tup []) => some (.ok (vE 0))
          | _ => some (.error "check")) else some (.error "check nloc")
        | _ => some (.error "check cell")
      | .error s => some (.error s)
    | none => none
  | _, _ => none
def cfg1 : ECfg := ⟨spc1, [141], [(96, 6)]⟩
theorem spc1_ok : SpcOK Tryz.prog cfg1 := by
  intro callM hM f args p h s
  replace h : spc1 callM f args = some (.ok p) := h
  unfold spc1 at h
  split at h
  · rename_i cs
    split at h
    · rename_i v hv
      split at h
      · rename_i hq; cases h
        have := ofC_spec _ _ hv
        subst this
        exact val_nodes v hq s
      · cases h
    · cases h
  · rename_i r
    split at h
    · rename_i l hl
      split at h
      · rename_i hq; cases h
        have := limbsOf_spec _ _ hl
        subst this
        exact clone22 l hq s
      · cases h
    · cases h
  · rename_i cs
    split at h
    · rename_i v hv
      have := ofC_spec _ _ hv
      subst this
      split at h
      · rename_i r m' hc
        split at h
        · rename_i hcell
          split at h
          · rename_i hn
            split at h
            · rename_i e; cases h
              exact check_of hM (.inr rfl) ⟨hcell, hn⟩ hc s
            · cases h
              exact check_of hM (.inl ⟨rfl, rfl⟩) ⟨hcell, hn⟩ hc s
            · cases h
          · cases h
        · cases h
      · cases h
    · cases h
  · cases h
end Go.Proofs.YtgfadepkiejncaaGreat
namespace Go.Proofs.YtgfadepkiejncaaGreat
open Go.Ab
set_option maxHeartbeats 0
set_option maxRecDepth 100000
attribute [local irreducible] AW AList ACall DA AExit.then AExit.inBlock YCall DCall
theorem num_of10 : Gives Tryz.prog 173 [vI 10] (intv false [10]) := fun m => ecall_sound spc1_ok (n := 100) (r := .ret (intv false [10])) (by kernel_rfl) m
abbrev introws (l : List (Bool × List Int)) : List (List PV) := l.map fun x => [vB x.1, .list .no (limbs x.2)]
theorem introws_getD (l : List (Bool × List Int)) (i : Nat) (h : i < l.length) : rowI (introws l) i = [vB (l[i]).1, .list .no (limbs (l[i]).2)] := by simp [rowI, introws, List.getD, h]
@[simp] theorem introws_w (l : List (Bool × List Int)) : RowsW 2 (introws l) := by
  intro r hr
  obtain ⟨x, _, rfl⟩ := List.mem_map.1 hr
  rfl
theorem num_formed (l : List (Bool × List Int)) (hl : l.length < 1152921504606846976) (h : ∀ x ∈ l, intOK x.1 x.2) : Gives Tryz.prog 191 [.list .no (introws l)] (.tup []) := by
  intro m
  refine ACall.of_aw Tryz.func191 Tryz.ntmps191 rfl rfl (by simp) ?_
  refine tS ?_
  refine AW.loop (ι := Nat) (fun i σ m' => i ≤ l.length ∧ σ 6 = vI i ∧ σ 5 = vI l.length ∧ σ 4 = .list .no (introws l) ∧ Same m m') (fun i => l.length - i) 0 ?_ ?_
  · exact ⟨by simp, by simp [upd_lit], by simp [upd_lit], by simp [upd_lit], Same.refl m⟩
  rintro i σ m' ⟨hi, h6, h5, h4, sm⟩
  have F := (aand @h6 (aand @h5 @h4)); refine tF ?_; (try clear F)
  refine AW.condD (p := i < l.length) (by simp [upd_lit]) (fun hlt => ?_) (fun hge => ?_)
  · have hx := h l[i] (List.getElem_mem hlt)
    have F := (aand @h6 (aand @h5 (aand @h4 (aand @hlt @introws_getD)))); refine tF ?_; (try clear F)
    refine tS1 fun K Kp hK hKp => ?_; refine Gives.at (num_check (l[i]).1 (l[i]).2 hx) ?_; apply hK; clear hK hKp K Kp
    refine tS ?_
    refine tS1 fun K Kp hK hKp => ?_; refine Gives.at (num_must 1) ?_; apply hK; clear hK hKp K Kp
    have F := @h6; refine tF ?_; (try clear F)
    exact ⟨i + 1, ⟨by omega, by simp [upd_lit], by simp [upd_lit, h5], by simp [upd_lit, h4], (sm.newLoc _).setLoc sm.lloc _⟩, by omega⟩
  · refine tS ?_
    exact Fin.normal (p := .tup []) ⟨[], rfl, rfl⟩ sm rfl trivial ⟨rfl, rfl⟩
theorem num_whole (n : Bool) (a : List Int) (la : a.length ≤ 16777216) (lt : (trimL a).length ≤ 300) : Gives Tryz.prog 192 [vB n, .list .no (limbs a)] (intv (n && decide (0 < (trimL a).length)) (trimL a)) := by
  intro m
  refine ACall.of_aw Tryz.func192 Tryz.ntmps192 rfl rfl (by simp) ?_
  refine tS ?_
  refine tS1 fun K Kp hK hKp => ?_; refine Gives.at (nat_trim a (by omega)) ?_; apply hK; clear hK hKp K Kp
  have e1 : ((trimL a).length : Int) ≤ 300 := by omega
  have F := @e1; refine tF ?_; (try clear F)
  have F := @e1; refine tF1 fun K Kp hK hKp => ?_; (try clear F); refine Gives.at (num_must 3) ?_; apply hK; clear hK hKp K Kp
  refine tSp ?_
  refine AList.opK (by decide) ?_; intro K Kp hK hKp
  refine op_appendS rfl (by simp) (by simp) ?_
  simp only [opv, upd_lit, cv]
  refine app22 (l := []) (m0 := m) (.full ((Same.refl m).newLoc _)) rfl (by simp; omega) fun o' m'' ho' hs => hK _ _ ?_; clear hK hKp K Kp
  have hn : m.nloc < m''.nloc := by rw [hs.nloc]; simp
  have hl : m''.loc m.nloc = some [.v (.bool false), .list .full []] := by rw [hs.loc]; simp
  have F := (aand @hn @hl); refine tF ?_; (try clear F)
  exact Fin.retC (p := .agg [vB (n && decide (0 < (trimL a).length)), .list .no (limbs (trimL a))]) (q := intv (n && decide (0 < (trimL a).length)) (trimL a)) rfl (by simp [upd_lit, hn]) (ho'.1.setLoc (Nat.le_refl _) _) (by simp [PV.strip]) (by simp [PV.sc, PV.scL]) ⟨rfl, rfl⟩
end Go.Proofs.YtgfadepkiejncaaGreat
namespace Go.Proofs.YtgfadepkiejncaaGreat
open Go.Ab
set_option maxHeartbeats 0
set_option maxRecDepth 100000
attribute [local irreducible] AW AList ACall DA AExit.then AExit.inBlock YCall DCall
theorem nat_limbs (a : List Int) : Gives Tryz.prog 211 [.list .no (limbs a)] (.clo 213 [] [.ro [.list .no (limbs a)]]) := by
  intro m
  refine ACall.of_aw Tryz.func211 Tryz.ntmps211 rfl rfl (by simp) ?_
  refine tSn ?_
  refine AW.frz (n := m.nloc) (d := 2) (cs := [.list .no (limbs a)]) (by simp) (by simp) ?_
  refine tS ?_
  exact Fin.ret rfl ((Same.newLoc (Same.refl m) _).dropLoc (Nat.le_refl _)) (by simp [upd_lit]) (by simp) ⟨rfl, rfl⟩
def limbYs (a : List Int) : List (List PV) := (List.range a.length).map fun (i : Nat) => [vI (i : Int), vW (a[i]?.getD 0)]
theorem limbs_iter {n b : Nat} {m0 : St} (a : List Int) (la : a.length < 1152921504606846976) {I : Nat → St → Prop} (y : Yields Tryz.prog n b m0 (limbYs a) I) (m : St) (hI : I 0 m) (hb : b ≤ m.nloc) :
    ACall Tryz.prog 213 [.yld n, .ro [.list .no (limbs a)]] m (fun r m' => r = .ret (.tup []) ∧ I a.length m' ∧ Only b m m' ∧ m'.nloc = m.nloc) := by
  refine ACall.of_aw Tryz.func213 Tryz.ntmps213 rfl rfl (by simp) ?_
  refine tS ?_
  refine AW.loop (ι := Nat) (fun i σ m' => i ≤ a.length ∧ I i m' ∧ Only b m m' ∧ m'.nloc = m.nloc ∧ σ 7 = vI i ∧ σ 6 = vI a.length ∧ σ 5 = .list .no (limbs a) ∧ σ 0 = .yld n) (fun i => a.length - i) 0 ?_ ?_
  · exact ⟨by simp, hI, Only.refl b m, rfl, by simp [upd_lit], by simp [upd_lit], by simp [upd_lit], by simp [upd_lit]⟩
  rintro i σ m' ⟨hi, hIi, oi, ni, h7, h6, h5, h0⟩
  have F := (aand @h7 (aand @h6 (aand @h5 @h0))); refine tF ?_; (try clear F)
  refine AW.condD (p := i < a.length) (by simp [upd_lit]) (fun hlt => ?_) (fun hge => ?_)
  · have F := (aand @h7 (aand @h6 (aand @h5 (aand @h0 (aand @hlt @limbs_getD))))); refine tF ?_; (try clear F)
    refine AList.op (by decide) ?_; intro K Kp hK hKp; simp [upd_lit, h0]
    have hc := y.call i (by simpa [limbYs] using hlt) m' (by omega) hIi
    simp only [limbYs, List.getElem_map, List.getElem_range, List.getElem?_eq_getElem hlt, Option.getD_some] at hc
    refine hc.mono ?_
    rintro _ m1 ⟨rfl, hI2, o2, n2⟩
    apply hK; clear hK hKp K Kp
    refine tS ?_
    refine AW.cond (t := false) (by simp [upd_lit]) (fun h => by cases h) (fun _ => ?_)
    have F := @h7; refine tF ?_; (try clear F)
    exact ⟨i + 1, ⟨by omega, hI2, oi.trans o2, by omega, by simp [upd_lit], by simp [upd_lit, h6], by simp [upd_lit, h5], by simp [upd_lit, h0]⟩, by omega⟩
  · refine tS ?_
    have e : i = a.length := by omega
    subst e
    obtain ⟨m'', l1, l2, l3, l4⟩ := y.leaves hb hI hIi oi
    exact ⟨.tup [], m'', ⟨[], rfl, rfl⟩, .inr ⟨l1.lv, by simp⟩, by simp, l2, l3, l4⟩
end Go.Proofs.YtgfadepkiejncaaGreat
