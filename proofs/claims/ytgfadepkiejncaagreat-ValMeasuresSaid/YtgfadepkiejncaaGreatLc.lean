/- Texts of the proof, part Lc: they prove nothing by themselves that is claimed. -/
import Derived.Test.YtgfadepkiejncaaGreatLb
import Derived.Still
import Derived.RangeFuncNested
set_option linter.unusedVariables false
set_option linter.unusedSimpArgs false
/- The abstract layer, 12: regions whose order is open. Over any program. -/
namespace Go.Ab
open Go.RowKit

section
variable {P : Program} {m : St} {K Kp : PV → St → Prop}

/-- An operation's step looks at its operands alone. -/
theorem aop_congr {op : Op} {ρ ρ' : Operand → PV} (h : ∀ x ∈ op.operands.toList, ρ x = ρ' x) (hs : aop P op ρ m K Kp) : aop P op ρ' m K Kp := by
  cases op <;> simp only [Op.operands] at h <;> simp only [aop] at hs ⊢
  case move x => rwa [← h x (by simp)]
  case assign x => rwa [← h x (by simp)]
  case pick c a b => rwa [← h c (by simp), ← h a (by simp), ← h b (by simp)]
  case alloc e => exact hs
  case box e x => rwa [← h x (by simp)]
  case build t parts =>
    rwa [show (parts.toList.map (fun x => (x.1, ρ' x.2))) = parts.toList.map (fun x => (x.1, ρ x.2)) from List.map_congr_left fun x hx => by rw [h x.2 (by simpa using ⟨x.1, by simpa using hx⟩)]]
  case buildSlice t len parts =>
    rwa [show (parts.toList.map (fun x => (x.1, ρ' x.2))) = parts.toList.map (fun x => (x.1, ρ x.2)) from List.map_congr_left fun x hx => by rw [h x.2 (by simpa using ⟨x.1, by simpa using hx⟩)]]
  case load t x => rwa [← h x (by simp)]
  case store t x y => rwa [← h x (by simp), ← h y (by simp)]
  case nilCheck x => rwa [← h x (by simp)]
  case binOp op t x y yt => rwa [← h x (by simp), ← h y (by simp)]
  case unOp op t x => rwa [← h x (by simp)]
  case convert s d x => rwa [← h x (by simp)]
  case makeInterface t x => rwa [← h x (by simp)]
  case makeFunc fn first caps =>
    cases fn <;> simp only at hs ⊢
    case func f =>
      rwa [show first.toList.map ρ' = first.toList.map ρ from List.map_congr_left fun x hx => (h x (by rw [Array.toList_append, List.mem_append]; exact .inl hx)).symm, show caps.toList.map ρ' = caps.toList.map ρ from List.map_congr_left fun x hx => (h x (by rw [Array.toList_append, List.mem_append]; exact .inr hx)).symm]
  case makeSlice t l c => rwa [← h l (by simp), ← h c (by simp)]
  case slice t x lo hi mx =>
    have e : ∀ o : Option Operand, (∀ x, o = some x → ρ x = ρ' x) → o.map ρ' = o.map ρ := fun o ho => by cases o with | none => rfl | some x => simp [ho x rfl]
    rwa [← h x (by simp), e lo (fun y hy => h y (by subst hy; simp)), e hi (fun y hy => h y (by subst hy; simp)), e mx (fun y hy => h y (by subst hy; simp))]
  case fieldAddr s x f => rwa [← h x (by simp)]
  case field s x f => rwa [← h x (by simp)]
  case indexAddr t x i => rwa [← h x (by simp), ← h i (by simp)]
  case index t x i => rwa [← h x (by simp), ← h i (by simp)]
  case extract x i => rwa [← h x (by simp)]
  case call c =>
    obtain ⟨callee, args, ts⟩ := c
    have ha : ∀ x ∈ args.toList, ρ x = ρ' x := fun x hx => h x (by simp only [Call.operands, Array.toList_append, List.mem_append]; exact .inr hx)
    unfold acall at hs ⊢
    simp only at hs ⊢
    have e1 : args.toList.map ρ' = args.toList.map ρ := List.map_congr_left fun x hx => (ha x hx).symm
    cases callee with
    | value f =>
      have hf : ρ f = ρ' f := h f (by simp [Call.operands])
      simp only at hs ⊢
      rw [← hf, show args.toList.map (fun x => (ρ' x).strip) = args.toList.map (fun x => (ρ x).strip) from List.map_congr_left fun x hx => by rw [ha x hx]]
      exact hs
    | invoke r n => exact hs
    | builtin b =>
      cases b <;> simp only at hs ⊢ <;> first
        | exact hs
        | (rw [e1]; exact hs)
        | skip
      · split at hs
        · rename_i x y hxy; rwa [← ha x (by rw [hxy]; simp), ← ha y (by rw [hxy]; simp)]
        · exact hs
      · split at hs
        · rename_i x hxy; rwa [← ha x (by rw [hxy]; simp)]
        · exact hs
  case panic x => rwa [← h x (by simp)]
  all_goals exact hs

/-- An operation, from whatever values its operands (and no others) stand for. -/
def OpOKo (P : Program) (o : Oper) (ρ : Operand → PV) (m : St) (K Kp : PV → St → Prop) : Prop :=
  ∀ Γ (ev : Operand → Value) w, MemSim Γ m w → (∀ x ∈ o.op.operands.toList, VRep Γ w (ρ x) (ev x)) → Up P (Then Γ w K) (Then Γ w Kp) ((execOp ev o).run P w)

theorem aop_soundO (o : Oper) (ρ : Operand → PV) (h : aop P o.op ρ m K Kp) : OpOKo P o ρ m K Kp := by
  intro Γ ev w hm hv
  classical
  have h' : aop P o.op (fun x => if x ∈ o.op.operands.toList then ρ x else .any) m K Kp := aop_congr (fun x hx => by simp only [if_pos hx]) h
  refine aop_sound o _ h' Γ ev w hm fun x => ?_
  by_cases hx : x ∈ o.op.operands.toList
  · simp only [if_pos hx]; exact hv x hx
  · simp only [if_neg hx]; trivial

theorem OpOKo.congr {o : Oper} {ρ ρ' : Operand → PV} (e : ∀ x ∈ o.op.operands.toList, ρ x = ρ' x) (h : OpOKo P o ρ m K Kp) : OpOKo P o ρ' m K Kp :=
  fun Γ ev w hm hv => h Γ ev w hm fun x hx => by rw [e x hx]; exact hv x hx

theorem Up.mono {K K' L L' : Value → World → Prop} {r : Result Next} (h : Up P K L r) (hk : ∀ v w, K v w → K' v w) (hl : ∀ v w, L v w → L' v w) : Up P K' L' r := by
  cases r with
  | ok n w' =>
    cases n <;> simp only [Up] at h ⊢
    case value v => exact hk _ _ h
    case skip => exact hk _ _ h
    case enter f args =>
      refine Calls.mono h fun e w'' he => ?_
      cases e with
      | returned v => exact hk _ _ he
      | panicked ch => obtain ⟨v, e, h⟩ := he; exact ⟨v, e, hl _ _ h⟩
      | outgrown => exact he
    case round l f tmps assign body =>
      refine RoundIn.mono h fun e w'' he => ?_
      cases e with
      | returned v => exact hk _ _ he
      | panicked ch => obtain ⟨v, e, h⟩ := he; exact ⟨v, e, hl _ _ h⟩
      | outgrown => exact he
  | halt x w' =>
    cases x <;> simp only [Up] at h ⊢
    case panic v => exact hl _ _ h
theorem OpOKo.mono {o : Oper} {ρ : Operand → PV} {K' Kp' : PV → St → Prop} (h : OpOKo P o ρ m K Kp) (hk : ∀ p m, K p m → K' p m) (hp : ∀ p m, Kp p m → Kp' p m) : OpOKo P o ρ m K' Kp' :=
  fun Γ ev w hm hv => (h Γ ev w hm hv).mono (fun _ _ ⟨p, m', Γ', h1, r⟩ => ⟨p, m', Γ', hk _ _ h1, r⟩) (fun _ _ ⟨p, m', Γ', h1, r⟩ => ⟨p, m', Γ', hp _ _ h1, r⟩)
end

/-- A later memory that holds what was there. -/
structure Ext (m m' : St) : Prop where
  nloc : m.nloc ≤ m'.nloc
  loc : ∀ n, n < m.nloc → m'.loc n = m.loc n
theorem Ext.refl (m : St) : Ext m m := ⟨Nat.le_refl _, fun _ _ => rfl⟩
theorem Ext.trans {a b c : St} (h : Ext a b) (k : Ext b c) : Ext a c := ⟨Nat.le_trans h.nloc k.nloc, fun n hn => (k.loc n (Nat.lt_of_lt_of_le hn h.nloc)).trans (h.loc n hn)⟩

/-- How an operation meets memory: not at all; it reads; it may write; it reads what was there; it makes a variable. -/
inductive Cls where
  | S | R | W | L | A
  deriving DecidableEq, Inhabited

def clsOf : Op → Cls
  | .move _ | .assign _ | .pick .. | .binOp .. | .unOp .. | .convert .. | .fieldAddr .. | .field .. | .indexAddr .. | .index .. | .extract .. | .nilCheck _ | .slice .. | .makeInterface .. | .makeFunc .. => .S
  | .call c => match c.callee with | .builtin .len | .builtin .max | .builtin .min => .S | _ => .W
  | .load .. => .R
  | _ => .W

def aWant (N : Nat) (ops : Array Oper) (σ : Nat → PV) (o : Oper) : Option Bool :=
  match o.guard with
  | none => some true
  | some (j, want) => match opDst ops j with
    | some g => if g < N then (match σ g with | .v (.bool b) => some (b == want) | .v _ => some false | _ => none) else none
    | none => none

section
variable {P : Program} {N : Nat} {ops : Array Oper} {cls : Nat → Cls} {Q : (Nat → PV) → St → Prop} {Qp : PV → St → Prop}

def DStep (P : Program) (N : Nat) (ops : Array Oper) (cls : Nat → Cls) (Qp : PV → St → Prop) (i : Nat) (K : (Nat → PV) → St → Prop) (σ : Nat → PV) (m : St) : Prop :=
  ∃ o, ops[i]? = some o ∧ dstOK N o.dst = true ∧ ((aWant N ops σ o = some false ∧ K (put σ o.dst (.v undef)) m) ∨ (aWant N ops σ o = some true ∧
    match cls i with
    | .S => ∃ p, (∀ m, OpOKo P o (opv σ) m (fun p' m' => p' = p ∧ m' = m) (fun _ _ => False)) ∧ K (put σ o.dst p) m
    | .R => ∃ p, OpOKo P o (opv σ) m (fun p' m' => p' = p ∧ m' = m) (fun _ _ => False) ∧ K (put σ o.dst p) m
    | .W => OpOKo P o (opv σ) m (fun p m' => K (put σ o.dst p) m') Qp
    | .L => ∃ p, (∀ m', Ext m m' → OpOKo P o (opv σ) m' (fun p' m'' => p' = p ∧ m'' = m') (fun _ _ => False)) ∧ K (put σ o.dst p) m
    | .A => OpOKo P o (opv σ) m (fun p m' => Ext m m' ∧ K (put σ o.dst p) m') Qp))

theorem DStep.mono {i : Nat} {K K' : (Nat → PV) → St → Prop} {σ : Nat → PV} {m : St} (hk : ∀ σ m, K σ m → K' σ m) (h : DStep P N ops cls Qp i K σ m) : DStep P N ops cls Qp i K' σ m := by
  obtain ⟨o, h1, h2, h3⟩ := h
  refine ⟨o, h1, h2, ?_⟩
  rcases h3 with ⟨h3, h4⟩ | ⟨h3, h4⟩
  · exact .inl ⟨h3, hk _ _ h4⟩
  · refine .inr ⟨h3, ?_⟩
    cases hc : cls i <;> simp only [hc] at h4 ⊢
    · obtain ⟨p, h5, h6⟩ := h4; exact ⟨p, h5, hk _ _ h6⟩
    · obtain ⟨p, h5, h6⟩ := h4; exact ⟨p, h5, hk _ _ h6⟩
    · exact h4.mono (fun _ _ h => hk _ _ h) (fun _ _ h => h)
    · obtain ⟨p, h5, h6⟩ := h4; exact ⟨p, h5, hk _ _ h6⟩
    · exact h4.mono (fun _ _ h => ⟨h.1, hk _ _ h.2⟩) (fun _ _ h => h)

def DAny (P : Program) (N : Nat) (ops : Array Oper) (cls : Nat → Cls) (Q : (Nat → PV) → St → Prop) (Qp : PV → St → Prop) : Nat → Array Bool → (Nat → PV) → St → Prop
  | 0, listed, σ, m => Region.ready .any ops listed = [] ∧ Q σ m
  | fuel + 1, listed, σ, m => (Region.ready .any ops listed = [] → Q σ m) ∧
    ∀ i ∈ Region.ready .any ops listed, DStep P N ops cls Qp i (DAny P N ops cls Q Qp fuel (listed.setIfInBounds i true)) σ m

def QQ (Q : (Nat → PV) → St → Prop) (Qp : PV → St → Prop) : APost
  | .normal, σ, m => Q σ m
  | .pan p, _, m => Qp p m
  | _, _, _ => False

theorem aWant_sound {Γ : Ctx} {σ : Nat → PV} {m : St} {a : Act} {w : World} (hs : Sim Γ N σ m a w) {o : Oper} {b : Bool} (h : aWant N ops σ o = some b) : Region.wanted o (yielded ops a.tmps) = b := by
  unfold aWant at h
  unfold Region.wanted
  split at h
  · rename_i hg; cases h; simp [hg]
  · rename_i j want hg
    simp only [hg]
    split at h
    · rename_i g hj
      split at h
      · rename_i hlt
        rw [yield_at hs hj hlt]
        have hv := hs.slots g
        split at h
        · rename_i b' hb
          rw [hb] at hv
          replace hv : a.tmps.getD g undef = .bool b' := hv
          rw [hv]; cases h
          cases b' <;> cases want <;> rfl
        · rename_i u hne hb
          rw [hb] at hv
          replace hv : a.tmps.getD g undef = u := hv
          rw [hv]; cases h
          cases u <;> first | rfl | exact (hne _ rfl).elim
        · cases h
      · cases h
    · cases h

theorem wpOp_mono2 {F : Fence} {n : Nat} {Q Q' : Exit → Act → World → Prop} {K K' : Act → World → Prop} (hq : ∀ e a w, Q e a w → Q' e a w) (hk : ∀ a w, K a w → K' a w) {i : Nat} {a : Act} {w : World} (h : wpOpIn F n P ops Q i K a w) : wpOpIn F n P ops Q' i K' a w := by
  unfold wpOpIn at h ⊢
  split
  · rename_i hn; simp only [hn] at h; exact hk _ _ h
  · rename_i o ho
    simp only [ho] at h
    split
    · rename_i hw
      simp only [hw, if_true] at h
      exact oper_wp_mono hk hq h
    · rename_i hw; simp only [hw] at h; exact ⟨h.1, hk _ _ h.2⟩
theorem wpAny_mono2 {F : Fence} {n : Nat} {Q Q' : Exit → Act → World → Prop} (hq : ∀ e a w, Q e a w → Q' e a w) {md : Region.Mode} : ∀ (fuel : Nat) (listed : Array Bool) (a : Act) (w : World), wpAnyIn F n P md ops Q fuel listed a w → wpAnyIn F n P md ops Q' fuel listed a w
  | 0, _, _, _, h => ⟨h.1, hq _ _ _ h.2⟩
  | fuel + 1, listed, a, w, h => ⟨fun h0 => hq _ _ _ (h.1 h0), fun i hi => wpOp_mono2 hq (wpAny_mono2 hq fuel _) (h.2 i hi)⟩

theorem OpOKo.wp {o : Oper} {σ : Nat → PV} {m : St} {K Kp : PV → St → Prop} {Γ : Ctx} {a : Act} {w : World} {next : Act → World → Prop} {QC : Exit → Act → World → Prop} (h : OpOKo P o (opv σ) m K Kp) (hs : Sim Γ N σ m a w) (hd : dstOK N o.dst = true)
    (hk : ∀ p m' Γ' a' w', K p m' → Sim Γ' N (put σ o.dst p) m' a' w' → Γ.le Γ' → Keeps Γ w w' → next a' w')
    (hp : ∀ p m' Γ' w' v, Kp p m' → Sim Γ' N σ m' a w' → VRep Γ' w' p v → Γ.le Γ' → Keeps Γ w w' → QC (.panic [{ v := v, recovered := false }]) a w') (r : Option Nat) : o.wpIn (FW r) 0 P a w next QC := by
  refine (h Γ a.eval w hs.mem (fun x _ => hs.opv x)).wpIn ?_ ?_
  · rintro v w' ⟨p, m', Γ', h1, h2, h3, h4, h5⟩
    exact hk p m' Γ' _ w' h1 ((hs.mono h3 h4 h5).put hd h2) h3 h4
  · rintro v w' ⟨p, m', Γ', h1, h2, h3, h4, h5⟩
    exact hp p m' Γ' w' v h1 (hs.mono h3 h4 h5) h2 h3 h4

theorem DAny.sound : ∀ (fuel : Nat) (listed : Array Bool) (σ : Nat → PV) (m : St), DAny P N ops cls Q Qp fuel listed σ m → ∀ Γ a w, Sim Γ N σ m a w → wpAnyIn (FW Γ.x.rnd) 0 P .any ops (Post Γ w N (QQ Q Qp)) fuel listed a w
  | 0, listed, σ, m, h, Γ, a, w, hs => ⟨h.1, hs.post (x := .normal) trivial h.2⟩
  | fuel + 1, listed, σ, m, h, Γ, a, w, hs => by
    refine ⟨fun h0 => hs.post (x := .normal) trivial (h.1 h0), fun i hi => ?_⟩
    obtain ⟨o, ho, hd, h3⟩ := h.2 i hi
    unfold wpOpIn
    simp only [ho]
    have hpan : ∀ p m' Γ' w' v, Qp p m' → Sim Γ' N σ m' a w' → VRep Γ' w' p v → Γ.le Γ' → Keeps Γ w w' → Post Γ w N (QQ Q Qp) (.panic [{ v := v, recovered := false }]) a w' :=
      fun p m' Γ' w' v hq hs' hv l k => ⟨.pan p, σ, m', Γ', hq, ⟨v, rfl, hv⟩, hs', l, k⟩
    rcases h3 with ⟨hw, hk⟩ | ⟨hw, hk⟩
    · rw [aWant_sound hs hw]
      simp only [Bool.false_eq_true, if_false]
      exact ⟨fun _ _ => trivial, DAny.sound fuel _ _ _ hk Γ _ w (hs.put hd rfl)⟩
    · rw [aWant_sound hs hw]
      simp only [if_true]
      cases hc : cls i <;> simp only [hc] at hk
      · obtain ⟨p, h5, h6⟩ := hk
        refine (h5 m).wp hs hd ?_ (fun p m' Γ' w' v hq => hq.elim) _
        rintro p' m' Γ' a' w' ⟨rfl, rfl⟩ hs' l k
        have := wpAny_mono2 (Post.later l k) _ _ _ _ (DAny.sound fuel _ _ _ h6 Γ' a' w' hs')
        rwa [l.x.rnd] at this
      · obtain ⟨p, h5, h6⟩ := hk
        refine h5.wp hs hd ?_ (fun p m' Γ' w' v hq => hq.elim) _
        rintro p' m' Γ' a' w' ⟨rfl, rfl⟩ hs' l k
        have := wpAny_mono2 (Post.later l k) _ _ _ _ (DAny.sound fuel _ _ _ h6 Γ' a' w' hs')
        rwa [l.x.rnd] at this
      · refine hk.wp hs hd ?_ hpan _
        intro p' m' Γ' a' w' h6 hs' l k
        have := wpAny_mono2 (Post.later l k) _ _ _ _ (DAny.sound fuel _ _ _ h6 Γ' a' w' hs')
        rwa [l.x.rnd] at this
      · obtain ⟨p, h5, h6⟩ := hk
        refine (h5 m (Ext.refl m)).wp hs hd ?_ (fun p m' Γ' w' v hq => hq.elim) _
        rintro p' m' Γ' a' w' ⟨rfl, rfl⟩ hs' l k
        have := wpAny_mono2 (Post.later l k) _ _ _ _ (DAny.sound fuel _ _ _ h6 Γ' a' w' hs')
        rwa [l.x.rnd] at this
      · refine hk.wp hs hd ?_ hpan _
        intro p' m' Γ' a' w' h6 hs' l k
        have := wpAny_mono2 (Post.later l k) _ _ _ _ (DAny.sound fuel _ _ _ h6.2 Γ' a' w' hs')
        rwa [l.x.rnd] at this

/-! an operation that may be taken first -/
theorem put_comm {σ : Nat → PV} {x y : Option Tmp} (p q : PV) (h : ∀ d, x = some d → y ≠ some d) : put (put σ x p) y q = put (put σ y q) x p := by
  cases x with
  | none => rfl
  | some d =>
    cases y with
    | none => rfl
    | some e =>
      have hne : d ≠ e := fun he => h d rfl (he ▸ rfl)
      funext i
      simp only [put, upd]
      by_cases h1 : i = e <;> by_cases h2 : i = d <;> simp_all
theorem opv_put {σ : Nat → PV} {x : Option Tmp} {p : PV} {o : Oper} (h : ∀ d, x = some d → d ∉ o.looksAt ops) : ∀ y ∈ o.op.operands.toList, opv (put σ x p) y = opv σ y := by
  intro y hy
  cases x with
  | none => rfl
  | some d =>
    cases y with
    | tmp t =>
      have : t ≠ d := by
        intro e; subst e
        refine h t rfl ?_
        unfold Oper.looksAt
        refine List.mem_append.2 (.inl ?_)
        exact List.mem_filterMap.2 ⟨_, hy, rfl⟩
      simp [opv, put, upd, this]
    | _ => rfl
theorem aWant_put {σ : Nat → PV} {x : Option Tmp} {p : PV} {o : Oper} (h : ∀ d, x = some d → d ∉ o.looksAt ops) : aWant N ops (put σ x p) o = aWant N ops σ o := by
  cases x with
  | none => rfl
  | some d =>
    unfold aWant
    split
    · rfl
    · rename_i j want hg
      split
      · rename_i g hj
        have : g ≠ d := by
          intro e; subst e
          refine h g rfl ?_
          unfold Oper.looksAt
          refine List.mem_append.2 (.inr ?_)
          simp only [hg]
          unfold opDst at hj
          rw [hj]; simp
        simp [put, upd, this]
      · rfl

/-- What taking operation i comes to: it has its value in its slot, memory as it was. -/
def Got (P : Program) (N : Nat) (ops : Array Oper) (s : Bool) (o : Oper) (p : PV) (σ : Nat → PV) (m : St) : Prop :=
  (aWant N ops σ o = some false ∧ p = .v undef) ∨ (aWant N ops σ o = some true ∧ if s then (∀ m, OpOKo P o (opv σ) m (fun p' m' => p' = p ∧ m' = m) (fun _ _ => False)) else OpOKo P o (opv σ) m (fun p' m' => p' = p ∧ m' = m) (fun _ _ => False))

theorem Got.step {i : Nat} {o : Oper} {p : PV} {σ : Nat → PV} {m : St} {K : (Nat → PV) → St → Prop} {s : Bool} (ho : ops[i]? = some o) (hd : dstOK N o.dst = true) (hc : cls i = if s then .S else .R) (h : Got P N ops s o p σ m) (hk : K (put σ o.dst p) m) :
    DStep P N ops cls Qp i K σ m := by
  refine ⟨o, ho, hd, ?_⟩
  rcases h with ⟨h1, rfl⟩ | ⟨h1, h2⟩
  · exact .inl ⟨h1, hk⟩
  · refine .inr ⟨h1, ?_⟩
    cases s
    · simp only [hc]; exact ⟨p, h2, hk⟩
    · simp only [hc]; exact ⟨p, h2, hk⟩

theorem Got.put {oi oj : Oper} {p q : PV} {σ : Nat → PV} {m : St} {s : Bool} (h : Got P N ops s oi p σ m) (ha : ∀ d, oj.dst = some d → d ∉ oi.looksAt ops) : Got P N ops s oi p (Ab.put σ oj.dst q) m := by
  unfold Got at h ⊢
  rw [aWant_put ha]
  rcases h with h | ⟨h1, h2⟩
  · exact .inl h
  · refine .inr ⟨h1, ?_⟩
    cases s
    · exact OpOKo.congr (fun x hx => (opv_put ha x hx).symm) h2
    · exact fun m => OpOKo.congr (fun x hx => (opv_put ha x hx).symm) (h2 m)

/-- May operation j come up ahead of operation i, i being of this class? -/
def goesWith (s : Bool) (c : Cls) : Bool := s || (c != .W && c != .A)
/-- The same, operation i reading what was there. -/
def goesWithL (c : Cls) : Bool := c != .W

theorem DStep.swap {j : Nat} {oi oj : Oper} {p : PV} {σ : Nat → PV} {m : St} {s : Bool} {K : (Nat → PV) → St → Prop} (hj : ops[j]? = some oj) (hap : oi.apart ops oj = true) (hw : goesWith s (cls j) = true)
    (hg : Got P N ops s oi p σ m) (h : DStep P N ops cls Qp j K (put σ oi.dst p) m) : DStep P N ops cls Qp j (fun σ' m' => Got P N ops s oi p σ' m' ∧ K (put σ' oi.dst p) m') σ m := by
  obtain ⟨h1, h2, h3⟩ := Oper.apart_spec hap
  obtain ⟨o, ho, hd, hh⟩ := h
  have : o = oj := by rw [hj] at ho; cases ho; rfl
  subst this
  refine ⟨o, hj, hd, ?_⟩
  rw [aWant_put h1] at hh
  have hm : ∀ m', (s = true ∨ m' = m) → Got P N ops s oi p σ m' := by
    intro m' hs
    rcases hs with hs | rfl
    · subst hs
      rcases hg with hg | hg
      · exact .inl hg
      · exact .inr hg
    · exact hg
  rcases hh with ⟨hh, hk⟩ | ⟨hh, hk⟩
  · exact .inl ⟨hh, hg.put h3, by rwa [put_comm _ _ h2] at hk⟩
  · refine .inr ⟨hh, ?_⟩
    cases hc : cls j <;> simp only [hc] at hk ⊢
    · obtain ⟨q, h5, h6⟩ := hk
      exact ⟨q, fun m => OpOKo.congr (opv_put h1) (h5 m), hg.put h3, by rwa [put_comm _ _ h2] at h6⟩
    · obtain ⟨q, h5, h6⟩ := hk
      exact ⟨q, OpOKo.congr (opv_put h1) h5, hg.put h3, by rwa [put_comm _ _ h2] at h6⟩
    · have hs : s = true := by simpa [goesWith, hc] using hw
      refine (OpOKo.congr (opv_put h1) hk).mono (fun q m' hq => ⟨(hm m' (.inl hs)).put h3, ?_⟩) (fun _ _ h => h)
      rwa [put_comm _ _ h2] at hq
    · obtain ⟨q, h5, h6⟩ := hk
      exact ⟨q, fun m' he => OpOKo.congr (opv_put h1) (h5 m' he), hg.put h3, by rwa [put_comm _ _ h2] at h6⟩
    · have hs : s = true := by simpa [goesWith, hc] using hw
      refine (OpOKo.congr (opv_put h1) hk).mono (fun q m' hq => ⟨hq.1, (hm m' (.inl hs)).put h3, ?_⟩) (fun _ _ h => h)
      have hq2 := hq.2
      rwa [put_comm _ _ h2] at hq2

/-- **An operation of class S or R that may come up now may be taken first.** -/
theorem DAny.first {i : Nat} {oi : Oper} {p : PV} {s : Bool} (hi : ops[i]? = some oi) (hdi : dstOK N oi.dst = true) (hci : cls i = if s then .S else .R) :
    ∀ (fuel : Nat) (listed : Array Bool) (σ : Nat → PV) (m : St),
      (∀ j oj, ops[j]? = some oj → j ≠ i → listed.getD j true = false → (∀ e ∈ oj.after, Region.binds .any e = true → e.on ≠ i) → oi.apart ops oj = true ∧ goesWith s (cls j) = true) →
      i ∈ Region.ready .any ops listed → Got P N ops s oi p σ m →
      DAny P N ops cls Q Qp fuel (listed.setIfInBounds i true) (put σ oi.dst p) m → DAny P N ops cls Q Qp (fuel + 1) listed σ m := by
  intro fuel
  induction fuel with
  | zero =>
    intro listed σ m _ hr hy H
    refine ⟨fun h => (by rw [h] at hr; cases hr), fun j hj => ?_⟩
    by_cases hji : j = i
    · subst hji; exact hy.step hi hdi hci H
    · have := ready_mono hj hji
      rw [H.1] at this
      cases this
  | succ fuel ih =>
    intro listed σ m hfree hr hy H
    refine ⟨fun h => (by rw [h] at hr; cases hr), fun j hj => ?_⟩
    by_cases hji : j = i
    · subst hji; exact hy.step hi hdi hci H
    · have h1 := H.2 j (ready_mono hj hji)
      obtain ⟨hjun, oj, hoj, hall⟩ := mem_ready.1 hj
      have hnot : ∀ e ∈ oj.after, Region.binds .any e = true → e.on ≠ i := fun e he hb heq => by
        have h1 := hall e he hb
        have h0 := (mem_ready.1 hr).1
        rw [heq] at h1
        rcases Nat.lt_or_ge i listed.size with h' | h'
        · simp [h'] at h0 h1; rw [h0] at h1; cases h1
        · simp [Array.getElem?_eq_none h'] at h1
      obtain ⟨ha, hg⟩ := hfree j oj hoj hji hjun hnot
      have h2 := DStep.swap hoj ha hg hy h1
      have hfree' : ∀ k ok, ops[k]? = some ok → k ≠ i → (listed.setIfInBounds j true).getD k true = false →
          (∀ e ∈ ok.after, Region.binds .any e = true → e.on ≠ i) → oi.apart ops ok = true ∧ goesWith s (cls k) = true := fun k ok hk hki hun hno => by
        refine hfree k ok hk hki ?_ hno
        by_cases hjk : j = k
        · subst hjk; exact hjun
        · rw [getD_set_ne true hjk] at hun; exact hun
      refine DStep.mono (fun σ' m' h3 => ih (listed.setIfInBounds j true) σ' m' hfree' (ready_mono hr (Ne.symm hji)) h3.1 ?_) h2
      rw [Array.setIfInBounds_comm _ _ hji]
      exact h3.2

/-- What taking operation i comes to, that reads what was there. -/
def GotL (P : Program) (N : Nat) (ops : Array Oper) (o : Oper) (p : PV) (σ : Nat → PV) (m : St) : Prop :=
  (aWant N ops σ o = some false ∧ p = .v undef) ∨ (aWant N ops σ o = some true ∧ ∀ m', Ext m m' → OpOKo P o (opv σ) m' (fun p' m'' => p' = p ∧ m'' = m') (fun _ _ => False))
theorem GotL.step {o : Oper} {p : PV} {σ : Nat → PV} {m : St} {i : Nat} {K : (Nat → PV) → St → Prop} (ho : ops[i]? = some o) (hd : dstOK N o.dst = true) (hc : cls i = .L) (h : GotL P N ops o p σ m) (hk : K (put σ o.dst p) m) :
    DStep P N ops cls Qp i K σ m := by
  refine ⟨o, ho, hd, ?_⟩
  rcases h with ⟨h1, rfl⟩ | ⟨h1, h2⟩
  · exact .inl ⟨h1, hk⟩
  · refine .inr ⟨h1, ?_⟩
    simp only [hc]; exact ⟨p, h2, hk⟩
theorem GotL.put {oi oj : Oper} {p q : PV} {σ : Nat → PV} {m : St} (h : GotL P N ops oi p σ m) (ha : ∀ d, oj.dst = some d → d ∉ oi.looksAt ops) : GotL P N ops oi p (Ab.put σ oj.dst q) m := by
  unfold GotL at h ⊢
  rw [aWant_put ha]
  rcases h with h | ⟨h1, h2⟩
  · exact .inl h
  · exact .inr ⟨h1, fun m' he => OpOKo.congr (fun x hx => (opv_put ha x hx).symm) (h2 m' he)⟩
theorem DStep.swapL {j : Nat} {oi oj : Oper} {p : PV} {σ : Nat → PV} {m : St} {K : (Nat → PV) → St → Prop} (hj : ops[j]? = some oj) (hap : oi.apart ops oj = true) (hw : goesWithL (cls j) = true)
    (hg : GotL P N ops oi p σ m) (h : DStep P N ops cls Qp j K (put σ oi.dst p) m) : DStep P N ops cls Qp j (fun σ' m' => GotL P N ops oi p σ' m' ∧ K (put σ' oi.dst p) m') σ m := by
  obtain ⟨h1, h2, h3⟩ := Oper.apart_spec hap
  obtain ⟨o, ho, hd, hh⟩ := h
  have : o = oj := by rw [hj] at ho; cases ho; rfl
  subst this
  refine ⟨o, hj, hd, ?_⟩
  rw [aWant_put h1] at hh
  have hm : ∀ m', Ext m m' → GotL P N ops oi p σ m' := by
    intro m' he
    rcases hg with hg | ⟨h4, h5⟩
    · exact .inl hg
    · exact .inr ⟨h4, fun m'' he' => h5 m'' (he.trans he')⟩
  rcases hh with ⟨hh, hk⟩ | ⟨hh, hk⟩
  · exact .inl ⟨hh, hg.put h3, by rwa [put_comm _ _ h2] at hk⟩
  · refine .inr ⟨hh, ?_⟩
    cases hc : cls j <;> simp only [hc] at hk ⊢
    · obtain ⟨q, h5, h6⟩ := hk
      exact ⟨q, fun m => OpOKo.congr (opv_put h1) (h5 m), hg.put h3, by rwa [put_comm _ _ h2] at h6⟩
    · obtain ⟨q, h5, h6⟩ := hk
      exact ⟨q, OpOKo.congr (opv_put h1) h5, hg.put h3, by rwa [put_comm _ _ h2] at h6⟩
    · simp [goesWithL, hc] at hw
    · obtain ⟨q, h5, h6⟩ := hk
      exact ⟨q, fun m' he => OpOKo.congr (opv_put h1) (h5 m' he), hg.put h3, by rwa [put_comm _ _ h2] at h6⟩
    · refine (OpOKo.congr (opv_put h1) hk).mono (fun q m' hq => ⟨hq.1, (hm m' hq.1).put h3, ?_⟩) (fun _ _ h => h)
      have hq2 := hq.2
      rwa [put_comm _ _ h2] at hq2
/-- An operation of class L that may come up now may be taken first. -/
theorem DAny.firstL {i : Nat} {oi : Oper} {p : PV} (hi : ops[i]? = some oi) (hdi : dstOK N oi.dst = true) (hci : cls i = .L) :
    ∀ (fuel : Nat) (listed : Array Bool) (σ : Nat → PV) (m : St),
      (∀ j oj, ops[j]? = some oj → j ≠ i → listed.getD j true = false → (∀ e ∈ oj.after, Region.binds .any e = true → e.on ≠ i) → oi.apart ops oj = true ∧ goesWithL (cls j) = true) →
      i ∈ Region.ready .any ops listed → GotL P N ops oi p σ m →
      DAny P N ops cls Q Qp fuel (listed.setIfInBounds i true) (put σ oi.dst p) m → DAny P N ops cls Q Qp (fuel + 1) listed σ m := by
  intro fuel
  induction fuel with
  | zero =>
    intro listed σ m _ hr hy H
    refine ⟨fun h => (by rw [h] at hr; cases hr), fun j hj => ?_⟩
    by_cases hji : j = i
    · subst hji; exact hy.step hi hdi hci H
    · have := ready_mono hj hji
      rw [H.1] at this
      cases this
  | succ fuel ih =>
    intro listed σ m hfree hr hy H
    refine ⟨fun h => (by rw [h] at hr; cases hr), fun j hj => ?_⟩
    by_cases hji : j = i
    · subst hji; exact hy.step hi hdi hci H
    · have h1 := H.2 j (ready_mono hj hji)
      obtain ⟨hjun, oj, hoj, hall⟩ := mem_ready.1 hj
      have hnot : ∀ e ∈ oj.after, Region.binds .any e = true → e.on ≠ i := fun e he hb heq => by
        have h1 := hall e he hb
        have h0 := (mem_ready.1 hr).1
        rw [heq] at h1
        rcases Nat.lt_or_ge i listed.size with h' | h'
        · simp [h'] at h0 h1; rw [h0] at h1; cases h1
        · simp [Array.getElem?_eq_none h'] at h1
      obtain ⟨ha, hg⟩ := hfree j oj hoj hji hjun hnot
      have h2 := DStep.swapL hoj ha hg hy h1
      have hfree' : ∀ k ok, ops[k]? = some ok → k ≠ i → (listed.setIfInBounds j true).getD k true = false →
          (∀ e ∈ ok.after, Region.binds .any e = true → e.on ≠ i) → oi.apart ops ok = true ∧ goesWithL (cls k) = true := fun k ok hk hki hun hno => by
        refine hfree k ok hk hki ?_ hno
        by_cases hjk : j = k
        · subst hjk; exact hjun
        · rw [getD_set_ne true hjk] at hun; exact hun
      refine DStep.mono (fun σ' m' h3 => ih (listed.setIfInBounds j true) σ' m' hfree' (ready_mono hr (Ne.symm hji)) h3.1 ?_) h2
      rw [Array.setIfInBounds_comm _ _ hji]
      exact h3.2
end
end Go.Ab
/- The abstract layer, 13: the rules for regions whose order is open. Over any program. -/
namespace Go.Ab
open Go.RowKit

/-- May operation i be taken first? -/
def canTake (s : Bool) (cls : List Cls) (ops : Array Oper) (listed : Array Bool) (i : Nat) : Bool :=
  (Region.ready .any ops listed).contains i && (cls.getD i .W == if s then .S else .R) && (List.range ops.size).all fun j =>
    j == i || listed.getD j true || (match ops[i]?, ops[j]? with | some oi, some oj => (oj.after.any fun e => Region.binds .any e && e.on == i) || (oi.apart ops oj && goesWith s (cls.getD j .W)) | _, _ => false)

/-- The same for an operation that reads what was there. -/
def canTakeL (cls : List Cls) (ops : Array Oper) (listed : Array Bool) (i : Nat) : Bool :=
  (Region.ready .any ops listed).contains i && (cls.getD i .W == .L) && (List.range ops.size).all fun j =>
    j == i || listed.getD j true || (match ops[i]?, ops[j]? with | some oi, some oj => (oj.after.any fun e => Region.binds .any e && e.on == i) || (oi.apart ops oj && goesWithL (cls.getD j .W)) | _, _ => false)

def isReady (ops : Array Oper) (listed : Array Bool) (l : List Nat) : Bool := Region.ready .any ops listed == l

section
variable {P : Program} {N : Nat} {l : List Oper} {cls : List Cls} {Q : APost} {σ : Nat → PV} {m : St} {listed : Array Bool} {fuel : Nat}

abbrev QP (Q : APost) : PV → St → Prop := fun p m => ∀ σ, Q (.pan p) σ m
def DA (P : Program) (N : Nat) (l : List Oper) (cls : List Cls) (Q : APost) (fuel : Nat) (listed : Array Bool) (σ : Nat → PV) (m : St) : Prop :=
  DAny P N l.toArray (fun i => cls.getD i .W) (fun σ m => Q .normal σ m) (QP Q) fuel listed σ m

theorem AW.draw (cls : List Cls) {id : Nat} (hmix : P.follows .mixedOrders = true) (h : DA P N l cls Q l.length (Array.replicate l.length false) σ m) : AW P N (.region id l.toArray true) Q σ m := by
  intro Γ a w hs
  obtain ⟨h1, h2⟩ := hs.mem.drew
  have hs' : Sim Γ N σ m a w.drew := hs.mono (Ctx.le.refl _) h2 h1
  have h3 := DAny.sound _ _ _ _ h Γ a w.drew hs'
  have h4 : wpAnyIn (FW Γ.x.rnd) 0 P .any l.toArray (Post Γ w.drew N (QQ (fun σ m => Q .normal σ m) (QP Q))) l.toArray.size (Array.replicate l.toArray.size false) a { w with drawn := w.drawn + 1 } := by simpa using h3
  refine wpIn_region_any hmix (wpAny_mono2 (fun e a' w' hp => ?_) _ _ _ _ h4)
  obtain ⟨x, σ', m', Γ', q1, q2, q3, q4, q5⟩ := Post.later (Ctx.le.refl Γ) h2 e a' w' hp
  cases x <;> simp only [QQ] at q1
  · exact ⟨.normal, σ', m', Γ', q1, q2, q3, q4, q5⟩
  · exact ⟨.pan _, σ', m', Γ', q1 _, q2, q3, q4, q5⟩

theorem canTake_spec {s : Bool} {i : Nat} {oi : Oper} (hi : l[i]? = some oi) (h : canTake s cls l.toArray listed i = true) :
    (∀ j oj, l.toArray[j]? = some oj → j ≠ i → listed.getD j true = false → (∀ e ∈ oj.after, Region.binds .any e = true → e.on ≠ i) → oi.apart l.toArray oj = true ∧ goesWith s (cls.getD j .W) = true) ∧
      i ∈ Region.ready .any l.toArray listed ∧ cls.getD i .W = if s then .S else .R := by
  simp only [canTake, Bool.and_eq_true] at h
  obtain ⟨⟨h1, h2⟩, h3⟩ := h
  refine ⟨fun j oj hj hji hun hno => ?_, by simpa using h1, by simpa using h2⟩
  have hlt : j < l.length := by
    have := (Array.getElem?_eq_some_iff.1 hj).1
    simpa using this
  have := List.all_eq_true.1 h3 j (by simpa using hlt)
  simp only [hun, Bool.or_false, Bool.or_eq_true, beq_iff_eq, hji, false_or] at this
  have hi' : l.toArray[i]? = some oi := by simpa using hi
  rw [hi', hj] at this
  simp only [Bool.or_eq_true, Bool.and_eq_true] at this
  rcases this with h4 | h4
  · rw [Array.any_eq_true'] at h4
    obtain ⟨e, he, h5⟩ := h4
    simp only [Bool.and_eq_true, beq_iff_eq] at h5
    exact absurd h5.2 (hno e he h5.1)
  · exact h4

theorem DA.take {s : Bool} {p : PV} {oi : Oper} (i : Nat) (hi : l[i]? = some oi) (hd : dstOK N oi.dst = true) (hc : canTake s cls l.toArray listed i = true) (hg : Got P N l.toArray s oi p σ m)
    (h : DA P N l cls Q fuel (listed.setIfInBounds i true) (put σ oi.dst p) m) : DA P N l cls Q (fuel + 1) listed σ m := by
  obtain ⟨h1, h2, h3⟩ := canTake_spec hi hc
  exact DAny.first (s := s) (by simpa using hi) hd h3 fuel listed σ m h1 h2 hg h

theorem canTakeL_spec {i : Nat} {oi : Oper} (hi : l[i]? = some oi) (h : canTakeL cls l.toArray listed i = true) :
    (∀ j oj, l.toArray[j]? = some oj → j ≠ i → listed.getD j true = false → (∀ e ∈ oj.after, Region.binds .any e = true → e.on ≠ i) → oi.apart l.toArray oj = true ∧ goesWithL (cls.getD j .W) = true) ∧
      i ∈ Region.ready .any l.toArray listed ∧ cls.getD i .W = .L := by
  simp only [canTakeL, Bool.and_eq_true] at h
  obtain ⟨⟨h1, h2⟩, h3⟩ := h
  refine ⟨fun j oj hj hji hun hno => ?_, by simpa using h1, by simpa using h2⟩
  have hlt : j < l.length := by
    have := (Array.getElem?_eq_some_iff.1 hj).1
    simpa using this
  have := List.all_eq_true.1 h3 j (by simpa using hlt)
  simp only [hun, Bool.or_false, Bool.or_eq_true, beq_iff_eq, hji, false_or] at this
  have hi' : l.toArray[i]? = some oi := by simpa using hi
  rw [hi', hj] at this
  simp only [Bool.or_eq_true, Bool.and_eq_true] at this
  rcases this with h4 | h4
  · rw [Array.any_eq_true'] at h4
    obtain ⟨e, he, h5⟩ := h4
    simp only [Bool.and_eq_true, beq_iff_eq] at h5
    exact absurd h5.2 (hno e he h5.1)
  · exact h4
theorem DA.takeL {p : PV} {oi : Oper} (i : Nat) (hi : l[i]? = some oi) (hd : dstOK N oi.dst = true) (hc : canTakeL cls l.toArray listed i = true) (hg : GotL P N l.toArray oi p σ m)
    (h : DA P N l cls Q fuel (listed.setIfInBounds i true) (put σ oi.dst p) m) : DA P N l cls Q (fuel + 1) listed σ m := by
  obtain ⟨h1, h2, h3⟩ := canTakeL_spec hi hc
  exact DAny.firstL (by simpa using hi) hd h3 fuel listed σ m h1 h2 hg h
/-- An operation that stands alone, whatever its class. -/
theorem DA.one {i : Nat} (hc : Region.ready .any l.toArray listed = [i]) (h1 : DStep P N l.toArray (fun i => cls.getD i .W) (QP Q) i (DA P N l cls Q fuel (listed.setIfInBounds i true)) σ m) : DA P N l cls Q (fuel + 1) listed σ m := by
  refine ⟨(fun h0 => by rw [hc] at h0; cases h0), fun k hk => ?_⟩
  rw [hc] at hk
  have : k = i := by simpa using hk
  subst this
  exact h1

/-- An operation that looks at its slots alone. -/
theorem DA.S {p : PV} {d : Tmp} {op : Op} {ty : TypeId} {pos : String} {after : Array Edge} (i : Nat) (hi : l[i]? = some ⟨some d, op, ty, pos, after, none⟩) (hc : canTake true cls l.toArray listed i = true) (hd : d < N)
    (h1 : ∀ (m : St) (K : PV → St → Prop), K p m → aop P op (opv σ) m K (fun _ _ => False)) (h : DA P N l cls Q fuel (listed.setIfInBounds i true) (upd σ d p) m) : DA P N l cls Q (fuel + 1) listed σ m :=
  DA.take i hi (by simpa [dstOK] using hd) hc (.inr ⟨rfl, fun m => aop_soundO _ _ (h1 m _ ⟨rfl, rfl⟩)⟩) h
/-- An operation that leaves memory as it is. -/
theorem DA.R {p : PV} {d : Tmp} {op : Op} {ty : TypeId} {pos : String} {after : Array Edge} (i : Nat) (hi : l[i]? = some ⟨some d, op, ty, pos, after, none⟩) (hc : canTake false cls l.toArray listed i = true) (hd : d < N)
    (h1 : ∀ (K : PV → St → Prop), K p m → aop P op (opv σ) m K (fun _ _ => False)) (h : DA P N l cls Q fuel (listed.setIfInBounds i true) (upd σ d p) m) : DA P N l cls Q (fuel + 1) listed σ m :=
  DA.take (s := false) i hi (by simpa [dstOK] using hd) hc (.inr ⟨rfl, aop_soundO _ _ (h1 _ ⟨rfl, rfl⟩)⟩) h

/-- A slot's truth, learnt. -/
theorem DA.learn {d : Nat} {b : Bool} (hd : σ d = .v (.bool b)) (h1 : b = true → DA P N l cls Q fuel listed (upd σ d (.v (.bool true))) m) (h2 : b = false → DA P N l cls Q fuel listed (upd σ d (.v (.bool false))) m) :
    DA P N l cls Q fuel listed σ m := by
  have e : upd σ d (.v (.bool b)) = σ := by
    funext i
    by_cases h : i = d
    · subst h; rw [upd_same, hd]
    · rw [upd_ne _ _ _ _ h]
  cases b with
  | true => have := h1 rfl; rwa [e] at this
  | false => have := h2 rfl; rwa [e] at this

theorem aWant_of {o : Oper} {j g : Nat} {want b : Bool} (hg : o.guard = some (j, want)) (hj : opDst l.toArray j = some g) (hlt : g < N) (hb : σ g = .v (.bool b)) : aWant N l.toArray σ o = some (b == want) := by
  simp [aWant, hg, hj, hlt, hb]
theorem aWant_undef {o : Oper} {j g : Nat} {want : Bool} (hg : o.guard = some (j, want)) (hj : opDst l.toArray j = some g) (hlt : g < N) (hb : σ g = .v undef) : aWant N l.toArray σ o = some false := by
  simp [aWant, hg, hj, hlt, hb, undef]

/-- Guarded operations, their guard's slot being known. -/
theorem DA.SG {p : PV} {d g j : Nat} {want : Bool} {op : Op} {ty : TypeId} {pos : String} {after : Array Edge} (i : Nat) (hi : l[i]? = some ⟨some d, op, ty, pos, after, some (j, want)⟩) (hc : canTake true cls l.toArray listed i = true) (hd : d < N)
    (hj : opDst l.toArray j = some g) (hlt : g < N) (hb : σ g = .v (.bool want)) (h1 : ∀ (m : St) (K : PV → St → Prop), K p m → aop P op (opv σ) m K (fun _ _ => False)) (h : DA P N l cls Q fuel (listed.setIfInBounds i true) (upd σ d p) m) : DA P N l cls Q (fuel + 1) listed σ m :=
  DA.take i hi (by simpa [dstOK] using hd) hc (.inr ⟨by rw [aWant_of rfl hj hlt hb]; simp, fun m => aop_soundO _ _ (h1 m _ ⟨rfl, rfl⟩)⟩) h
theorem DA.RG {p : PV} {d g j : Nat} {want : Bool} {op : Op} {ty : TypeId} {pos : String} {after : Array Edge} (i : Nat) (hi : l[i]? = some ⟨some d, op, ty, pos, after, some (j, want)⟩) (hc : canTake false cls l.toArray listed i = true) (hd : d < N)
    (hj : opDst l.toArray j = some g) (hlt : g < N) (hb : σ g = .v (.bool want)) (h1 : ∀ (K : PV → St → Prop), K p m → aop P op (opv σ) m K (fun _ _ => False)) (h : DA P N l cls Q fuel (listed.setIfInBounds i true) (upd σ d p) m) : DA P N l cls Q (fuel + 1) listed σ m :=
  DA.take (s := false) i hi (by simpa [dstOK] using hd) hc (.inr ⟨by rw [aWant_of rfl hj hlt hb]; simp, aop_soundO _ _ (h1 _ ⟨rfl, rfl⟩)⟩) h
/-- A guarded operation that is passed over. -/
theorem DA.X {d g j : Nat} {want s : Bool} {op : Op} {ty : TypeId} {pos : String} {after : Array Edge} (i : Nat) (hi : l[i]? = some ⟨some d, op, ty, pos, after, some (j, want)⟩) (hc : canTake s cls l.toArray listed i = true) (hd : d < N)
    (hj : opDst l.toArray j = some g) (hlt : g < N) (hb : σ g = .v (.bool !want) ∨ σ g = .v undef) (h : DA P N l cls Q fuel (listed.setIfInBounds i true) (upd σ d (.v undef)) m) : DA P N l cls Q (fuel + 1) listed σ m :=
  DA.take (s := s) i hi (by simpa [dstOK] using hd) hc (.inl ⟨hb.elim (fun hb => (aWant_of rfl hj hlt hb).trans (by cases want <;> rfl)) (fun hb => aWant_undef rfl hj hlt hb), rfl⟩) h

/-- An operation that stands alone. -/
theorem DA.W {oi : Oper} (i : Nat) (hi : l[i]? = some oi) (hc : isReady l.toArray listed [i] = true) (hw : cls.getD i .W = .W) (hg : oi.guard = none) (hd : dstOK N oi.dst = true)
    (h : ∀ K Kp : PV → St → Prop, (∀ p m', DA P N l cls Q fuel (listed.setIfInBounds i true) (put σ oi.dst p) m' → K p m') → (∀ p m', (∀ σ, Q (.pan p) σ m') → Kp p m') → aop P oi.op (opv σ) m K Kp) : DA P N l cls Q (fuel + 1) listed σ m := by
  have hr : Region.ready .any l.toArray listed = [i] := by simpa [isReady] using hc
  refine ⟨(fun h0 => by rw [hr] at h0; cases h0), fun k hk => ?_⟩
  rw [hr] at hk
  have : k = i := by simpa using hk
  subst this
  refine ⟨oi, by simpa using hi, hd, .inr ⟨by simp [aWant, hg], ?_⟩⟩
  simp only [hw]
  exact aop_soundO _ _ (h _ _ (fun _ _ h => h) (fun _ _ h => h))
/-- Two operations that may both come up. -/
theorem DA.two {i j : Nat} (hc : isReady l.toArray listed [i, j] = true) (h1 : DStep P N l.toArray (fun i => cls.getD i .W) (QP Q) i (DA P N l cls Q fuel (listed.setIfInBounds i true)) σ m)
    (h2 : DStep P N l.toArray (fun i => cls.getD i .W) (QP Q) j (DA P N l cls Q fuel (listed.setIfInBounds j true)) σ m) : DA P N l cls Q (fuel + 1) listed σ m := by
  have hr : Region.ready .any l.toArray listed = [i, j] := by simpa [isReady] using hc
  refine ⟨(fun h0 => by rw [hr] at h0; cases h0), fun k hk => ?_⟩
  rw [hr] at hk
  simp at hk
  rcases hk with rfl | rfl
  · exact h1
  · exact h2
theorem DStep.W {oi : Oper} {i : Nat} {K : (Nat → PV) → St → Prop} {Qp : PV → St → Prop} (hi : l[i]? = some oi) (hw : cls.getD i .W = .W) (hg : oi.guard = none) (hd : dstOK N oi.dst = true)
    (h : ∀ K' Kp : PV → St → Prop, (∀ p m', K (put σ oi.dst p) m' → K' p m') → (∀ p m', Qp p m' → Kp p m') → aop P oi.op (opv σ) m K' Kp) : DStep P N l.toArray (fun i => cls.getD i .W) Qp i K σ m := by
  refine ⟨oi, by simpa using hi, hd, .inr ⟨by simp [aWant, hg], ?_⟩⟩
  simp only [hw]
  exact aop_soundO _ _ (h _ _ (fun _ _ h => h) (fun _ _ h => h))

theorem DA.done (hc : isReady l.toArray listed [] = true) (h : Q .normal σ m) : DA P N l cls Q 0 listed σ m := ⟨by simpa [isReady] using hc, h⟩
end
end Go.Ab
/- The abstract layer, 14: ranges over functions. Over any program. -/
namespace Go.Ab
open Go.RowKit

def St.newLp (m : St) (L : LoopA) : St := { m with nloc := m.nloc + 1, loc := upd m.loc m.nloc none, lp := upd m.lp m.nloc (some L), it := upd m.it m.nloc none }
def St.setLp (m : St) (n : Nat) (L : LoopA) : St := { m with lp := upd m.lp n (some L) }
def St.dropLp (m : St) (n : Nat) : St := { m with lp := upd m.lp n none }
@[simp] theorem newLp_nloc (m : St) (L : LoopA) : (m.newLp L).nloc = m.nloc + 1 := rfl
@[simp] theorem newLp_ntok (m : St) (L : LoopA) : (m.newLp L).ntok = m.ntok := rfl
@[simp] theorem newLp_top (m : St) (L : LoopA) : (m.newLp L).top = m.top := rfl
@[simp] theorem newLp_wd (m : St) (L : LoopA) : (m.newLp L).wd = m.wd := rfl
@[simp] theorem newLp_loc (m : St) (L : LoopA) (i : Nat) : (m.newLp L).loc i = if i = m.nloc then none else m.loc i := rfl
@[simp] theorem newLp_lp (m : St) (L : LoopA) (i : Nat) : (m.newLp L).lp i = if i = m.nloc then some L else m.lp i := rfl
@[simp] theorem setLp_nloc (m : St) (n : Nat) (L : LoopA) : (m.setLp n L).nloc = m.nloc := rfl
@[simp] theorem setLp_ntok (m : St) (n : Nat) (L : LoopA) : (m.setLp n L).ntok = m.ntok := rfl
@[simp] theorem setLp_top (m : St) (n : Nat) (L : LoopA) : (m.setLp n L).top = m.top := rfl
@[simp] theorem setLp_wd (m : St) (n : Nat) (L : LoopA) : (m.setLp n L).wd = m.wd := rfl
@[simp] theorem setLp_loc (m : St) (n : Nat) (L : LoopA) : (m.setLp n L).loc = m.loc := rfl
@[simp] theorem setLp_lp (m : St) (n : Nat) (L : LoopA) (i : Nat) : (m.setLp n L).lp i = if i = n then some L else m.lp i := rfl
@[simp] theorem dropLp_nloc (m : St) (n : Nat) : (m.dropLp n).nloc = m.nloc := rfl
@[simp] theorem dropLp_ntok (m : St) (n : Nat) : (m.dropLp n).ntok = m.ntok := rfl
@[simp] theorem dropLp_top (m : St) (n : Nat) : (m.dropLp n).top = m.top := rfl
@[simp] theorem dropLp_wd (m : St) (n : Nat) : (m.dropLp n).wd = m.wd := rfl
@[simp] theorem dropLp_loc (m : St) (n : Nat) : (m.dropLp n).loc = m.loc := rfl
@[simp] theorem dropLp_lp (m : St) (n : Nat) (i : Nat) : (m.dropLp n).lp i = if i = n then none else m.lp i := rfl

section
variable {P : Program} {Γ Γ' : Ctx} {m m' : St} {w w' : World}

def LoopA.obj (L : LoopA) (tmps : Array Value) (D : Nat) : Obj := .loop { state := L.st, pending := L.pend, fn := L.fn, tmps := tmps, params := L.params.toArray, assign := L.assign, body := L.body, defers := D }

/-- A range's record, laid. -/
theorem MemSim.newLp (h : MemSim Γ m w) {L : LoopA} {tmps : Array Value} {D : Nat} (hs : tmps.size = L.N) (hr : ∀ t, VRep Γ w (L.σ t) (tmps.getD t undef)) :
    MemSim (Γ.newLoc w.heap.size) (m.newLp L) (w.alloc (L.obj tmps D)) ∧ Keeps Γ w (w.alloc (L.obj tmps D)) := by
  obtain ⟨h', hk⟩ := h.alloc_any (L.obj tmps D)
  have l := Ctx.le_newLoc Γ w.heap.size
  have old : ∀ n, n < m.nloc → (Γ.newLoc w.heap.size).loc n = Γ.loc n := fun n hn => l.loc n (by rw [h.nloc]; exact hn)
  have hnew : (Γ.newLoc w.heap.size).loc m.nloc = w.heap.size := by rw [← h.nloc]; exact upd_same _ _ _
  have hl : ∀ n cs, n < m.nloc + 1 → (m.newLp L).loc n = some cs → n < m.nloc ∧ m.loc n = some cs := by
    intro n cs hn hc
    rw [newLp_loc] at hc
    split at hc
    · cases hc
    · exact ⟨by omega, hc⟩
  refine ⟨⟨by show Γ.nloc + 1 = m.nloc + 1; rw [h.nloc], h.ntok, h.top, fun n cs hn hc => ?_, fun n cs hn hc => ?_, fun n n' cs cs' hn hn' hc hc' hq => ?_, h'.immlt, h'.base, h'.toks, h.tapart, h.tinj, fun k n cs hk hd hn hc => ?_, (fun k ds hk' hd hq => by obtain ⟨h0, hl, c, h1, h2, h3⟩ := h'.arrs k ds hk' hd hq; exact ⟨h0, hl, c, h1, LRep.mono l (Keeps.refl _ _) _ _ h2, h3⟩), ?_, ?_, h'.xs.mono rfl rfl (fun _ _ q _ => q)⟩, hk⟩
  · obtain ⟨a, b⟩ := hl n cs hn hc
    obtain ⟨c, h1, h2, h3⟩ := h'.locs n cs a b
    exact ⟨c, by rw [old n a]; exact h1, LRep.mono l (Keeps.refl _ _) _ _ h2, h3⟩
  · obtain ⟨a, b⟩ := hl n cs hn hc
    rw [old n a]; exact h.apart n cs a b
  · obtain ⟨a, b⟩ := hl n cs hn hc
    obtain ⟨a', b'⟩ := hl n' cs' hn' hc'
    rw [old n a, old n' a'] at hq
    exact h.inj n n' cs cs' a a' b b' hq
  · obtain ⟨a, b⟩ := hl n cs hn hc
    rw [old n a]; exact h.tloc k n cs hk hd a b
  · have key : ∀ n L', n < m.nloc + 1 → (m.newLp L).lp n = some L' → (n = m.nloc ∧ L' = L) ∨ (n < m.nloc ∧ m.lp n = some L') := by
      intro n L' hn hc
      rw [newLp_lp] at hc
      split at hc
      · rename_i e; cases hc; exact .inl ⟨e, rfl⟩
      · exact .inr ⟨by omega, hc⟩
    refine ⟨fun n L' hn hc => ?_, fun n n' L1 L2 hn hn' hc hc' hq => ?_⟩
    · rcases key n L' hn hc with ⟨rfl, rfl⟩ | ⟨a, b⟩
      · rw [hnew]
        exact ⟨h.base, tmps, D, World.alloc_heap_new _ _, hs, fun t => VRep.mono l hk _ _ (hr t)⟩
      · obtain ⟨h1, t1, D1, h2, h3, h4⟩ := h'.lps.at_ n L' a b
        rw [old n a]
        exact ⟨h1, t1, D1, h2, h3, fun t => VRep.mono l (Keeps.refl _ _) _ _ (h4 t)⟩
    · rcases key n L1 hn hc with ⟨e1, _⟩ | ⟨a, b⟩ <;> rcases key n' L2 hn' hc' with ⟨e2, _⟩ | ⟨a', b'⟩
      · rw [e1, e2]
      · subst e1
        rw [hnew, old n' a'] at hq
        have := h.lps.lt a' b'
        omega
      · subst e2
        rw [hnew, old n a] at hq
        have := h.lps.lt a b
        omega
      · rw [old n a, old n' a'] at hq
        exact h.lps.inj n n' L1 L2 a a' b b' hq
  · refine h.its.mono l h.nloc (fun n x a b => ?_) (heap_keep_alloc w _)
    replace b : upd m.it m.nloc none n = some x := b
    replace a : n < m.nloc + 1 := a
    by_cases e : n = m.nloc
    · subst e; rw [upd_same] at b; cases b
    · rw [upd_ne _ _ _ _ e] at b; exact ⟨by omega, b⟩

/-- A range forgotten. -/
theorem MemSim.dropLp (h : MemSim Γ m w) (n : Nat) : MemSim Γ (m.dropLp n) w := by
  have key : ∀ i L, (m.dropLp n).lp i = some L → m.lp i = some L := by
    intro i L hc; rw [dropLp_lp] at hc; split at hc
    · cases hc
    · exact hc
  exact { h with lps := ⟨fun i L hn hL => h.lps.at_ i L hn (key i L hL), fun i j L L' a b c d => h.lps.inj i j L L' a b (key _ _ c) (key _ _ d)⟩, its := ⟨h.its.at_, h.its.inj⟩ }

/-- A range's record, written: its state. -/
theorem MemSim.setLp (h : MemSim Γ m w) {n : Nat} {L : LoopA} (hn : n < m.nloc) (hL : m.lp n = some L) (st : LoopState) (pend : Option Code) {r : Loop} (hr : w.heap[Γ.loc n]? = some (.loop r)) :
    MemSim Γ (m.setLp n { L with st := st, pend := pend }) (w.putObj (Γ.loc n) (.loop { r with state := st, pending := pend })) ∧ Keeps Γ w (w.putObj (Γ.loc n) (.loop { r with state := st, pending := pend })) := by
  obtain ⟨hb, tmps, D, h1, h2, h3⟩ := h.lps.at_ n L hn hL
  rw [hr] at h1
  have h1' := (Obj.loop.inj (Option.some.inj h1))
  have hlt : Γ.loc n < w.heap.size := (Array.getElem?_eq_some_iff.1 hr).1
  have hx : XSim Γ (w.putObj (Γ.loc n) (.loop { r with state := st, pending := pend })) := by
    refine ⟨fun D' hD' => ?_, fun l hl => ?_, h.xs.rnd, by simp; exact h.xs.dlo⟩
    · obtain ⟨a, b⟩ := h.xs.mark D' hD'
      refine ⟨a, (World.putObj_heap_other fun e => ?_).trans b⟩
      rw [e, hr] at b; cases b
    · obtain ⟨a, R, b⟩ := h.xs.lps l hl
      by_cases e : l = Γ.loc n
      · exact ⟨a, _, by rw [e]; exact World.putObj_heap_same hlt⟩
      · exact ⟨a, R, (World.putObj_heap_other e).trans b⟩
  obtain ⟨k1, k2⟩ := (h.dropLp n).putObj (o' := .loop { r with state := st, pending := pend }) hr rfl rfl hb (fun i L' hi hL' e => by
    rw [dropLp_lp] at hL'
    split at hL'
    · cases hL'
    · rename_i hne; exact hne (h.lps.inj i n L' L hi hn hL' hL e)) hx (fun i x a b e => by have := (h.its.at_ i x a b).2; rw [e, hr] at this; cases this)
  refine ⟨{ k1 with lps := ?_, its := ⟨k1.its.at_, k1.its.inj⟩ }, k2⟩
  have key : ∀ i L', (m.setLp n { L with st := st, pend := pend }).lp i = some L' → (i = n ∧ L' = { L with st := st, pend := pend }) ∨ (i ≠ n ∧ m.lp i = some L') := by
    intro i L' hc
    rw [setLp_lp] at hc
    split at hc
    · rename_i e; cases hc; exact .inl ⟨e, rfl⟩
    · rename_i e; exact .inr ⟨e, hc⟩
  refine ⟨fun i L' hi hc => ?_, fun i j L1 L2 hi hj hc hc' hq => ?_⟩
  · rcases key i L' hc with ⟨rfl, rfl⟩ | ⟨a, b⟩
    · refine ⟨hb, tmps, D, ?_, h2, fun t => VRep.mono (Ctx.le.refl Γ) k2 _ _ (h3 t)⟩
      rw [World.putObj_heap_same hlt, h1']
    · exact k1.lps.at_ i L' hi (by rw [dropLp_lp, if_neg a]; exact b)
  · rcases key i L1 hc with ⟨e1, _⟩ | ⟨a, b⟩ <;> rcases key j L2 hc' with ⟨e2, _⟩ | ⟨a', b'⟩
    · rw [e1, e2]
    · subst e1; exact h.lps.inj _ _ _ _ hn hj hL b' hq
    · subst e2; exact h.lps.inj _ _ _ _ hi hn b hL hq
    · exact h.lps.inj _ _ _ _ hi hj b b' hq

/-- Slots with a round's parameters put in. -/
def parm (σ : Nat → PV) : List Tmp → List PV → Nat → PV
  | t :: ts, p :: ps => parm (upd σ t p) ts ps
  | _, _ => σ

theorem parm_rep : ∀ (ts : List Tmp) (ps : List PV) (us : List Value) (σ : Nat → PV) (tmps : Array Value), (∀ t ∈ ts, t < tmps.size) → LRep Γ w ps us → ts.length = ps.length → (∀ t, VRep Γ w (σ t) (tmps.getD t undef)) →
    ((ts.zip us).foldl (fun tmps (x : Tmp × Value) => tmps.setIfInBounds x.1 x.2) tmps).size = tmps.size ∧ ∀ t, VRep Γ w (parm σ ts ps t) (((ts.zip us).foldl (fun tmps (x : Tmp × Value) => tmps.setIfInBounds x.1 x.2) tmps).getD t undef)
  | [], [], us, σ, tmps, _, h, _, k => by
    replace h : us = [] := h
    subst h; exact ⟨rfl, k⟩
  | t :: ts, p :: ps, us, σ, tmps, hlt, h, hl, k => by
    obtain ⟨u, us', rfl, h1, h2⟩ := h
    have := parm_rep ts ps us' (upd σ t p) (tmps.setIfInBounds t u) (fun i hi => by simp; exact hlt i (by simp [hi])) h2 (by simpa using hl) (fun i => by
      by_cases e : i = t
      · subst e; rw [upd_same]
        have := hlt i (by simp)
        simpa [Array.getD_eq_getD_getElem?, this] using h1
      · rw [upd_ne _ _ _ _ e, Array.getD_eq_getD_getElem?, Array.getElem?_setIfInBounds_ne (by omega), ← Array.getD_eq_getD_getElem?]
        exact k i)
    exact ⟨this.1.trans (by simp), this.2⟩
  | [], _ :: _, _, _, _, _, _, hl, _ => by simp at hl
  | _ :: _, [], _, _, _, _, _, hl, _ => by simp at hl

/-- Where a round's body ends. -/
def FinY (n : Nat) (L : LoopA) (m : St) (R : ARes → St → Prop) : APost
  | .normal, _, m' => ∃ m'', m'.lp n = some { L with st := .busy } ∧ Leaves m (m'.setLp n L) m'' ∧ R (.ret (.v (.bool true))) m''
  | _, _, _ => False

theorem YCall.of_aw {n : Nat} {args : List PV} {R : ARes → St → Prop} {L : LoopA} (hn : n < m.nloc) (hL : m.lp n = some L) (hst : L.st = .ready) (hp : L.pend = none) (hlen : args.length = L.params.length) (hlt : ∀ t ∈ L.params, t < L.N)
    (h : AW P L.N L.assign (AExit.then (fun σ' m' => n < m'.nloc ∧ m'.lp n = some L ∧ AW P L.N L.body (FinY n L m R) σ' (m'.setLp n { L with st := .busy })) (fun _ _ _ => False)) (parm L.σ L.params args) m) : YCall P n args m R := by
  intro Γ w us hm hr
  obtain ⟨hb, tmps, D, h1, h2, h3⟩ := hm.lps.at_ n L hn hL
  have hul : us.length = args.length := LRep.len _ _ hr
  refine ⟨_, h1, by simp; omega, ?_⟩
  obtain ⟨x, hx⟩ : ∃ x : CtxX, x = ⟨Γ.x.mark, fun l => Γ.x.lps l ∨ l = Γ.loc n, w.heap.size, some (Γ.loc n), []⟩ := ⟨_, rfl⟩
  have hxs : XSim (Γ.withX x) w := by
    subst hx
    refine ⟨hm.xs.mark, fun l hl => ?_, fun l hl => ?_, Nat.le_refl _⟩
    · rcases hl with hl | hl
      · exact hm.xs.lps l hl
      · subst hl; exact ⟨hb, _, h1⟩
    · replace hl : some (Γ.loc n) = some l := hl
      cases hl; exact .inr rfl
  have hm1 := hm.withX x hxs
  have hpr := parm_rep L.params args us L.σ tmps (fun t ht => by rw [h2]; exact hlt t ht) hr (by omega) h3
  have hzip : (L.params.toArray.zip us.toArray).foldl (fun tmps (x : Tmp × Value) => tmps.setIfInBounds x.1 x.2) tmps = (L.params.zip us).foldl (fun tmps (x : Tmp × Value) => tmps.setIfInBounds x.1 x.2) tmps := by
    rw [← Array.foldl_toList]; simp
  refine roundIn_of_wpIn trivial ?_
  show Code.wpIn (FW (Γ.withX x).x.rnd |> fun _ => Fence.wide.inRound (Γ.loc n)) 0 P _ _ _ w
  have hrnd : (Γ.withX x).x.rnd = some (Γ.loc n) := by rw [hx]; rfl
  have hfw : Fence.wide.inRound (Γ.loc n) = FW (Γ.withX x).x.rnd := by rw [hrnd]; rfl
  have hzip' : (L.params.toArray.zip us.toArray).foldl (fun tmps x => match x with | (t, a) => tmps.setIfInBounds t a) tmps = (L.params.zip us).foldl (fun tmps (x : Tmp × Value) => tmps.setIfInBounds x.1 x.2) tmps := hzip
  simp only [hfw]
  refine wpIn_mono (h (Γ.withX x) _ w ⟨?_, ⟨[], by rw [hx]; rfl, List.nodup_nil, fun _ h => by cases h⟩, hm1, fun t => ?_⟩) ?_
  · show ((L.params.toArray.zip us.toArray).foldl _ tmps).size = L.N
    rw [hzip, hpr.1, h2]
  · show VRep _ _ _ (((L.params.toArray.zip us.toArray).foldl _ tmps).getD t undef)
    rw [hzip]; exact VRep.withX (hpr.2 t) x
  rintro e a₁ w₁ ⟨y, σ₁, m₁, Γ₁, g1, g2, g3, g4, g5⟩
  cases y <;> simp only [AExit.then] at g1
  case normal =>
  cases e <;> simp only [XRep] at g2
  obtain ⟨g6, g7, g8⟩ := g1
  simp only [Exit.then]
  obtain ⟨hb₁, tmps₁, D₁, k1, k2, k3⟩ := g3.mem.lps.at_ n L g6 g7
  have hl₁ : Γ₁.loc n = Γ.loc n := g4.loc n (by show n < Γ.nloc; rw [hm.nloc]; exact hn)
  have hrun := run_beginRound (P := P) k1 (by exact hst)
  rw [← hl₁]
  refine ⟨_, hrun, ?_⟩
  obtain ⟨q1, q2⟩ := g3.mem.setLp g6 g7 .busy L.pend k1
  have hfw₁ : FW (Γ.withX x).x.rnd = FW Γ₁.x.rnd := by rw [g4.x.rnd]
  rw [hfw₁]
  refine wpIn_mono (g8 Γ₁ a₁ _ (g3.mono (Ctx.le.refl _) q2 q1)) ?_
  rintro e a₂ w₂ ⟨y, σ₂, m₂, Γ₂, f1, f2, f3, f4, f5⟩
  cases y <;> simp only [FinY] at f1
  case normal =>
  cases e <;> simp only [XRep] at f2
  obtain ⟨m'', f6, f7, f8⟩ := f1
  have hn₂ : n < m₂.nloc := by have := f7.lloc; simp at this; omega
  obtain ⟨hb₂, tmps₂, D₂, j1, j2, j3⟩ := f3.mem.lps.at_ n _ hn₂ f6
  have hl₂ : Γ₂.loc n = Γ.loc n := (f4.loc n (by rw [g3.mem.nloc]; exact g6)).trans hl₁
  have hend := run_endRound (P := P) none j1
  rw [hl₂] at hend
  simp only [roundPost]
  rw [hl₁]
  refine ⟨_, _, hend, ?_⟩
  obtain ⟨p1, p2⟩ := f3.mem.setLp hn₂ f6 .ready none j1
  have hset : m₂.setLp n { ({ L with st := .busy } : LoopA) with st := .ready, pend := none } = m₂.setLp n L := by rw [← hst, ← hp]
  rw [hset, hl₂] at p1
  rw [hl₂] at p2
  have hle : (Γ.withX x).le Γ₂ := g4.trans f4
  have hkk : Keeps (Γ.withX x) w (w₂.putObj (Γ.loc n) (.loop { state := .ready, pending := none, fn := L.fn, tmps := tmps₂, params := L.params.toArray, assign := L.assign, body := L.body, defers := D₂ })) :=
    ((g5.trans g4 q2).trans g4 f5).trans hle p2
  have hxb := hm.xs.back (Γ' := Γ₂) hle.base (fun D hD => hle.x.mark D (by rw [hx]; exact hD)) (fun D hD => hle.x.lps D (by rw [hx]; exact .inl hD)) hkk.below.size p1.xs m''.nloc m''.ntok
  obtain ⟨s1, s2⟩ := f7.lv.sim hm hle hxb p1
  exact ⟨_, m'', _, f8, rfl, s2, ⟨hkk.below, hkk.imm⟩, s1⟩

theorem run_callFunc' {f : FuncId} (h : HasBody P f) (args : Array Value) : (callFunc f args).run P w = .ok (.enter f args) w := run_callFunc h args

/-- **The statement**: what follows behind it, out of the contract of the function that is ranged over. -/
theorem AW.rangeFunc {N : Nat} {Q : APost} {σ : Nat → PV} {g : Operand} {ps : Array Tmp} {assign body : Code} {f : FuncId} {first caps : List PV} (hg : Ab.opv σ g = .clo f first caps)
    (h : ∀ fn, ACall P f (first ++ [.yld m.nloc] ++ caps) (m.newLp ⟨.ready, none, fn, N, σ, ps.toList, assign, body⟩) (fun r m' => ∃ p L, r = .ret p ∧ m.nloc < m'.nloc ∧ m'.lp m.nloc = some L ∧ L.st ≠ .busy ∧ L.pend = none ∧ Q .normal σ (m'.dropLp m.nloc))) :
    AW P N (.rangeFunc g ps assign body) Q σ m := by
  intro Γ a w hs
  refine wpIn_rangeFunc fun fn _ => ?_
  have hm := hs.mem
  -- after the record is laid
  have main : ∀ (mark : List Nat) (w₁ : World) (Γ₁ : Ctx), (∀ D ∈ mark, Γ₁.x.mark D ∧ Γ.x.dlo ≤ D ∧ w.heap.size ≤ D) → mark.Nodup →
      MemSim Γ₁ (m.newLp ⟨.ready, none, fn, N, σ, ps.toList, assign, body⟩) w₁ → Γ.le Γ₁ → Keeps Γ w w₁ →
      (Instr.enterLoop fn a.tmps ps assign body (FW Γ.x.rnd).round).run P w = .ok (Γ₁.loc m.nloc, mark.map (fun D => { target := .collected D, args := #[] })) w₁ →
      ∃ (l : Nat) (mark : List Deferred) (w₁ : World) (d : Deferred) (w₁' : World) (f : FuncId) (args : Array Value) (w₂ : World),
      (Instr.enterLoop fn a.tmps ps assign body (FW Γ.x.rnd).round).run P w = .ok (l, mark) w₁ ∧
      (resolve a.eval (rangeCall g l) 0).run P w₁ = .ok d w₁' ∧
      (∀ f', Target.leads P w₁' d.target d.args = some f' → (FW Γ.x.rnd).fn f') ∧
      (invoke d.target d.args).run P w₁' = .ok (.enter f args) w₂ ∧
      ((FW Γ.x.rnd).depth.isSome = true → 1 ≤ 0) ∧
      CallsIn (FW Γ.x.rnd) (0 - 1) P f args w₂ (rangePost (FW Γ.x.rnd) 0 P l (Post Γ w N Q) { a with defers := mark ++ a.defers }) := by
    intro mark w₁ Γ₁ hmk hnd hm₁ l₁ k₁ he
    have hvg := hs.opv g
    rw [hg] at hvg
    obtain ⟨fs, us, heg, hf1, hf2⟩ := hvg
    obtain ⟨hb, hcall⟩ := h fn
    refine ⟨_, _, w₁, { target := .fn (.func f) us, args := fs ++ #[Value.func (.yield (Γ₁.loc m.nloc)) #[] #[]] }, w₁, f, fs ++ #[Value.func (.yield (Γ₁.loc m.nloc)) #[] #[]] ++ us, w₁, he, ?_, fun _ _ => trivial, by simp only [invoke]; exact run_callFunc hb _, fun q => by simp [FW, Fence.wide] at q, ?_⟩
    · simp only [resolve, Deferred.ofValue, heg, Sem.run_bind, Sem.run_pure, Result.andThen_ok]
      simp [Act.eval]
    · have hl : LRep Γ₁ w₁ (first ++ [.yld m.nloc] ++ caps) (fs ++ #[Value.func (.yield (Γ₁.loc m.nloc)) #[] #[]] ++ us).toList := by
        simp only [Array.toList_append]
        refine LRep.append _ _ _ _ (LRep.append _ _ _ _ (LRep.mono l₁ k₁ _ _ hf1) ?_) (LRep.mono l₁ k₁ _ _ hf2)
        exact ⟨_, _, rfl, ⟨by rw [hm₁.nloc]; simp, rfl⟩, rfl⟩
      have h2 := callsIn_wide (n := 0).2 (hcall Γ₁ w₁ _ hm₁ hl)
      simp only [Array.toArray_toList] at h2
      refine CallsIn.mono (F := FW Γ.x.rnd) (n := 0) h2 ?_
      rintro e w₂ ⟨r, m₂, Γ₂, ⟨p, L, rfl, hn, hL, hst, hpe, hQ⟩, hre, l₂, k₂, hm₂⟩
      cases e <;> simp only [ERep] at hre
      obtain ⟨hb₂, tmps₂, D₂, j1, j2, j3⟩ := hm₂.lps.at_ _ L hn hL
      have hloc : Γ₂.loc m.nloc = Γ₁.loc m.nloc := l₂.loc _ (by rw [hm₁.nloc]; simp)
      have hend := run_endLoop (P := P) j1 hst
      rw [hloc] at hend
      refine ⟨_, _, hend, ?_⟩
      simp only [hpe]
      obtain ⟨p1, p2⟩ := hm₂.setLp hn hL .exhausted L.pend j1
      rw [hloc] at p1 p2
      have p3 := p1.dropLp m.nloc
      have hdd : (m₂.setLp m.nloc { L with st := .exhausted, pend := L.pend }).dropLp m.nloc = m₂.dropLp m.nloc := by
        unfold St.setLp St.dropLp
        congr 1
        funext i
        simp only [upd]
        split <;> rfl
      rw [hdd] at p3
      have l₃ := l₁.trans l₂
      have k₃ : Keeps Γ w _ := (k₁.trans l₁ k₂).trans l₃ p2
      have hs₂ : Sim Γ₂ N σ (m₂.dropLp m.nloc) a (w₂.putObj (Γ₁.loc m.nloc) (.loop { state := .exhausted, pending := L.pend, fn := L.fn, tmps := tmps₂, params := L.params.toArray, assign := L.assign, body := L.body, defers := D₂ })) := hs.mono l₃ k₃ p3
      rw [← hpe]
      refine ⟨.normal, σ, _, Γ₂, hQ, trivial, ⟨hs₂.size, ?_, hs₂.mem, hs₂.slots⟩, l₃, k₃⟩
      obtain ⟨ms, d1, d2, d3⟩ := hs.defers
      refine ⟨mark ++ ms, by simp only [d1, List.map_append, List.append_assoc, l₃.x.fd], ?_, fun D hD => ?_⟩
      · refine List.nodup_append.2 ⟨hnd, d2, fun D hD D' hD' => ?_⟩
        have h3 := (hmk D hD).2.2
        have h4 := (Array.getElem?_eq_some_iff.1 (hm.xs.mark D' (d3 D' hD').1).2).1
        omega
      · rw [l₃.x.dlo]
        rcases List.mem_append.1 hD with hD | hD
        · exact ⟨l₂.x.mark D (hmk D hD).1, (hmk D hD).2.1⟩
        · exact ⟨l₃.x.mark D (d3 D hD).1, (d3 D hD).2⟩
  have hsz := hs.size
  cases hrd : Γ.x.rnd with
  | none =>
    rw [hrd] at main
    obtain ⟨q1, q2⟩ := hm.alloc_any (.deferred (some []))
    have q3 := q1.newLp (L := ⟨.ready, none, fn, N, σ, ps.toList, assign, body⟩) (tmps := a.tmps) (D := w.heap.size) hsz (fun t => VRep.mono (Ctx.le.refl _) q2 _ _ (hs.slots t))
    obtain ⟨q3, q4⟩ := q3
    obtain ⟨x, hx⟩ : ∃ x : CtxX, x = ⟨fun D => Γ.x.mark D ∨ D = w.heap.size, Γ.x.lps, Γ.x.dlo, Γ.x.rnd, Γ.x.fd⟩ := ⟨_, rfl⟩
    have hxs : XSim ((Γ.newLoc (w.alloc (.deferred (some []))).heap.size).withX x) ((w.alloc (.deferred (some []))).alloc (LoopA.obj ⟨.ready, none, fn, N, σ, ps.toList, assign, body⟩ a.tmps w.heap.size)) := by
      subst hx
      refine ⟨fun D hD => ?_, q3.xs.lps, q3.xs.rnd, q3.xs.dlo⟩
      rcases hD with hD | hD
      · exact q3.xs.mark D hD
      · subst hD
        exact ⟨hm.base, (Below.heap_alloc _ _ _ (by simp)).trans (World.alloc_heap_new _ _)⟩
    have q5 := q3.withX x hxs
    have l1 := Ctx.le_newLoc Γ (w.alloc (.deferred (some []))).heap.size
    have k4 : Keeps Γ w ((w.alloc (.deferred (some []))).alloc (LoopA.obj ⟨.ready, none, fn, N, σ, ps.toList, assign, body⟩ a.tmps w.heap.size)) := q2.trans (Ctx.le.refl _) q4
    refine main [w.heap.size] _ _ (fun D hD => ?_) (by simp) q5 ⟨l1.base, l1.nloc, l1.loc, l1.imm, l1.ntok, l1.tok, l1.wd, ?_, l1.immb⟩ k4 ?_
    · simp only [List.mem_singleton] at hD
      subst hD
      exact ⟨by rw [hx]; exact .inr rfl, hm.xs.dlo, Nat.le_refl _⟩
    · subst hx
      exact ⟨fun D hD => .inl hD, fun _ q => q, rfl, rfl, rfl⟩
    · have hl : ((Γ.newLoc (w.alloc (.deferred (some []))).heap.size).withX x).loc m.nloc = w.heap.size + 1 := by
        show upd Γ.loc Γ.nloc _ m.nloc = _
        rw [hm.nloc, upd_same]; simp
      rw [hl]
      exact run_enterLoop_outer fn a.tmps ps assign body
  | some l₀ =>
    rw [hrd] at main
    obtain ⟨_, R₀, hl₀⟩ := hm.xs.lps l₀ (hm.xs.rnd l₀ hrd)
    obtain ⟨q3, q4⟩ := hm.newLp (L := ⟨.ready, none, fn, N, σ, ps.toList, assign, body⟩) (tmps := a.tmps) (D := R₀.defers) hsz hs.slots
    refine main [] _ _ (fun D hD => by cases hD) List.nodup_nil q3 (Ctx.le_newLoc Γ _) q4 ?_
    have hl : (Γ.newLoc w.heap.size).loc m.nloc = w.heap.size := by
      show upd Γ.loc Γ.nloc _ m.nloc = _
      rw [hm.nloc, upd_same]
    rw [hl]
    exact run_enterLoop_inner hl₀ fn a.tmps ps assign body
end
end Go.Ab
/- The abstract layer, 15: a local variable that is written no more, seen as cells that never change. Over any program. -/
namespace Go.Ab
open Go.RowKit

mutual
/-- The same value, a pointer to variable n seen as a pointer to cells that never change. -/
def PV.frz (n : Nat) (cs : List PV) : PV → PV
  | .loc k off => if k = n then .ro (cs.drop off) else .loc k off
  | .agg xs => .agg (PV.frzL n cs xs)
  | .clo f a b => .clo f (PV.frzL n cs a) (PV.frzL n cs b)
  | .tup xs => .tup (PV.frzL n cs xs)
  | .iface t y => .iface t (y.frz n cs)
  | .any => .any
  | .v u => .v u
  | .list o r => .list o r
  | .ro c => .ro c
  | .marr a b c d => .marr a b c d
  | .yld k => .yld k
  | .mtok k len => .mtok k len
  | .mptr k off gen => .mptr k off gen
def PV.frzL (n : Nat) (cs : List PV) : List PV → List PV
  | [] => []
  | x :: xs => x.frz n cs :: PV.frzL n cs xs
end

section
variable {P : Program} {Γ Γ' : Ctx} {m : St} {w : World}
mutual
theorem VRep.frz {n : Nat} {cs : List PV} (l : Γ.le Γ') (hc : CRep Γ' w cs (Γ.loc n) 0) : ∀ (p : PV) (u : Value), VRep Γ w p u → VRep Γ' w (p.frz n cs) u
  | .any, _, h => trivial
  | .v _, _, h => h
  | .agg xs, u, h => by
    obtain ⟨us, e, h⟩ := h
    exact ⟨us, e, LRep.frz l hc xs _ h⟩
  | .list o rows, u, h => VRep.mono l (Keeps.refl _ _) (.list o rows) u h
  | .ro c, u, h => VRep.mono l (Keeps.refl _ _) (.ro c) u h
  | .loc k off, u, h => by
    simp only [PV.frz]
    split
    · rename_i e
      subst e
      obtain ⟨_, h⟩ := h
      have := CRep.drop off cs _ _ hc
      exact ⟨_, _, h, by simpa using this⟩
    · exact VRep.mono l (Keeps.refl _ _) (.loc k off) u h
  | .marr a b c d, u, h => VRep.mono l (Keeps.refl _ _) (.marr a b c d) u h
  | .clo f first caps, u, h => by
    obtain ⟨fs, us, e, h1, h2⟩ := h
    exact ⟨fs, us, e, LRep.frz l hc first _ h1, LRep.frz l hc caps _ h2⟩
  | .iface t y, u, h => by
    obtain ⟨x, e, h⟩ := h
    exact ⟨x, e, VRep.frz l hc y _ h⟩
  | .tup xs, u, h => by
    obtain ⟨us, e, h⟩ := h
    exact ⟨us, e, LRep.frz l hc xs _ h⟩
  | .yld k, u, h => VRep.mono l (Keeps.refl _ _) (.yld k) u h
  | .mtok k len, u, h => VRep.mono l (Keeps.refl _ _) (.mtok k len) u h
  | .mptr k off gen, u, h => VRep.mono l (Keeps.refl _ _) (.mptr k off gen) u h
theorem LRep.frz {n : Nat} {cs : List PV} (l : Γ.le Γ') (hc : CRep Γ' w cs (Γ.loc n) 0) : ∀ (xs : List PV) (us : List Value), LRep Γ w xs us → LRep Γ' w (PV.frzL n cs xs) us
  | [], _, h => h
  | x :: xs, us, h => by
    obtain ⟨u, us', e, h1, h2⟩ := h
    exact ⟨u, us', e, VRep.frz l hc x _ h1, LRep.frz l hc xs _ h2⟩
end

variable {N : Nat} {Q : APost} {σ : Nat → PV} {ops : Array Oper} {l : List Oper}
/-- A variable is written no more. -/
theorem AList.frz {n d : Nat} {cs : List PV} (hn : n < m.nloc) (hc : m.loc n = some cs) (h : AList P N ops Q l (upd σ d ((σ d).frz n cs)) (m.dropLoc n)) : AList P N ops Q l σ m := by
  intro Γ a w hs
  obtain ⟨h1, h2⟩ := hs.mem.freeze hn hc
  have le := Ctx.le_newImm Γ (Γ.loc n) cs.length (hs.mem.apart n cs hn hc).1
  have hs' := hs.mono le (Keeps.refl Γ w) h1
  have := h _ a w ⟨hs'.size, hs'.defers, h1, fun t => ?_⟩
  · exact wpList_mono (Post.later le (Keeps.refl _ _)) _ _ _ this
  · by_cases e : t = d
    · subst e; rw [upd_same]; exact VRep.frz le h2 _ _ (hs.slots t)
    · rw [upd_ne _ _ _ _ e]; exact hs'.slots t
theorem AW.frz {c : Code} {n d : Nat} {cs : List PV} (hn : n < m.nloc) (hc : m.loc n = some cs) (h : AW P N c Q (upd σ d ((σ d).frz n cs)) (m.dropLoc n)) : AW P N c Q σ m := by
  intro Γ a w hs
  obtain ⟨h1, h2⟩ := hs.mem.freeze hn hc
  have le := Ctx.le_newImm Γ (Γ.loc n) cs.length (hs.mem.apart n cs hn hc).1
  have hs' := hs.mono le (Keeps.refl Γ w) h1
  have := h _ a w ⟨hs'.size, hs'.defers, h1, fun t => ?_⟩
  · exact wpIn_mono this (Post.later le (Keeps.refl _ _))
  · by_cases e : t = d
    · subst e; rw [upd_same]; exact VRep.frz le h2 _ _ (hs.slots t)
    · rw [upd_ne _ _ _ _ e]; exact hs'.slots t
/-- A variable's cells, seen otherwise. -/
theorem MemSim.seeLoc (h : MemSim Γ m w) {n : Nat} {cs cs' : List PV} (hn : n < m.nloc) (hc : m.loc n = some cs) (hv : ∀ c, LRep Γ w cs c → LRep Γ w cs' c) : MemSim Γ (m.setLoc n cs') w := by
  have key : ∀ n' ds, (m.setLoc n cs').loc n' = some ds → (n' = n ∧ ds = cs') ∨ (n' ≠ n ∧ m.loc n' = some ds) := by
    intro n' ds hc'
    rw [setLoc_loc] at hc'
    split at hc'
    · rename_i e; cases hc'; exact .inl ⟨e, rfl⟩
    · rename_i e; exact .inr ⟨e, hc'⟩
  refine { h with locs := fun n' ds hn' hd => ?_, apart := fun n' ds hn' hd => ?_, inj := fun n1 n2 d1 d2 a1 a2 a3 a4 hq => ?_, tloc := fun k n' ds hk hlv hn' hd => ?_, lps := ⟨h.lps.at_, h.lps.inj⟩, its := ⟨h.its.at_, h.its.inj⟩ }
  · rcases key n' ds hd with ⟨rfl, rfl⟩ | ⟨e, hd⟩
    · obtain ⟨c, h1, h2, h3⟩ := h.locs _ cs hn hc
      exact ⟨c, h1, hv c h2, h3⟩
    · exact h.locs n' ds hn' hd
  · rcases key n' ds hd with ⟨rfl, rfl⟩ | ⟨e, hd⟩
    · exact h.apart _ cs hn hc
    · exact h.apart n' ds hn' hd
  · rcases key n1 d1 a3 with ⟨e1, _⟩ | ⟨_, g3⟩ <;> rcases key n2 d2 a4 with ⟨e2, _⟩ | ⟨_, g4⟩
    · rw [e1, e2]
    · subst e1; exact h.inj _ _ _ _ a1 a2 hc g4 hq
    · subst e2; exact h.inj _ _ _ _ a1 a2 g3 hc hq
    · exact h.inj _ _ _ _ a1 a2 g3 g4 hq
  · rcases key n' ds hd with ⟨rfl, _⟩ | ⟨_, hd⟩
    · exact h.tloc k _ cs hk hlv hn hc
    · exact h.tloc k n' ds hk hlv hn' hd
theorem LRep.seeNil : ∀ (cs : List PV) (c : List Value) (i : Nat), cs[i]? = some (.v (.slice none 0 0)) → LRep Γ w cs c → LRep Γ w (cs.set i (.list .full [])) c
  | x :: cs, _, 0, hi, h => by
    obtain ⟨u, us, rfl, h1, h2⟩ := h
    simp at hi; subst hi
    exact ⟨u, us, rfl, ⟨none, 0, h1, Nat.le_refl _, fun _ => rfl, (fun ad h => by cases h), rfl⟩, h2⟩
  | x :: cs, _, i + 1, hi, h => by
    obtain ⟨u, us, rfl, h1, h2⟩ := h
    exact ⟨u, us, rfl, h1, LRep.seeNil cs us i (by simpa using hi) h2⟩
theorem AW.nilC {c : Code} {n i : Nat} {cs : List PV} (hn : n < m.nloc) (hc : m.loc n = some cs) (hi : cs[i]? = some (.v (.slice none 0 0))) (h : AW P N c Q σ (m.setLoc n (cs.set i (.list .full [])))) : AW P N c Q σ m :=
  fun Γ a w hs => h Γ a w ⟨hs.size, hs.defers, hs.mem.seeLoc hn hc fun d hd => LRep.seeNil cs d i hi hd, hs.slots⟩
/-- The nil slice, seen as an empty list. -/
theorem AW.nilS {c : Code} {d : Nat} (hd : σ d = .v (.slice none 0 0)) (h : AW P N c Q (upd σ d (.list .full [])) m) : AW P N c Q σ m := by
  intro Γ a w hs
  refine h Γ a w ⟨hs.size, hs.defers, hs.mem, fun t => ?_⟩
  by_cases e : t = d
  · subst e
    rw [upd_same]
    have := hs.slots t
    rw [hd] at this
    exact ⟨none, 0, this, Nat.le_refl _, fun _ => rfl, (fun ad h => by cases h), rfl⟩
  · rw [upd_ne _ _ _ _ e]; exact hs.slots t
theorem AList.nilS {d : Nat} (hd : σ d = .v (.slice none 0 0)) (h : AList P N ops Q l (upd σ d (.list .full [])) m) : AList P N ops Q l σ m := by
  intro Γ a w hs
  refine h Γ a w ⟨hs.size, hs.defers, hs.mem, fun t => ?_⟩
  by_cases e : t = d
  · subst e
    rw [upd_same]
    have := hs.slots t
    rw [hd] at this
    exact ⟨none, 0, this, Nat.le_refl _, fun _ => rfl, (fun ad h => by cases h), rfl⟩
  · rw [upd_ne _ _ _ _ e]; exact hs.slots t
attribute [simp] PV.frz PV.frzL
end
end Go.Ab
