/- Texts of the proof, part Lb: they prove nothing by themselves that is claimed. -/
import Derived.Test.YtgfadepkiejncaaGreatLa
import Derived.Still
import Derived.Test.YtgfadepkiejncaaGreatProg
import Derived.DataReads
import Derived.Carry
import Derived.ChangeShapes
import Derived.ProofKit
import Derived.Laws.RangeString
import Derived.RecoverIn
set_option linter.unusedVariables false
set_option linter.unusedSimpArgs false
namespace Go.Ab
open Go.RowKit
section
variable {P : Program} {m : St} {K Kp : PV → St → Prop}
theorem aop_congr {op : Op} {ρ ρ' : Operand → PV} (h : ∀ x ∈ op.operands.toList, ρ x = ρ' x) (hs : aop P op ρ m K Kp) : aop P op ρ' m K Kp := by
  cases op <;> simp only [Op.operands] at h <;> simp only [aop] at hs ⊢
  case move x => rwa [← h x (by simp)]
  case assign x => rwa [← h x (by simp)]
  case pick c a b => rwa [← h c (by simp), ← h a (by simp), ← h b (by simp)]
  case alloc e => exact hs
  case box e x => rwa [← h x (by simp)]
  case build t parts =>
    rwa [show (parts.toList.map (fun x => (x.1, ρ' x.2))) = parts.toList.map (fun x => (x.1, ρ x.2)) from List.map_congr_left fun x hx => by rw [h x.2 (by simpa using ⟨x.1, by simpa using hx⟩)]]
  case buildSlice t len parts =>
    rwa [show (parts.toList.map (fun x => (x.1, ρ' x.2))) = parts.toList.map (fun x => (x.1, ρ x.2)) from List.map_congr_left fun x hx => by rw [h x.2 (by simpa using ⟨x.1, by simpa using hx⟩)]]
  case load t x => rwa [← h x (by simp)]
  case store t x y => rwa [← h x (by simp), ← h y (by simp)]
  case nilCheck x => rwa [← h x (by simp)]
  case binOp op t x y yt => rwa [← h x (by simp), ← h y (by simp)]
  case unOp op t x => rwa [← h x (by simp)]
  case convert s d x => rwa [← h x (by simp)]
  case makeInterface t x => rwa [← h x (by simp)]
  case makeFunc fn first caps =>
    cases fn <;> simp only at hs ⊢
    case func f =>
      rwa [show first.toList.map ρ' = first.toList.map ρ from List.map_congr_left fun x hx => (h x (by rw [Array.toList_append, List.mem_append]; exact .inl hx)).symm, show caps.toList.map ρ' = caps.toList.map ρ from List.map_congr_left fun x hx => (h x (by rw [Array.toList_append, List.mem_append]; exact .inr hx)).symm]
  case makeSlice t l c => rwa [← h l (by simp), ← h c (by simp)]
  case slice t x lo hi mx =>
    have e : ∀ o : Option Operand, (∀ x, o = some x → ρ x = ρ' x) → o.map ρ' = o.map ρ := fun o ho => by cases o with | none => rfl | some x => simp [ho x rfl]
    rwa [← h x (by simp), e lo (fun y hy => h y (by subst hy; simp)), e hi (fun y hy => h y (by subst hy; simp)), e mx (fun y hy => h y (by subst hy; simp))]
  case fieldAddr s x f => rwa [← h x (by simp)]
  case field s x f => rwa [← h x (by simp)]
  case indexAddr t x i => rwa [← h x (by simp), ← h i (by simp)]
  case index t x i => rwa [← h x (by simp), ← h i (by simp)]
  case extract x i => rwa [← h x (by simp)]
  case call c =>
    obtain ⟨callee, args, ts⟩ := c
    have ha : ∀ x ∈ args.toList, ρ x = ρ' x := fun x hx => h x (by simp only [Call.operands, Array.toList_append, List.mem_append]; exact .inr hx)
    unfold acall at hs ⊢
    simp only at hs ⊢
    have e1 : args.toList.map ρ' = args.toList.map ρ := List.map_congr_left fun x hx => (ha x hx).symm
    cases callee with
    | value f =>
      have hf : ρ f = ρ' f := h f (by simp [Call.operands])
      simp only at hs ⊢
      rw [← hf, show args.toList.map (fun x => (ρ' x).strip) = args.toList.map (fun x => (ρ x).strip) from List.map_congr_left fun x hx => by rw [ha x hx]]
      exact hs
    | invoke r n => exact hs
    | builtin b =>
      cases b <;> simp only at hs ⊢ <;> first
        | exact hs
        | (rw [e1]; exact hs)
        | skip
      · split at hs
        · rename_i x y hxy; rwa [← ha x (by rw [hxy]; simp), ← ha y (by rw [hxy]; simp)]
        · exact hs
      · split at hs
        · rename_i x hxy; rwa [← ha x (by rw [hxy]; simp)]
        · exact hs
  case panic x => rwa [← h x (by simp)]
  all_goals exact hs
def OpOKo (P : Program) (o : Oper) (ρ : Operand → PV) (m : St) (K Kp : PV → St → Prop) : Prop :=
  ∀ Γ (ev : Operand → Value) w, MemSim Γ m w → (∀ x ∈ o.op.operands.toList, VRep Γ w (ρ x) (ev x)) → Up P (Then Γ w K) (Then Γ w Kp) ((execOp ev o).run P w)
theorem aop_soundO (o : Oper) (ρ : Operand → PV) (h : aop P o.op ρ m K Kp) : OpOKo P o ρ m K Kp := by
  intro Γ ev w hm hv
  classical
  have h' : aop P o.op (fun x => if x ∈ o.op.operands.toList then ρ x else .any) m K Kp := aop_congr (fun x hx => by simp only [if_pos hx]) h
  refine aop_sound o _ h' Γ ev w hm fun x => ?_
  by_cases hx : x ∈ o.op.operands.toList
  · simp only [if_pos hx]; exact hv x hx
  · simp only [if_neg hx]; trivial
theorem OpOKo.congr {o : Oper} {ρ ρ' : Operand → PV} (e : ∀ x ∈ o.op.operands.toList, ρ x = ρ' x) (h : OpOKo P o ρ m K Kp) : OpOKo P o ρ' m K Kp :=
  fun Γ ev w hm hv => h Γ ev w hm fun x hx => by rw [e x hx]; exact hv x hx
theorem Up.mono {K K' L L' : Value → World → Prop} {r : Result Next} (h : Up P K L r) (hk : ∀ v w, K v w → K' v w) (hl : ∀ v w, L v w → L' v w) : Up P K' L' r := by
  cases r with
  | ok n w' =>
    cases n <;> simp only [Up] at h ⊢
    case value v => exact hk _ _ h
    case skip => exact hk _ _ h
    case enter f args =>
      refine Calls.mono h fun e w'' he => ?_
      cases e with
      | returned v => exact hk _ _ he
      | panicked ch => obtain ⟨v, e, h⟩ := he; exact ⟨v, e, hl _ _ h⟩
      | outgrown => exact he
    case round l f tmps assign body =>
      refine RoundIn.mono h fun e w'' he => ?_
      cases e with
      | returned v => exact hk _ _ he
      | panicked ch => obtain ⟨v, e, h⟩ := he; exact ⟨v, e, hl _ _ h⟩
      | outgrown => exact he
  | halt x w' =>
    cases x <;> simp only [Up] at h ⊢
    case panic v => exact hl _ _ h
theorem OpOKo.mono {o : Oper} {ρ : Operand → PV} {K' Kp' : PV → St → Prop} (h : OpOKo P o ρ m K Kp) (hk : ∀ p m, K p m → K' p m) (hp : ∀ p m, Kp p m → Kp' p m) : OpOKo P o ρ m K' Kp' :=
  fun Γ ev w hm hv => (h Γ ev w hm hv).mono (fun _ _ ⟨p, m', Γ', h1, r⟩ => ⟨p, m', Γ', hk _ _ h1, r⟩) (fun _ _ ⟨p, m', Γ', h1, r⟩ => ⟨p, m', Γ', hp _ _ h1, r⟩)
end
structure Ext (m m' : St) : Prop where
  nloc : m.nloc ≤ m'.nloc
  loc : ∀ n, n < m.nloc → m'.loc n = m.loc n
theorem Ext.refl (m : St) : Ext m m := ⟨Nat.le_refl _, fun _ _ => rfl⟩
theorem Ext.trans {a b c : St} (h : Ext a b) (k : Ext b c) : Ext a c := ⟨Nat.le_trans h.nloc k.nloc, fun n hn => (k.loc n (Nat.lt_of_lt_of_le hn h.nloc)).trans (h.loc n hn)⟩
inductive Cls where
  | S | R | W | L | A
  deriving DecidableEq, Inhabited
def aWant (N : Nat) (ops : Array Oper) (σ : Nat → PV) (o : Oper) : Option Bool :=
  match o.guard with
  | none => some true
  | some (j, want) => match opDst ops j with
    | some g => if g < N then (match σ g with | .v (.bool b) => some (b == want) | .v _ => some false | _ => none) else none
    | none => none
section
variable {P : Program} {N : Nat} {ops : Array Oper} {cls : Nat → Cls} {Q : (Nat → PV) → St → Prop} {Qp : PV → St → Prop}
def DStep (P : Program) (N : Nat) (ops : Array Oper) (cls : Nat → Cls) (Qp : PV → St → Prop) (i : Nat) (K : (Nat → PV) → St → Prop) (σ : Nat → PV) (m : St) : Prop :=
  ∃ o, ops[i]? = some o ∧ dstOK N o.dst = true ∧ ((aWant N ops σ o = some false ∧ K (put σ o.dst (.v undef)) m) ∨ (aWant N ops σ o = some true ∧
    match cls i with
    | .S => ∃ p, (∀ m, OpOKo P o (opv σ) m (fun p' m' => p' = p ∧ m' = m) (fun _ _ => False)) ∧ K (put σ o.dst p) m
    | .R => ∃ p, OpOKo P o (opv σ) m (fun p' m' => p' = p ∧ m' = m) (fun _ _ => False) ∧ K (put σ o.dst p) m
    | .W => OpOKo P o (opv σ) m (fun p m' => K (put σ o.dst p) m') Qp
    | .L => ∃ p, (∀ m', Ext m m' → OpOKo P o (opv σ) m' (fun p' m'' => p' = p ∧ m'' = m') (fun _ _ => False)) ∧ K (put σ o.dst p) m
    | .A => OpOKo P o (opv σ) m (fun p m' => Ext m m' ∧ K (put σ o.dst p) m') Qp))
theorem DStep.mono {i : Nat} {K K' : (Nat → PV) → St → Prop} {σ : Nat → PV} {m : St} (hk : ∀ σ m, K σ m → K' σ m) (h : DStep P N ops cls Qp i K σ m) : DStep P N ops cls Qp i K' σ m := by
  obtain ⟨o, h1, h2, h3⟩ := h
  refine ⟨o, h1, h2, ?_⟩
  rcases h3 with ⟨h3, h4⟩ | ⟨h3, h4⟩
  · exact .inl ⟨h3, hk _ _ h4⟩
  · refine .inr ⟨h3, ?_⟩
    cases hc : cls i <;> simp only [hc] at h4 ⊢
    · obtain ⟨p, h5, h6⟩ := h4; exact ⟨p, h5, hk _ _ h6⟩
    · obtain ⟨p, h5, h6⟩ := h4; exact ⟨p, h5, hk _ _ h6⟩
    · exact h4.mono (fun _ _ h => hk _ _ h) (fun _ _ h => h)
    · obtain ⟨p, h5, h6⟩ := h4; exact ⟨p, h5, hk _ _ h6⟩
    · exact h4.mono (fun _ _ h => ⟨h.1, hk _ _ h.2⟩) (fun _ _ h => h)
def DAny (P : Program) (N : Nat) (ops : Array Oper) (cls : Nat → Cls) (Q : (Nat → PV) → St → Prop) (Qp : PV → St → Prop) : Nat → Array Bool → (Nat → PV) → St → Prop
  | 0, listed, σ, m => Region.ready .any ops listed = [] ∧ Q σ m
  | fuel + 1, listed, σ, m => (Region.ready .any ops listed = [] → Q σ m) ∧
    ∀ i ∈ Region.ready .any ops listed, DStep P N ops cls Qp i (DAny P N ops cls Q Qp fuel (listed.setIfInBounds i true)) σ m
def QQ (Q : (Nat → PV) → St → Prop) (Qp : PV → St → Prop) : APost
  | .normal, σ, m => Q σ m
  | .pan p, _, m => Qp p m
  | _, _, _ => False
theorem aWant_sound {Γ : Ctx} {σ : Nat → PV} {m : St} {a : Act} {w : World} (hs : Sim Γ N σ m a w) {o : Oper} {b : Bool} (h : aWant N ops σ o = some b) : Region.wanted o (yielded ops a.tmps) = b := by
  unfold aWant at h
  unfold Region.wanted
  split at h
  · rename_i hg; cases h; simp [hg]
  · rename_i j want hg
    simp only [hg]
    split at h
    · rename_i g hj
      split at h
      · rename_i hlt
        rw [yield_at hs hj hlt]
        have hv := hs.slots g
        split at h
        · rename_i b' hb
          rw [hb] at hv
          replace hv : a.tmps.getD g undef = .bool b' := hv
          rw [hv]; cases h
          cases b' <;> cases want <;> rfl
        · rename_i u hne hb
          rw [hb] at hv
          replace hv : a.tmps.getD g undef = u := hv
          rw [hv]; cases h
          cases u <;> first | rfl | exact (hne _ rfl).elim
        · cases h
      · cases h
    · cases h
theorem wpOp_mono2 {F : Fence} {n : Nat} {Q Q' : Exit → Act → World → Prop} {K K' : Act → World → Prop} (hq : ∀ e a w, Q e a w → Q' e a w) (hk : ∀ a w, K a w → K' a w) {i : Nat} {a : Act} {w : World} (h : wpOpIn F n P ops Q i K a w) : wpOpIn F n P ops Q' i K' a w := by
  unfold wpOpIn at h ⊢
  split
  · rename_i hn; simp only [hn] at h; exact hk _ _ h
  · rename_i o ho
    simp only [ho] at h
    split
    · rename_i hw
      simp only [hw, if_true] at h
      exact oper_wp_mono hk hq h
    · rename_i hw; simp only [hw] at h; exact ⟨h.1, hk _ _ h.2⟩
theorem wpAny_mono2 {F : Fence} {n : Nat} {Q Q' : Exit → Act → World → Prop} (hq : ∀ e a w, Q e a w → Q' e a w) {md : Region.Mode} : ∀ (fuel : Nat) (listed : Array Bool) (a : Act) (w : World), wpAnyIn F n P md ops Q fuel listed a w → wpAnyIn F n P md ops Q' fuel listed a w
  | 0, _, _, _, h => ⟨h.1, hq _ _ _ h.2⟩
  | fuel + 1, listed, a, w, h => ⟨fun h0 => hq _ _ _ (h.1 h0), fun i hi => wpOp_mono2 hq (wpAny_mono2 hq fuel _) (h.2 i hi)⟩
theorem OpOKo.wp {o : Oper} {σ : Nat → PV} {m : St} {K Kp : PV → St → Prop} {Γ : Ctx} {a : Act} {w : World} {next : Act → World → Prop} {QC : Exit → Act → World → Prop} (h : OpOKo P o (opv σ) m K Kp) (hs : Sim Γ N σ m a w) (hd : dstOK N o.dst = true)
    (hk : ∀ p m' Γ' a' w', K p m' → Sim Γ' N (put σ o.dst p) m' a' w' → Γ.le Γ' → Keeps Γ w w' → next a' w')
    (hp : ∀ p m' Γ' w' v, Kp p m' → Sim Γ' N σ m' a w' → VRep Γ' w' p v → Γ.le Γ' → Keeps Γ w w' → QC (.panic [{ v := v, recovered := false }]) a w') (r : Option Nat) : o.wpIn (FW r) 0 P a w next QC := by
  refine (h Γ a.eval w hs.mem (fun x _ => hs.opv x)).wpIn ?_ ?_
  · rintro v w' ⟨p, m', Γ', h1, h2, h3, h4, h5⟩
    exact hk p m' Γ' _ w' h1 ((hs.mono h3 h4 h5).put hd h2) h3 h4
  · rintro v w' ⟨p, m', Γ', h1, h2, h3, h4, h5⟩
    exact hp p m' Γ' w' v h1 (hs.mono h3 h4 h5) h2 h3 h4
theorem DAny.sound : ∀ (fuel : Nat) (listed : Array Bool) (σ : Nat → PV) (m : St), DAny P N ops cls Q Qp fuel listed σ m → ∀ Γ a w, Sim Γ N σ m a w → wpAnyIn (FW Γ.x.rnd) 0 P .any ops (Post Γ w N (QQ Q Qp)) fuel listed a w
  | 0, listed, σ, m, h, Γ, a, w, hs => ⟨h.1, hs.post (x := .normal) trivial h.2⟩
  | fuel + 1, listed, σ, m, h, Γ, a, w, hs => by
    refine ⟨fun h0 => hs.post (x := .normal) trivial (h.1 h0), fun i hi => ?_⟩
    obtain ⟨o, ho, hd, h3⟩ := h.2 i hi
    unfold wpOpIn
    simp only [ho]
    have hpan : ∀ p m' Γ' w' v, Qp p m' → Sim Γ' N σ m' a w' → VRep Γ' w' p v → Γ.le Γ' → Keeps Γ w w' → Post Γ w N (QQ Q Qp) (.panic [{ v := v, recovered := false }]) a w' :=
      fun p m' Γ' w' v hq hs' hv l k => ⟨.pan p, σ, m', Γ', hq, ⟨v, rfl, hv⟩, hs', l, k⟩
    rcases h3 with ⟨hw, hk⟩ | ⟨hw, hk⟩
    · rw [aWant_sound hs hw]
      simp only [Bool.false_eq_true, if_false]
      exact ⟨fun _ _ => trivial, DAny.sound fuel _ _ _ hk Γ _ w (hs.put hd rfl)⟩
    · rw [aWant_sound hs hw]
      simp only [if_true]
      cases hc : cls i <;> simp only [hc] at hk
      · obtain ⟨p, h5, h6⟩ := hk
        refine (h5 m).wp hs hd ?_ (fun p m' Γ' w' v hq => hq.elim) _
        rintro p' m' Γ' a' w' ⟨rfl, rfl⟩ hs' l k
        have := wpAny_mono2 (Post.later l k) _ _ _ _ (DAny.sound fuel _ _ _ h6 Γ' a' w' hs')
        rwa [l.x.rnd] at this
      · obtain ⟨p, h5, h6⟩ := hk
        refine h5.wp hs hd ?_ (fun p m' Γ' w' v hq => hq.elim) _
        rintro p' m' Γ' a' w' ⟨rfl, rfl⟩ hs' l k
        have := wpAny_mono2 (Post.later l k) _ _ _ _ (DAny.sound fuel _ _ _ h6 Γ' a' w' hs')
        rwa [l.x.rnd] at this
      · refine hk.wp hs hd ?_ hpan _
        intro p' m' Γ' a' w' h6 hs' l k
        have := wpAny_mono2 (Post.later l k) _ _ _ _ (DAny.sound fuel _ _ _ h6 Γ' a' w' hs')
        rwa [l.x.rnd] at this
      · obtain ⟨p, h5, h6⟩ := hk
        refine (h5 m (Ext.refl m)).wp hs hd ?_ (fun p m' Γ' w' v hq => hq.elim) _
        rintro p' m' Γ' a' w' ⟨rfl, rfl⟩ hs' l k
        have := wpAny_mono2 (Post.later l k) _ _ _ _ (DAny.sound fuel _ _ _ h6 Γ' a' w' hs')
        rwa [l.x.rnd] at this
      · refine hk.wp hs hd ?_ hpan _
        intro p' m' Γ' a' w' h6 hs' l k
        have := wpAny_mono2 (Post.later l k) _ _ _ _ (DAny.sound fuel _ _ _ h6.2 Γ' a' w' hs')
        rwa [l.x.rnd] at this
theorem put_comm {σ : Nat → PV} {x y : Option Tmp} (p q : PV) (h : ∀ d, x = some d → y ≠ some d) : put (put σ x p) y q = put (put σ y q) x p := by
  cases x with
  | none => rfl
  | some d =>
    cases y with
    | none => rfl
    | some e =>
      have hne : d ≠ e := fun he => h d rfl (he ▸ rfl)
      funext i
      simp only [put, upd]
      by_cases h1 : i = e <;> by_cases h2 : i = d <;> simp_all
theorem opv_put {σ : Nat → PV} {x : Option Tmp} {p : PV} {o : Oper} (h : ∀ d, x = some d → d ∉ o.looksAt ops) : ∀ y ∈ o.op.operands.toList, opv (put σ x p) y = opv σ y := by
  intro y hy
  cases x with
  | none => rfl
  | some d =>
    cases y with
    | tmp t =>
      have : t ≠ d := by
        intro e; subst e
        refine h t rfl ?_
        unfold Oper.looksAt
        refine List.mem_append.2 (.inl ?_)
        exact List.mem_filterMap.2 ⟨_, hy, rfl⟩
      simp [opv, put, upd, this]
    | _ => rfl
theorem aWant_put {σ : Nat → PV} {x : Option Tmp} {p : PV} {o : Oper} (h : ∀ d, x = some d → d ∉ o.looksAt ops) : aWant N ops (put σ x p) o = aWant N ops σ o := by
  cases x with
  | none => rfl
  | some d =>
    unfold aWant
    split
    · rfl
    · rename_i j want hg
      split
      · rename_i g hj
        have : g ≠ d := by
          intro e; subst e
          refine h g rfl ?_
          unfold Oper.looksAt
          refine List.mem_append.2 (.inr ?_)
          simp only [hg]
          unfold opDst at hj
          rw [hj]; simp
        simp [put, upd, this]
      · rfl
def Got (P : Program) (N : Nat) (ops : Array Oper) (s : Bool) (o : Oper) (p : PV) (σ : Nat → PV) (m : St) : Prop :=
  (aWant N ops σ o = some false ∧ p = .v undef) ∨ (aWant N ops σ o = some true ∧ if s then (∀ m, OpOKo P o (opv σ) m (fun p' m' => p' = p ∧ m' = m) (fun _ _ => False)) else OpOKo P o (opv σ) m (fun p' m' => p' = p ∧ m' = m) (fun _ _ => False))
theorem Got.step {i : Nat} {o : Oper} {p : PV} {σ : Nat → PV} {m : St} {K : (Nat → PV) → St → Prop} {s : Bool} (ho : ops[i]? = some o) (hd : dstOK N o.dst = true) (hc : cls i = if s then .S else .R) (h : Got P N ops s o p σ m) (hk : K (put σ o.dst p) m) :
    DStep P N ops cls Qp i K σ m := by
  refine ⟨o, ho, hd, ?_⟩
  rcases h with ⟨h1, rfl⟩ | ⟨h1, h2⟩
  · exact .inl ⟨h1, hk⟩
  · refine .inr ⟨h1, ?_⟩
    cases s
    · simp only [hc]; exact ⟨p, h2, hk⟩
    · simp only [hc]; exact ⟨p, h2, hk⟩
theorem Got.put {oi oj : Oper} {p q : PV} {σ : Nat → PV} {m : St} {s : Bool} (h : Got P N ops s oi p σ m) (ha : ∀ d, oj.dst = some d → d ∉ oi.looksAt ops) : Got P N ops s oi p (Ab.put σ oj.dst q) m := by
  unfold Got at h ⊢
  rw [aWant_put ha]
  rcases h with h | ⟨h1, h2⟩
  · exact .inl h
  · refine .inr ⟨h1, ?_⟩
    cases s
    · exact OpOKo.congr (fun x hx => (opv_put ha x hx).symm) h2
    · exact fun m => OpOKo.congr (fun x hx => (opv_put ha x hx).symm) (h2 m)
def goesWith (s : Bool) (c : Cls) : Bool := s || (c != .W && c != .A)
def goesWithL (c : Cls) : Bool := c != .W
theorem DStep.swap {j : Nat} {oi oj : Oper} {p : PV} {σ : Nat → PV} {m : St} {s : Bool} {K : (Nat → PV) → St → Prop} (hj : ops[j]? = some oj) (hap : oi.apart ops oj = true) (hw : goesWith s (cls j) = true)
    (hg : Got P N ops s oi p σ m) (h : DStep P N ops cls Qp j K (put σ oi.dst p) m) : DStep P N ops cls Qp j (fun σ' m' => Got P N ops s oi p σ' m' ∧ K (put σ' oi.dst p) m') σ m := by
  obtain ⟨h1, h2, h3⟩ := Oper.apart_spec hap
  obtain ⟨o, ho, hd, hh⟩ := h
  have : o = oj := by rw [hj] at ho; cases ho; rfl
  subst this
  refine ⟨o, hj, hd, ?_⟩
  rw [aWant_put h1] at hh
  have hm : ∀ m', (s = true ∨ m' = m) → Got P N ops s oi p σ m' := by
    intro m' hs
    rcases hs with hs | rfl
    · subst hs
      rcases hg with hg | hg
      · exact .inl hg
      · exact .inr hg
    · exact hg
  rcases hh with ⟨hh, hk⟩ | ⟨hh, hk⟩
  · exact .inl ⟨hh, hg.put h3, by rwa [put_comm _ _ h2] at hk⟩
  · refine .inr ⟨hh, ?_⟩
    cases hc : cls j <;> simp only [hc] at hk ⊢
    · obtain ⟨q, h5, h6⟩ := hk
      exact ⟨q, fun m => OpOKo.congr (opv_put h1) (h5 m), hg.put h3, by rwa [put_comm _ _ h2] at h6⟩
    · obtain ⟨q, h5, h6⟩ := hk
      exact ⟨q, OpOKo.congr (opv_put h1) h5, hg.put h3, by rwa [put_comm _ _ h2] at h6⟩
    · have hs : s = true := by simpa [goesWith, hc] using hw
      refine (OpOKo.congr (opv_put h1) hk).mono (fun q m' hq => ⟨(hm m' (.inl hs)).put h3, ?_⟩) (fun _ _ h => h)
      rwa [put_comm _ _ h2] at hq
    · obtain ⟨q, h5, h6⟩ := hk
      exact ⟨q, fun m' he => OpOKo.congr (opv_put h1) (h5 m' he), hg.put h3, by rwa [put_comm _ _ h2] at h6⟩
    · have hs : s = true := by simpa [goesWith, hc] using hw
      refine (OpOKo.congr (opv_put h1) hk).mono (fun q m' hq => ⟨hq.1, (hm m' (.inl hs)).put h3, ?_⟩) (fun _ _ h => h)
      have hq2 := hq.2
      rwa [put_comm _ _ h2] at hq2
theorem DAny.first {i : Nat} {oi : Oper} {p : PV} {s : Bool} (hi : ops[i]? = some oi) (hdi : dstOK N oi.dst = true) (hci : cls i = if s then .S else .R) :
    ∀ (fuel : Nat) (listed : Array Bool) (σ : Nat → PV) (m : St),
      (∀ j oj, ops[j]? = some oj → j ≠ i → listed.getD j true = false → (∀ e ∈ oj.after, Region.binds .any e = true → e.on ≠ i) → oi.apart ops oj = true ∧ goesWith s (cls j) = true) →
      i ∈ Region.ready .any ops listed → Got P N ops s oi p σ m →
      DAny P N ops cls Q Qp fuel (listed.setIfInBounds i true) (put σ oi.dst p) m → DAny P N ops cls Q Qp (fuel + 1) listed σ m := by
  intro fuel
  induction fuel with
  | zero =>
    intro listed σ m _ hr hy H
    refine ⟨fun h => (by rw [h] at hr; cases hr), fun j hj => ?_⟩
    by_cases hji : j = i
    · subst hji; exact hy.step hi hdi hci H
    · have := ready_mono hj hji
      rw [H.1] at this
      cases this
  | succ fuel ih =>
    intro listed σ m hfree hr hy H
    refine ⟨fun h => (by rw [h] at hr; cases hr), fun j hj => ?_⟩
    by_cases hji : j = i
    · subst hji; exact hy.step hi hdi hci H
    · have h1 := H.2 j (ready_mono hj hji)
      obtain ⟨hjun, oj, hoj, hall⟩ := mem_ready.1 hj
      have hnot : ∀ e ∈ oj.after, Region.binds .any e = true → e.on ≠ i := fun e he hb heq => by
        have h1 := hall e he hb
        have h0 := (mem_ready.1 hr).1
        rw [heq] at h1
        rcases Nat.lt_or_ge i listed.size with h' | h'
        · simp [h'] at h0 h1; rw [h0] at h1; cases h1
        · simp [Array.getElem?_eq_none h'] at h1
      obtain ⟨ha, hg⟩ := hfree j oj hoj hji hjun hnot
      have h2 := DStep.swap hoj ha hg hy h1
      have hfree' : ∀ k ok, ops[k]? = some ok → k ≠ i → (listed.setIfInBounds j true).getD k true = false →
          (∀ e ∈ ok.after, Region.binds .any e = true → e.on ≠ i) → oi.apart ops ok = true ∧ goesWith s (cls k) = true := fun k ok hk hki hun hno => by
        refine hfree k ok hk hki ?_ hno
        by_cases hjk : j = k
        · subst hjk; exact hjun
        · rw [getD_set_ne true hjk] at hun; exact hun
      refine DStep.mono (fun σ' m' h3 => ih (listed.setIfInBounds j true) σ' m' hfree' (ready_mono hr (Ne.symm hji)) h3.1 ?_) h2
      rw [Array.setIfInBounds_comm _ _ hji]
      exact h3.2
def GotL (P : Program) (N : Nat) (ops : Array Oper) (o : Oper) (p : PV) (σ : Nat → PV) (m : St) : Prop :=
  (aWant N ops σ o = some false ∧ p = .v undef) ∨ (aWant N ops σ o = some true ∧ ∀ m', Ext m m' → OpOKo P o (opv σ) m' (fun p' m'' => p' = p ∧ m'' = m') (fun _ _ => False))
theorem GotL.step {o : Oper} {p : PV} {σ : Nat → PV} {m : St} {i : Nat} {K : (Nat → PV) → St → Prop} (ho : ops[i]? = some o) (hd : dstOK N o.dst = true) (hc : cls i = .L) (h : GotL P N ops o p σ m) (hk : K (put σ o.dst p) m) :
    DStep P N ops cls Qp i K σ m := by
  refine ⟨o, ho, hd, ?_⟩
  rcases h with ⟨h1, rfl⟩ | ⟨h1, h2⟩
  · exact .inl ⟨h1, hk⟩
  · refine .inr ⟨h1, ?_⟩
    simp only [hc]; exact ⟨p, h2, hk⟩
theorem GotL.put {oi oj : Oper} {p q : PV} {σ : Nat → PV} {m : St} (h : GotL P N ops oi p σ m) (ha : ∀ d, oj.dst = some d → d ∉ oi.looksAt ops) : GotL P N ops oi p (Ab.put σ oj.dst q) m := by
  unfold GotL at h ⊢
  rw [aWant_put ha]
  rcases h with h | ⟨h1, h2⟩
  · exact .inl h
  · exact .inr ⟨h1, fun m' he => OpOKo.congr (fun x hx => (opv_put ha x hx).symm) (h2 m' he)⟩
theorem DStep.swapL {j : Nat} {oi oj : Oper} {p : PV} {σ : Nat → PV} {m : St} {K : (Nat → PV) → St → Prop} (hj : ops[j]? = some oj) (hap : oi.apart ops oj = true) (hw : goesWithL (cls j) = true)
    (hg : GotL P N ops oi p σ m) (h : DStep P N ops cls Qp j K (put σ oi.dst p) m) : DStep P N ops cls Qp j (fun σ' m' => GotL P N ops oi p σ' m' ∧ K (put σ' oi.dst p) m') σ m := by
  obtain ⟨h1, h2, h3⟩ := Oper.apart_spec hap
  obtain ⟨o, ho, hd, hh⟩ := h
  have : o = oj := by rw [hj] at ho; cases ho; rfl
  subst this
  refine ⟨o, hj, hd, ?_⟩
  rw [aWant_put h1] at hh
  have hm : ∀ m', Ext m m' → GotL P N ops oi p σ m' := by
    intro m' he
    rcases hg with hg | ⟨h4, h5⟩
    · exact .inl hg
    · exact .inr ⟨h4, fun m'' he' => h5 m'' (he.trans he')⟩
  rcases hh with ⟨hh, hk⟩ | ⟨hh, hk⟩
  · exact .inl ⟨hh, hg.put h3, by rwa [put_comm _ _ h2] at hk⟩
  · refine .inr ⟨hh, ?_⟩
    cases hc : cls j <;> simp only [hc] at hk ⊢
    · obtain ⟨q, h5, h6⟩ := hk
      exact ⟨q, fun m => OpOKo.congr (opv_put h1) (h5 m), hg.put h3, by rwa [put_comm _ _ h2] at h6⟩
    · obtain ⟨q, h5, h6⟩ := hk
      exact ⟨q, OpOKo.congr (opv_put h1) h5, hg.put h3, by rwa [put_comm _ _ h2] at h6⟩
    · simp [goesWithL, hc] at hw
    · obtain ⟨q, h5, h6⟩ := hk
      exact ⟨q, fun m' he => OpOKo.congr (opv_put h1) (h5 m' he), hg.put h3, by rwa [put_comm _ _ h2] at h6⟩
    · refine (OpOKo.congr (opv_put h1) hk).mono (fun q m' hq => ⟨hq.1, (hm m' hq.1).put h3, ?_⟩) (fun _ _ h => h)
      have hq2 := hq.2
      rwa [put_comm _ _ h2] at hq2
end
end Go.Ab
namespace Go.Ab
open Go.RowKit
def canTake (s : Bool) (cls : List Cls) (ops : Array Oper) (listed : Array Bool) (i : Nat) : Bool :=
  (Region.ready .any ops listed).contains i && (cls.getD i .W == if s then .S else .R) && (List.range ops.size).all fun j =>
    j == i || listed.getD j true || (match ops[i]?, ops[j]? with | some oi, some oj => (oj.after.any fun e => Region.binds .any e && e.on == i) || (oi.apart ops oj && goesWith s (cls.getD j .W)) | _, _ => false)
def isReady (ops : Array Oper) (listed : Array Bool) (l : List Nat) : Bool := Region.ready .any ops listed == l
section
variable {P : Program} {N : Nat} {l : List Oper} {cls : List Cls} {Q : APost} {σ : Nat → PV} {m : St} {listed : Array Bool} {fuel : Nat}
abbrev QP (Q : APost) : PV → St → Prop := fun p m => ∀ σ, Q (.pan p) σ m
def DA (P : Program) (N : Nat) (l : List Oper) (cls : List Cls) (Q : APost) (fuel : Nat) (listed : Array Bool) (σ : Nat → PV) (m : St) : Prop :=
  DAny P N l.toArray (fun i => cls.getD i .W) (fun σ m => Q .normal σ m) (QP Q) fuel listed σ m
theorem AW.draw (cls : List Cls) {id : Nat} (hmix : P.follows .mixedOrders = true) (h : DA P N l cls Q l.length (Array.replicate l.length false) σ m) : AW P N (.region id l.toArray true) Q σ m := by
  intro Γ a w hs
  obtain ⟨h1, h2⟩ := hs.mem.drew
  have hs' : Sim Γ N σ m a w.drew := hs.mono (Ctx.le.refl _) h2 h1
  have h3 := DAny.sound _ _ _ _ h Γ a w.drew hs'
  have h4 : wpAnyIn (FW Γ.x.rnd) 0 P .any l.toArray (Post Γ w.drew N (QQ (fun σ m => Q .normal σ m) (QP Q))) l.toArray.size (Array.replicate l.toArray.size false) a { w with drawn := w.drawn + 1 } := by simpa using h3
  refine wpIn_region_any hmix (wpAny_mono2 (fun e a' w' hp => ?_) _ _ _ _ h4)
  obtain ⟨x, σ', m', Γ', q1, q2, q3, q4, q5⟩ := Post.later (Ctx.le.refl Γ) h2 e a' w' hp
  cases x <;> simp only [QQ] at q1
  · exact ⟨.normal, σ', m', Γ', q1, q2, q3, q4, q5⟩
  · exact ⟨.pan _, σ', m', Γ', q1 _, q2, q3, q4, q5⟩
theorem canTake_spec {s : Bool} {i : Nat} {oi : Oper} (hi : l[i]? = some oi) (h : canTake s cls l.toArray listed i = true) :
    (∀ j oj, l.toArray[j]? = some oj → j ≠ i → listed.getD j true = false → (∀ e ∈ oj.after, Region.binds .any e = true → e.on ≠ i) → oi.apart l.toArray oj = true ∧ goesWith s (cls.getD j .W) = true) ∧
      i ∈ Region.ready .any l.toArray listed ∧ cls.getD i .W = if s then .S else .R := by
  simp only [canTake, Bool.and_eq_true] at h
  obtain ⟨⟨h1, h2⟩, h3⟩ := h
  refine ⟨fun j oj hj hji hun hno => ?_, by simpa using h1, by simpa using h2⟩
  have hlt : j < l.length := by
    have := (Array.getElem?_eq_some_iff.1 hj).1
    simpa using this
  have := List.all_eq_true.1 h3 j (by simpa using hlt)
  simp only [hun, Bool.or_false, Bool.or_eq_true, beq_iff_eq, hji, false_or] at this
  have hi' : l.toArray[i]? = some oi := by simpa using hi
  rw [hi', hj] at this
  simp only [Bool.or_eq_true, Bool.and_eq_true] at this
  rcases this with h4 | h4
  · rw [Array.any_eq_true'] at h4
    obtain ⟨e, he, h5⟩ := h4
    simp only [Bool.and_eq_true, beq_iff_eq] at h5
    exact absurd h5.2 (hno e he h5.1)
  · exact h4
theorem DA.take {s : Bool} {p : PV} {oi : Oper} (i : Nat) (hi : l[i]? = some oi) (hd : dstOK N oi.dst = true) (hc : canTake s cls l.toArray listed i = true) (hg : Got P N l.toArray s oi p σ m)
    (h : DA P N l cls Q fuel (listed.setIfInBounds i true) (put σ oi.dst p) m) : DA P N l cls Q (fuel + 1) listed σ m := by
  obtain ⟨h1, h2, h3⟩ := canTake_spec hi hc
  exact DAny.first (s := s) (by simpa using hi) hd h3 fuel listed σ m h1 h2 hg h
theorem DA.one {i : Nat} (hc : Region.ready .any l.toArray listed = [i]) (h1 : DStep P N l.toArray (fun i => cls.getD i .W) (QP Q) i (DA P N l cls Q fuel (listed.setIfInBounds i true)) σ m) : DA P N l cls Q (fuel + 1) listed σ m := by
  refine ⟨(fun h0 => by rw [hc] at h0; cases h0), fun k hk => ?_⟩
  rw [hc] at hk
  have : k = i := by simpa using hk
  subst this
  exact h1
theorem DA.S {p : PV} {d : Tmp} {op : Op} {ty : TypeId} {pos : String} {after : Array Edge} (i : Nat) (hi : l[i]? = some ⟨some d, op, ty, pos, after, none⟩) (hc : canTake true cls l.toArray listed i = true) (hd : d < N)
    (h1 : ∀ (m : St) (K : PV → St → Prop), K p m → aop P op (opv σ) m K (fun _ _ => False)) (h : DA P N l cls Q fuel (listed.setIfInBounds i true) (upd σ d p) m) : DA P N l cls Q (fuel + 1) listed σ m :=
  DA.take i hi (by simpa [dstOK] using hd) hc (.inr ⟨rfl, fun m => aop_soundO _ _ (h1 m _ ⟨rfl, rfl⟩)⟩) h
theorem DA.R {p : PV} {d : Tmp} {op : Op} {ty : TypeId} {pos : String} {after : Array Edge} (i : Nat) (hi : l[i]? = some ⟨some d, op, ty, pos, after, none⟩) (hc : canTake false cls l.toArray listed i = true) (hd : d < N)
    (h1 : ∀ (K : PV → St → Prop), K p m → aop P op (opv σ) m K (fun _ _ => False)) (h : DA P N l cls Q fuel (listed.setIfInBounds i true) (upd σ d p) m) : DA P N l cls Q (fuel + 1) listed σ m :=
  DA.take (s := false) i hi (by simpa [dstOK] using hd) hc (.inr ⟨rfl, aop_soundO _ _ (h1 _ ⟨rfl, rfl⟩)⟩) h
theorem aWant_of {o : Oper} {j g : Nat} {want b : Bool} (hg : o.guard = some (j, want)) (hj : opDst l.toArray j = some g) (hlt : g < N) (hb : σ g = .v (.bool b)) : aWant N l.toArray σ o = some (b == want) := by
  simp [aWant, hg, hj, hlt, hb]
theorem aWant_undef {o : Oper} {j g : Nat} {want : Bool} (hg : o.guard = some (j, want)) (hj : opDst l.toArray j = some g) (hlt : g < N) (hb : σ g = .v undef) : aWant N l.toArray σ o = some false := by
  simp [aWant, hg, hj, hlt, hb, undef]
theorem DA.SG {p : PV} {d g j : Nat} {want : Bool} {op : Op} {ty : TypeId} {pos : String} {after : Array Edge} (i : Nat) (hi : l[i]? = some ⟨some d, op, ty, pos, after, some (j, want)⟩) (hc : canTake true cls l.toArray listed i = true) (hd : d < N)
    (hj : opDst l.toArray j = some g) (hlt : g < N) (hb : σ g = .v (.bool want)) (h1 : ∀ (m : St) (K : PV → St → Prop), K p m → aop P op (opv σ) m K (fun _ _ => False)) (h : DA P N l cls Q fuel (listed.setIfInBounds i true) (upd σ d p) m) : DA P N l cls Q (fuel + 1) listed σ m :=
  DA.take i hi (by simpa [dstOK] using hd) hc (.inr ⟨by rw [aWant_of rfl hj hlt hb]; simp, fun m => aop_soundO _ _ (h1 m _ ⟨rfl, rfl⟩)⟩) h
theorem DA.RG {p : PV} {d g j : Nat} {want : Bool} {op : Op} {ty : TypeId} {pos : String} {after : Array Edge} (i : Nat) (hi : l[i]? = some ⟨some d, op, ty, pos, after, some (j, want)⟩) (hc : canTake false cls l.toArray listed i = true) (hd : d < N)
    (hj : opDst l.toArray j = some g) (hlt : g < N) (hb : σ g = .v (.bool want)) (h1 : ∀ (K : PV → St → Prop), K p m → aop P op (opv σ) m K (fun _ _ => False)) (h : DA P N l cls Q fuel (listed.setIfInBounds i true) (upd σ d p) m) : DA P N l cls Q (fuel + 1) listed σ m :=
  DA.take (s := false) i hi (by simpa [dstOK] using hd) hc (.inr ⟨by rw [aWant_of rfl hj hlt hb]; simp, aop_soundO _ _ (h1 _ ⟨rfl, rfl⟩)⟩) h
theorem DA.X {d g j : Nat} {want s : Bool} {op : Op} {ty : TypeId} {pos : String} {after : Array Edge} (i : Nat) (hi : l[i]? = some ⟨some d, op, ty, pos, after, some (j, want)⟩) (hc : canTake s cls l.toArray listed i = true) (hd : d < N)
    (hj : opDst l.toArray j = some g) (hlt : g < N) (hb : σ g = .v (.bool !want) ∨ σ g = .v undef) (h : DA P N l cls Q fuel (listed.setIfInBounds i true) (upd σ d (.v undef)) m) : DA P N l cls Q (fuel + 1) listed σ m :=
  DA.take (s := s) i hi (by simpa [dstOK] using hd) hc (.inl ⟨hb.elim (fun hb => (aWant_of rfl hj hlt hb).trans (by cases want <;> rfl)) (fun hb => aWant_undef rfl hj hlt hb), rfl⟩) h
theorem DA.W {oi : Oper} (i : Nat) (hi : l[i]? = some oi) (hc : isReady l.toArray listed [i] = true) (hw : cls.getD i .W = .W) (hg : oi.guard = none) (hd : dstOK N oi.dst = true)
    (h : ∀ K Kp : PV → St → Prop, (∀ p m', DA P N l cls Q fuel (listed.setIfInBounds i true) (put σ oi.dst p) m' → K p m') → (∀ p m', (∀ σ, Q (.pan p) σ m') → Kp p m') → aop P oi.op (opv σ) m K Kp) : DA P N l cls Q (fuel + 1) listed σ m := by
  have hr : Region.ready .any l.toArray listed = [i] := by simpa [isReady] using hc
  refine ⟨(fun h0 => by rw [hr] at h0; cases h0), fun k hk => ?_⟩
  rw [hr] at hk
  have : k = i := by simpa using hk
  subst this
  refine ⟨oi, by simpa using hi, hd, .inr ⟨by simp [aWant, hg], ?_⟩⟩
  simp only [hw]
  exact aop_soundO _ _ (h _ _ (fun _ _ h => h) (fun _ _ h => h))
theorem DStep.W {oi : Oper} {i : Nat} {K : (Nat → PV) → St → Prop} {Qp : PV → St → Prop} (hi : l[i]? = some oi) (hw : cls.getD i .W = .W) (hg : oi.guard = none) (hd : dstOK N oi.dst = true)
    (h : ∀ K' Kp : PV → St → Prop, (∀ p m', K (put σ oi.dst p) m' → K' p m') → (∀ p m', Qp p m' → Kp p m') → aop P oi.op (opv σ) m K' Kp) : DStep P N l.toArray (fun i => cls.getD i .W) Qp i K σ m := by
  refine ⟨oi, by simpa using hi, hd, .inr ⟨by simp [aWant, hg], ?_⟩⟩
  simp only [hw]
  exact aop_soundO _ _ (h _ _ (fun _ _ h => h) (fun _ _ h => h))
theorem DA.done (hc : isReady l.toArray listed [] = true) (h : Q .normal σ m) : DA P N l cls Q 0 listed σ m := ⟨by simpa [isReady] using hc, h⟩
end
end Go.Ab
namespace Go.Ab
open Go.RowKit
section
variable {P : Program} {m : St} {K Kp : PV → St → Prop} {Γ : Ctx} {w : World}
theorem OpOK.weak {o : Oper} {ρ ρ' : Operand → PV} (hw : ∀ x Γ w u, VRep Γ w (ρ x) u → VRep Γ w (ρ' x) u) (h : OpOK P o ρ' m K Kp) : OpOK P o ρ m K Kp :=
  fun Γ ev w hm hv => h Γ ev w hm fun x => hw x Γ w _ (hv x)
theorem OpOK.mono {o : Oper} {ρ : Operand → PV} {K' Kp' : PV → St → Prop} (h : OpOK P o ρ m K Kp) (hk : ∀ p m, K p m → K' p m) (hp : ∀ p m, Kp p m → Kp' p m) : OpOK P o ρ m K' Kp' :=
  fun Γ ev w hm hv => Up.mono (h Γ ev w hm hv) (fun _ _ ⟨p, m', Γ', h1, r⟩ => ⟨p, m', Γ', hk _ _ h1, r⟩) (fun _ _ ⟨p, m', Γ', h1, r⟩ => ⟨p, m', Γ', hp _ _ h1, r⟩)
def Sees (p : PV) (m : St) (p' : PV) (m' : St) : Prop := ∀ Γ w v, MemSim Γ m w → VRep Γ w p v → ∃ Γ', MemSim Γ' m' w ∧ Γ.le Γ' ∧ VRep Γ' w p' v
theorem OpOK.sees {o : Oper} {ρ : Operand → PV} (h : OpOK P o ρ m (fun p m => ∃ p' m', Sees p m p' m' ∧ K p' m') Kp) : OpOK P o ρ m K Kp :=
  fun Γ ev w hm hv => Up.mono (h Γ ev w hm hv) (fun _ w' ⟨p, m', Γ', ⟨p', m'', hs, hk⟩, h2, h3, h4, h5⟩ => by
    obtain ⟨Γ'', q1, q2, q3⟩ := hs Γ' w' _ h5 h2
    exact ⟨p', m'', Γ'', hk, q3, h3.trans q2, h4, q1⟩) (fun _ _ h => h)
theorem Sees.refl (p : PV) (m : St) : Sees p m p m := fun Γ w v h1 h2 => ⟨Γ, h1, Ctx.le.refl _, h2⟩
def Ctx.killTok (Γ : Ctx) (k : Nat) : Ctx := { Γ with top := upd Γ.top k DEAD }
def St.killTok (m : St) (k : Nat) : St := { m with top := upd m.top k DEAD }
theorem Ctx.le_killTok {Γ : Ctx} {k : Nat} (h : Γ.top k < DEAD) : Γ.le (Γ.killTok k) := by
  refine ⟨rfl, Nat.le_refl _, fun _ _ => rfl, fun _ _ h => h, Nat.le_refl _, fun i _ => ?_, fun _ _ => rfl, CtxX.le.refl _, fun _ _ h => .inl h⟩
  by_cases e : i = k
  · subst e; right; show Γ.top i < upd Γ.top i DEAD i; rw [upd_same]; exact h
  · left; exact ⟨upd_ne _ _ _ _ e, rfl, rfl⟩
theorem MemSim.killTok (h : MemSim Γ m w) {k : Nat} (hk : k < m.ntok) (hl : m.top k < DEAD) : MemSim (Γ.killTok k) (m.killTok k) w ∧ Γ.le (Γ.killTok k) := by
  have l : Γ.le (Γ.killTok k) := Ctx.le_killTok (by rw [(h.top k hk).1]; exact hl)
  have hd : ∀ i, (m.killTok k).top i < DEAD → i ≠ k ∧ m.top i < DEAD := fun i hi => by
    by_cases e : i = k
    · subst e; have : (m.killTok i).top i = DEAD := upd_same _ _ _; omega
    · have : (m.killTok k).top i = m.top i := upd_ne _ _ _ _ e
      exact ⟨e, by omega⟩
  refine ⟨⟨h.nloc, h.ntok, fun i hi => ?_, fun n cs hn hc => ?_, h.apart, h.inj, h.immlt, h.base, fun i hi hd' => h.toks i hi (hd i hd').2, fun i hi hd' => ?_, fun i j a b c d => h.tinj i j a b (hd i c).2 (hd j d).2,
    fun i n cs a b => h.tloc i n cs a (hd i b).2, (fun i ds hi hd' hq => by
      obtain ⟨h0, hl', c, h1, h2, h3⟩ := h.arrs i ds hi (hd i hd').2 hq
      refine ⟨h0, ?_, c, h1, LRep.mono l (Keeps.refl _ _) _ _ h2, h3⟩
      show ds.length = upd m.top k DEAD i * _
      rw [upd_ne _ _ _ _ (hd i hd').1]; exact hl'), h.lps.mono l (Keeps.refl _ _) h.nloc (fun n L a b => ⟨a, b⟩) (fun n L a b => rfl), h.its.mono l h.nloc (fun n x a b => ⟨a, b⟩) (fun _ _ q _ => q), h.xs.mono rfl rfl (fun _ _ q _ => q)⟩, l⟩
  · show upd Γ.top k DEAD i = upd m.top k DEAD i ∧ _
    have := h.top i hi
    by_cases e : i = k
    · subst e; rw [upd_same, upd_same]; exact ⟨rfl, this.2⟩
    · rw [upd_ne _ _ _ _ e, upd_ne _ _ _ _ e]; exact this
  · obtain ⟨c, h1, h2, h3⟩ := h.locs n cs hn hc
    exact ⟨c, h1, LRep.mono l (Keeps.refl _ _) _ _ h2, h3⟩
  · obtain ⟨e, hd'⟩ := hd i hd'
    obtain ⟨h1, h2⟩ := h.tapart i hi hd'
    refine ⟨h1, fun o ho => ?_⟩
    show o < upd Γ.top k DEAD i * _
    rw [upd_ne _ _ _ _ e]; exact h2 o ho
def Ctx.renTok (Γ : Ctx) (k : Nat) : Ctx := { Γ with ntok := Γ.ntok + 1, tok := upd Γ.tok Γ.ntok (Γ.tok k), top := upd (upd Γ.top k DEAD) Γ.ntok (Γ.top k), cp := upd Γ.cp Γ.ntok (Γ.cp k), wd := upd Γ.wd Γ.ntok (Γ.wd k) }
def St.renTok (m : St) (k : Nat) : St := { m with ntok := m.ntok + 1, top := upd (upd m.top k DEAD) m.ntok (m.top k), wd := upd m.wd m.ntok (m.wd k), arr := upd m.arr m.ntok none }
theorem MemSim.renTok (h : MemSim Γ m w) {k : Nat} (hk : k < m.ntok) (hl : m.top k < DEAD) (har : m.arr k = none) : MemSim (Γ.renTok k) (m.renTok k) w ∧ Γ.le (Γ.renTok k) := by
  have hnt : Γ.ntok = m.ntok := h.ntok
  have hkt := h.top k hk
  have hkn : k ≠ m.ntok := by omega
  have l : Γ.le (Γ.renTok k) := by
    refine ⟨rfl, Nat.le_refl _, fun _ _ => rfl, fun _ _ h => h, Nat.le_succ _, fun i hi => ?_, fun i hi => upd_ne _ _ _ _ (by omega), CtxX.le.refl _, fun _ _ h => .inl h⟩
    by_cases e : i = k
    · subst e; right; show Γ.top i < upd (upd Γ.top i DEAD) Γ.ntok (Γ.top i) i; rw [upd_ne _ _ _ _ (by omega), upd_same]; omega
    · left; refine ⟨?_, upd_ne _ _ _ _ (by omega), upd_ne _ _ _ _ (by omega)⟩
      show upd (upd Γ.top k DEAD) Γ.ntok (Γ.top k) i = _
      rw [upd_ne _ _ _ _ (by omega), upd_ne _ _ _ _ e]
  have ht : ∀ i, (m.renTok k).top i = if i = m.ntok then m.top k else if i = k then DEAD else m.top i := fun i => rfl
  have hT : ∀ i, (Γ.renTok k).tok i = if i = m.ntok then Γ.tok k else Γ.tok i := fun i => by show upd Γ.tok Γ.ntok _ i = _; rw [hnt]; rfl
  have hP : ∀ i, (Γ.renTok k).top i = if i = m.ntok then Γ.top k else if i = k then DEAD else Γ.top i := fun i => by show upd (upd Γ.top k DEAD) Γ.ntok _ i = _; rw [hnt]; rfl
  have hC : ∀ i, (Γ.renTok k).cp i = if i = m.ntok then Γ.cp k else Γ.cp i := fun i => by show upd Γ.cp Γ.ntok _ i = _; rw [hnt]; rfl
  have hW : ∀ i, (Γ.renTok k).wd i = if i = m.ntok then Γ.wd k else Γ.wd i := fun i => by show upd Γ.wd Γ.ntok _ i = _; rw [hnt]; rfl
  -- the old number of a live new one
  have key : ∀ i, i < m.ntok + 1 → (m.renTok k).top i < DEAD → ∃ j, j < m.ntok ∧ m.top j < DEAD ∧ (Γ.renTok k).tok i = Γ.tok j ∧ (Γ.renTok k).top i = Γ.top j ∧ (Γ.renTok k).cp i = Γ.cp j ∧ (Γ.renTok k).wd i = Γ.wd j ∧ ((i = m.ntok ∧ j = k) ∨ (i = j ∧ i ≠ k)) := by
    intro i hi hd
    rw [ht] at hd
    by_cases e : i = m.ntok
    · exact ⟨k, hk, hl, by rw [hT, if_pos e], by rw [hP, if_pos e], by rw [hC, if_pos e], by rw [hW, if_pos e], .inl ⟨e, rfl⟩⟩
    · rw [if_neg e] at hd
      by_cases e2 : i = k
      · rw [if_pos e2] at hd; omega
      · rw [if_neg e2] at hd
        exact ⟨i, by omega, hd, by rw [hT, if_neg e], by rw [hP, if_neg e, if_neg e2], by rw [hC, if_neg e], by rw [hW, if_neg e], .inr ⟨rfl, e2⟩⟩
  refine ⟨⟨h.nloc, by show Γ.ntok + 1 = m.ntok + 1; rw [hnt], fun i hi => ?_, fun n cs hn hc => ?_, h.apart, h.inj, h.immlt, h.base, fun i hi hd => ?_, fun i hi hd => ?_, fun i j a b c d hq => ?_,
    fun i n cs a b hn hc => ?_, fun i ds hi hd hq => ?_, h.lps.mono l (Keeps.refl _ _) h.nloc (fun n L a b => ⟨a, b⟩) (fun n L a b => rfl), h.its.mono l h.nloc (fun n x a b => ⟨a, b⟩) (fun _ _ q _ => q), h.xs.mono rfl rfl (fun _ _ q _ => q)⟩, l⟩
  · have hw : ∀ i, (m.renTok k).wd i = if i = m.ntok then m.wd k else m.wd i := fun i => rfl
    rw [hP, ht, hW, hw]
    have hi' : i < m.ntok + 1 := hi
    by_cases e : i = m.ntok
    · simp only [if_pos e]; exact hkt
    · simp only [if_neg e]
      have := h.top i (by omega)
      by_cases e2 : i = k
      · simp only [if_pos e2]; exact ⟨trivial, this.2⟩
      · simp only [if_neg e2]; exact this
  · obtain ⟨c, h1, h2, h3⟩ := h.locs n cs hn hc
    exact ⟨c, h1, LRep.mono l (Keeps.refl _ _) _ _ h2, h3⟩
  · obtain ⟨j, j1, j2, j3, j4, j5, j6, _⟩ := key i hi hd
    rw [j3, j5, j6]; exact h.toks j j1 j2
  · obtain ⟨j, j1, j2, j3, j4, j5, j6, _⟩ := key i hi hd
    rw [j3, j4, j6]; exact h.tapart j j1 j2
  · obtain ⟨i', i1, i2, i3, _, _, _, i7⟩ := key i a c
    obtain ⟨j', j1, j2, j3, _, _, _, j7⟩ := key j b d
    rw [i3, j3] at hq
    have := h.tinj i' j' i1 j1 i2 j2 hq
    omega
  · obtain ⟨j, j1, j2, j3, _⟩ := key i a b
    rw [j3]; exact h.tloc j n cs j1 j2 hn hc
  · replace hq : upd m.arr m.ntok none i = some ds := hq
    obtain ⟨j, j1, j2, j3, j4, j5, j6, j7⟩ := key i hi hd
    rcases j7 with ⟨j7, _⟩ | ⟨j7, j8⟩
    · subst j7; rw [upd_same] at hq; cases hq
    · subst j7
      have hin : i ≠ m.ntok := by omega
      rw [upd_ne _ _ _ _ hin] at hq
      obtain ⟨h0, hl', c, h1, h2, h3⟩ := h.arrs i ds j1 j2 hq
      rw [j3]
      refine ⟨h0, ?_, c, h1, LRep.mono l (Keeps.refl _ _) _ _ h2, h3⟩
      have hw : ∀ i, (m.renTok k).wd i = if i = m.ntok then m.wd k else m.wd i := fun i => rfl
      rw [ht, hw, if_neg hin, if_neg j8, if_neg hin]; exact hl'
theorem VRep.renTok {k : Nat} {rows : List (List PV)} {x : Value} (h : MemSim Γ m w) (hk : k < m.ntok) (hl : m.top k < DEAD) (har : m.arr k = none) (hr : VRep Γ w (.list (.tok k) rows) x) : VRep (Γ.renTok k) w (.list (.tok m.ntok) rows) x := by
  have l := (h.renTok hk hl har).2
  obtain ⟨a, cap, e, h1, h2, h3, h4, h5, h6⟩ := hr
  have hnt : Γ.ntok = m.ntok := h.ntok
  refine ⟨a, cap, e, h1, h2, fun ad hd => ⟨(h3 ad hd).1, SRep.mono l (Keeps.refl _ _) rows _ _ (h3 ad hd).2⟩, by show m.ntok < Γ.ntok + 1; omega, ?_⟩
  show rows.length ≤ upd (upd Γ.top k DEAD) Γ.ntok (Γ.top k) m.ntok ∧ (rows.length = upd (upd Γ.top k DEAD) Γ.ntok (Γ.top k) m.ntok → a = some ⟨upd Γ.tok Γ.ntok (Γ.tok k) m.ntok, 0, none⟩ ∧ cap = upd Γ.cp Γ.ntok (Γ.cp k) m.ntok)
  rw [hnt, upd_same, upd_same, upd_same]
  exact ⟨h5, h6⟩
def St.appD (m : St) (o : Own) (n s : Nat) : St := match o with | .tok k => (m.newTok n s).killTok k | _ => m.newTok n s
theorem appD_sees {s n q : Nat} {o o' : Own} {m' : St} {rows : List (List PV)} (hok : appOK s m o n) (h62 : n + q < DEAD) (hq : 0 < q) (ha : AppRes s m o n q o' m') : Sees (.list o' rows) m' (.list (.tok m.ntok) rows) (m.appD o (n + q) s) := by
  intro Γ w v hm hv
  rcases ha with ⟨h0, _⟩ | ⟨_, rfl, rfl⟩ | ⟨_, k, rfl, rfl, rfl⟩
  · omega
  · cases o with
    | no => exact ⟨Γ, hm, Ctx.le.refl _, hv⟩
    | full => exact ⟨Γ, hm, Ctx.le.refl _, hv⟩
    | tok k =>
      obtain ⟨k1, k2, k3, k4⟩ := hok
      have e : (m.newTok (n + q) s).top k = m.top k := upd_ne _ _ _ _ (by omega)
      obtain ⟨h1, h2⟩ := hm.killTok (k := k) (by show k < m.ntok + 1; omega) (by rw [e, k2]; omega)
      exact ⟨_, h1, h2, VRep.mono h2 (Keeps.refl _ _) _ _ hv⟩
  · obtain ⟨k1, k2, k3, k4⟩ := hok
    have hs : (m.growTok k q).renTok k = m.appD (.tok k) (n + q) s := by
      have hkn : k ≠ m.ntok := by omega
      simp only [St.appD, St.renTok, St.growTok, St.killTok, St.newTok]
      congr 1
      · funext i
        simp only [upd]
        by_cases e : i = m.ntok
        · subst e; simp [Ne.symm hkn, k2]
        · by_cases e2 : i = k
          · subst e2; simp [e]
          · simp [e, e2]
      · funext i
        simp only [upd, k3]
    have hgt : (m.growTok k q).top k = m.top k + q := upd_same _ _ _
    have hl : (m.growTok k q).top k < DEAD := by rw [hgt, k2]; exact h62
    obtain ⟨h1, h2⟩ := hm.renTok (k := k) k1 hl k4
    rw [hs] at h1
    exact ⟨_, h1, h2, VRep.renTok (m := m.growTok k q) hm k1 hl k4 hv⟩
end
end Go.Ab
namespace Go.Ab
open Go.RowKit
section
variable {P : Program} {m : St} {K Kp : PV → St → Prop} {Γ Γ' : Ctx} {w w' : World} {f : FuncId} {args : List PV}
def SeesR (r : ARes) (m : St) (r' : ARes) (m' : St) : Prop :=
  match r, r' with
  | .ret p, .ret p' => Sees p m p' m'
  | .pan p, .pan p' => Sees p m p' m'
  | _, _ => False
theorem ACall.sees {R : ARes → St → Prop} (h : ACall P f args m (fun r m' => ∃ r' m'', SeesR r m' r' m'' ∧ R r' m'')) : ACall P f args m R :=
  ⟨h.1, fun Γ w us a b => (h.2 Γ w us a b).mono fun e w' ⟨r, m', Γ', ⟨r', m'', hs, hR⟩, h2, h3, h4, h5⟩ => by
    cases r <;> cases r' <;> simp only [SeesR] at hs <;> cases e <;> simp only [ERep] at h2
    · obtain ⟨Γ'', q1, q2, q3⟩ := hs Γ' w' _ h5 h2
      exact ⟨_, m'', Γ'', hR, q3, h3.trans q2, h4, q1⟩
    · obtain ⟨v, rfl, h2⟩ := h2
      obtain ⟨Γ'', q1, q2, q3⟩ := hs Γ' w' _ h5 h2
      exact ⟨_, m'', Γ'', hR, ⟨v, rfl, q3⟩, h3.trans q2, h4, q1⟩⟩
theorem Sees.trans {p p' p'' : PV} {m m' m'' : St} (h : Sees p m p' m') (k : Sees p' m' p'' m'') : Sees p m p'' m'' := fun Γ w v a b => by
  obtain ⟨Γ', h1, h2, h3⟩ := h Γ w v a b
  obtain ⟨Γ'', k1, k2, k3⟩ := k Γ' w v h1 h3
  exact ⟨Γ'', k1, h2.trans k2, k3⟩
theorem ACall.cut {R : ARes → St → Prop} (h : ACall P f args m (fun r m' => ∃ m'', Lv m m' m'' ∧ (match r with | .ret p => p.sc m''.nloc m''.ntok | .pan p => p.sc m''.nloc m''.ntok) ∧ R r m'')) : ACall P f args m R :=
  ⟨h.1, fun Γ w us a b => (h.2 Γ w us a b).mono fun e w' ⟨r, m', Γ', ⟨m'', hl, hsc, hR⟩, h2, h3, h4, h5⟩ => by
    have hx : (Γ.withX Γ.x).le Γ' := h3
    have hx' : XSim (Γ'.cut Γ.x m''.nloc m''.ntok) w' := by
      have := a.xs.back h3.base h3.x.mark h3.x.lps h4.below.size h5.xs m''.nloc m''.ntok
      exact this
    obtain ⟨k1, k2⟩ := hl.sim a hx hx' h5
    refine ⟨r, m'', _, hR, ?_, k2, h4, k1⟩
    cases r <;> cases e <;> simp only [ERep] at h2 ⊢
    · exact VRep.cut _ _ hsc h2
    · obtain ⟨v, rfl, h2⟩ := h2; exact ⟨v, rfl, VRep.cut _ _ hsc h2⟩⟩
def St.empty : St := ⟨fun _ => none, fun _ => none, 0, fun _ => 0, fun _ => 0, 0, fun _ => none, fun _ => none⟩
mutual
theorem VRep.imm {G : Ctx} (hi : ∀ b o, Γ.imm b o → G.imm b o) : ∀ (p : PV) (u : Value), p.sc 0 0 → VRep Γ w p u → VRep G w p u
  | .any, _, _, _ => trivial
  | .v _, _, _, h => h
  | .agg cs, u, s, h => by
    obtain ⟨us, e, h⟩ := h
    exact ⟨us, e, LRep.imm hi cs _ s h⟩
  | .list o rows, u, s, h => by
    obtain ⟨a, cap, e, h1, h2, h3, h4⟩ := h
    refine ⟨a, cap, e, h1, h2, fun ad hd => ⟨(h3 ad hd).1, SRep.imm hi rows _ _ s.1 (h3 ad hd).2⟩, ?_⟩
    cases o with
    | no => trivial
    | full => exact h4
    | tok k => exact absurd s.2 (Nat.not_lt_zero _)
  | .ro cs, u, s, h => by
    obtain ⟨b, off, e, h⟩ := h
    exact ⟨b, off, e, CRep.imm hi cs _ _ s h⟩
  | .loc n off, u, s, h => absurd s (Nat.not_lt_zero _)
  | .marr n off len cap, u, s, h => absurd s (Nat.not_lt_zero _)
  | .clo f first caps, u, s, h => by
    obtain ⟨fs, us, e, h1, h2⟩ := h
    exact ⟨fs, us, e, LRep.imm hi first _ s.1 h1, LRep.imm hi caps _ s.2 h2⟩
  | .iface t y, u, s, h => by
    obtain ⟨x, e, h⟩ := h
    exact ⟨x, e, VRep.imm hi y _ s h⟩
  | .tup xs, u, s, h => by
    obtain ⟨us, e, h⟩ := h
    exact ⟨us, e, LRep.imm hi xs _ s h⟩
  | .yld n, u, s, h => absurd s (Nat.not_lt_zero _)
  | .mtok k _, u, s, h => absurd s (Nat.not_lt_zero _)
  | .mptr k _ _, u, s, h => absurd s (Nat.not_lt_zero _)
theorem LRep.imm {G : Ctx} (hi : ∀ b o, Γ.imm b o → G.imm b o) : ∀ (xs : List PV) (us : List Value), PV.scL 0 0 xs → LRep Γ w xs us → LRep G w xs us
  | [], _, _, h => h
  | x :: xs, us, s, h => by
    obtain ⟨u, us', e, h1, h2⟩ := h
    exact ⟨u, us', e, VRep.imm hi x _ s.1 h1, LRep.imm hi xs _ s.2 h2⟩
theorem CRep.imm {G : Ctx} (hi : ∀ b o, Γ.imm b o → G.imm b o) : ∀ (xs : List PV) (b off : Nat), PV.scL 0 0 xs → CRep Γ w xs b off → CRep G w xs b off
  | [], _, _, _, h => trivial
  | x :: xs, b, off, s, h => by
    obtain ⟨⟨h0, u, e, hu, h1⟩, h2⟩ := h
    exact ⟨⟨hi _ _ h0, u, e, hu, VRep.imm hi x _ s.1 h1⟩, CRep.imm hi xs _ _ s.2 h2⟩
theorem SRep.imm {G : Ctx} (hi : ∀ b o, Γ.imm b o → G.imm b o) : ∀ (rs : List (List PV)) (b off : Nat), PV.scR 0 0 rs → SRep Γ w rs b off → SRep G w rs b off
  | [], _, _, _, h => trivial
  | r :: rs, b, off, s, h => ⟨CRep.imm hi r _ _ s.1 h.1, SRep.imm hi rs _ _ s.2 h.2⟩
end
def Ctx.bare (Γ : Ctx) (w : World) : Ctx := { Γ with x := ⟨fun _ => False, fun _ => False, w.heap.size, none, []⟩, base := w.heap.size, nloc := 0, ntok := 0 }
theorem MemSim.bare (h : MemSim Γ m w) : MemSim (Γ.bare w) St.empty w := by
  refine ⟨rfl, rfl, fun k hk => absurd hk (Nat.not_lt_zero _), fun n cs hn => absurd hn (Nat.not_lt_zero _), fun n cs hn => absurd hn (Nat.not_lt_zero _), fun n n' cs cs' hn => absurd hn (Nat.not_lt_zero _), h.immlt, Nat.le_refl _,
    fun k hk => absurd hk (Nat.not_lt_zero _), fun k hk => absurd hk (Nat.not_lt_zero _), fun k k' hk => absurd hk (Nat.not_lt_zero _), fun k n cs hk => absurd hk (Nat.not_lt_zero _), fun k cs hk => absurd hk (Nat.not_lt_zero _), ⟨fun n L hn => absurd hn (Nat.not_lt_zero _), fun n n' L L' hn => absurd hn (Nat.not_lt_zero _)⟩, ⟨fun n L hn => absurd hn (Nat.not_lt_zero _), fun n n' L L' hn => absurd hn (Nat.not_lt_zero _)⟩,
    ⟨fun D hD => hD.elim, fun l hl => hl.elim, (fun l hl => by cases hl), Nat.le_refl _⟩⟩
def ARes.val : ARes → PV | .ret p => p | .pan p => p
theorem ACall.closed {r0 : ARes} (h : ACall P f args St.empty (fun r _ => r = r0)) (ha : PV.scL 0 0 args) (hp : r0.val.sc 0 0) : ∀ m, ACall P f args m (fun r m' => r = r0 ∧ m' = m) := by
  intro m
  refine ⟨h.1, fun Γ w us hm hr => ?_⟩
  have hr0 : LRep (Γ.bare w) w args us := LRep.imm (Γ := Γ) (G := Γ.bare w) (w := w) (fun b o q => q) args us ha hr
  refine (h.2 (Γ.bare w) w us hm.bare hr0).mono ?_
  rintro e w' ⟨r, m', Γ', rfl, h2, h3, h4, h5⟩
  have hbel : Below w.heap.size w w' := by have := h4.below; exact this
  have himm : ∀ b o, Γ'.imm b o → Γ.imm b o ∨ w.heap.size ≤ b := fun b o q => by have := h3.immb b o q; exact this
  have himm2 : ∀ b o, Γ.imm b o → Γ'.imm b o := h3.imm
  have hheap : ∀ k, k < w.heap.size → w'.heap[k]? = w.heap[k]? := fun k hk => hbel.block k hk
  obtain ⟨G, hG⟩ : ∃ G : Ctx, G = { Γ with imm := Γ'.imm } := ⟨_, rfl⟩
  have hbase := hm.base
  have l : Γ.le G := by
    subst hG
    exact ⟨rfl, Nat.le_refl _, fun _ _ => rfl, himm2, Nat.le_refl _, fun _ _ => .inl ⟨rfl, rfl, rfl⟩, fun _ _ => rfl, CtxX.le.refl _, fun b o q => (himm b o q).imp id (fun r => by omega)⟩
  have hk : Keeps Γ w w' := ⟨⟨hbel.1, hbel.2, hbel.3, hbel.4, fun k hk => hheap k (by omega)⟩, fun b o q => cellAt_of_heap (hheap b (hm.immlt b o q)) o⟩
  have hlt : ∀ n cs, n < m.nloc → m.loc n = some cs → Γ.loc n < w.heap.size := fun n cs hn hc => by obtain ⟨c, h1, _⟩ := hm.locs n cs hn hc; exact h1.lt
  have hltt : ∀ k, k < m.ntok → m.top k < DEAD → Γ.tok k < w.heap.size := fun k hk hd => by obtain ⟨c, h1, _⟩ := hm.toks k hk hd; exact h1.lt
  have hsz : w.heap.size ≤ w'.heap.size := hbel.size
  have hobj : ∀ (k : Nat) (o : Obj), w.heap[k]? = some o → o.isCells = false → w'.heap[k]? = some o := fun k o q _ => by
    have hlt' : k < w.heap.size := (Array.getElem?_eq_some_iff.1 q).1
    rw [hheap k hlt']; exact q
  refine ⟨r, m, G, ⟨rfl, rfl⟩, ?_, l, hk, ?_⟩
  · have hi : ∀ b o, Γ'.imm b o → G.imm b o := by subst hG; exact fun b o q => q
    cases r <;> cases e <;> simp only [ERep] at h2 ⊢
    · exact VRep.imm (Γ := Γ') hi _ _ hp h2
    · obtain ⟨v, rfl, h2⟩ := h2
      exact ⟨v, rfl, VRep.imm (Γ := Γ') hi _ _ hp h2⟩
  · have hGi : G.imm = Γ'.imm := by subst hG; rfl
    have hGl : G.loc = Γ.loc := by subst hG; rfl
    have hGt : G.tok = Γ.tok := by subst hG; rfl
    have hGb : G.base = Γ.base := by subst hG; rfl
    have hGx : G.x = Γ.x := by subst hG; rfl
    refine ⟨by subst hG; exact hm.nloc, by subst hG; exact hm.ntok, by subst hG; exact hm.top, fun n cs hn hc => ?_, fun n cs hn hc => ?_, by rw [hGl]; exact hm.inj, fun b o q => h5.immlt b o (hGi ▸ q), by rw [hGb]; omega, fun k hk' hd => ?_, fun k hk' hd => ?_,
      by rw [hGt]; exact hm.tinj, by rw [hGt, hGl]; exact hm.tloc, fun k ds hk' hd hq => ?_, hm.lps.mono l hk hm.nloc (fun n L a b => ⟨a, b⟩) (fun n L a b => hheap _ (hm.lps.lt a b)), hm.its.mono l hm.nloc (fun n x a b => ⟨a, b⟩) hobj, hm.xs.mono hGx hGb hobj hsz⟩
    · obtain ⟨c, h6, h7, h8⟩ := hm.locs n cs hn hc
      rw [hGl]
      exact ⟨c, h6.of_heap (hheap _ (hlt n cs hn hc)), LRep.mono l hk _ _ h7, h8⟩
    · obtain ⟨h6, h7⟩ := hm.apart n cs hn hc
      rw [hGl, hGb, hGi]
      refine ⟨h6, fun o q => ?_⟩
      rcases himm _ _ q with q | q
      · exact h7 o q
      · have := hlt n cs hn hc; omega
    · obtain ⟨c, h6, h7⟩ := hm.toks k hk' hd
      rw [hGt]
      exact ⟨c, h6.of_heap (hheap _ (hltt k hk' hd)), by subst hG; exact h7⟩
    · obtain ⟨h6, h7⟩ := hm.tapart k hk' hd
      rw [hGt, hGb, hGi]
      refine ⟨h6, fun o q => ?_⟩
      rcases himm _ _ q with q | q
      · subst hG; exact h7 o q
      · have := hltt k hk' hd; omega
    · obtain ⟨h0, hl', c, h6, h7, h8⟩ := hm.arrs k ds hk' hd hq
      rw [hGt, hGi]
      refine ⟨fun o q => ?_, hl', c, h6.of_heap (hheap _ (hltt k hk' hd)), LRep.mono l hk _ _ h7, h8⟩
      rcases himm _ _ q with q | q
      · exact h0 o q
      · have := hltt k hk' hd; omega
end
end Go.Ab
namespace Go.Proofs.YtgfadepkiejncaaGreat
open Go.Ab
@[simp] theorem ti_3 : tinfo Tryz.prog 3 = true := by kernel_rfl
@[simp] theorem ts_3 : tsize Tryz.prog 3 = 1 := by kernel_rfl
@[simp] theorem tg_3 : tagg Tryz.prog 3 = false := by kernel_rfl
@[simp] theorem tz_3 : tzero Tryz.prog 3 = some (.int .i64 0) := by kernel_rfl
@[simp] theorem tw_3 : tbytes Tryz.prog 3 = 8 := by kernel_rfl
@[simp] theorem tc_3 : tconc Tryz.prog 3 = true := by kernel_rfl
@[simp] theorem tn_3 : tkind Tryz.prog 3 = some .i64 := by kernel_rfl
@[simp] theorem ti_4 : tinfo Tryz.prog 4 = true := by kernel_rfl
@[simp] theorem ts_4 : tsize Tryz.prog 4 = 1 := by kernel_rfl
@[simp] theorem tg_4 : tagg Tryz.prog 4 = false := by kernel_rfl
@[simp] theorem tz_4 : tzero Tryz.prog 4 = some (.bool false) := by kernel_rfl
@[simp] theorem tw_4 : tbytes Tryz.prog 4 = 1 := by kernel_rfl
@[simp] theorem tc_4 : tconc Tryz.prog 4 = true := by kernel_rfl
@[simp] theorem tb_4 : tbool Tryz.prog 4 = true := by kernel_rfl
@[simp] theorem ti_5 : tinfo Tryz.prog 5 = true := by kernel_rfl
@[simp] theorem ts_5 : tsize Tryz.prog 5 = 1 := by kernel_rfl
@[simp] theorem tg_5 : tagg Tryz.prog 5 = false := by kernel_rfl
@[simp] theorem tz_5 : tzero Tryz.prog 5 = some (.int .u8 0) := by kernel_rfl
@[simp] theorem tw_5 : tbytes Tryz.prog 5 = 1 := by kernel_rfl
@[simp] theorem tc_5 : tconc Tryz.prog 5 = true := by kernel_rfl
@[simp] theorem tn_5 : tkind Tryz.prog 5 = some .u8 := by kernel_rfl
@[simp] theorem ti_9 : tinfo Tryz.prog 9 = true := by kernel_rfl
@[simp] theorem ts_9 : tsize Tryz.prog 9 = 1 := by kernel_rfl
@[simp] theorem tg_9 : tagg Tryz.prog 9 = false := by kernel_rfl
@[simp] theorem tz_9 : tzero Tryz.prog 9 = some (.string ⟨#[]⟩) := by kernel_rfl
@[simp] theorem tw_9 : tbytes Tryz.prog 9 = 16 := by kernel_rfl
@[simp] theorem tc_9 : tconc Tryz.prog 9 = true := by kernel_rfl
@[simp] theorem tq_9 : tstr Tryz.prog 9 = true := by kernel_rfl
@[simp] theorem ti_20 : tinfo Tryz.prog 20 = true := by kernel_rfl
@[simp] theorem ts_20 : tsize Tryz.prog 20 = 1 := by kernel_rfl
@[simp] theorem tg_20 : tagg Tryz.prog 20 = false := by kernel_rfl
@[simp] theorem tz_20 : tzero Tryz.prog 20 = some (.nilIface) := by kernel_rfl
@[simp] theorem tw_20 : tbytes Tryz.prog 20 = 16 := by kernel_rfl
@[simp] theorem tc_20 : tconc Tryz.prog 20 = false := by kernel_rfl
@[simp] theorem ti_21 : tinfo Tryz.prog 21 = true := by kernel_rfl
@[simp] theorem ts_21 : tsize Tryz.prog 21 = 1 := by kernel_rfl
@[simp] theorem tg_21 : tagg Tryz.prog 21 = false := by kernel_rfl
@[simp] theorem tz_21 : tzero Tryz.prog 21 = some (.int .i32 0) := by kernel_rfl
@[simp] theorem tw_21 : tbytes Tryz.prog 21 = 4 := by kernel_rfl
@[simp] theorem tc_21 : tconc Tryz.prog 21 = true := by kernel_rfl
@[simp] theorem tn_21 : tkind Tryz.prog 21 = some .i32 := by kernel_rfl
@[simp] theorem ti_22 : tinfo Tryz.prog 22 = true := by kernel_rfl
@[simp] theorem ts_22 : tsize Tryz.prog 22 = 1 := by kernel_rfl
@[simp] theorem tg_22 : tagg Tryz.prog 22 = false := by kernel_rfl
@[simp] theorem tz_22 : tzero Tryz.prog 22 = some (.slice none 0 0) := by kernel_rfl
@[simp] theorem tw_22 : tbytes Tryz.prog 22 = 24 := by kernel_rfl
@[simp] theorem tc_22 : tconc Tryz.prog 22 = true := by kernel_rfl
@[simp] theorem te_22 : telem Tryz.prog 22 = some 33 := by kernel_rfl
@[simp] theorem ti_23 : tinfo Tryz.prog 23 = true := by kernel_rfl
@[simp] theorem ts_23 : tsize Tryz.prog 23 = 2 := by kernel_rfl
@[simp] theorem tg_23 : tagg Tryz.prog 23 = true := by kernel_rfl
@[simp] theorem tz_23 : tzero Tryz.prog 23 = some (.agg #[(.bool false), (.slice none 0 0)]) := by kernel_rfl
@[simp] theorem tw_23 : tbytes Tryz.prog 23 = 32 := by kernel_rfl
@[simp] theorem tc_23 : tconc Tryz.prog 23 = true := by kernel_rfl
@[simp] theorem tf_23_0 : tfield Tryz.prog 23 0 = some (0, 4) := by kernel_rfl
@[simp] theorem tf_23_1 : tfield Tryz.prog 23 1 = some (1, 22) := by kernel_rfl
@[simp] theorem tk_23 : tfok Tryz.prog 23 = true := by kernel_rfl
@[simp] theorem ti_24 : tinfo Tryz.prog 24 = true := by kernel_rfl
@[simp] theorem ts_24 : tsize Tryz.prog 24 = 2 := by kernel_rfl
@[simp] theorem tg_24 : tagg Tryz.prog 24 = true := by kernel_rfl
@[simp] theorem tz_24 : tzero Tryz.prog 24 = some (.agg #[(.bool false), (.slice none 0 0)]) := by kernel_rfl
@[simp] theorem tw_24 : tbytes Tryz.prog 24 = 32 := by kernel_rfl
@[simp] theorem tc_24 : tconc Tryz.prog 24 = true := by kernel_rfl
@[simp] theorem tf_24_0 : tfield Tryz.prog 24 0 = some (0, 4) := by kernel_rfl
@[simp] theorem tf_24_1 : tfield Tryz.prog 24 1 = some (1, 22) := by kernel_rfl
@[simp] theorem tk_24 : tfok Tryz.prog 24 = true := by kernel_rfl
@[simp] theorem ti_25 : tinfo Tryz.prog 25 = true := by kernel_rfl
@[simp] theorem ts_25 : tsize Tryz.prog 25 = 1 := by kernel_rfl
@[simp] theorem tg_25 : tagg Tryz.prog 25 = false := by kernel_rfl
@[simp] theorem tz_25 : tzero Tryz.prog 25 = some (.slice none 0 0) := by kernel_rfl
@[simp] theorem tw_25 : tbytes Tryz.prog 25 = 24 := by kernel_rfl
@[simp] theorem tc_25 : tconc Tryz.prog 25 = true := by kernel_rfl
@[simp] theorem te_25 : telem Tryz.prog 25 = some 27 := by kernel_rfl
@[simp] theorem ti_26 : tinfo Tryz.prog 26 = true := by kernel_rfl
@[simp] theorem ts_26 : tsize Tryz.prog 26 = 6 := by kernel_rfl
@[simp] theorem tg_26 : tagg Tryz.prog 26 = true := by kernel_rfl
@[simp] theorem tz_26 : tzero Tryz.prog 26 = some (.agg #[(.int .i64 0), (.int .i64 0), (.bool false), (.slice none 0 0), (.string ⟨#[]⟩), (.slice none 0 0)]) := by kernel_rfl
@[simp] theorem tw_26 : tbytes Tryz.prog 26 = 88 := by kernel_rfl
@[simp] theorem tc_26 : tconc Tryz.prog 26 = true := by kernel_rfl
@[simp] theorem tf_26_0 : tfield Tryz.prog 26 0 = some (0, 3) := by kernel_rfl
@[simp] theorem tf_26_1 : tfield Tryz.prog 26 1 = some (1, 3) := by kernel_rfl
@[simp] theorem tf_26_2 : tfield Tryz.prog 26 2 = some (2, 24) := by kernel_rfl
@[simp] theorem tf_26_3 : tfield Tryz.prog 26 3 = some (4, 9) := by kernel_rfl
@[simp] theorem tf_26_4 : tfield Tryz.prog 26 4 = some (5, 25) := by kernel_rfl
@[simp] theorem tk_26 : tfok Tryz.prog 26 = true := by kernel_rfl
@[simp] theorem ti_27 : tinfo Tryz.prog 27 = true := by kernel_rfl
@[simp] theorem ts_27 : tsize Tryz.prog 27 = 6 := by kernel_rfl
@[simp] theorem tg_27 : tagg Tryz.prog 27 = true := by kernel_rfl
@[simp] theorem tz_27 : tzero Tryz.prog 27 = some (.agg #[(.int .i64 0), (.int .i64 0), (.bool false), (.slice none 0 0), (.string ⟨#[]⟩), (.slice none 0 0)]) := by kernel_rfl
@[simp] theorem tw_27 : tbytes Tryz.prog 27 = 88 := by kernel_rfl
@[simp] theorem tc_27 : tconc Tryz.prog 27 = true := by kernel_rfl
@[simp] theorem tf_27_0 : tfield Tryz.prog 27 0 = some (0, 3) := by kernel_rfl
@[simp] theorem tf_27_1 : tfield Tryz.prog 27 1 = some (1, 3) := by kernel_rfl
@[simp] theorem tf_27_2 : tfield Tryz.prog 27 2 = some (2, 24) := by kernel_rfl
@[simp] theorem tf_27_3 : tfield Tryz.prog 27 3 = some (4, 9) := by kernel_rfl
@[simp] theorem tf_27_4 : tfield Tryz.prog 27 4 = some (5, 25) := by kernel_rfl
@[simp] theorem tk_27 : tfok Tryz.prog 27 = true := by kernel_rfl
@[simp] theorem ti_30 : tinfo Tryz.prog 30 = true := by kernel_rfl
@[simp] theorem ts_30 : tsize Tryz.prog 30 = 1 := by kernel_rfl
@[simp] theorem tg_30 : tagg Tryz.prog 30 = false := by kernel_rfl
@[simp] theorem tz_30 : tzero Tryz.prog 30 = some (.int .i64 0) := by kernel_rfl
@[simp] theorem tw_30 : tbytes Tryz.prog 30 = 8 := by kernel_rfl
@[simp] theorem tc_30 : tconc Tryz.prog 30 = true := by kernel_rfl
@[simp] theorem tn_30 : tkind Tryz.prog 30 = some .i64 := by kernel_rfl
@[simp] theorem ti_32 : tinfo Tryz.prog 32 = true := by kernel_rfl
@[simp] theorem ts_32 : tsize Tryz.prog 32 = 1 := by kernel_rfl
@[simp] theorem tg_32 : tagg Tryz.prog 32 = false := by kernel_rfl
@[simp] theorem tz_32 : tzero Tryz.prog 32 = some (.nilFunc) := by kernel_rfl
@[simp] theorem tw_32 : tbytes Tryz.prog 32 = 8 := by kernel_rfl
@[simp] theorem tc_32 : tconc Tryz.prog 32 = true := by kernel_rfl
@[simp] theorem ti_33 : tinfo Tryz.prog 33 = true := by kernel_rfl
@[simp] theorem ts_33 : tsize Tryz.prog 33 = 1 := by kernel_rfl
@[simp] theorem tg_33 : tagg Tryz.prog 33 = false := by kernel_rfl
@[simp] theorem tz_33 : tzero Tryz.prog 33 = some (.int .u32 0) := by kernel_rfl
@[simp] theorem tw_33 : tbytes Tryz.prog 33 = 4 := by kernel_rfl
@[simp] theorem tc_33 : tconc Tryz.prog 33 = true := by kernel_rfl
@[simp] theorem tn_33 : tkind Tryz.prog 33 = some .u32 := by kernel_rfl
@[simp] theorem ti_47 : tinfo Tryz.prog 47 = true := by kernel_rfl
@[simp] theorem ts_47 : tsize Tryz.prog 47 = 7 := by kernel_rfl
@[simp] theorem tg_47 : tagg Tryz.prog 47 = true := by kernel_rfl
@[simp] theorem tz_47 : tzero Tryz.prog 47 = some (.agg #[(.int .i64 0), (.int .i64 0), (.bool false), (.slice none 0 0), (.string ⟨#[]⟩), (.slice none 0 0), (.int .i64 0)]) := by kernel_rfl
@[simp] theorem tw_47 : tbytes Tryz.prog 47 = 96 := by kernel_rfl
@[simp] theorem tc_47 : tconc Tryz.prog 47 = true := by kernel_rfl
@[simp] theorem tf_47_0 : tfield Tryz.prog 47 0 = some (0, 27) := by kernel_rfl
@[simp] theorem tf_47_1 : tfield Tryz.prog 47 1 = some (6, 30) := by kernel_rfl
@[simp] theorem tk_47 : tfok Tryz.prog 47 = true := by kernel_rfl
@[simp] theorem ti_48 : tinfo Tryz.prog 48 = true := by kernel_rfl
@[simp] theorem ts_48 : tsize Tryz.prog 48 = 7 := by kernel_rfl
@[simp] theorem tg_48 : tagg Tryz.prog 48 = true := by kernel_rfl
@[simp] theorem tz_48 : tzero Tryz.prog 48 = some (.agg #[(.int .i64 0), (.int .i64 0), (.bool false), (.slice none 0 0), (.string ⟨#[]⟩), (.slice none 0 0), (.int .i64 0)]) := by kernel_rfl
@[simp] theorem tw_48 : tbytes Tryz.prog 48 = 96 := by kernel_rfl
@[simp] theorem tc_48 : tconc Tryz.prog 48 = true := by kernel_rfl
@[simp] theorem tf_48_0 : tfield Tryz.prog 48 0 = some (0, 27) := by kernel_rfl
@[simp] theorem tf_48_1 : tfield Tryz.prog 48 1 = some (6, 30) := by kernel_rfl
@[simp] theorem tk_48 : tfok Tryz.prog 48 = true := by kernel_rfl
@[simp] theorem ti_57 : tinfo Tryz.prog 57 = true := by kernel_rfl
@[simp] theorem ts_57 : tsize Tryz.prog 57 = 1 := by kernel_rfl
@[simp] theorem tg_57 : tagg Tryz.prog 57 = false := by kernel_rfl
@[simp] theorem tz_57 : tzero Tryz.prog 57 = some (.slice none 0 0) := by kernel_rfl
@[simp] theorem tw_57 : tbytes Tryz.prog 57 = 24 := by kernel_rfl
@[simp] theorem tc_57 : tconc Tryz.prog 57 = true := by kernel_rfl
@[simp] theorem te_57 : telem Tryz.prog 57 = some 3 := by kernel_rfl
@[simp] theorem ti_65 : tinfo Tryz.prog 65 = true := by kernel_rfl
@[simp] theorem ts_65 : tsize Tryz.prog 65 = 2 := by kernel_rfl
@[simp] theorem tg_65 : tagg Tryz.prog 65 = true := by kernel_rfl
@[simp] theorem tz_65 : tzero Tryz.prog 65 = some (.agg #[(.int .i64 0), (.bool false)]) := by kernel_rfl
@[simp] theorem tw_65 : tbytes Tryz.prog 65 = 16 := by kernel_rfl
@[simp] theorem tc_65 : tconc Tryz.prog 65 = true := by kernel_rfl
@[simp] theorem tf_65_0 : tfield Tryz.prog 65 0 = some (0, 3) := by kernel_rfl
@[simp] theorem tf_65_1 : tfield Tryz.prog 65 1 = some (1, 4) := by kernel_rfl
@[simp] theorem tk_65 : tfok Tryz.prog 65 = true := by kernel_rfl
@[simp] theorem ti_66 : tinfo Tryz.prog 66 = true := by kernel_rfl
@[simp] theorem ts_66 : tsize Tryz.prog 66 = 2 := by kernel_rfl
@[simp] theorem tg_66 : tagg Tryz.prog 66 = true := by kernel_rfl
@[simp] theorem tz_66 : tzero Tryz.prog 66 = some (.agg #[(.int .i64 0), (.bool false)]) := by kernel_rfl
@[simp] theorem tw_66 : tbytes Tryz.prog 66 = 16 := by kernel_rfl
@[simp] theorem tc_66 : tconc Tryz.prog 66 = true := by kernel_rfl
@[simp] theorem tf_66_0 : tfield Tryz.prog 66 0 = some (0, 3) := by kernel_rfl
@[simp] theorem tf_66_1 : tfield Tryz.prog 66 1 = some (1, 4) := by kernel_rfl
@[simp] theorem tk_66 : tfok Tryz.prog 66 = true := by kernel_rfl
@[simp] theorem ti_70 : tinfo Tryz.prog 70 = true := by kernel_rfl
@[simp] theorem ts_70 : tsize Tryz.prog 70 = 2 := by kernel_rfl
@[simp] theorem tg_70 : tagg Tryz.prog 70 = true := by kernel_rfl
@[simp] theorem tz_70 : tzero Tryz.prog 70 = some (.agg #[(.bool false), (.int .i64 0)]) := by kernel_rfl
@[simp] theorem tw_70 : tbytes Tryz.prog 70 = 16 := by kernel_rfl
@[simp] theorem tc_70 : tconc Tryz.prog 70 = true := by kernel_rfl
@[simp] theorem tf_70_0 : tfield Tryz.prog 70 0 = some (0, 4) := by kernel_rfl
@[simp] theorem tf_70_1 : tfield Tryz.prog 70 1 = some (1, 30) := by kernel_rfl
@[simp] theorem tk_70 : tfok Tryz.prog 70 = true := by kernel_rfl
@[simp] theorem ti_71 : tinfo Tryz.prog 71 = true := by kernel_rfl
@[simp] theorem ts_71 : tsize Tryz.prog 71 = 2 := by kernel_rfl
@[simp] theorem tg_71 : tagg Tryz.prog 71 = true := by kernel_rfl
@[simp] theorem tz_71 : tzero Tryz.prog 71 = some (.agg #[(.bool false), (.int .i64 0)]) := by kernel_rfl
@[simp] theorem tw_71 : tbytes Tryz.prog 71 = 16 := by kernel_rfl
@[simp] theorem tc_71 : tconc Tryz.prog 71 = true := by kernel_rfl
@[simp] theorem tf_71_0 : tfield Tryz.prog 71 0 = some (0, 4) := by kernel_rfl
@[simp] theorem tf_71_1 : tfield Tryz.prog 71 1 = some (1, 30) := by kernel_rfl
@[simp] theorem tk_71 : tfok Tryz.prog 71 = true := by kernel_rfl
@[simp] theorem ti_74 : tinfo Tryz.prog 74 = true := by kernel_rfl
@[simp] theorem ts_74 : tsize Tryz.prog 74 = 1 := by kernel_rfl
@[simp] theorem tg_74 : tagg Tryz.prog 74 = false := by kernel_rfl
@[simp] theorem tz_74 : tzero Tryz.prog 74 = some (.slice none 0 0) := by kernel_rfl
@[simp] theorem tw_74 : tbytes Tryz.prog 74 = 24 := by kernel_rfl
@[simp] theorem tc_74 : tconc Tryz.prog 74 = true := by kernel_rfl
@[simp] theorem te_74 : telem Tryz.prog 74 = some 30 := by kernel_rfl
@[simp] theorem ti_80 : tinfo Tryz.prog 80 = true := by kernel_rfl
@[simp] theorem ts_80 : tsize Tryz.prog 80 = 1 := by kernel_rfl
@[simp] theorem tg_80 : tagg Tryz.prog 80 = false := by kernel_rfl
@[simp] theorem tz_80 : tzero Tryz.prog 80 = some (.pointer none) := by kernel_rfl
@[simp] theorem tw_80 : tbytes Tryz.prog 80 = 8 := by kernel_rfl
@[simp] theorem tc_80 : tconc Tryz.prog 80 = true := by kernel_rfl
@[simp] theorem ti_81 : tinfo Tryz.prog 81 = true := by kernel_rfl
@[simp] theorem ts_81 : tsize Tryz.prog 81 = 1 := by kernel_rfl
@[simp] theorem tg_81 : tagg Tryz.prog 81 = false := by kernel_rfl
@[simp] theorem tz_81 : tzero Tryz.prog 81 = some (.pointer none) := by kernel_rfl
@[simp] theorem tw_81 : tbytes Tryz.prog 81 = 8 := by kernel_rfl
@[simp] theorem tc_81 : tconc Tryz.prog 81 = true := by kernel_rfl
@[simp] theorem ti_82 : tinfo Tryz.prog 82 = true := by kernel_rfl
@[simp] theorem ts_82 : tsize Tryz.prog 82 = 2 := by kernel_rfl
@[simp] theorem tg_82 : tagg Tryz.prog 82 = true := by kernel_rfl
@[simp] theorem tz_82 : tzero Tryz.prog 82 = some (.agg #[(.int .i64 0), (.int .i64 0)]) := by kernel_rfl
@[simp] theorem tw_82 : tbytes Tryz.prog 82 = 16 := by kernel_rfl
@[simp] theorem tc_82 : tconc Tryz.prog 82 = true := by kernel_rfl
@[simp] theorem tf_82_0 : tfield Tryz.prog 82 0 = some (0, 3) := by kernel_rfl
@[simp] theorem tf_82_1 : tfield Tryz.prog 82 1 = some (1, 3) := by kernel_rfl
@[simp] theorem tk_82 : tfok Tryz.prog 82 = true := by kernel_rfl
@[simp] theorem ti_83 : tinfo Tryz.prog 83 = true := by kernel_rfl
@[simp] theorem ts_83 : tsize Tryz.prog 83 = 2 := by kernel_rfl
@[simp] theorem tg_83 : tagg Tryz.prog 83 = true := by kernel_rfl
@[simp] theorem tz_83 : tzero Tryz.prog 83 = some (.agg #[(.int .i64 0), (.int .i64 0)]) := by kernel_rfl
@[simp] theorem tw_83 : tbytes Tryz.prog 83 = 16 := by kernel_rfl
@[simp] theorem tc_83 : tconc Tryz.prog 83 = true := by kernel_rfl
@[simp] theorem tf_83_0 : tfield Tryz.prog 83 0 = some (0, 3) := by kernel_rfl
@[simp] theorem tf_83_1 : tfield Tryz.prog 83 1 = some (1, 3) := by kernel_rfl
@[simp] theorem tk_83 : tfok Tryz.prog 83 = true := by kernel_rfl
@[simp] theorem ti_84 : tinfo Tryz.prog 84 = true := by kernel_rfl
@[simp] theorem ts_84 : tsize Tryz.prog 84 = 3 := by kernel_rfl
@[simp] theorem tg_84 : tagg Tryz.prog 84 = true := by kernel_rfl
@[simp] theorem tz_84 : tzero Tryz.prog 84 = some (.agg #[(.int .i64 0), (.int .i64 0), (.int .i64 0)]) := by kernel_rfl
@[simp] theorem tw_84 : tbytes Tryz.prog 84 = 24 := by kernel_rfl
@[simp] theorem tc_84 : tconc Tryz.prog 84 = true := by kernel_rfl
@[simp] theorem tf_84_0 : tfield Tryz.prog 84 0 = some (0, 83) := by kernel_rfl
@[simp] theorem tf_84_1 : tfield Tryz.prog 84 1 = some (2, 3) := by kernel_rfl
@[simp] theorem tk_84 : tfok Tryz.prog 84 = true := by kernel_rfl
@[simp] theorem ti_85 : tinfo Tryz.prog 85 = true := by kernel_rfl
@[simp] theorem ts_85 : tsize Tryz.prog 85 = 3 := by kernel_rfl
@[simp] theorem tg_85 : tagg Tryz.prog 85 = true := by kernel_rfl
@[simp] theorem tz_85 : tzero Tryz.prog 85 = some (.agg #[(.int .i64 0), (.int .i64 0), (.int .i64 0)]) := by kernel_rfl
@[simp] theorem tw_85 : tbytes Tryz.prog 85 = 24 := by kernel_rfl
@[simp] theorem tc_85 : tconc Tryz.prog 85 = true := by kernel_rfl
@[simp] theorem tf_85_0 : tfield Tryz.prog 85 0 = some (0, 83) := by kernel_rfl
@[simp] theorem tf_85_1 : tfield Tryz.prog 85 1 = some (2, 3) := by kernel_rfl
@[simp] theorem tk_85 : tfok Tryz.prog 85 = true := by kernel_rfl
@[simp] theorem ti_87 : tinfo Tryz.prog 87 = true := by kernel_rfl
@[simp] theorem ts_87 : tsize Tryz.prog 87 = 2 := by kernel_rfl
@[simp] theorem tg_87 : tagg Tryz.prog 87 = true := by kernel_rfl
@[simp] theorem tz_87 : tzero Tryz.prog 87 = some (.agg #[(.int .i64 0), (.int .i64 0)]) := by kernel_rfl
@[simp] theorem tw_87 : tbytes Tryz.prog 87 = 16 := by kernel_rfl
@[simp] theorem tc_87 : tconc Tryz.prog 87 = true := by kernel_rfl
@[simp] theorem tf_87_0 : tfield Tryz.prog 87 0 = some (0, 3) := by kernel_rfl
@[simp] theorem tf_87_1 : tfield Tryz.prog 87 1 = some (1, 30) := by kernel_rfl
@[simp] theorem tk_87 : tfok Tryz.prog 87 = true := by kernel_rfl
@[simp] theorem ti_88 : tinfo Tryz.prog 88 = true := by kernel_rfl
@[simp] theorem ts_88 : tsize Tryz.prog 88 = 2 := by kernel_rfl
@[simp] theorem tg_88 : tagg Tryz.prog 88 = true := by kernel_rfl
@[simp] theorem tz_88 : tzero Tryz.prog 88 = some (.agg #[(.int .i64 0), (.int .i64 0)]) := by kernel_rfl
@[simp] theorem tw_88 : tbytes Tryz.prog 88 = 16 := by kernel_rfl
@[simp] theorem tc_88 : tconc Tryz.prog 88 = true := by kernel_rfl
@[simp] theorem tf_88_0 : tfield Tryz.prog 88 0 = some (0, 3) := by kernel_rfl
@[simp] theorem tf_88_1 : tfield Tryz.prog 88 1 = some (1, 30) := by kernel_rfl
@[simp] theorem tk_88 : tfok Tryz.prog 88 = true := by kernel_rfl
@[simp] theorem ti_92 : tinfo Tryz.prog 92 = true := by kernel_rfl
@[simp] theorem ts_92 : tsize Tryz.prog 92 = 9 := by kernel_rfl
@[simp] theorem tg_92 : tagg Tryz.prog 92 = true := by kernel_rfl
@[simp] theorem tz_92 : tzero Tryz.prog 92 = some (.agg #[.nilFunc, .nilFunc, .nilFunc, .nilFunc, .nilFunc, .nilFunc, .nilFunc, .nilFunc, .nilFunc]) := by kernel_rfl
@[simp] theorem tw_92 : tbytes Tryz.prog 92 = 72 := by kernel_rfl
@[simp] theorem tc_92 : tconc Tryz.prog 92 = true := by kernel_rfl
@[simp] theorem ta_92 : tarr Tryz.prog 92 = some (9, 91) := by kernel_rfl
@[simp] theorem ti_94 : tinfo Tryz.prog 94 = true := by kernel_rfl
@[simp] theorem ts_94 : tsize Tryz.prog 94 = 6 := by kernel_rfl
@[simp] theorem tg_94 : tagg Tryz.prog 94 = true := by kernel_rfl
@[simp] theorem tz_94 : tzero Tryz.prog 94 = some (.agg #[(.int .i64 0), (.int .i64 0), (.bool false), (.slice none 0 0), (.string ⟨#[]⟩), (.slice none 0 0)]) := by kernel_rfl
@[simp] theorem tw_94 : tbytes Tryz.prog 94 = 88 := by kernel_rfl
@[simp] theorem tc_94 : tconc Tryz.prog 94 = true := by kernel_rfl
@[simp] theorem tf_94_0 : tfield Tryz.prog 94 0 = some (0, 3) := by kernel_rfl
@[simp] theorem tf_94_1 : tfield Tryz.prog 94 1 = some (1, 3) := by kernel_rfl
@[simp] theorem tf_94_2 : tfield Tryz.prog 94 2 = some (2, 24) := by kernel_rfl
@[simp] theorem tf_94_3 : tfield Tryz.prog 94 3 = some (4, 9) := by kernel_rfl
@[simp] theorem tf_94_4 : tfield Tryz.prog 94 4 = some (5, 25) := by kernel_rfl
@[simp] theorem tk_94 : tfok Tryz.prog 94 = true := by kernel_rfl
@[simp] theorem ti_97 : tinfo Tryz.prog 97 = true := by kernel_rfl
@[simp] theorem ts_97 : tsize Tryz.prog 97 = 1 := by kernel_rfl
@[simp] theorem tg_97 : tagg Tryz.prog 97 = false := by kernel_rfl
@[simp] theorem tz_97 : tzero Tryz.prog 97 = some (.int .u64 0) := by kernel_rfl
@[simp] theorem tw_97 : tbytes Tryz.prog 97 = 8 := by kernel_rfl
@[simp] theorem tc_97 : tconc Tryz.prog 97 = true := by kernel_rfl
@[simp] theorem tn_97 : tkind Tryz.prog 97 = some .u64 := by kernel_rfl
@[simp] theorem ti_116 : tinfo Tryz.prog 116 = true := by kernel_rfl
@[simp] theorem ts_116 : tsize Tryz.prog 116 = 1 := by kernel_rfl
@[simp] theorem tg_116 : tagg Tryz.prog 116 = true := by kernel_rfl
@[simp] theorem tz_116 : tzero Tryz.prog 116 = some (.agg #[(.int .i64 0)]) := by kernel_rfl
@[simp] theorem tw_116 : tbytes Tryz.prog 116 = 8 := by kernel_rfl
@[simp] theorem tc_116 : tconc Tryz.prog 116 = true := by kernel_rfl
@[simp] theorem tf_116_0 : tfield Tryz.prog 116 0 = some (0, 30) := by kernel_rfl
@[simp] theorem tk_116 : tfok Tryz.prog 116 = true := by kernel_rfl
@[simp] theorem ti_117 : tinfo Tryz.prog 117 = true := by kernel_rfl
@[simp] theorem ts_117 : tsize Tryz.prog 117 = 1 := by kernel_rfl
@[simp] theorem tg_117 : tagg Tryz.prog 117 = true := by kernel_rfl
@[simp] theorem tz_117 : tzero Tryz.prog 117 = some (.agg #[(.int .i64 0)]) := by kernel_rfl
@[simp] theorem tw_117 : tbytes Tryz.prog 117 = 8 := by kernel_rfl
@[simp] theorem tc_117 : tconc Tryz.prog 117 = true := by kernel_rfl
@[simp] theorem tf_117_0 : tfield Tryz.prog 117 0 = some (0, 30) := by kernel_rfl
@[simp] theorem tk_117 : tfok Tryz.prog 117 = true := by kernel_rfl
@[simp] theorem ti_139 : tinfo Tryz.prog 139 = true := by kernel_rfl
@[simp] theorem ts_139 : tsize Tryz.prog 139 = 1 := by kernel_rfl
@[simp] theorem tg_139 : tagg Tryz.prog 139 = false := by kernel_rfl
@[simp] theorem tz_139 : tzero Tryz.prog 139 = some (.int .u64 0) := by kernel_rfl
@[simp] theorem tw_139 : tbytes Tryz.prog 139 = 8 := by kernel_rfl
@[simp] theorem tc_139 : tconc Tryz.prog 139 = true := by kernel_rfl
@[simp] theorem tn_139 : tkind Tryz.prog 139 = some .u64 := by kernel_rfl
@[simp] theorem ti_163 : tinfo Tryz.prog 163 = true := by kernel_rfl
@[simp] theorem ts_163 : tsize Tryz.prog 163 = 1 := by kernel_rfl
@[simp] theorem tg_163 : tagg Tryz.prog 163 = false := by kernel_rfl
@[simp] theorem tz_163 : tzero Tryz.prog 163 = some (.slice none 0 0) := by kernel_rfl
@[simp] theorem tw_163 : tbytes Tryz.prog 163 = 24 := by kernel_rfl
@[simp] theorem tc_163 : tconc Tryz.prog 163 = true := by kernel_rfl
@[simp] theorem te_163 : telem Tryz.prog 163 = some 33 := by kernel_rfl
@[simp] theorem ti_171 : tinfo Tryz.prog 171 = true := by kernel_rfl
@[simp] theorem ts_171 : tsize Tryz.prog 171 = 1 := by kernel_rfl
@[simp] theorem tg_171 : tagg Tryz.prog 171 = false := by kernel_rfl
@[simp] theorem tz_171 : tzero Tryz.prog 171 = some (.int .u64 0) := by kernel_rfl
@[simp] theorem tw_171 : tbytes Tryz.prog 171 = 8 := by kernel_rfl
@[simp] theorem tc_171 : tconc Tryz.prog 171 = true := by kernel_rfl
@[simp] theorem tn_171 : tkind Tryz.prog 171 = some .u64 := by kernel_rfl
@[simp] theorem ti_178 : tinfo Tryz.prog 178 = true := by kernel_rfl
@[simp] theorem ts_178 : tsize Tryz.prog 178 = 1 := by kernel_rfl
@[simp] theorem tg_178 : tagg Tryz.prog 178 = true := by kernel_rfl
@[simp] theorem tz_178 : tzero Tryz.prog 178 = some (.agg #[(.int .i64 0)]) := by kernel_rfl
@[simp] theorem tw_178 : tbytes Tryz.prog 178 = 8 := by kernel_rfl
@[simp] theorem tc_178 : tconc Tryz.prog 178 = true := by kernel_rfl
@[simp] theorem tf_178_0 : tfield Tryz.prog 178 0 = some (0, 30) := by kernel_rfl
@[simp] theorem tk_178 : tfok Tryz.prog 178 = true := by kernel_rfl
@[simp] theorem ti_179 : tinfo Tryz.prog 179 = true := by kernel_rfl
@[simp] theorem ts_179 : tsize Tryz.prog 179 = 1 := by kernel_rfl
@[simp] theorem tg_179 : tagg Tryz.prog 179 = true := by kernel_rfl
@[simp] theorem tz_179 : tzero Tryz.prog 179 = some (.agg #[(.int .i64 0)]) := by kernel_rfl
@[simp] theorem tw_179 : tbytes Tryz.prog 179 = 8 := by kernel_rfl
@[simp] theorem tc_179 : tconc Tryz.prog 179 = true := by kernel_rfl
@[simp] theorem tf_179_0 : tfield Tryz.prog 179 0 = some (0, 30) := by kernel_rfl
@[simp] theorem tk_179 : tfok Tryz.prog 179 = true := by kernel_rfl
@[simp] theorem ti_181 : tinfo Tryz.prog 181 = true := by kernel_rfl
@[simp] theorem ts_181 : tsize Tryz.prog 181 = 1 := by kernel_rfl
@[simp] theorem tg_181 : tagg Tryz.prog 181 = false := by kernel_rfl
@[simp] theorem tz_181 : tzero Tryz.prog 181 = some (.slice none 0 0) := by kernel_rfl
@[simp] theorem tw_181 : tbytes Tryz.prog 181 = 24 := by kernel_rfl
@[simp] theorem tc_181 : tconc Tryz.prog 181 = true := by kernel_rfl
@[simp] theorem te_181 : telem Tryz.prog 181 = some 24 := by kernel_rfl
end Go.Proofs.YtgfadepkiejncaaGreat
namespace Go.Proofs.YtgfadepkiejncaaGreat
open Go.Ab
inductive GV where
  | mk (kind n : Int) (neg : Bool) (abs : List Int) (str : ByteArray) (l : List GV)
  deriving Inhabited
abbrev vI (n : Int) : PV := .v (.int .i64 n)
abbrev vE (n : Int) : PV := .v (.int .i64 n)
abbrev vW (n : Int) : PV := .v (.int .u32 n)
abbrev vQ (n : Int) : PV := .v (.int .u64 n)
abbrev vB (b : Bool) : PV := .v (.bool b)
abbrev vS (s : ByteArray) : PV := .v (.string s)
def limbs (l : List Int) : List (List PV) := l.map fun x => [vW x]
def ints (l : List Int) : List (List PV) := l.map fun x => [vI x]
mutual
def GV.cells : GV → List PV
  | .mk k n neg abs s l => [vI k, vI n, vB neg, .list .no (limbs abs), vS s, .list .no (GV.rows l)]
def GV.rows : List GV → List (List PV)
  | [] => []
  | v :: l => v.cells :: GV.rows l
end
theorem GV.rows_eq : ∀ l, GV.rows l = l.map GV.cells
  | [] => rfl
  | v :: l => by rw [GV.rows, GV.rows_eq l]; rfl
namespace GV
def kind : GV → Int | mk k _ _ _ _ _ => k
def num : GV → Int | mk _ n _ _ _ _ => n
def neg : GV → Bool | mk _ _ b _ _ _ => b
def abs : GV → List Int | mk _ _ _ a _ _ => a
def str : GV → ByteArray | mk _ _ _ _ s _ => s
def els : GV → List GV | mk _ _ _ _ _ l => l
end GV
abbrev GV.pv (v : GV) : PV := .agg v.cells
abbrev GV.pvs (l : List GV) : PV := .list .no (GV.rows l)
theorem cells_eq (v : GV) : v.cells = [vI v.kind, vI v.num, vB v.neg, .list .no (limbs v.abs), vS v.str, .list .no (GV.rows v.els)] := by
  cases v; simp [GV.cells, GV.kind, GV.num, GV.neg, GV.abs, GV.str, GV.els]
@[simp] theorem cells_len (v : GV) : v.cells.length = 6 := by cases v; simp [GV.cells]
@[simp] theorem rows_len (l : List GV) : (GV.rows l).length = l.length := by rw [GV.rows_eq]; simp
@[simp] theorem limbs_len (l : List Int) : (limbs l).length = l.length := by simp [limbs]
@[simp] theorem ints_len (l : List Int) : (ints l).length = l.length := by simp [ints]
@[simp] theorem rows_w (l : List GV) : RowsW 6 (GV.rows l) := by
  intro r hr; rw [GV.rows_eq] at hr; obtain ⟨v, _, rfl⟩ := List.mem_map.1 hr; exact cells_len v
@[simp] theorem limbs_w (l : List Int) : RowsW 1 (limbs l) := by
  intro r hr; obtain ⟨v, _, rfl⟩ := List.mem_map.1 hr; rfl
@[simp] theorem ints_w (l : List Int) : RowsW 1 (ints l) := by
  intro r hr; obtain ⟨v, _, rfl⟩ := List.mem_map.1 hr; rfl
@[simp] theorem limbs_strip (l : List Int) : PV.stripR (limbs l) = limbs l := by
  induction l with
  | nil => rfl
  | cons x l ih => simp only [limbs, List.map_cons, PV.stripR, PV.stripL, PV.strip] at ih ⊢; rw [ih]
@[simp] theorem ints_strip (l : List Int) : PV.stripR (ints l) = ints l := by
  induction l with
  | nil => rfl
  | cons x l ih => simp only [ints, List.map_cons, PV.stripR, PV.stripL, PV.strip] at ih ⊢; rw [ih]
mutual
theorem cells_strip : ∀ v : GV, PV.stripL v.cells = v.cells
  | .mk k n neg abs s l => by simp [GV.cells, PV.stripL, PV.strip, rows_strip l]
theorem rows_strip : ∀ l : List GV, PV.stripR (GV.rows l) = GV.rows l
  | [] => rfl
  | v :: l => by simp [GV.rows, PV.stripR, cells_strip v, rows_strip l]
end
attribute [simp] cells_strip rows_strip
theorem limbs_sc (a b : Nat) (l : List Int) : PV.scR a b (limbs l) := by
  induction l with
  | nil => trivial
  | cons x l ih => exact ⟨⟨trivial, trivial⟩, ih⟩
theorem ints_sc (a b : Nat) (l : List Int) : PV.scR a b (ints l) := by
  induction l with
  | nil => trivial
  | cons x l ih => exact ⟨⟨trivial, trivial⟩, ih⟩
mutual
theorem cells_sc (a b : Nat) : ∀ v : GV, PV.scL a b v.cells
  | .mk k n neg abs s l => by simp [GV.cells, PV.scL, PV.sc, limbs_sc, rows_sc a b l]
theorem rows_sc (a b : Nat) : ∀ l : List GV, PV.scR a b (GV.rows l)
  | [] => trivial
  | v :: l => ⟨cells_sc a b v, rows_sc a b l⟩
end
attribute [simp] cells_sc rows_sc limbs_sc ints_sc
@[simp] theorem cells_cell1 (v : GV) : v.cells.all cell1 = true := by cases v; simp [GV.cells, cell1, Value.oneCell']
@[simp] theorem cells1_pv (v : GV) : cells1 v.pv = some v.cells := by
  show (if v.cells.all cell1 then some v.cells else none) = _
  rw [cells_cell1]; rfl
@[simp] theorem cells_g0 (v : GV) : v.cells[0]? = some (vI v.kind) := by cases v; rfl
@[simp] theorem cells_g1 (v : GV) : v.cells[1]? = some (vI v.num) := by cases v; rfl
@[simp] theorem cells_g2 (v : GV) : v.cells[2]? = some (vB v.neg) := by cases v; rfl
@[simp] theorem cells_g3 (v : GV) : v.cells[3]? = some (.list .no (limbs v.abs)) := by cases v; rfl
@[simp] theorem cells_g4 (v : GV) : v.cells[4]? = some (vS v.str) := by cases v; rfl
@[simp] theorem cells_g5 (v : GV) : v.cells[5]? = some (GV.pvs v.els) := by cases v; rfl
@[simp] theorem cells_e0 (v : GV) (h : 0 < v.cells.length) : v.cells[0] = vI v.kind := by cases v; rfl
@[simp] theorem cells_e1 (v : GV) (h : 1 < v.cells.length) : v.cells[1] = vI v.num := by cases v; rfl
@[simp] theorem cells_e2 (v : GV) (h : 2 < v.cells.length) : v.cells[2] = vB v.neg := by cases v; rfl
@[simp] theorem cells_e3 (v : GV) (h : 3 < v.cells.length) : v.cells[3] = .list .no (limbs v.abs) := by cases v; rfl
@[simp] theorem cells_e4 (v : GV) (h : 4 < v.cells.length) : v.cells[4] = vS v.str := by cases v; rfl
@[simp] theorem cells_e5 (v : GV) (h : 5 < v.cells.length) : v.cells[5] = GV.pvs v.els := by cases v; rfl
@[simp] theorem cells_t6 (v : GV) : v.cells.take 6 = v.cells := List.take_of_length_le (by simp)
@[simp] theorem cells_d1 (v : GV) : v.cells.drop 1 = [vI v.num, vB v.neg, .list .no (limbs v.abs), vS v.str, GV.pvs v.els] := by cases v; rfl
@[simp] theorem cells_d2 (v : GV) : v.cells.drop 2 = [vB v.neg, .list .no (limbs v.abs), vS v.str, GV.pvs v.els] := by cases v; rfl
@[simp] theorem cells_d3 (v : GV) : v.cells.drop 3 = [.list .no (limbs v.abs), vS v.str, GV.pvs v.els] := by cases v; rfl
@[simp] theorem cells_d4 (v : GV) : v.cells.drop 4 = [vS v.str, GV.pvs v.els] := by cases v; rfl
@[simp] theorem cells_d5 (v : GV) : v.cells.drop 5 = [GV.pvs v.els] := by cases v; rfl
theorem rows_getD (l : List GV) (i : Nat) (h : i < l.length) : rowI (GV.rows l) i = (l[i]).cells := by
  rw [GV.rows_eq]; simp [rowI, List.getD, h]
theorem limbs_getD (l : List Int) (i : Nat) (h : i < l.length) : rowI (limbs l) i = [vW l[i]] := by
  simp [rowI, limbs, List.getD, h]
theorem ints_getD (l : List Int) (i : Nat) (h : i < l.length) : rowI (ints l) i = [vI l[i]] := by
  simp [rowI, ints, List.getD, h]
@[simp] theorem setL_cells (a b c d e f : PV) (v : GV) : setL [a, b, c, d, e, f] 0 v.cells = v.cells := by cases v; rfl
theorem cells1_rows : ∀ l : List GV, Cells1 6 (l.map GV.pv) (GV.rows l)
  | [] => .nil
  | v :: l => .cons (cells1_pv v) (cells_len v) (cells1_rows l)
theorem bs25 (l : List GV) (m : St) (K : PV → St → Prop) (hl : l.length * 6 ≤ 16777216) : abuildSlice Tryz.prog 25 (l.map GV.pv).length (partsFrom 0 (l.map GV.pv)) m K ↔ K (.list .full (GV.rows l)) m := by
  rw [abuildSlice_all (s := 6) (e := 27) (z := .agg #[.int .i64 0, .int .i64 0, .bool false, .slice none 0 0, .string ⟨#[]⟩, .slice none 0 0]) (by simp) (by simp) (by simp) (by decide) (by decide) (by simp) (by simpa using hl) (cells1_rows l)]
  have : (GV.rows l).map PV.stripL = GV.rows l := by rw [GV.rows_eq]; simp
  rw [this]
@[simp] theorem bs25_0 (m : St) (K : PV → St → Prop) : abuildSlice Tryz.prog 25 0 [] m K ↔ K (.list .full []) m := bs25 [] m K (by simp)
@[simp] theorem bs25_1 (a : GV) (m : St) (K : PV → St → Prop) : abuildSlice Tryz.prog 25 1 [(0, .agg a.cells)] m K ↔ K (.list .full [a.cells]) m := bs25 [a] m K (by simp)
@[simp] theorem bs25_2 (a b : GV) (m : St) (K : PV → St → Prop) : abuildSlice Tryz.prog 25 2 [(0, .agg a.cells), (1, .agg b.cells)] m K ↔ K (.list .full [a.cells, b.cells]) m := bs25 [a, b] m K (by simp)
@[simp] theorem bs25_3 (a b c : GV) (m : St) (K : PV → St → Prop) : abuildSlice Tryz.prog 25 3 [(0, .agg a.cells), (1, .agg b.cells), (2, .agg c.cells)] m K ↔ K (.list .full [a.cells, b.cells, c.cells]) m := bs25 [a, b, c] m K (by simp)
@[simp] theorem bs25_4 (a b c d : GV) (m : St) (K : PV → St → Prop) : abuildSlice Tryz.prog 25 4 [(0, .agg a.cells), (1, .agg b.cells), (2, .agg c.cells), (3, .agg d.cells)] m K ↔ K (.list .full [a.cells, b.cells, c.cells, d.cells]) m := bs25 [a, b, c, d] m K (by simp)
theorem cells1_limbs : ∀ l : List Int, Cells1 1 (l.map (fun x => vW x)) (limbs l)
  | [] => .nil
  | x :: l => .cons rfl rfl (cells1_limbs l)
theorem bs22 (l : List Int) (m : St) (K : PV → St → Prop) (hl : l.length ≤ 16777216) : abuildSlice Tryz.prog 22 (l.map (fun x => vW x)).length (partsFrom 0 (l.map (fun x => vW x))) m K ↔ K (.list .full (limbs l)) m := by
  rw [abuildSlice_all (s := 1) (e := 33) (z := .int .u32 0) (by simp) (by simp) (by simp) (by decide) (by decide) (by simp) (by simpa using hl) (cells1_limbs l)]
  have : (limbs l).map PV.stripL = limbs l := by simp [limbs, PV.stripL, PV.strip]
  rw [this]
@[simp] theorem bs22_0 (m : St) (K : PV → St → Prop) : abuildSlice Tryz.prog 22 0 [] m K ↔ K (.list .full []) m := bs22 [] m K (by simp)
@[simp] theorem bs22_1 (a : Int) (m : St) (K : PV → St → Prop) : abuildSlice Tryz.prog 22 1 [(0, .v (.int .u32 a))] m K ↔ K (.list .full [[vW a]]) m := bs22 [a] m K (by simp)
theorem rows_append (a b : List GV) : GV.rows (a ++ b) = GV.rows a ++ GV.rows b := by simp [GV.rows_eq]
theorem limbs_append (a b : List Int) : limbs (a ++ b) = limbs a ++ limbs b := by simp [limbs]
theorem app25 {m0 m : St} {o o2 : Ab.Own} {l l' : List GV} {n : Nat} {K : PV → St → Prop} (ho : Ow m0 m o 6 n) (hn : n = l.length) (hb : l.length + l'.length ≤ 1099511627776) (k : ∀ o' m', Ow m0 m' o' 6 (n + l'.length) → LocSame m m' → K (.list o' (GV.rows (l ++ l'))) m') :
    aappend Tryz.prog [25, 25] (.list o (GV.rows l)) (.list o2 (GV.rows l')) m K := by
  subst hn
  refine aappend_ow (m0 := m0) (s := 6) (e := 27) (by simp) (by simp) (by simp) (by simp) (by omega) (rows_w l) (rows_w l') (by simp; omega) (by simp; omega) (by simpa using ho) fun o' m' h hs => ?_
  rw [rows_strip, ← rows_append]
  exact k o' m' (by simpa using h) hs
theorem app22 {m0 m : St} {o o2 : Ab.Own} {l l' : List Int} {n : Nat} {K : PV → St → Prop} (ho : Ow m0 m o 1 n) (hn : n = l.length) (hb : l.length + l'.length ≤ 1099511627776) (k : ∀ o' m', Ow m0 m' o' 1 (n + l'.length) → LocSame m m' → K (.list o' (limbs (l ++ l'))) m') :
    aappend Tryz.prog [22, 22] (.list o (limbs l)) (.list o2 (limbs l')) m K := by
  subst hn
  refine aappend_ow (m0 := m0) (s := 1) (e := 33) (by simp) (by simp) (by simp) (by simp) (by omega) (limbs_w l) (limbs_w l') (by simp; omega) (by simp; omega) (by simpa using ho) fun o' m' h hs => ?_
  rw [limbs_strip, ← limbs_append]
  exact k o' m' (by simpa using h) hs
mutual
def GV.ok : GV → Prop
  | .mk k n _ abs s l => (-9223372036854775808 ≤ k ∧ k < 9223372036854775808) ∧ (-9223372036854775808 ≤ n ∧ n < 9223372036854775808) ∧ abs.length < 1152921504606846976 ∧ s.size < 1152921504606846976 ∧ l.length < 1152921504606846976 ∧
      (∀ x ∈ abs, 0 ≤ x ∧ x < 4294967296) ∧ GV.okL l
def GV.okL : List GV → Prop
  | [] => True
  | v :: l => v.ok ∧ GV.okL l
end
theorem okL_get : ∀ (l : List GV) (i : Nat) (h : i < l.length), GV.okL l → (l[i]).ok
  | v :: l, 0, _, h => h.1
  | v :: l, i + 1, hi, h => okL_get l i (by simpa using hi) h.2
theorem GV.ok.els {v : GV} (h : v.ok) : GV.okL v.els := by cases v; exact h.2.2.2.2.2.2
theorem GV.ok.el {v : GV} (h : v.ok) (i : Nat) (hi : i < v.els.length) : (v.els[i]).ok := okL_get _ _ _ h.els
theorem GV.ok.kind {v : GV} (h : v.ok) : -9223372036854775808 ≤ v.kind ∧ v.kind < 9223372036854775808 := by cases v; exact h.1
theorem GV.ok.num {v : GV} (h : v.ok) : -9223372036854775808 ≤ v.num ∧ v.num < 9223372036854775808 := by cases v; exact h.2.1
theorem GV.ok.abs {v : GV} (h : v.ok) : v.abs.length < 1152921504606846976 := by cases v; exact h.2.2.1
theorem GV.ok.str {v : GV} (h : v.ok) : v.str.size < 1152921504606846976 := by cases v; exact h.2.2.2.1
theorem GV.ok.len {v : GV} (h : v.ok) : v.els.length < 1152921504606846976 := by cases v; exact h.2.2.2.2.1
theorem GV.ok.limb {v : GV} (h : v.ok) : ∀ x ∈ v.abs, 0 ≤ x ∧ x < 4294967296 := by cases v; exact h.2.2.2.2.2.1
mutual
def nodes : GV → Nat
  | .mk _ _ _ _ _ l => 1 + nodesL l
def nodesL : List GV → Nat
  | [] => 0
  | v :: l => nodes v + nodesL l
end
theorem nodesL_take (l : List GV) (i : Nat) (h : i < l.length) : nodesL (l.take (i + 1)) = nodesL (l.take i) + nodes l[i] := by
  induction l generalizing i with
  | nil => simp at h
  | cons v l ih =>
    cases i with
    | zero => simp [nodesL]
    | succ i => simp [nodesL, ih i (by simpa using h)]; omega
theorem nodesL_take_le (l : List GV) (i : Nat) : nodesL (l.take i) ≤ nodesL l := by
  induction l generalizing i with
  | nil => simp [nodesL]
  | cons v l ih =>
    cases i with
    | zero => simp [nodesL]
    | succ i => have := ih i; simp [nodesL]; omega
theorem nodes_eq (v : GV) : nodes v = 1 + nodesL v.els := by cases v; simp [nodes, GV.els]
theorem nodesL_len (l : List GV) : l.length ≤ nodesL l := by
  induction l with
  | nil => simp
  | cons v l ih => have := nodes_eq v; simp [nodesL]; omega
theorem nodes_get (l : List GV) (i : Nat) (h : i < l.length) : nodes l[i] ≤ nodesL l := by
  have := nodesL_take l i h; have := nodesL_take_le l (i + 1); omega
@[simp] theorem nat_beq (a b : Nat) : (a == b) = decide (a = b) := by
  by_cases h : a = b <;> simp [h]
end Go.Proofs.YtgfadepkiejncaaGreat
namespace Go.Ab
open Go.RowKit
section
variable {H : Type} {enc : TypeId × Value → H} {P : Program} {W : World}
def argCtx (W : World) : Ctx := { x := ⟨fun _ => False, fun _ => False, W.heap.size, none, []⟩, base := W.heap.size, nloc := 0, loc := fun _ => 0, imm := fun b _ => b < W.heap.size, ntok := 0, tok := fun _ => 0, top := fun _ => 0, cp := fun _ => 0, wd := fun _ => 0 }
theorem argMem (W : World) : MemSim (argCtx W) St.empty W := by
  refine ⟨rfl, rfl, fun k hk => absurd hk (Nat.not_lt_zero _), fun n cs hn => absurd hn (Nat.not_lt_zero _), fun n cs hn => absurd hn (Nat.not_lt_zero _), fun n n' cs cs' hn => absurd hn (Nat.not_lt_zero _), fun b o h => h, Nat.le_refl _,
    fun k hk => absurd hk (Nat.not_lt_zero _), fun k hk => absurd hk (Nat.not_lt_zero _), fun k k' hk => absurd hk (Nat.not_lt_zero _), fun k n cs hk => absurd hk (Nat.not_lt_zero _), fun k cs hk => absurd hk (Nat.not_lt_zero _), ⟨fun n L hn => absurd hn (Nat.not_lt_zero _), fun n n' L L' hn => absurd hn (Nat.not_lt_zero _)⟩, ⟨fun n L hn => absurd hn (Nat.not_lt_zero _), fun n n' L L' hn => absurd hn (Nat.not_lt_zero _)⟩,
    ⟨fun D hD => hD.elim, fun l hl => hl.elim, (fun l hl => by cases hl), Nat.le_refl _⟩⟩
theorem cell_at {a : Addr} {n j : Nat} {u : Value} (h : W.cell? ((a.add n).add j) = some u) : cellAt W a.block (a.off + n + j) = some u ∧ a.block < W.heap.size := by
  have hs := World.cell?_spot h
  have hb : ((a.add n).add j).block = a.block ∧ ((a.add n).add j).off = a.off + n + j := by
    unfold Addr.add
    by_cases h1 : n = 0 <;> by_cases h2 : j = 0 <;> simp [h1, h2]
  have e : (a.add n).add j = ⟨a.block, a.off + n + j, none⟩ := by
    rw [← hb.1, ← hb.2, ← hs]
  rw [e] at h
  refine ⟨h, ?_⟩
  unfold World.cell? at h
  simp only at h
  rcases Nat.lt_or_ge a.block W.heap.size with q | q
  · exact q
  · rw [Array.getElem?_eq_none q] at h; cases h
theorem rows_build {T : Type} {rep : T → List PV} {ok : T → Prop} {s : Nat} {a : Addr} (hl : ∀ x, (rep x).length = s) : ∀ len : Nat,
    (∀ i, i < len → ∃ x us, ok x ∧ LRep (argCtx W) W (rep x) us ∧ (∀ u ∈ us, u.oneCell' = true) ∧ ∀ (j : Nat) (u : Value), us[j]? = some u → W.cell? ((a.add (i * s)).add j) = some u) →
    ∃ xs : List T, xs.length = len ∧ SRep (argCtx W) W (xs.map rep) a.block a.off ∧ ∀ x ∈ xs, ok x
  | 0, _ => ⟨[], rfl, trivial, fun x hx => by cases hx⟩
  | len + 1, h => by
    obtain ⟨xs, h1, h2, h3⟩ := rows_build hl len (fun i hi => h i (by omega))
    obtain ⟨x, us, h4, h5, h6, h7⟩ := h len (by omega)
    refine ⟨xs ++ [x], by simp [h1], ?_, fun y hy => ?_⟩
    · rw [List.map_append, List.map_cons, List.map_nil]
      refine (SRep.flat _ _ _).2 ?_
      rw [List.flatten_append]
      have hfl : (xs.map rep).flatten.length = len * s := by
        rw [RowsW.flat (s := s) (fun r hr => by obtain ⟨y, _, rfl⟩ := List.mem_map.1 hr; exact hl y), List.length_map, h1]
      refine CRep.append _ _ _ _ ((SRep.flat _ _ _).1 h2) ?_
      rw [hfl]
      simp only [List.flatten_cons, List.flatten_nil, List.append_nil]
      refine CRep.mk (rep x) us _ _ h5 fun i u hi => ?_
      have hc := h7 i u hi
      obtain ⟨k1, k2⟩ := cell_at hc
      exact ⟨k1, h6 u (List.mem_of_getElem? hi), k2⟩
    · rcases List.mem_append.1 hy with hy | hy
      · exact h3 y hy
      · simp at hy; subst hy; exact h4
theorem weightsAll_mem {e : TypeId} : ∀ (l : List (DataW H)) (d : DataW H), d ∈ l → ∀ n ∈ d.weights P e, n ∈ DataW.weightsAll P e l
  | x :: l, d, hd, n, hn => by
    simp only [DataW.weightsAll, List.mem_append]
    rcases List.mem_cons.1 hd with rfl | hd
    · exact .inl hn
    · exact .inr (weightsAll_mem l d hd n hn)
theorem slice_build {T : Type} {rep : T → List PV} {ok : T → Prop} {s t e fuel : Nat} {cs : List Value} {d : DataW H} {ps : List MemPlace} (ht : P.underlying t = some (.slice e)) (hse : P.cellsOf e = s) (hl : ∀ x, (rep x).length = s) (hs0 : 0 < s)
    (elem : ∀ us d ps, us.length = s → DataW.trod enc P W 0 (fun _ => true) true fuel e us = some (d, ps) → (∀ n ∈ d.weights P e, n ≤ reachBytes) → ∃ x, ok x ∧ LRep (argCtx W) W (rep x) us ∧ ∀ u ∈ us, u.oneCell' = true)
    (h : DataW.trod enc P W 0 (fun _ => true) true (fuel + 1) t cs = some (d, ps)) (hw : ∀ n ∈ d.weights P t, n ≤ reachBytes) :
    ∃ (xs : List T) (u : Value), cs = [u] ∧ VRep (argCtx W) W (.list .no (xs.map rep)) u ∧ u.oneCell' = true ∧ (∀ x ∈ xs, ok x) ∧ xs.length * P.bytesOf e ≤ reachBytes := by
  simp only [DataW.trod, ht] at h
  split at h
  all_goals first | (cases h; done) | skip
  · rename_i hq; cases hq
  · rename_i hq; cases hq
  · rename_i hq; cases hq
  · rename_i hq; cases hq
  · rename_i hq; cases hq
  · rename_i hq; cases hq
  · exact ⟨[], _, rfl, ⟨none, 0, rfl, Nat.le_refl _, fun _ => rfl, (fun ad q => by cases q), trivial⟩, rfl, (fun x hx => by cases hx), by simp⟩
  · rename_i e' a len cap e1
    cases e1
    split at h
    · rename_i hq
      obtain ⟨_, hlc, hcm⟩ := hq
      cases hm : (List.range len).mapM (fun i => (W.cells? 0 (a.add (i * P.cellsOf e)) (P.cellsOf e)).bind (DataW.trod enc P W 0 (fun _ => true) true fuel e)) with
      | none => rw [hm] at h; simp at h
      | some elems =>
        rw [hm] at h
        simp only [Option.bind_some, if_true] at h
        cases hm2 : (List.range (cap - len)).mapM (fun j => (W.cells? 0 (a.add ((len + j) * P.cellsOf e)) (P.cellsOf e)).bind (DataW.trod enc P W 0 (fun _ => true) true fuel e)) with
        | none => rw [hm2] at h; simp at h
        | some rest =>
          rw [hm2] at h
          simp only [Option.map_some, Option.some.injEq, Prod.mk.injEq] at h
          obtain ⟨rfl, rfl⟩ := h
          have hlen : elems.length = len := by rw [mapM_some_length hm]; simp
          have hw' : (elems.length + rest.length) * P.bytesOf e ≤ reachBytes := by
            have := hw ((elems.length + rest.length) * P.bytesOf e) (by simp [DataW.weights, ht])
            exact this
          have cellsr : ∀ n us, W.cells? 0 (a.add n) (P.cellsOf e) = some us → us.length = s ∧ ∀ (j : Nat) (u : Value), us[j]? = some u → W.cell? ((a.add n).add j) = some u := by
            intro n us hc
            unfold World.cells? at hc
            simp only [Nat.zero_le, if_true] at hc
            have hl2 := mapM_some_length hc
            refine ⟨by rw [hl2]; simp [hse], fun j u hj => ?_⟩
            have hlt := (List.getElem?_eq_some_iff.1 hj).1
            have := mapM_some_get hc j j (by rw [List.getElem?_range (by rw [hl2] at hlt; simpa using hlt)])
            rw [this]; exact hj
          have key : ∀ i, i < len → ∃ x us, ok x ∧ LRep (argCtx W) W (rep x) us ∧ (∀ u ∈ us, u.oneCell' = true) ∧ ∀ (j : Nat) (u : Value), us[j]? = some u → W.cell? ((a.add (i * s)).add j) = some u := by
            intro i hi
            have hg := mapM_some_get hm i i (by rw [List.getElem?_range hi])
            cases hc : W.cells? 0 (a.add (i * P.cellsOf e)) (P.cellsOf e) with
            | none => rw [hc] at hg; simp at hg; omega
            | some us =>
              rw [hc] at hg
              simp only [Option.bind_some] at hg
              obtain ⟨k1, k2⟩ := cellsr _ _ hc
              rw [List.getElem?_eq_getElem (by omega)] at hg
              obtain ⟨x, x1, x2, x3⟩ := elem us _ _ k1 (hg.trans rfl) (fun n hn => hw n (by
                simp only [DataW.weights, ht, List.mem_cons, List.mem_append]
                refine .inr (.inl (weightsAll_mem _ _ ?_ n hn))
                exact List.mem_map.2 ⟨_, List.getElem_mem (by omega), rfl⟩))
              exact ⟨x, us, x1, x2, x3, by rw [hse] at k2; exact k2⟩
          obtain ⟨xs, x1, x2, x3⟩ := rows_build hl len key
          refine ⟨xs, _, rfl, ⟨some a, cap, by rw [List.length_map, x1], by rw [List.length_map, x1]; exact hlc, (fun q => by cases q), (fun ad q => ?_), trivial⟩, rfl, x3, ?_⟩
          · cases q
            refine ⟨?_, x2⟩
            by_cases hc0 : cap = 0
            · exact .inl hc0
            · right
              have : ∃ us, W.cells? 0 (a.add 0) (P.cellsOf e) = some us := by
                by_cases hl0 : 0 < len
                · have hg := mapM_some_get hm 0 0 (by rw [List.getElem?_range hl0])
                  cases hc : W.cells? 0 (a.add (0 * P.cellsOf e)) (P.cellsOf e) with
                  | none => rw [hc] at hg; simp at hg; subst hg; simp at hlen; omega
                  | some us => exact ⟨us, by simpa using hc⟩
                · have hl0 : len = 0 := by omega
                  subst hl0
                  have hg := mapM_some_get hm2 0 0 (by rw [List.getElem?_range (by omega)])
                  have hrl := mapM_some_length hm2
                  simp only [List.length_range] at hrl
                  cases hc : W.cells? 0 (a.add ((0 + 0) * P.cellsOf e)) (P.cellsOf e) with
                  | none => rw [hc] at hg; simp at hg; subst hg; simp at hrl; omega
                  | some us => exact ⟨us, by simpa using hc⟩
              obtain ⟨us, hus⟩ := this
              obtain ⟨k1, k2⟩ := cellsr _ _ hus
              have := k2 0 (us[0]'(by omega)) (by rw [List.getElem?_eq_getElem])
              have h3 := World.cell?_spot this
              simpa [Addr.add] using h3
          · rw [x1, ← hlen]
            exact Nat.le_trans (Nat.mul_le_mul_right _ (Nat.le_add_right _ _)) hw'
    · cases h
  all_goals (rename_i hq; cases hq)
end
end Go.Ab
namespace Go.Proofs.YtgfadepkiejncaaGreat
open Go.Ab
set_option maxHeartbeats 0
set_option maxRecDepth 100000
section
variable {H : Type} {enc : TypeId × Value → H} {W : World}
theorem und27 : Tryz.prog.underlying 27 = some (.struct #[{ name := "Kind", type := 3, offset := 0, embedded := false, tag := "", pkgPath := "", byteOffset := 0 }, { name := "N", type := 3, offset := 1, embedded := false, tag := "", pkgPath := "", byteOffset := 8 },
  { name := "Int", type := 24, offset := 2, embedded := false, tag := "", pkgPath := "", byteOffset := 16 }, { name := "Str", type := 9, offset := 4, embedded := false, tag := "", pkgPath := "", byteOffset := 48 }, { name := "L", type := 25, offset := 5, embedded := false, tag := "", pkgPath := "", byteOffset := 64 }]) := by kernel_rfl
theorem und24 : Tryz.prog.underlying 24 = some (.struct #[{ name := "Neg", type := 4, offset := 0, embedded := false, tag := "", pkgPath := "", byteOffset := 0 }, { name := "Abs", type := 22, offset := 1, embedded := false, tag := "", pkgPath := "", byteOffset := 8 }]) := by kernel_rfl
theorem und25 : Tryz.prog.underlying 25 = some (.slice 27) := by kernel_rfl
theorem und22 : Tryz.prog.underlying 22 = some (.slice 33) := by kernel_rfl
theorem und33 : Tryz.prog.underlying 33 = some (.int .u32) := by kernel_rfl
theorem und3 : Tryz.prog.underlying 3 = some (.int .i64) := by kernel_rfl
theorem und4 : Tryz.prog.underlying 4 = some .bool := by kernel_rfl
theorem und9 : Tryz.prog.underlying 9 = some .string := by kernel_rfl
theorem co27 : Tryz.prog.cellsOf 27 = 6 := by kernel_rfl
theorem co24 : Tryz.prog.cellsOf 24 = 2 := by kernel_rfl
theorem co25 : Tryz.prog.cellsOf 25 = 1 := by kernel_rfl
theorem co22 : Tryz.prog.cellsOf 22 = 1 := by kernel_rfl
theorem co33 : Tryz.prog.cellsOf 33 = 1 := by kernel_rfl
theorem co3 : Tryz.prog.cellsOf 3 = 1 := by kernel_rfl
theorem co4 : Tryz.prog.cellsOf 4 = 1 := by kernel_rfl
theorem co9 : Tryz.prog.cellsOf 9 = 1 := by kernel_rfl
theorem bo27 : Tryz.prog.bytesOf 27 = 88 := by kernel_rfl
theorem bo33 : Tryz.prog.bytesOf 33 = 4 := by kernel_rfl
theorem trod_int {P : Program} {t fuel : Nat} {k : IntKind} {cs : List Value} {d : DataW H} {ps : List MemPlace} (ht : P.underlying t = some (.int k)) (h : DataW.trod enc P W 0 (fun _ => true) true fuel t cs = some (d, ps)) : ∃ n, cs = [.int k n] ∧ (Lit.int k n).wf = true := by
  cases fuel with
  | zero => cases h
  | succ fuel =>
    simp only [DataW.trod, ht] at h
    split at h
    all_goals first | (cases h; done) | skip
    · rename_i hq; cases hq
    · rename_i k' k2 n hq
      cases hq
      split at h
      · rename_i hq; obtain ⟨rfl, hq⟩ := hq; exact ⟨n, rfl, hq⟩
      · cases h
    all_goals (rename_i hq; cases hq)
theorem trod_bool {P : Program} {t fuel : Nat} {cs : List Value} {d : DataW H} {ps : List MemPlace} (ht : P.underlying t = some .bool) (h : DataW.trod enc P W 0 (fun _ => true) true fuel t cs = some (d, ps)) : ∃ b, cs = [.bool b] := by
  cases fuel with
  | zero => cases h
  | succ fuel =>
    simp only [DataW.trod, ht] at h
    split at h
    all_goals first | (cases h; done) | skip
    · rename_i b hq; exact ⟨b, rfl⟩
    all_goals (rename_i hq; cases hq)
theorem trod_string {P : Program} {t fuel : Nat} {cs : List Value} {d : DataW H} {ps : List MemPlace} (ht : P.underlying t = some .string) (h : DataW.trod enc P W 0 (fun _ => true) true fuel t cs = some (d, ps)) (hw : ∀ n ∈ d.weights P t, n ≤ reachBytes) : ∃ s, cs = [.string s] ∧ s.size ≤ reachBytes := by
  cases fuel with
  | zero => cases h
  | succ fuel =>
    simp only [DataW.trod, ht] at h
    split at h
    all_goals first | (cases h; done) | skip
    · rename_i hq; cases hq
    · rename_i hq; cases hq
    · rename_i hq; cases hq
    · rename_i s hq
      split at h
      · cases h
        refine ⟨s, rfl, ?_⟩
        have := hw s.data.toList.length (by simp [DataW.weights])
        simpa using this
      · cases h
    all_goals (rename_i hq; cases hq)
theorem okL_of : ∀ (l : List GV), (∀ v ∈ l, v.ok) → GV.okL l
  | [], _ => trivial
  | v :: l, h => ⟨h v (by simp), okL_of l fun x hx => h x (by simp [hx])⟩
theorem trod_struct {P : Program} {t fuel : Nat} {fs : Array Field} {cs : List Value} {d : DataW H} {ps : List MemPlace} (ht : P.underlying t = some (.struct fs)) (h : DataW.trod enc P W 0 (fun _ => true) true (fuel + 1) t cs = some (d, ps)) :
    cs.length = P.cellsOf t ∧ ∃ xs, fs.toList.mapM (fun f => DataW.trod enc P W 0 (fun _ => true) true fuel f.type ((cs.drop f.offset).take (P.cellsOf f.type))) = some xs ∧ d = .agg (xs.map (·.1)) := by
  simp only [DataW.trod, ht] at h
  split at h
  · rename_i hl
    cases hm : fs.toList.mapM (fun f => DataW.trod enc P W 0 (fun _ => true) true fuel f.type ((cs.drop f.offset).take (P.cellsOf f.type))) with
    | none => rw [hm] at h; simp at h
    | some xs =>
      rw [hm] at h
      simp only [Option.map_some, Option.some.injEq, Prod.mk.injEq] at h
      exact ⟨hl, xs, rfl, h.1.symm⟩
  · cases h
theorem mapM_cons_some {α β : Type} {f : α → Option β} {x : α} {l : List α} {ys : List β} (h : (x :: l).mapM f = some ys) : ∃ y ys', ys = y :: ys' ∧ f x = some y ∧ l.mapM f = some ys' := by
  rw [List.mapM_cons] at h
  cases hx : f x with
  | none => simp [hx] at h
  | some y =>
    cases hl : l.mapM f with
    | none => simp [hx, hl] at h
    | some ys' => simp [hx, hl] at h; exact ⟨y, ys', h.symm, rfl, rfl⟩
theorem mapM_nil_some {α β : Type} {f : α → Option β} {ys : List β} (h : ([] : List α).mapM f = some ys) : ys = [] := by simpa using h.symm
theorem i64_rng {n : Int} (h : (Lit.int .i64 n).wf = true) : -9223372036854775808 ≤ n ∧ n < 9223372036854775808 := by
  simp only [Lit.wf, Bool.and_eq_true, decide_eq_true_eq] at h
  have h1 : IntKind.i64.min = -9223372036854775808 := rfl
  have h2 : IntKind.i64.max = 9223372036854775807 := rfl
  omega
theorem u32_rng {n : Int} (h : (Lit.int .u32 n).wf = true) : 0 ≤ n ∧ n < 4294967296 := by
  simp only [Lit.wf, Bool.and_eq_true, decide_eq_true_eq] at h
  have h1 : IntKind.u32.min = 0 := rfl
  have h2 : IntKind.u32.max = 4294967295 := rfl
  omega
theorem trod22 {fuel : Nat} {cs : List Value} {d : DataW H} {ps : List MemPlace} (h : DataW.trod enc Tryz.prog W 0 (fun _ => true) true fuel 22 cs = some (d, ps)) (hw : ∀ n ∈ d.weights Tryz.prog 22, n ≤ reachBytes) :
    ∃ (xs : List Int) (u : Value), cs = [u] ∧ VRep (argCtx W) W (.list .no (limbs xs)) u ∧ u.oneCell' = true ∧ (∀ x ∈ xs, 0 ≤ x ∧ x < 4294967296) ∧ xs.length < 1152921504606846976 := by
  cases fuel with
  | zero => cases h
  | succ fuel =>
    obtain ⟨xs, u, h1, h2, h3, h4, h5⟩ := slice_build (T := Int) (rep := fun x => [vW x]) (ok := fun x => 0 ≤ x ∧ x < 4294967296) und22 co33 (fun _ => rfl) (by decide) (fun us d ps hl he _ => by
      obtain ⟨n, rfl, hn⟩ := trod_int und33 he
      exact ⟨n, u32_rng hn, ⟨_, _, rfl, rfl, rfl⟩, fun u hu => by simp at hu; subst hu; rfl⟩) h hw
    refine ⟨xs, u, h1, h2, h3, h4, ?_⟩
    rw [bo33] at h5
    have : reachBytes = 140737488351232 := rfl
    omega
theorem trod27 : ∀ (fuel : Nat) (cs : List Value) (d : DataW H) (ps : List MemPlace), DataW.trod enc Tryz.prog W 0 (fun _ => true) true fuel 27 cs = some (d, ps) → (∀ n ∈ d.weights Tryz.prog 27, n ≤ reachBytes) →
    ∃ v : GV, v.ok ∧ LRep (argCtx W) W v.cells cs ∧ (∀ u ∈ cs, u.oneCell' = true)
  | 0, cs, d, ps, h, _ => by cases h
  | fuel + 1, cs, d, ps, h, hw => by
    obtain ⟨hl, xs, hm, rfl⟩ := trod_struct und27 h
    rw [co27] at hl
    obtain ⟨x0, xs, rfl, h0, hm⟩ := mapM_cons_some hm
    obtain ⟨x1, xs, rfl, h1, hm⟩ := mapM_cons_some hm
    obtain ⟨x2, xs, rfl, h2, hm⟩ := mapM_cons_some hm
    obtain ⟨x3, xs, rfl, h3, hm⟩ := mapM_cons_some hm
    obtain ⟨x4, xs, rfl, h4, hm⟩ := mapM_cons_some hm
    have := mapM_nil_some hm
    subst this
    have hw2 : (∀ n ∈ x2.1.weights Tryz.prog 24, n ≤ reachBytes) ∧ (∀ n ∈ x3.1.weights Tryz.prog 9, n ≤ reachBytes) ∧ (∀ n ∈ x4.1.weights Tryz.prog 25, n ≤ reachBytes) := by
      refine ⟨fun n hn => hw n ?_, fun n hn => hw n ?_, fun n hn => hw n ?_⟩ <;>
        (simp only [DataW.weights, und27, List.map_cons, List.map_nil, DataW.weightsEach, List.mem_append]; simp [hn])
    obtain ⟨w2, w3, w4⟩ := hw2
    obtain ⟨c0, c1, c2, c3, c4, c5, rfl⟩ : ∃ c0 c1 c2 c3 c4 c5, cs = [c0, c1, c2, c3, c4, c5] := by
      match cs, hl with
      | [c0, c1, c2, c3, c4, c5], _ => exact ⟨c0, c1, c2, c3, c4, c5, rfl⟩
    simp only [co3, co24, co9, co25, List.drop_zero, List.take_succ_cons, List.take_zero, List.drop_succ_cons] at h0 h1 h2 h3 h4
    obtain ⟨n0, e0, r0⟩ := trod_int und3 h0
    obtain ⟨n1, e1, r1⟩ := trod_int und3 h1
    obtain ⟨s, e3, r3⟩ := trod_string und9 h3 w3
    cases e0; cases e1; cases e3
    cases fuel with
    | zero => cases h0
    | succ fuel =>
    -- the integer
    obtain ⟨_, ys, hn, hx2⟩ := trod_struct und24 h2
    obtain ⟨y0, ys, rfl, g0, hn⟩ := mapM_cons_some hn
    obtain ⟨y1, ys, rfl, g1, hn⟩ := mapM_cons_some hn
    have := mapM_nil_some hn
    subst this
    simp only [co4, co22, List.drop_zero, List.take_succ_cons, List.take_zero, List.drop_succ_cons] at g0 g1
    have w22 : ∀ n ∈ y1.1.weights Tryz.prog 22, n ≤ reachBytes := fun n hn => w2 n (by
      rw [hx2]
      simp only [DataW.weights, und24, List.map_cons, List.map_nil, DataW.weightsEach, List.mem_append]; simp [hn])
    obtain ⟨b, e2⟩ := trod_bool und4 g0
    cases e2
    obtain ⟨ls, u, e2, l1, l2, l3, l4⟩ := trod22 g1 w22
    cases e2
    -- the elements
    obtain ⟨vs, u', e4, v1, v2, v3, v4⟩ := slice_build (T := GV) (rep := GV.cells) (ok := GV.ok) und25 co27 cells_len (by decide) (fun us d ps _ he hwe => trod27 fuel us d ps he hwe) h4 w4
    cases e4
    rw [← GV.rows_eq] at v1
    refine ⟨.mk n0 n1 b ls s vs, ⟨i64_rng r0, i64_rng r1, l4, ?_, ?_, l3, okL_of vs v3⟩, ?_, ?_⟩
    · have : reachBytes = 140737488351232 := rfl
      omega
    · rw [bo27] at v4
      have : reachBytes = 140737488351232 := rfl
      omega
    · exact ⟨_, _, rfl, rfl, _, _, rfl, rfl, _, _, rfl, rfl, _, _, rfl, l1, _, _, rfl, rfl, _, _, rfl, v1, rfl⟩
    · intro x hx
      simp only [List.mem_cons, List.not_mem_nil, or_false] at hx
      rcases hx with rfl | rfl | rfl | rfl | rfl | rfl
      · rfl
      · rfl
      · rfl
      · exact l2
      · rfl
      · exact v2
termination_by fuel => fuel
end
end Go.Proofs.YtgfadepkiejncaaGreat
namespace Go.Proofs.YtgfadepkiejncaaGreat
open Go.Ab Go.ChangeShapes Go.WideShapes Go.ChangeAt Go.RowKit
set_option maxHeartbeats 0
set_option maxRecDepth 100000
theorem own : ownKnob Tryz.prog.godebug = none := by kernel_rfl
theorem laidOut : laidOutB Tryz.prog = true := by kernel_rfl
section
variable {H : Type} {enc : TypeId × Value → H}
theorem stays {W W' : World} (hb : Below W.heap.size W W') {sp : Nat → Bool} : ∀ (ts : List TypeId) (vs : List Value) (ds : List (DataW H)) (ps : List MemPlace), (∀ t ∈ ts, Tryz.prog.readableRec t = true ∧ t < Tryz.prog.types.size) →
    DataW.TrodAll enc Tryz.prog W 0 (fun _ => true) true ts vs ds ps → (∀ p ∈ ps, sp p.block = true) → (∀ p ∈ ps, p.block < W.heap.size) → DataW.TrodAll enc Tryz.prog W' 0 sp true ts vs ds ps
  | [], vs, ds, ps, _, h, _, _ => by
    cases vs <;> cases ds <;> simp [DataW.TrodAll] at h ⊢
    exact h
  | t :: ts, vs, ds, ps, ht, h, hs, hl => by
    obtain ⟨v, vs', d, ds', p, q, rfl, rfl, rfl, h1, h2⟩ := trodAll_cons h
    obtain ⟨r1, r2⟩ := ht t (by simp)
    refine ⟨p, q, ?_, ?_, rfl⟩
    · exact (WideElems.Trod_stays laidOut r1 r2 h1 (fun x hx => hb.same (hl x (by simp [hx]))) (fun x hx => hs x (by simp [hx])))
    · exact (stays hb ts vs' ds' q (fun t' ht' => ht t' (by simp [ht'])) h2 (fun x hx => hs x (by simp [hx])) (fun x hx => hl x (by simp [hx])))
theorem law_post {fn : Func} {s : ChangeSpec} {apart fresh handsOn again : Bool} {W W' : World} {args : Array Value} {ds gs : List (DataW H)} {before : List MemPlace}
    (hW : DataW.Whole enc Tryz.prog fn.params.toList s.vars apart W args.toList ds gs before) (hv : s.vars = []) (hres : fn.resultTypes = #[4]) (hts : ∀ t ∈ fn.params.toList, Tryz.prog.readableRec t = true ∧ t < Tryz.prog.types.size)
    (hs1 : ∀ ds : List (DataW H), ds.length = fn.params.toList.length → (s.fn H ds).results = [.lit (.bool true)] ∧ (s.fn H ds).args = ds ∧ (s.fn H ds).vars = []) (hb : Below W.heap.size W W') :
    s.post enc Tryz.prog fn apart fresh handsOn again W args (.bool true) W' := by
  have hW0 := hW
  have hlt := hW.lt
  obtain ⟨p, q, hA, hV, rfl, hz, hn⟩ := hW
  rw [hv] at hV
  obtain ⟨rfl, rfl⟩ := trodVars_none hV
  have hlen : ds.length = fn.params.toList.length := by
    have : ∀ (ts : List TypeId) (vs : List Value) (ds : List (DataW H)) (ps : List MemPlace), DataW.TrodAll enc Tryz.prog W 0 (fun _ => true) true ts vs ds ps → ds.length = ts.length := by
      intro ts
      induction ts with
      | nil => intro vs ds ps h; cases vs <;> cases ds <;> simp [DataW.TrodAll] at h ⊢
      | cons t ts ih =>
        intro vs ds ps h
        obtain ⟨v, vs', d, ds', p, q, rfl, rfl, rfl, h1, h2⟩ := trodAll_cons h
        simp [ih _ _ _ h2]
    exact this _ _ _ _ hA
  simp only [List.append_nil] at hW0 hlt hz hn
  obtain ⟨e1, e2, e3⟩ := hs1 ds hlen
  have e1' : (s.fn H (ds ++ [])).results = [.lit (.bool true)] := by rw [List.append_nil]; exact e1
  have e2' : (s.fn H (ds ++ [])).args = ds := by rw [List.append_nil]; exact e2
  have e3' : (s.fn H (ds ++ [])).vars = [] := by rw [List.append_nil]; exact e3
  have hold : ∀ x ∈ p, x.block < W.heap.size := fun x hx => hlt x hx
  have hA2 : ∀ sp : Nat → Bool, (∀ x ∈ p, sp x.block = true) → DataW.TrodAll enc Tryz.prog W' 0 sp true fn.params.toList args.toList ds p := fun sp hsp => stays hb _ _ _ _ hts hA hsp hold
  have hrl : (Value.bool true).resultList fn.resultTypes.size = [.bool true] := by rw [hres]; rfl
  have hR : ∀ (b : Nat) (sp : Nat → Bool) (hd : Bool), DataW.TrodAll enc Tryz.prog W' b sp hd fn.resultTypes.toList ((Value.bool true).resultList fn.resultTypes.size) [.lit (.bool true)] [] := by
    intro b sp hd
    rw [hrl, hres]
    exact trodAll_mk1 (shut_bool und4 true)
  have hk : W.keptBut W' (fun x => x ∈ p ∧ (x ∈ ([] : List MemPlace) ∨ x ∈ p ∨ x ∈ ([] : List MemPlace))) := by
    refine ⟨hb.os, hb.output, fun i hi => ?_⟩
    rw [hb.block i hi]
    generalize W.heap[i]? = o
    cases o with
    | none => rfl
    | some o => cases o <;> first | exact ⟨rfl, rfl, rfl, fun _ _ => rfl⟩ | exact .inr ⟨rfl, rfl⟩ | rfl
  refine ⟨ds, [], p, [], p, [], by simpa using hW0, by rw [e1']; exact hR _ _ _, by rw [e2']; exact hA2 _ (fun x hx => by simpa using hold x hx), by rw [hv, e3']; rfl, hk, fun _ => ⟨?_, ?_⟩⟩
  · exact ok_one (t := 4) hres rfl (okWide_bool_mk und4 true)
  · refine ⟨[.lit (.bool true)] ++ ds, [], ([] ++ p) ++ [], ⟨[] ++ p, [], ?_, by rw [hv]; rfl, rfl, ?_, ?_⟩, ?_⟩
    · exact trodAll_append (hA2 _ (fun _ _ => rfl)) (hR _ _ _)
    · intro b off hp
      have hp' : MemPlace.cell b off ∈ p := by simpa using hp
      have := hz b off hp'
      have hbl := hold _ hp'
      unfold World.frozen? at this ⊢
      rw [hb.block b hbl]; exact this
    · intro ha; simpa using hn ha
    · intro x hx _; simpa using hx
theorem weights_cons {t : TypeId} {ts : List TypeId} {d : DataW H} {ds : List (DataW H)} (h : ∀ n ∈ DataW.weightsEach Tryz.prog (t :: ts) (d :: ds), n ≤ reachBytes) : (∀ n ∈ d.weights Tryz.prog t, n ≤ reachBytes) ∧ ∀ n ∈ DataW.weightsEach Tryz.prog ts ds, n ≤ reachBytes := by
  simp only [DataW.weightsEach, List.mem_append] at h
  exact ⟨fun n hn => h n (.inl hn), fun n hn => h n (.inr hn)⟩
theorem arg27 {W : World} {v : Value} {d : DataW H} {p : List MemPlace} (hv : Value.okWide Tryz.prog W .any 0 27 v ∨ True) (h : DataW.Trod enc Tryz.prog W 0 (fun _ => true) true 27 v d p) (hok : ∃ cs, v = .agg cs) (hw : ∀ n ∈ d.weights Tryz.prog 27, n ≤ reachBytes) :
    ∃ g : GV, g.ok ∧ VRep (argCtx W) W g.pv v := by
  obtain ⟨fuel, hf⟩ := h
  obtain ⟨cs, rfl⟩ := hok
  obtain ⟨g, h1, h2, _⟩ := trod27 fuel _ d p hf hw
  exact ⟨g, h1, cs, rfl, h2⟩
theorem okWide_agg27 {W : World} {base : Nat} {v : Value} (h : Value.okWide Tryz.prog W .any base 27 v) : ∃ cs, v = .agg cs := by
  unfold Value.okWide at h
  rw [und27] at h
  obtain ⟨cs, h1, _⟩ := h
  exact ⟨cs, h1⟩
theorem law_calls {f : FuncId} {args : List PV} (hc : ACall Tryz.prog f args St.empty (fun r _ => r = .ret (vB true))) {W : World} {us : Array Value} (h : LRep (argCtx W) W args us.toList) :
    Calls Tryz.prog f us W fun e W' => e = .returned (.bool true) ∧ Below W.heap.size W W' := by
  have := hc.2 (argCtx W) W us.toList (argMem W) h
  rw [Array.toArray_toList] at this
  refine this.mono ?_
  rintro e w' ⟨r, m', Γ', rfl, h2, _, h4, _⟩
  cases e <;> simp only [ERep] at h2
  exact ⟨by rw [h2], h4.below⟩
end
end Go.Proofs.YtgfadepkiejncaaGreat
namespace Go.Proofs.YtgfadepkiejncaaGreat
open Go.Ab Go.ChangeShapes Go.WideShapes Go.ChangeAt Go.RowKit
set_option maxHeartbeats 0
set_option maxRecDepth 100000
section
variable {H : Type} {enc : TypeId × Value → H} {W : World} {base : Nat} {v : Value} {d : DataW H} {p : List MemPlace}
end
end Go.Proofs.YtgfadepkiejncaaGreat
namespace Go.Ab
open Go.RowKit
section
variable {P : Program} {m : St} {K Kp : PV → St → Prop} {Γ : Ctx} {w : World}
def St.newIt (m : St) (s : ByteArray) (i : Nat) : St := { m with nloc := m.nloc + 1, loc := upd m.loc m.nloc none, lp := upd m.lp m.nloc none, it := upd m.it m.nloc (some (s, i)) }
def St.setIt (m : St) (n : Nat) (s : ByteArray) (i : Nat) : St := { m with it := upd m.it n (some (s, i)) }
theorem MemSim.newIt (h : MemSim Γ m w) (s : ByteArray) (i : Nat) : MemSim (Γ.newLoc w.heap.size) (m.newIt s i) (w.alloc (.stringIter s i)) ∧ Keeps Γ w (w.alloc (.stringIter s i)) := by
  obtain ⟨h', hk⟩ := h.alloc_any (.stringIter s i)
  have l := Ctx.le_newLoc Γ w.heap.size
  have hnl : Γ.nloc = m.nloc := h.nloc
  have old : ∀ n, n < m.nloc → (Γ.newLoc w.heap.size).loc n = Γ.loc n := fun n hn => l.loc n (by rw [hnl]; exact hn)
  have hnew : (Γ.newLoc w.heap.size).loc m.nloc = w.heap.size := by rw [← hnl]; exact upd_same _ _ _
  have hl : ∀ n cs, n < m.nloc + 1 → (m.newIt s i).loc n = some cs → n < m.nloc ∧ m.loc n = some cs := by
    intro n cs hn hc
    replace hc : upd m.loc m.nloc none n = some cs := hc
    by_cases e : n = m.nloc
    · subst e; rw [upd_same] at hc; cases hc
    · rw [upd_ne _ _ _ _ e] at hc; exact ⟨by omega, hc⟩
  have hi : ∀ n x, n < m.nloc + 1 → (m.newIt s i).it n = some x → (n = m.nloc ∧ x = (s, i)) ∨ (n < m.nloc ∧ m.it n = some x) := by
    intro n x hn hc
    replace hc : upd m.it m.nloc (some (s, i)) n = some x := hc
    by_cases e : n = m.nloc
    · subst e; rw [upd_same] at hc; cases hc; exact .inl ⟨rfl, rfl⟩
    · rw [upd_ne _ _ _ _ e] at hc; exact .inr ⟨by omega, hc⟩
  refine ⟨⟨by show Γ.nloc + 1 = m.nloc + 1; rw [h.nloc], h.ntok, h.top, fun n cs hn hc => ?_, fun n cs hn hc => ?_, fun n n' cs cs' hn hn' hc hc' hq => ?_, h'.immlt, h'.base, h'.toks, h.tapart, h.tinj, fun k n cs hk hd hn hc => ?_, (fun k ds hk' hd hq => by obtain ⟨h0, hl, c, h1, h2, h3⟩ := h'.arrs k ds hk' hd hq; exact ⟨h0, hl, c, h1, LRep.mono l (Keeps.refl _ _) _ _ h2, h3⟩), ?_, ⟨fun n x hn hx => ?_, fun n n' x x' hn hn' hx hx' hq => ?_⟩, h'.xs.mono rfl rfl (fun _ _ q _ => q)⟩, hk⟩
  · obtain ⟨a, b⟩ := hl n cs hn hc
    obtain ⟨c, h1, h2, h3⟩ := h'.locs n cs a b
    exact ⟨c, by rw [old n a]; exact h1, LRep.mono l (Keeps.refl _ _) _ _ h2, h3⟩
  · obtain ⟨a, b⟩ := hl n cs hn hc
    rw [old n a]; exact h.apart n cs a b
  · obtain ⟨a, b⟩ := hl n cs hn hc
    obtain ⟨a', b'⟩ := hl n' cs' hn' hc'
    rw [old n a, old n' a'] at hq
    exact h.inj n n' cs cs' a a' b b' hq
  · obtain ⟨a, b⟩ := hl n cs hn hc
    rw [old n a]; exact h.tloc k n cs hk hd a b
  · refine h.lps.mono l hk h.nloc (fun n L a b => ?_) (fun n L a b => Below.heap_alloc _ _ _ (h.lps.lt a b))
    replace b : upd m.lp m.nloc none n = some L := b
    replace a : n < m.nloc + 1 := a
    by_cases e : n = m.nloc
    · subst e; rw [upd_same] at b; cases b
    · rw [upd_ne _ _ _ _ e] at b; exact ⟨by omega, b⟩
  · rcases hi n x hn hx with ⟨rfl, rfl⟩ | ⟨a, b⟩
    · rw [hnew]; exact ⟨h.base, World.alloc_heap_new _ _⟩
    · rw [old n a]; exact ⟨(h.its.at_ n x a b).1, (h'.its.at_ n x a b).2⟩
  · rcases hi n x hn hx with ⟨e1, _⟩ | ⟨a, b⟩ <;> rcases hi n' x' hn' hx' with ⟨e2, _⟩ | ⟨a', b'⟩
    · rw [e1, e2]
    · subst e1
      rw [hnew, old n' a'] at hq
      have := h.its.lt a' b'
      omega
    · subst e2
      rw [hnew, old n a] at hq
      have := h.its.lt a b
      omega
    · rw [old n a, old n' a'] at hq
      exact h.its.inj n n' x x' a a' b b' hq
def St.dropIt (m : St) (n : Nat) : St := { m with it := upd m.it n none }
theorem MemSim.dropIt (h : MemSim Γ m w) (n : Nat) : MemSim Γ (m.dropIt n) w := by
  have key : ∀ i x, (m.dropIt n).it i = some x → m.it i = some x := by
    intro i x hc
    replace hc : upd m.it n none i = some x := hc
    by_cases e : i = n
    · subst e; rw [upd_same] at hc; cases hc
    · rwa [upd_ne _ _ _ _ e] at hc
  exact { h with its := ⟨fun i x hn hx => h.its.at_ i x hn (key i x hx), fun i j x x' a b c d => h.its.inj i j x x' a b (key _ _ c) (key _ _ d)⟩, lps := ⟨h.lps.at_, h.lps.inj⟩ }
theorem MemSim.setIt (h : MemSim Γ m w) {n : Nat} {s : ByteArray} {i : Nat} (hn : n < m.nloc) (hx : m.it n = some (s, i)) (s' : ByteArray) (j : Nat) :
    MemSim Γ (m.setIt n s' j) (w.putObj (Γ.loc n) (.stringIter s' j)) ∧ Keeps Γ w (w.putObj (Γ.loc n) (.stringIter s' j)) := by
  obtain ⟨hb, hr⟩ := h.its.at_ n _ hn hx
  have hlt := h.its.lt hn hx
  obtain ⟨k1, k2⟩ := (h.dropIt n).putObj (o' := .stringIter s' j) hr rfl rfl hb (fun i L hi hL e => by
      obtain ⟨_, tmps, D, q, _⟩ := h.lps.at_ i L hi hL
      rw [e, hr] at q; cases q) (by
      refine ⟨fun D' hD' => ?_, fun l hl => ?_, h.xs.rnd, by simp; exact h.xs.dlo⟩
      · obtain ⟨a, b⟩ := h.xs.mark D' hD'
        refine ⟨a, (World.putObj_heap_other fun e => ?_).trans b⟩
        rw [e, hr] at b; cases b
      · obtain ⟨a, R, b⟩ := h.xs.lps l hl
        refine ⟨a, R, (World.putObj_heap_other fun e => ?_).trans b⟩
        rw [e, hr] at b; cases b) (fun i x hi hc e => by
      replace hc : upd m.it n none i = some x := hc
      by_cases e2 : i = n
      · subst e2; rw [upd_same] at hc; cases hc
      · rw [upd_ne _ _ _ _ e2] at hc; exact e2 (h.its.inj i n x _ hi hn hc hx e))
  have key : ∀ i x, (m.setIt n s' j).it i = some x → (i = n ∧ x = (s', j)) ∨ (i ≠ n ∧ m.it i = some x) := by
    intro i x hc
    replace hc : upd m.it n (some (s', j)) i = some x := hc
    by_cases e : i = n
    · subst e; rw [upd_same] at hc; cases hc; exact .inl ⟨rfl, rfl⟩
    · rw [upd_ne _ _ _ _ e] at hc; exact .inr ⟨e, hc⟩
  refine ⟨{ k1 with its := ?_, lps := ⟨k1.lps.at_, k1.lps.inj⟩ }, k2⟩
  refine ⟨fun i x hi hc => ?_, fun i j x x' hi hj hc hc' hq => ?_⟩
  · rcases key i x hc with ⟨rfl, rfl⟩ | ⟨a, b⟩
    · exact ⟨hb, World.putObj_heap_same hlt⟩
    · exact k1.its.at_ i x hi (by show upd m.it n none i = _; rw [upd_ne _ _ _ _ a]; exact b)
  · rcases key i x hc with ⟨e1, _⟩ | ⟨a, b⟩ <;> rcases key j x' hc' with ⟨e2, _⟩ | ⟨a', b'⟩
    · rw [e1, e2]
    · subst e1; exact h.its.inj _ _ _ _ hn hj hx b' hq
    · subst e2; exact h.its.inj _ _ _ _ hi hn b hx hq
    · exact h.its.inj _ _ _ _ hi hj b b' hq
theorem op_range {o : Oper} {t : TypeId} {x : Operand} {ρ : Operand → PV} {s : ByteArray} (ho : o.op = .range t x) (ht : tstr P t = true) (hx : ρ x = .v (.string s)) (h : K (.loc m.nloc 0) (m.newIt s 0)) : OpOK P o ρ m K Kp := by
  intro Γ ev w hm hv
  have h1 := hv x
  rw [hx] at h1
  replace h1 : ev x = .string s := h1
  obtain ⟨h2, h3⟩ := hm.newIt s 0
  have hrun := run_range_string (P := P) w t s (tstr_und ht)
  simp only [execOp, ho, h1, Sem.run_bind, hrun, Result.andThen_ok, Sem.run_pure, Up]
  refine ⟨_, _, _, h, ⟨by show m.nloc < Γ.nloc + 1; rw [hm.nloc]; omega, ?_⟩, Ctx.le_newLoc Γ _, h3, h2⟩
  show _ = Value.pointer (some ⟨upd Γ.loc Γ.nloc w.heap.size m.nloc, 0, none⟩)
  rw [hm.nloc, upd_same]
theorem op_next {o : Oper} {x : Operand} {ρ : Operand → PV} {n : Nat} {s : ByteArray} {i : Nat} (ho : o.op = .next x true) (hx : ρ x = .loc n 0) (hn : n < m.nloc) (hi : m.it n = some (s, i))
    (h1 : i < s.size → K (.tup [.v (.bool true), .v (.int .i64 i), .v (.int .i32 (Utf8.decode s i).1)]) (m.setIt n s (i + (Utf8.decode s i).2))) (h2 : ¬ i < s.size → K (.tup [.v (.bool false)]) m) : OpOK P o ρ m K Kp := by
  intro Γ ev w hm hv
  have h3 := hv x
  rw [hx] at h3
  obtain ⟨_, h3⟩ := h3
  obtain ⟨hb, hr⟩ := hm.its.at_ n _ hn hi
  have hlt := hm.its.lt hn hi
  have hg : (getObj (Γ.loc n)).run P w = .ok (.stringIter s i) w := by simp [getObj, Sem.run, hr]
  by_cases hc : i < s.size
  · obtain ⟨k1, k2⟩ := hm.setIt hn hi s (i + (Utf8.decode s i).2)
    have hset : (setObj (Γ.loc n) (.stringIter s (i + (Utf8.decode s i).2))).run P w = .ok () (w.putObj (Γ.loc n) (.stringIter s (i + (Utf8.decode s i).2))) := by
      simp only [setObj, Sem.run, hr]; rfl
    simp only [execOp, ho, h3, Instr.next, Sem.run_bind, hg, Result.andThen_ok, hc, if_true, hset, Sem.run_pure, Up]
    exact ⟨_, _, Γ, h1 hc, ⟨_, rfl, _, _, rfl, rfl, _, _, rfl, rfl, _, _, rfl, rfl, rfl⟩, Ctx.le.refl _, k2, k1⟩
  · simp only [execOp, ho, h3, Instr.next, Sem.run_bind, hg, Result.andThen_ok, hc, if_false, Sem.run_pure, Up]
    exact .same hm (h2 hc) ⟨_, rfl, _, _, rfl, rfl, rfl⟩
theorem op_clear {o : Oper} {c : Call} {x : Operand} {t e : TypeId} {z : Value} {ρ : Operand → PV} {n off len cap : Nat} {cs : List PV} (ho : o.op = .call c) (hc : c.callee = .builtin .clear) (ha : c.args.toList = [x]) (ht : c.argTypes.toList = [t]) (he : telem P t = some e)
    (hz : tzero P e = some z) (hz1 : zOK z = true) (hpos : 0 < (zcells z).length) (hx : ρ x = .marr n off len cap) (hn : n < m.nloc) (hl : m.loc n = some cs) (hfit : off + len * (zcells z).length ≤ cs.length)
    (h : K .any (m.setLoc n (setL cs off (zrow (zcells z) (len * (zcells z).length))))) : OpOK P o ρ m K Kp := by
  intro Γ ev w hm hv
  have h3 := hv x
  rw [hx] at h3
  obtain ⟨_, cap', hcap, h3⟩ := h3
  obtain ⟨callee, args, argTypes⟩ := c
  simp only at hc ha ht
  subst hc
  have hargs : args.map ev = #[ev x] := by rw [← Array.toArray_toList (xs := args), ha]; simp
  have htys : argTypes = #[t] := by rw [← Array.toArray_toList (xs := argTypes), ht]
  obtain ⟨c, hb, hr, h4⟩ := hm.locs n cs hn hl
  have hd := telem_und he
  have hcl := LRep.len _ _ hr
  obtain ⟨zr, z1⟩ := zrow_rep (Γ := Γ) (w := w) hpos (len * z.cells.size)
  have hzl : (zcells z).length = z.cells.size := by simp [zcells]
  rw [hzl] at h hfit
  have hzc : (Builtin.zeroCells z.cells len).toList = ((Array.range (len * z.cells.size)).map (z.cells[· % z.cells.size]!)).toList := by simp [Builtin.zeroCells]
  obtain ⟨k1, k2⟩ := hm.setLoc (off := off) hn hl zr (z1 hz1) (by simpa [zrow] using hfit)
  have hst := run_storeCells_cells (P := P) (Γ.loc n) off (Builtin.zeroCells z.cells len).toList 0 w (fun j hj => by
      rw [hzc] at hj
      have hj' : j < len * z.cells.size := by simpa using hj
      show (cellAt w (Γ.loc n) (off + 0 + j)).isSome = true
      rw [cellAt_blk hb (by omega), List.getElem?_eq_getElem (by omega)]; rfl) (fun j hj => hb.frozen _) (by rw [hzc]; exact z1 hz1)
  have hrun : (Builtin.clear_ #[t] o.type #[.slice (some ⟨Γ.loc n, off, none⟩) len cap']).run P w = .ok (.tuple #[]) (setCells w (Γ.loc n) off (Builtin.zeroCells z.cells len).toList) := by
    cases len with
    | zero => simp [-Value.cells, Builtin.clear_, run_underlying hd, Builtin.zeroCells, setCells, World.setCells]
    | succ k =>
      simp only [Nat.add_zero] at hst
      simp [-Value.cells, Builtin.clear_, run_underlying hd, run_zero hz, hst]
  simp only [execOp, ho, resolve, Sem.run_bind, Sem.run_pure, Result.andThen_ok, invoke, builtin, hargs, htys, h3, hrun, Up]
  rw [hzc]
  exact ⟨.any, _, Γ, h, trivial, Ctx.le.refl _, k2, k1⟩
end
end Go.Ab
namespace Go.Ab
open Go.RowKit
section
variable {P : Program} {m : St} {K Kp : PV → St → Prop} {Γ : Ctx} {w : World}
theorem append_newL {e : TypeId} {rows news : List (List PV)} {cap' : Nat} {olds nws : List Value} {rest : Array Value} (hm : MemSim Γ m w)
    (ho : LRep Γ w rows.flatten olds) (hn : LRep Γ w news.flatten nws) (ho1 : ∀ u ∈ olds, u.oneCell' = true) (hn1 : ∀ u ∈ nws, u.oneCell' = true) (hcap : rows.length + news.length ≤ cap')
    (h : K (.marr m.nloc 0 (rows.length + news.length) (rows.length + news.length)) (m.newLoc (rows.flatten ++ PV.stripL news.flatten))) :
    Then Γ w K (.slice (some ⟨w.heap.size, 0, none⟩) (rows.length + news.length) cap') (w.drew.alloc (.cells (olds.toArray ++ nws.toArray ++ rest) e)) := by
  obtain ⟨hmd, hkd⟩ := hm.drew
  have ho' := LRep.mono (Ctx.le.refl Γ) hkd _ _ ho
  have hn' := LRep.mono (Ctx.le.refl Γ) hkd _ _ (LRep.strip _ _ hn)
  have hall : LRep Γ w.drew (rows.flatten ++ PV.stripL news.flatten) (olds ++ nws) := LRep.append _ _ _ _ ho' hn'
  obtain ⟨h3, h4⟩ := hmd.newLocP (us := olds.toArray ++ nws.toArray ++ rest) (c₀ := olds ++ nws) (d₀ := rest.toList) (by simp) hall
    (by intro u hu; rcases List.mem_append.1 hu with hu | hu; exact ho1 u hu; exact hn1 u hu) e
  refine ⟨_, _, _, h, ⟨by show m.nloc < Γ.nloc + 1; rw [hm.nloc]; omega, cap', hcap, ?_⟩, Ctx.le_newLoc Γ _, hkd.trans (Ctx.le.refl _) h4, h3⟩
  show Value.slice (some ⟨w.heap.size, 0, none⟩) _ _ = Value.slice (some ⟨upd Γ.loc Γ.nloc w.heap.size m.nloc, 0, none⟩) _ _
  rw [hm.nloc, upd_same]
theorem sound_appendL {t e : TypeId} {ty : TypeId} {o2 : Own} {rows news : List (List PV)} {u v : Value} (he : telem P t = some e) (ht : tinfo P e = true) (hz : (tzero P e).map (fun z => z.cells.size) = some (tsize P e))
    (hw1 : RowsW (tsize P e) rows) (hw2 : RowsW (tsize P e) news) (hby : (rows.length + news.length) * tbytes P e ≤ 140737488355328) (h62 : rows.length + news.length ≤ 4611686018427387904) (hpos : 0 < news.length)
    (h : K (.marr m.nloc 0 (rows.length + news.length) (rows.length + news.length)) (m.newLoc (rows.flatten ++ PV.stripL news.flatten)))
    (hm : MemSim Γ m w) (hx : VRep Γ w (.list .full rows) u) (hy : VRep Γ w (.list o2 news) v) :
    ∃ r w', (Builtin.append_ #[t, t] ty #[u, v]).run P w = .ok r w' ∧ Then Γ w K r w' := by
  have hd := telem_und he
  obtain ⟨i, hi⟩ := tinfo_info ht
  have hsz : i.size = tsize P e := by simp [tsize, Program.cellsOf, hi]
  have hbt : i.bytes = tbytes P e := by simp [tbytes, Program.bytesOf, hi]
  obtain ⟨z, hz1, hz2⟩ : ∃ z, tzero P e = some z ∧ z.cells.size = tsize P e := by
    cases hq : tzero P e with
    | none => simp [hq] at hz
    | some z => simp [hq] at hz; exact ⟨z, rfl, hz⟩
  have hiz : i.zero = some z := by simpa [tzero, hi] using hz1
  obtain ⟨a, cap, rfl, a1, a2, a3, a4⟩ := hx
  replace a4 : cap = rows.length := a4
  obtain ⟨b, cap2, rfl, b1, b2, b3, b4⟩ := hy
  cases b with
  | none => have := b2 rfl; omega
  | some bd =>
    obtain ⟨hsb, hsr⟩ := b3 bd rfl
    replace hsb := hsb.resolve_left (by omega)
    obtain ⟨bb, boff, bs⟩ := bd
    simp only at hsb hsr
    subst hsb
    obtain ⟨nws, n1, n2, n3, n4⟩ := rows_read hw2 hsr
    have hfit : Builtin.nextslicecap (rows.length + news.length) cap * i.bytes ≤ 281474976710656 := by
      have h1 := nextslicecap_le (need := rows.length + news.length) (old := cap) (by omega)
      have h2 : Builtin.nextslicecap (rows.length + news.length) cap * i.bytes ≤ 2 * (rows.length + news.length) * i.bytes := Nat.mul_le_mul_right _ h1
      rw [hbt] at h2 ⊢
      rw [Nat.mul_assoc] at h2
      omega
    cases a with
    | none =>
      have hc0 := a2 rfl
      subst hc0
      have hr0 : rows = [] := List.eq_nil_of_length_eq_zero (by omega)
      subst hr0
      have hrun := run_append_nil w t ty e i z hd hi hiz ⟨bb, boff, none⟩ news.length cap2 nws (by rw [n1, hsz]) n4 hpos (by omega) (by rw [hbt]; simp at hby; omega)
      have happ := append_newL (e := e) (rows := []) (news := news) (cap' := grownCap w news.length 0 e) (olds := []) (nws := nws) (rest := Builtin.zeroCells z.cells (grownCap w news.length 0 e - news.length)) hm rfl n2 (by simp) n3
        (by have := grownCap_ge w news.length 0 e; simpa using this) h
      refine ⟨_, _, hrun, ?_⟩
      simpa using happ
    | some ad =>
      obtain ⟨hsa, hra⟩ := a3 ad rfl
      obtain ⟨olds, o1, o2', o3, o4⟩ := rows_read' hw1 (hsa.imp (fun q => by omega) id) hra
      have hrun := run_append_grow w t ty e i z hd hi hiz ad rows.length cap olds (by rw [o1, hsz]) o4 ⟨bb, boff, none⟩ news.length cap2 nws (by rw [n1, hsz]) n4 (by omega) (by omega) hfit
      refine ⟨_, _, hrun, ?_⟩
      exact append_newL (e := e) hm o2' n2 o3 n3 (grownCap_ge _ _ _ _) h
theorem op_appendL {o : Oper} {c : Call} {x y : Operand} {t e : TypeId} {o2 : Own} {rows news : List (List PV)} {ρ : Operand → PV} (ho : o.op = .call c) (hc : c.callee = .builtin .append) (ha : c.args.toList = [x, y]) (hts : c.argTypes.toList = [t, t])
    (he : telem P t = some e) (ht : tinfo P e = true) (hz : (tzero P e).map (fun z => z.cells.size) = some (tsize P e))
    (hw1 : RowsW (tsize P e) rows) (hw2 : RowsW (tsize P e) news) (hby : (rows.length + news.length) * tbytes P e ≤ 140737488355328) (h62 : rows.length + news.length ≤ 4611686018427387904) (hpos : 0 < news.length) (hx : ρ x = .list .full rows) (hy : ρ y = .list o2 news)
    (h : K (.marr m.nloc 0 (rows.length + news.length) (rows.length + news.length)) (m.newLoc (rows.flatten ++ PV.stripL news.flatten))) : OpOK P o ρ m K Kp := by
  intro Γ ev w hm hv
  have h1 := hv x
  have h2 := hv y
  rw [hx] at h1
  rw [hy] at h2
  obtain ⟨callee, args, argTypes⟩ := c
  simp only at hc ha hts
  subst hc
  have hargs : args.map ev = #[ev x, ev y] := by rw [← Array.toArray_toList (xs := args), ha]; simp
  have htys : argTypes = #[t, t] := by rw [← Array.toArray_toList (xs := argTypes), hts]
  obtain ⟨r, w', h3, h4⟩ := sound_appendL (ty := o.type) he ht hz hw1 hw2 hby h62 hpos h hm h1 h2
  simp only [execOp, ho, resolve, Sem.run_bind, Sem.run_pure, Result.andThen_ok, invoke, builtin, hargs, htys, h3, Up]
  exact h4
mutual
def PV.fz (n s : Nat) (cs : List PV) : PV → PV
  | .marr k off len c => if k = n ∧ len ≤ c ∧ off + len * s ≤ cs.length then .list .no (chunk s len ((cs.drop off).take (len * s))) else .marr k off len c
  | .loc k off => if k = n then .ro (cs.drop off) else .loc k off
  | .agg xs => .agg (PV.fzL n s cs xs)
  | .tup xs => .tup (PV.fzL n s cs xs)
  | .iface t y => .iface t (y.fz n s cs)
  | .any => .any
  | .v u => .v u
  | .list o r => .list o r
  | .ro c => .ro c
  | .clo f a b => .clo f a b
  | .yld k => .yld k
  | .mtok k len => .mtok k len
  | .mptr k off gen => .mptr k off gen
def PV.fzL (n s : Nat) (cs : List PV) : List PV → List PV
  | [] => []
  | x :: xs => x.fz n s cs :: PV.fzL n s cs xs
end
mutual
theorem VRep.fz {Γ' : Ctx} {n s : Nat} {cs : List PV} (l : Γ.le Γ') (hc : CRep Γ' w cs (Γ.loc n) 0) : ∀ (p : PV) (u : Value), VRep Γ w p u → VRep Γ' w (p.fz n s cs) u
  | .any, _, h => trivial
  | .v _, _, h => h
  | .agg xs, u, h => by
    obtain ⟨us, e, h⟩ := h
    exact ⟨us, e, LRep.fz l hc xs _ h⟩
  | .list o rows, u, h => VRep.mono l (Keeps.refl _ _) (.list o rows) u h
  | .ro c, u, h => VRep.mono l (Keeps.refl _ _) (.ro c) u h
  | .loc k off, u, h => by
    simp only [PV.fz]
    split
    · rename_i e
      subst e
      obtain ⟨_, h⟩ := h
      have := CRep.drop off cs _ _ hc
      exact ⟨_, _, h, by simpa using this⟩
    · exact VRep.mono l (Keeps.refl _ _) (.loc k off) u h
  | .marr k off len c, u, h => by
    simp only [PV.fz]
    split
    · rename_i e
      obtain ⟨rfl, e2, e3⟩ := e
      obtain ⟨_, cap', h4, rfl⟩ := h
      have hl : ((cs.drop off).take (len * s)).length = len * s := by simp; omega
      have h5 := CRep.take (len * s) _ _ _ (CRep.drop off cs _ _ hc)
      refine ⟨some ⟨Γ.loc k, off, none⟩, cap', by rw [chunk_length], by rw [chunk_length]; omega, (fun q => by cases q), (fun ad hd => ?_), trivial⟩
      cases hd
      refine ⟨.inr rfl, (SRep.flat _ _ _).2 ?_⟩
      rw [chunk_flatten _ _ _ hl]
      simpa using h5
    · exact VRep.mono l (Keeps.refl _ _) (.marr k off len c) u h
  | .clo f first caps, u, h => VRep.mono l (Keeps.refl _ _) (.clo f first caps) u h
  | .iface t y, u, h => by
    obtain ⟨x, e, h⟩ := h
    exact ⟨x, e, VRep.fz l hc y _ h⟩
  | .tup xs, u, h => by
    obtain ⟨us, e, h⟩ := h
    exact ⟨us, e, LRep.fz l hc xs _ h⟩
  | .yld k, u, h => VRep.mono l (Keeps.refl _ _) (.yld k) u h
  | .mtok k len, u, h => VRep.mono l (Keeps.refl _ _) (.mtok k len) u h
  | .mptr k off gen, u, h => VRep.mono l (Keeps.refl _ _) (.mptr k off gen) u h
theorem LRep.fz {Γ' : Ctx} {n s : Nat} {cs : List PV} (l : Γ.le Γ') (hc : CRep Γ' w cs (Γ.loc n) 0) : ∀ (xs : List PV) (us : List Value), LRep Γ w xs us → LRep Γ' w (PV.fzL n s cs xs) us
  | [], _, h => h
  | x :: xs, us, h => by
    obtain ⟨u, us', e, h1, h2⟩ := h
    exact ⟨u, us', e, VRep.fz l hc x _ h1, LRep.fz l hc xs _ h2⟩
end
theorem Sees.fz {p : PV} {n s : Nat} {cs : List PV} (hn : n < m.nloc) (hc : m.loc n = some cs) : Sees p m (p.fz n s cs) (m.dropLoc n) := by
  intro Γ w v hm hv
  obtain ⟨h1, h2⟩ := hm.freeze hn hc
  have le := Ctx.le_newImm Γ (Γ.loc n) cs.length (hm.apart n cs hn hc).1
  exact ⟨_, h1, le, VRep.fz le h2 _ _ hv⟩
end
end Go.Ab
namespace Go.Ab
open Go.RowKit
abbrev AL (α : Type) := List (Nat × α)
def AL.get {α : Type} : AL α → Nat → Option α
  | [], _ => none
  | (k, x) :: l, n => if n = k then some x else AL.get l n
def AL.set {α : Type} : AL α → Nat → α → AL α
  | [], n, y => [(n, y)]
  | (k, x) :: l, n, y => if n = k then (k, y) :: l else (k, x) :: AL.set l n y
inductive Ent where
  | cells (cs : List PV)
  | iter (s : ByteArray) (i : Nat)
  | gone
structure EM where
  locs : AL Ent
  nloc : Nat
  toks : AL (Nat × Nat)
  ntok : Nat
def entC : Option Ent → Option (List PV) | some (.cells cs) => some cs | _ => none
def entI : Option Ent → Option (ByteArray × Nat) | some (.iter s i) => some (s, i) | _ => none
def EM.cells (m : EM) (n : Nat) : Option (List PV) := entC (m.locs.get n)
def EM.iter (m : EM) (n : Nat) : Option (ByteArray × Nat) := entI (m.locs.get n)
def oTop : Option (Nat × Nat) → Nat | some x => x.1 | none => 0
def oWd : Option (Nat × Nat) → Nat | some x => x.2 | none => 0
def EM.st (m : EM) : St := ⟨m.cells, fun _ => none, m.nloc, fun k => oTop (m.toks.get k), fun k => oWd (m.toks.get k), m.ntok, m.iter, fun _ => none⟩
def EM.empty : EM := ⟨[], 0, [], 0⟩
def EM.new (m : EM) (e : Ent) : EM := { m with locs := (m.nloc, e) :: m.locs, nloc := m.nloc + 1 }
def EM.put (m : EM) (n : Nat) (e : Ent) : EM := { m with locs := m.locs.set n e }
def EM.newTok (m : EM) (n w : Nat) : EM := { m with toks := (m.ntok, n, w) :: m.toks, ntok := m.ntok + 1 }
abbrev ER := Except String
def oAny : Option PV → PV | some p => p | none => .any
def slt (σ : AL PV) : Nat → PV := fun t => oAny (σ.get t)
def eput (σ : AL PV) (d : Option Tmp) (p : PV) : AL PV := match d with | some d => σ.set d p | none => σ
def nz : PV → PV
  | .v (.slice none 0 0) => .list .full []
  | p => p
def rowsW (s : Nat) (rows : List (List PV)) : Bool := rows.all fun r => r.length == s
def eload (P : Program) (t : TypeId) (x : PV) (m : EM) : ER PV :=
  if tinfo P t then
    match x with
    | .ro cs => if tagg P t then (if tsize P t ≤ cs.length then .ok (.agg (cs.take (tsize P t))) else .error "load ro") else (match cs[0]? with | some c => .ok c | none => .error "load ro")
    | .loc n off => match m.cells n with
      | some cs => if n < m.nloc then (if tagg P t then (if off + tsize P t ≤ cs.length then .ok (.agg ((cs.drop off).take (tsize P t))) else .error "load loc") else (match cs[off]? with | some c => .ok c | none => .error "load loc")) else .error "load"
      | none => .error "load gone"
    | _ => .error "load"
  else .error "load type"
def estore (P : Program) (t : TypeId) (x y : PV) (m : EM) : ER EM :=
  if tinfo P t then
    match x, cells1 y with
    | .loc n off, some xs => match m.cells n with
      | some cs => if n < m.nloc ∧ xs.length = tsize P t ∧ off + tsize P t ≤ cs.length then .ok (m.put n (.cells (setL cs off xs))) else .error "store"
      | none => .error "store gone"
    | _, _ => .error "store"
  else .error "store type"
def ebuild (P : Program) (t : TypeId) (parts : List (Nat × PV)) : ER PV :=
  match tzero P t with
  | some z => if tinfo P t && zOK z then
      (if tfok P t then (match afill (tplace P t) parts (zcells z) with | some cs => .ok (.agg cs) | none => .error "build")
      else match tarr P t with
        | some (_, e) => if tinfo P e then (match afill (aplace P t) parts (zcells z) with | some cs => .ok (.agg cs) | none => .error "build") else .error "build"
        | none => .error "build")
    else .error "build"
  | none => .error "build"
def ebuildSlice (P : Program) (t : TypeId) (len : Nat) (parts : List (Nat × PV)) : ER PV :=
  match telem P t with
  | some e => if tinfo P e ∧ len * tsize P e ≤ 16777216 then
      (match tzero P e with
      | some z => if zOK z ∧ 0 < (zcells z).length then (match afill (fun i => some (i * tsize P e, tsize P e)) parts (zrow (zcells z) (len * tsize P e)) with
        | some cs => .ok (.list .full (chunk (tsize P e) len cs))
        | none => .error "buildSlice") else .error "buildSlice"
      | none => .error "buildSlice")
    else .error "buildSlice"
  | none => .error "buildSlice"
def ebinop (P : Program) (op : BinOp) (t : TypeId) (x y : PV) : ER PV :=
  match x, y with
  | .v (.bool a), .v (.bool b) => if tbool P t then (match op with | .eql => .ok (.v (.bool (a == b))) | .neq => .ok (.v (.bool (!(a == b)))) | _ => .error "binop") else .error "binop"
  | .v a, .v b => match abin op a b with | some r => .ok (.v r) | none => .error "binop"
  | .list _ (_ :: _), .v (.slice none 0 0) => if (telem P t).isSome then (match op with | .eql => .ok (.v (.bool false)) | .neq => .ok (.v (.bool true)) | _ => .error "binop") else .error "binop"
  | _, _ => .error "binop"
def eunop (op : UnOp) (x : PV) : ER PV :=
  match op, x with
  | .not, .v (.bool b) => .ok (.v (.bool (!b)))
  | .neg, .v (.int k n) => .ok (.v (.int k (k.wrap (0 - n))))
  | _, _ => .error "unop"
def econvert (P : Program) (s d : TypeId) (x : PV) : ER PV :=
  match x, tkind P d with
  | .v (.int _ n), some k => if tinfo P s then .ok (.v (.int k (k.wrap n))) else .error "convert"
  | _, _ => .error "convert"
def efieldAddr (P : Program) (s : TypeId) (x : PV) (f : Nat) : ER PV :=
  match tfield P s f with
  | some (o, ft) => if tinfo P ft ∧ tsize P ft ≠ 0 then (match x with
    | .ro cs => .ok (.ro (cs.drop o))
    | .loc n off => .ok (.loc n (off + o))
    | _ => .error "fieldAddr") else .error "fieldAddr"
  | none => .error "fieldAddr"
def epart (P : Program) (t : TypeId) (cs : List PV) (off : Nat) : ER PV :=
  if tinfo P t then (if tagg P t then .ok (.agg ((cs.drop off).take (tsize P t))) else match cs[off]? with | some c => .ok c | none => .error "part") else .error "part"
def efield (P : Program) (s : TypeId) (x : PV) (f : Nat) : ER PV :=
  match tfield P s f, x with
  | some (o, ft), .agg cs => epart P ft cs o
  | _, _ => .error "field"
def eindexAddr (P : Program) (t : TypeId) (x i : PV) : ER PV :=
  match telem P t, i with
  | some e, .v (.int _ n) => if tinfo P e ∧ 0 ≤ n then (match x with
    | .list _ rows => if n < rows.length ∧ (rowsW (tsize P e) rows) = true then .ok (.ro (rowI rows n.toNat)) else .error "indexAddr"
    | .marr l off len _ => if n < len then .ok (.loc l (off + n.toNat * tsize P e)) else .error "indexAddr"
    | _ => .error "indexAddr") else .error "indexAddr"
  | _, _ => .error "indexAddr"
def eindex (P : Program) (t : TypeId) (x i : PV) : ER PV :=
  match i, x with
  | .v (.int _ n), .agg cs => match tarr P t with
    | some (len, e) => if 0 ≤ n ∧ n < len ∧ tinfo P e = true then epart P e cs (n.toNat * tsize P e) else .error "index"
    | none => .error "index"
  | .v (.int _ n), .v (.string s) => if tstr P t = true ∧ 0 ≤ n ∧ n < s.size then .ok (.v (.int .u8 (byteAt s n.toNat))) else .error "index"
  | _, _ => .error "index"
def eextract (x : PV) (i : Nat) : ER PV :=
  match x with
  | .tup xs => match xs[i]? with | some p => .ok p | none => .error "extract"
  | _ => .error "extract"
def eslice (P : Program) (t : TypeId) (x : PV) (lo hi mx : Option PV) : ER PV :=
  match x with
  | .list o rows => match telem P t, abnd lo 0, abnd hi rows.length, mx with
    | some e, some l, some h, none => if tinfo P e = true ∧ rowsW (tsize P e) rows = true ∧ 0 ≤ l ∧ l ≤ h ∧ h ≤ rows.length then
        .ok (.list (if l = 0 ∧ h = rows.length then o else if h = rows.length ∧ o = .full then .full else .no) ((rows.take h.toNat).drop l.toNat)) else .error "slice"
    | some e, some l, some h, some (.v (.int _ q)) => if tinfo P e = true ∧ rowsW (tsize P e) rows = true ∧ 0 ≤ l ∧ l ≤ h ∧ h = q ∧ hi.isSome = true ∧ h ≤ rows.length then .ok (.list .full ((rows.take h.toNat).drop l.toNat)) else .error "slice"
    | _, _, _, _ => .error "slice"
  | .marr n off len cap => match telem P t, abnd lo 0, abnd hi len, mx with
    | some e, some l, some h, none => if tinfo P e = true ∧ 0 ≤ l ∧ l ≤ h ∧ h ≤ len ∧ len ≤ cap ∧ l < cap then .ok (.marr n (off + l.toNat * tsize P e) (h - l).toNat (cap - l.toNat)) else .error "slice"
    | _, _, _, _ => .error "slice"
  | .v (.string s) => match abnd lo 0, abnd hi s.size, mx with
    | some l, some h, none => if tstr P t = true ∧ 0 ≤ l ∧ l ≤ h ∧ h ≤ s.size then .ok (.v (.string (s.extract l.toNat h.toNat))) else .error "slice"
    | _, _, _ => .error "slice"
  | _ => .error "slice"
def elen (P : Program) (ts : List TypeId) (x : PV) : ER PV :=
  match ts, x with
  | [t], .list _ rows => if (telem P t).isSome then .ok (.v (.int .i64 rows.length)) else .error "len"
  | [t], .marr _ _ len _ => if (telem P t).isSome then .ok (.v (.int .i64 len)) else .error "len"
  | [t], .v (.string s) => if tstr P t then .ok (.v (.int .i64 s.size)) else .error "len"
  | _, _ => .error "len"
def emax (xs : List PV) : ER PV := match xs with | [.v (.int k a), .v (.int _ b)] => .ok (.v (.int k (if a < b then b else a))) | _ => .error "max"
def emin (xs : List PV) : ER PV := match xs with | [.v (.int k a), .v (.int _ b)] => .ok (.v (.int k (if b < a then b else a))) | _ => .error "min"
mutual
def PV.scb (nl nt : Nat) : PV → Bool
  | .any | .v _ => true
  | .agg cs => PV.scLb nl nt cs
  | .list o rows => PV.scRb nl nt rows && (match o with | .tok k => k < nt | _ => true)
  | .ro cs => PV.scLb nl nt cs
  | .loc n _ => n < nl
  | .marr n _ _ _ => n < nl
  | .clo _ first caps => PV.scLb nl nt first && PV.scLb nl nt caps
  | .iface _ y => y.scb nl nt
  | .tup xs => PV.scLb nl nt xs
  | .yld n => n < nl
  | .mtok k _ => k < nt
  | .mptr k _ _ => k < nt
def PV.scLb (nl nt : Nat) : List PV → Bool
  | [] => true
  | x :: xs => x.scb nl nt && PV.scLb nl nt xs
def PV.scRb (nl nt : Nat) : List (List PV) → Bool
  | [] => true
  | r :: rs => PV.scLb nl nt r && PV.scRb nl nt rs
end
inductive EX where
  | normal | exit (n : Nat) | goto (l : Nat) | ret | pan (p : PV)
inductive RR where
  | ret (p : PV) | pan (p : PV)
abbrev Call0 := FuncId → List PV → ER RR
abbrev CallM := FuncId → List PV → EM → ER (RR × EM)
def eopS (P : Program) (call : Call0) (op : Op) (ρ : Operand → PV) : ER PV :=
  let n : Operand → PV := fun x => nz (ρ x)
  match op with
  | .move x => .ok (n x)
  | .assign x => .ok (n x)
  | .pick c a b => match n c with | .v (.bool true) => .ok (n a) | .v (.bool false) => .ok (n b) | _ => .error "pick"
  | .build t parts => ebuild P t (parts.toList.map fun x => (x.1, n x.2))
  | .buildSlice t len parts => ebuildSlice P t len (parts.toList.map fun x => (x.1, n x.2))
  | .nilCheck x => match n x with | .ro cs => .ok (.ro cs) | .loc k off => .ok (.loc k off) | .clo f a b => .ok (.clo f a b) | _ => .error "nilCheck"
  | .binOp op t x y _ => ebinop P op t (ρ x) (ρ y)
  | .unOp op _ x => eunop op (n x)
  | .convert s d x => econvert P s d (n x)
  | .makeInterface t x => if tconc P t then .ok (.iface t (n x)) else .error "iface"
  | .makeFunc (.func f) first caps => .ok (.clo f (first.toList.map n) (caps.toList.map n))
  | .slice t x lo hi mx => eslice P t (n x) (lo.map n) (hi.map n) (mx.map n)
  | .fieldAddr s x f => efieldAddr P s (n x) f
  | .field s x f => efield P s (n x) f
  | .indexAddr t x i => eindexAddr P t (n x) (n i)
  | .index t x i => eindex P t (n x) (n i)
  | .extract x i => eextract (n x) i
  | .call c => match c.callee with
    | .value f => match n f with
      | .clo g first caps => match call g (first ++ c.args.toList.map (fun x => (n x).strip) ++ caps) with
        | .ok (.ret p) => .ok p
        | .ok (.pan _) => .error "panic in a pure place"
        | .error s => .error s
      | _ => .error "callee"
    | .builtin .len => match c.args.toList with | [x] => elen P c.argTypes.toList (n x) | _ => .error "len"
    | .builtin .max => emax (c.args.toList.map n)
    | .builtin .min => emin (c.args.toList.map n)
    | _ => .error "builtin"
  | _ => .error "op"
def eappend (P : Program) (md : Bool) (ts : List TypeId) (x y : PV) (m : EM) : ER (PV × EM) :=
  match ts, x, y with
  | [t, t'], .list o rows, .list _ news => match telem P t with
    | some e => if t = t' ∧ tinfo P e = true ∧ (tzero P e).map (fun z => z.cells.size) = some (tsize P e) ∧ 0 < tsize P e ∧ rowsW (tsize P e) rows = true ∧ rowsW (tsize P e) news = true ∧ (rows.length + news.length) * tbytes P e ≤ 140737488355328 ∧ rows.length + news.length < 4611686018427387904 then
        match news with
        | [] => match o with
          | .full => .ok (.list .full rows, m)
          | _ => .error "append no"
        | _ :: _ =>
          if md then (match o with
            | .full => .ok (.marr m.nloc 0 (rows.length + news.length) (rows.length + news.length), m.new (.cells (rows.flatten ++ PV.stripL news.flatten)))
            | _ => .error "append mut")
          else match o with
            | .full => .ok (.list (.tok m.ntok) (rows ++ PV.stripR news), m.newTok (rows.length + news.length) (tsize P e))
            | .tok k => match m.toks.get k with
              | some (top, wd) => if k < m.ntok ∧ top = rows.length ∧ wd = tsize P e then
                  .ok (.list (.tok m.ntok) (rows ++ PV.stripR news), { m.newTok (rows.length + news.length) (tsize P e) with toks := (m.newTok (rows.length + news.length) (tsize P e)).toks.set k (DEAD, wd) }) else .error "append top"
              | none => .error "append tok"
            | .no => .error "append no"
      else .error "append cond"
    | none => .error "append type"
  | _, _, _ => .error "append"
def eop (P : Program) (call : Call0) (callM : CallM) (md : Bool) (op : Op) (ρ : Operand → PV) (m : EM) : ER (RR × EM) :=
  let n : Operand → PV := fun x => nz (ρ x)
  match op with
  | .box _ x => match cells1 (n x) with | some cs => .ok (.ret (.loc m.nloc 0), m.new (.cells cs)) | none => .error "box"
  | .alloc e => match tzero P e with | some z => if zOK z then .ok (.ret (.loc m.nloc 0), m.new (.cells (zcells z))) else .error "alloc" | none => .error "alloc"
  | .load t x => match eload P t (n x) m with | .ok p => .ok (.ret p, m) | .error s => .error s
  | .store t x y => match estore P t (n x) (n y) m with | .ok m' => .ok (.ret .any, m') | .error s => .error s
  | .makeSlice t l c => match n l, n c, telem P t with
    | .v (.int _ k), .v (.int _ k'), some e => match tzero P e with
      | some z => if k = k' ∧ 0 ≤ k ∧ k < 4611686018427387904 ∧ tinfo P e = true ∧ tbytes P e * k ≤ 140737488355328 ∧ zOK z = true ∧ 0 < (zcells z).length then .ok (.ret (.marr m.nloc 0 k.toNat k.toNat), m.new (.cells (zrow (zcells z) (k.toNat * tsize P e)))) else .error "make"
      | none => .error "make"
    | _, _, _ => .error "make"
  | .range t x => match n x with | .v (.string s) => if tstr P t then .ok (.ret (.loc m.nloc 0), m.new (.iter s 0)) else .error "range" | _ => .error "range"
  | .next x true => match n x with
    | .loc k 0 => match m.iter k with
      | some (s, i) => if k < m.nloc then (if i < s.size then .ok (.ret (.tup [.v (.bool true), .v (.int .i64 i), .v (.int .i32 (Utf8.decode s i).1)]), m.put k (.iter s (i + (Utf8.decode s i).2))) else .ok (.ret (.tup [.v (.bool false)]), m)) else .error "next"
      | none => .error "next"
    | _ => .error "next"
  | .call c => match c.callee with
    | .value f => match n f with
      | .clo g first caps =>
        let args := first ++ c.args.toList.map (fun x => (n x).strip) ++ caps
        match call g args with
        | .ok r => .ok (r, m)
        | .error _ => callM g args m
      | _ => .error "callee"
    | .builtin .append => match c.args.toList with
      | [x, y] => match eappend P md c.argTypes.toList (n x) (n y) m with | .ok (p, m') => .ok (.ret p, m') | .error s => .error s
      | _ => .error "append"
    | .builtin .clear => match c.args.toList, c.argTypes.toList with
      | [x], [t] => match n x, telem P t with
        | .marr k off len _, some e => match tzero P e, m.cells k with
          | some z, some cs => if zOK z = true ∧ 0 < (zcells z).length ∧ k < m.nloc ∧ off + len * (zcells z).length ≤ cs.length then .ok (.ret .any, m.put k (.cells (setL cs off (zrow (zcells z) (len * (zcells z).length))))) else .error "clear"
          | _, _ => .error "clear"
        | _, _ => .error "clear"
      | _, _ => .error "clear"
    | _ => match eopS P call op ρ with | .ok p => .ok (.ret p, m) | .error s => .error s
  | .panic x => match n x with | .iface t y => .ok (.pan (.iface t y), m) | _ => .error "panic"
  | _ => match eopS P call op ρ with | .ok p => .ok (.ret p, m) | .error s => .error s
def ewant (N : Nat) (ops : Array Oper) (σ : AL PV) (o : Oper) : Option Bool :=
  match o.guard with
  | none => some true
  | some (j, want) => match opDst ops j with
    | some g => if g < N then (match σ.get g with | some (.v (.bool b)) => some (b == want) | some (.v _) => some false | _ => none) else none
    | none => none
def eops (P : Program) (call : Call0) (callM : CallM) (md : Bool) (N : Nat) (ops : Array Oper) : List Oper → AL PV → EM → ER (EX × AL PV × EM)
  | [], σ, m => .ok (.normal, σ, m)
  | o :: rest, σ, m =>
    if dstOK N o.dst then
      match ewant N ops σ o with
      | some true => match eop P call callM md o.op (opv (slt σ)) m with
        | .ok (.ret p, m') => eops P call callM md N ops rest (eput σ o.dst p) m'
        | .ok (.pan p, m') => .ok (.pan p, σ, m')
        | .error s => .error s
      | some false => eops P call callM md N ops rest (eput σ o.dst (.v undef)) m
      | none => .error "guard"
    else .error "dst"
def ecls : Op → Cls
  | .load .. => .L
  | .box .. | .alloc _ => .A
  | .store .. | .makeSlice .. | .range .. | .next .. | .panic _ => .W
  | .call c => match c.callee with | .builtin .append | .builtin .clear => .W | _ => .S
  | _ => .S
def canTakeD (s : Bool) (cls : List Cls) (ops : Array Oper) (bef : Array Nat) (listed : Array Bool) (i : Nat) : Bool :=
  match ops[i]? with
  | none => false
  | some oi => (cls.getD i .W == if s then .S else .L) && (Region.ready .any ops listed).contains i && (List.range ops.size).all fun j =>
    if (bef.getD j 0).testBit i then
      !listed.getD j true && (match ops[j]? with | some oj => oj.after.any fun e => Region.binds .any e && (e.on == i || (bef.getD e.on 0).testBit i) | none => false)
    else j == i || listed.getD j true || (match ops[j]? with | some oj => oi.apart ops oj && (s || goesWithL (cls.getD j .W)) | none => false)
def eplan (cls : List Cls) (ops : Array Oper) (bef : Array Nat) : Nat → Array Bool → Option (List Nat)
  | 0, listed => match Region.ready .any ops listed with | [] => some [] | _ => none
  | n + 1, listed => match Region.ready .any ops listed with
    | [] => none
    | [i] => (eplan cls ops bef n (listed.setIfInBounds i true)).map (i :: ·)
    | rs => match rs.find? fun i => canTakeD (cls.getD i .W == .S) cls ops bef listed i with
      | some i => (eplan cls ops bef n (listed.setIfInBounds i true)).map (i :: ·)
      | none => none
def edraw (P : Program) (call : Call0) (callM : CallM) (N : Nat) (ops : Array Oper) (cls : List Cls) : List Nat → AL PV → EM → ER (EX × AL PV × EM)
  | [], σ, m => .ok (.normal, σ, m)
  | i :: rest, σ, m => match ops[i]? with
    | none => .error "draw"
    | some o => if dstOK N o.dst then
        match ewant N ops σ o with
        | some false => edraw P call callM N ops cls rest (eput σ o.dst (.v undef)) m
        | some true => match cls.getD i .W with
          | .S => match eopS P call o.op (opv (slt σ)) with
            | .ok p => edraw P call callM N ops cls rest (eput σ o.dst p) m
            | .error s => .error s
          | .L => match o.op with
            | .load t x => match eload P t (nz (opv (slt σ) x)) m with
              | .ok p => edraw P call callM N ops cls rest (eput σ o.dst p) m
              | .error s => .error s
            | _ => .error "draw L"
          | .R => .error "draw R"
          | .A => match o.op with
            | .box _ x => match cells1 (nz (opv (slt σ) x)) with | some cs => edraw P call callM N ops cls rest (eput σ o.dst (.loc m.nloc 0)) (m.new (.cells cs)) | none => .error "box"
            | .alloc e => match tzero P e with | some z => if zOK z then edraw P call callM N ops cls rest (eput σ o.dst (.loc m.nloc 0)) (m.new (.cells (zcells z))) else .error "alloc" | none => .error "alloc"
            | _ => .error "draw A"
          | .W => match eop P call callM false o.op (opv (slt σ)) m with
            | .ok (.ret p, m') => edraw P call callM N ops cls rest (eput σ o.dst p) m'
            | .ok (.pan p, m') => .ok (.pan p, σ, m')
            | .error s => .error s
        | none => .error "guard"
      else .error "dst"
def edrawW (ops : List Oper) : List Cls := ops.map fun o => match o.op with | .call c => (match c.callee with | .value _ => .W | _ => ecls o.op) | _ => ecls o.op
def eregion (P : Program) (call : Call0) (callM : CallM) (md : Bool) (N : Nat) (ops : Array Oper) (draw : Bool) (σ : AL PV) (m : EM) : ER (EX × AL PV × EM) :=
  if draw then
    let n := ops.toList.length
    let one (cls : List Cls) : ER (EX × AL PV × EM) := match eplan cls ops (Region.before ops) n (Array.replicate n false) with
      | some pl => edraw P call callM N ops cls pl σ m
      | none => .error "plan"
    if P.follows .mixedOrders then
      match one (ops.toList.map fun o => ecls o.op) with
      | .ok r => .ok r
      | .error s => match one (edrawW ops.toList) with | .ok r => .ok r | .error _ => .error s
    else .error "orders"
  else eops P call callM md N ops ops.toList σ m
structure ECfg where
  spc : CallM → FuncId → List PV → Option (ER PV)
  muts : List Nat
  frz : AL Nat
abbrev CodeF := Nat → Bool → Code → AL PV → EM → ER (EX × AL PV × EM)
def slots : Nat → List PV → AL PV
  | _, [] => []
  | k, x :: xs => (k, x) :: slots (k + 1) xs
def eres (P : Program) (σ : AL PV) (m : EM) : ResultVar → ER PV
  | .tmp t => .ok (slt σ t)
  | .cell a t => eload P t (slt σ a) m
def eresL (P : Program) (σ : AL PV) (m : EM) : List ResultVar → ER (List PV)
  | [] => .ok []
  | r :: rs => match eres P σ m r with
    | .ok p => match eresL P σ m rs with
      | .ok ps => .ok (p :: ps)
      | .error s => .error s
    | .error s => .error s
def ebody (P : Program) (ih : CodeF) (md : Bool) (f : FuncId) (args : List PV) (m : EM) : ER (RR × EM) :=
  match P.funcs[f]? with
  | some fn => match fn.body with
    | some c => if (fn.name == "runtime.NumGoroutine") = false ∧ args.length ≤ fn.ntmps then
        match ih fn.ntmps md c (slots 0 args) m with
        | .ok (.pan p, _, m') => .ok (.pan p.strip, m')
        | .ok (.ret, σ, m') => (match fn.results.toList with
          | [r] => match eres P σ m' r with | .ok p => .ok (.ret p.strip, m') | .error s => .error s
          | rs => match eresL P σ m' rs with | .ok ps => .ok (.ret (PV.tup ps).strip, m') | .error s => .error s)
        | .ok (.normal, σ, m') => (match fn.results.toList with
          | [r] => match eres P σ m' r with | .ok p => .ok (.ret p.strip, m') | .error s => .error s
          | rs => match eresL P σ m' rs with | .ok ps => .ok (.ret (PV.tup ps).strip, m') | .error s => .error s)
        | .ok _ => .error "exit"
        | .error s => .error s
      else .error "body"
    | none => .error "no body"
  | none => .error "no function"
def efz (w : Nat) : AL Ent → PV → EM → PV × EM
  | [], p, m => (p, m)
  | (n, _) :: l, p, m => match m.cells n with
    | some cs => if n < m.nloc then efz w l (p.fz n w cs) (m.put n .gone) else efz w l p m
    | none => efz w l p m
def RR.scb (nl nt : Nat) : RR → Bool | .ret p => p.scb nl nt | .pan p => p.scb nl nt
def efin (cfg : ECfg) (f : FuncId) (r : RR) (m : EM) : RR :=
  match r, cfg.frz.get f with
  | .ret p, some w => .ret (efz w m.locs p m).1
  | r, _ => r
def call0 (P : Program) (cfg : ECfg) (ih : CodeF) (callM : CallM) : Call0 := fun f args =>
  match cfg.spc callM f args with
  | some (.ok p) => .ok (.ret p)
  | some (.error s) => .error s
  | none =>
    if cfg.muts.contains f = false && PV.scLb 0 0 args then
      match ebody P ih false f args EM.empty with
      | .ok (r, m') =>
        if (efin cfg f r m').scb 0 0 = true then .ok (efin cfg f r m') else .error "open result"
      | .error s => .error s
    else .error "open arguments"
def entb (nl nt : Nat) : AL Ent → Bool
  | [] => true
  | (_, .cells cs) :: l => PV.scLb nl nt cs && entb nl nt l
  | _ :: l => entb nl nt l
def callM1 (P : Program) (cfg : ECfg) (ih : CodeF) : CallM := fun f args m =>
  if cfg.muts.contains f then ebody P ih true f args m
  else match ebody P ih false f args m with
    | .ok (r, m') =>
      let m'' : EM := { m' with locs := m'.locs.dropWhile (fun x => decide (m.nloc ≤ x.1)), nloc := m.nloc }
      if m.ntok ≤ m'.ntok ∧ m.nloc ≤ m'.nloc ∧ entb m.nloc m'.ntok m''.locs = true ∧ r.scb m.nloc m'.ntok = true then .ok (r, m'') else .error "leaves"
    | .error s => .error s
def ecode1 (P : Program) (cfg : ECfg) (ih : CodeF) : CodeF := fun N md c σ m =>
  match c with
  | .skip => .ok (.normal, σ, m)
  | .label _ => .ok (.normal, σ, m)
  | .exit i => .ok (.exit i, σ, m)
  | .goto i => .ok (.goto i, σ, m)
  | .ret => .ok (.ret, σ, m)
  | .seq a b => match ih N md a σ m with
    | .ok (.normal, σ', m') => ih N md b σ' m'
    | r => r
  | .cond c a b => match opv (slt σ) c with
    | .v (.bool true) => ih N md a σ m
    | .v (.bool false) => ih N md b σ m
    | _ => .error "cond"
  | .block i b => match ih N md b σ m with
    | .ok (.exit j, σ', m') => if j = i then .ok (.normal, σ', m') else .ok (.exit j, σ', m')
    | r => r
  | .loop b => match ih N md b σ m with
    | .ok (.normal, σ', m') => ih N md (.loop b) σ' m'
    | r => r
  | .region _ ops draw => eregion P (call0 P cfg ih (callM1 P cfg ih)) (callM1 P cfg ih) md N ops draw σ m
  | _ => .error "code"
noncomputable def ecode (P : Program) (cfg : ECfg) : Nat → CodeF := fun n => Nat.rec (fun _ _ _ _ _ => .error "fuel") (fun _ ih => ecode1 P cfg ih) n
noncomputable def ecall (P : Program) (cfg : ECfg) (n : Nat) : Call0 := call0 P cfg (ecode P cfg n) (callM1 P cfg (ecode P cfg n))
end Go.Ab
namespace Go.Ab
open Go.RowKit
section
variable {α : Type}
theorem AL.get_set (l : AL α) (n : Nat) (y : α) (i : Nat) : (AL.set l n y).get i = if i = n then some y else l.get i := by
  induction l with
  | nil => simp only [AL.set, AL.get]
  | cons x l ih =>
    obtain ⟨k, x⟩ := x
    simp only [AL.set]
    by_cases h : n = k
    · subst h
      simp only [if_true, AL.get]
      by_cases h2 : i = n <;> simp [h2]
    · simp only [if_neg h, AL.get, ih]
      by_cases h2 : i = k
      · subst h2; simp [Ne.symm h]
      · simp [h2]
end
theorem St.ext {a b : St} (h1 : a.loc = b.loc) (h2 : a.lp = b.lp) (h3 : a.nloc = b.nloc) (h4 : a.top = b.top) (h5 : a.wd = b.wd) (h6 : a.ntok = b.ntok) (h7 : a.it = b.it) (h8 : a.arr = b.arr := by rfl) : a = b := by
  cases a; cases b; simp_all
theorem st_empty : EM.empty.st = St.empty := by
  refine St.ext ?_ ?_ rfl ?_ ?_ rfl ?_ <;> funext i <;> rfl
theorem st_new_cells (m : EM) (cs : List PV) : (m.new (.cells cs)).st = m.st.newLoc cs := by
  refine St.ext ?_ ?_ rfl rfl rfl rfl ?_ <;> funext i
  · show entC (AL.get ((m.nloc, Ent.cells cs) :: m.locs) i) = upd m.cells m.nloc (some cs) i
    simp only [AL.get, upd]
    by_cases h : i = m.nloc <;> simp [h, entC, EM.cells]
  · show none = upd (fun _ => none) m.nloc none i
    simp [upd]
  · show entI (AL.get ((m.nloc, Ent.cells cs) :: m.locs) i) = upd m.iter m.nloc none i
    simp only [AL.get, upd]
    by_cases h : i = m.nloc <;> simp [h, entI, EM.iter]
theorem st_new_iter (m : EM) (s : ByteArray) (j : Nat) : (m.new (.iter s j)).st = m.st.newIt s j := by
  refine St.ext ?_ ?_ rfl rfl rfl rfl ?_ <;> funext i
  · show entC (AL.get ((m.nloc, Ent.iter s j) :: m.locs) i) = upd m.cells m.nloc none i
    simp only [AL.get, upd]
    by_cases h : i = m.nloc <;> simp [h, entC, EM.cells]
  · show none = upd (fun _ => none) m.nloc none i
    simp [upd]
  · show entI (AL.get ((m.nloc, Ent.iter s j) :: m.locs) i) = upd m.iter m.nloc (some (s, j)) i
    simp only [AL.get, upd]
    by_cases h : i = m.nloc <;> simp [h, entI, EM.iter]
theorem cells_iter {m : EM} {n : Nat} {cs : List PV} (h : m.cells n = some cs) : m.iter n = none := by
  unfold EM.cells entC at h; unfold EM.iter entI
  split at h
  · rename_i e; rw [e]
  · cases h
theorem iter_cells {m : EM} {n : Nat} {x : ByteArray × Nat} (h : m.iter n = some x) : m.cells n = none := by
  unfold EM.iter entI at h; unfold EM.cells entC
  split at h
  · rename_i e; rw [e]
  · cases h
theorem put_cells (m : EM) (n : Nat) (e : Ent) (i : Nat) : (m.put n e).cells i = if i = n then entC (some e) else m.cells i := by
  show entC (AL.get (AL.set m.locs n e) i) = _
  rw [AL.get_set]
  by_cases h : i = n <;> simp [h, EM.cells]
theorem put_iter (m : EM) (n : Nat) (e : Ent) (i : Nat) : (m.put n e).iter i = if i = n then entI (some e) else m.iter i := by
  show entI (AL.get (AL.set m.locs n e) i) = _
  rw [AL.get_set]
  by_cases h : i = n <;> simp [h, EM.iter]
theorem st_put_cells {m : EM} {n : Nat} {cs : List PV} (h : m.cells n = some cs) (cs' : List PV) : (m.put n (.cells cs')).st = m.st.setLoc n cs' := by
  refine St.ext ?_ rfl rfl rfl rfl rfl ?_ <;> funext i
  · exact put_cells m n _ i
  · show (m.put n _).iter i = m.iter i
    rw [put_iter]
    by_cases e : i = n
    · subst e; simp [entI, cells_iter h]
    · simp [e]
theorem st_put_gone {m : EM} {n : Nat} {cs : List PV} (h : m.cells n = some cs) : (m.put n .gone).st = m.st.dropLoc n := by
  refine St.ext ?_ rfl rfl rfl rfl rfl ?_ <;> funext i
  · exact put_cells m n _ i
  · show (m.put n _).iter i = m.iter i
    rw [put_iter]
    by_cases e : i = n
    · subst e; simp [entI, cells_iter h]
    · simp [e]
theorem st_put_iter {m : EM} {n : Nat} {x : ByteArray × Nat} (h : m.iter n = some x) (s : ByteArray) (j : Nat) : (m.put n (.iter s j)).st = m.st.setIt n s j := by
  refine St.ext ?_ rfl rfl rfl rfl rfl ?_ <;> funext i
  · show (m.put n _).cells i = m.cells i
    rw [put_cells]
    by_cases e : i = n
    · subst e; simp [entC, iter_cells h]
    · simp [e]
  · exact put_iter m n _ i
theorem st_newTok (m : EM) (n w : Nat) : (m.newTok n w).st = m.st.newTok n w := by
  refine St.ext rfl rfl rfl ?_ ?_ rfl rfl (by funext i; simp [St.newTok, EM.st, upd]) <;> funext i
  · show oTop (AL.get ((m.ntok, n, w) :: m.toks) i) = upd m.st.top m.ntok n i
    simp only [AL.get, upd]
    by_cases h : i = m.ntok <;> simp [h, EM.st, oTop]
  · show oWd (AL.get ((m.ntok, n, w) :: m.toks) i) = upd m.st.wd m.ntok w i
    simp only [AL.get, upd]
    by_cases h : i = m.ntok <;> simp [h, EM.st, oWd]
theorem st_killTok (m : EM) (k : Nat) {t wd : Nat} (h : m.toks.get k = some (t, wd)) : ({ m with toks := m.toks.set k (DEAD, wd) } : EM).st = m.st.killTok k := by
  refine St.ext rfl rfl rfl ?_ ?_ rfl rfl <;> funext i
  · show oTop (AL.get (m.toks.set k (DEAD, wd)) i) = upd m.st.top k DEAD i
    rw [AL.get_set]
    simp only [upd]
    by_cases h : i = k <;> simp [h, EM.st, oTop]
  · show oWd (AL.get (m.toks.set k (DEAD, wd)) i) = m.st.wd i
    rw [AL.get_set]
    by_cases e : i = k
    · subst e; simp [EM.st, h, oWd]
    · simp [e, EM.st]
theorem slt_eput (σ : AL PV) (d : Option Tmp) (p : PV) : slt (eput σ d p) = put (slt σ) d p := by
  cases d with
  | none => rfl
  | some d =>
    funext i
    show oAny (AL.get (AL.set σ d p) i) = upd (slt σ) d p i
    rw [AL.get_set]
    simp only [upd]
    by_cases h : i = d <;> simp [h, slt, oAny]
section
variable {P : Program} {m : EM} {K Kp : PV → St → Prop} {s : St}
theorem nz_rep (p : PV) (Γ : Ctx) (w : World) (u : Value) (h : VRep Γ w p u) : VRep Γ w (nz p) u := by
  unfold nz
  split
  · replace h : u = _ := h
    subst h
    exact ⟨none, 0, rfl, Nat.le_refl _, fun _ => rfl, (fun ad h => by cases h), rfl⟩
  · exact h
theorem rowsW_spec {n : Nat} {rows : List (List PV)} (h : rowsW n rows = true) : RowsW n rows := fun r hr => by
  have := List.all_eq_true.1 h r hr
  simpa using this
theorem eload_sound {t : TypeId} {x : PV} {p : PV} (h : eload P t x m = .ok p) (hk : K p m.st) : aload P t x m.st K := by
  unfold eload at h
  split at h
  · rename_i ht
    refine ⟨ht, ?_⟩
    split at h
    · rename_i cs
      simp only
      split at h
      · rename_i ha
        split at h
        · rename_i hl; cases h; rw [if_pos ha]; exact ⟨hl, hk⟩
        · cases h
      · rename_i ha
        rw [if_neg ha]
        split at h
        · rename_i c hc; cases h; simp only [hc]; exact hk
        · cases h
    · rename_i n off
      split at h
      · rename_i cs hc
        have hc' : m.st.loc n = some cs := hc
        simp only [hc']
        split at h
        · rename_i hn
          refine ⟨hn, ?_⟩
          split at h
          · rename_i ha
            split at h
            · rename_i hl; cases h; rw [if_pos ha]; exact ⟨hl, hk⟩
            · cases h
          · rename_i ha
            rw [if_neg ha]
            split at h
            · rename_i c hc; cases h; simp only [hc]; exact hk
            · cases h
        · cases h
      · cases h
    · cases h
  · cases h
theorem eload_ext {t : TypeId} {x : PV} {p : PV} (h : eload P t x m = .ok p) {s : St} (he : Ext m.st s) (hk : K p s) : aload P t x s K := by
  have h0 := eload_sound (K := fun q s' => q = p ∧ s' = m.st) h ⟨rfl, rfl⟩
  obtain ⟨ht, h0⟩ := h0
  refine ⟨ht, ?_⟩
  cases x <;> simp only at h0 ⊢
  case ro cs =>
    by_cases ha : tagg P t = true
    · rw [if_pos ha] at h0 ⊢
      exact ⟨h0.1, h0.2.1 ▸ hk⟩
    · rw [if_neg ha] at h0 ⊢
      cases hc : cs[0]? with
      | none => rw [hc] at h0; exact h0.elim
      | some c => rw [hc] at h0; exact h0.1 ▸ hk
  case loc n off =>
    cases hl : m.st.loc n with
    | none => rw [hl] at h0; exact h0.elim
    | some cs =>
      rw [hl] at h0
      obtain ⟨hn, h0⟩ := h0
      rw [he.loc n hn, hl]
      simp only
      refine ⟨Nat.lt_of_lt_of_le hn he.nloc, ?_⟩
      by_cases ha : tagg P t = true
      · rw [if_pos ha] at h0 ⊢
        exact ⟨h0.1, h0.2.1 ▸ hk⟩
      · rw [if_neg ha] at h0 ⊢
        cases hc : cs[off]? with
        | none => rw [hc] at h0; exact h0.elim
        | some c => rw [hc] at h0; exact h0.1 ▸ hk
theorem estore_sound {t : TypeId} {x y : PV} {m' : EM} (h : estore P t x y m = .ok m') (hk : K .any m'.st) : astore P t x y m.st K := by
  unfold estore at h
  split at h
  · rename_i ht
    refine ⟨ht, ?_⟩
    split at h
    · rename_i n off xs hxs
      simp only [hxs]
      split at h
      · rename_i cs hc
        have hc' : m.st.loc n = some cs := hc
        simp only [hc']
        split at h
        · rename_i hq; cases h
          rw [st_put_cells hc] at hk
          exact ⟨hq.1, hq.2.1, hq.2.2, hk⟩
        · cases h
      · cases h
    · cases h
  · cases h
theorem ebuild_sound {t : TypeId} {parts : List (Nat × PV)} {p : PV} (h : ebuild P t parts = .ok p) (hk : K p s) : abuild P t parts s K := by
  unfold ebuild at h; unfold abuild
  split at h
  · rename_i z hz
    simp only [hz]
    split at h
    · rename_i hq
      simp only [Bool.and_eq_true] at hq
      refine ⟨hq.1, hq.2, ?_⟩
      split at h
      · rename_i hf
        left
        refine ⟨hf, ?_⟩
        split at h
        · rename_i cs hcs; cases h; simp only [hcs]; exact hk
        · cases h
      · right
        split at h
        · rename_i n e ha
          split at h
          · rename_i he
            refine ⟨n, e, ha, he, ?_⟩
            split at h
            · rename_i cs hcs; cases h; simp only [hcs]; exact hk
            · cases h
          · cases h
        · cases h
    · cases h
  · cases h
theorem ebuildSlice_sound {t : TypeId} {len : Nat} {parts : List (Nat × PV)} {p : PV} (h : ebuildSlice P t len parts = .ok p) (hk : K p s) : abuildSlice P t len parts s K := by
  unfold ebuildSlice at h; unfold abuildSlice
  split at h
  · rename_i e he
    simp only [he]
    split at h
    · rename_i hq
      refine ⟨hq.1, hq.2, ?_⟩
      split at h
      · rename_i z hz
        simp only [hz]
        split at h
        · rename_i hq2
          refine ⟨hq2.1, hq2.2, ?_⟩
          split at h
          · rename_i cs hcs; cases h; simp only [hcs]; exact hk
          · cases h
        · cases h
      · cases h
    · cases h
  · cases h
theorem ebinop_sound {op : BinOp} {t : TypeId} {x y p : PV} (h : ebinop P op t x y = .ok p) (hk : K p s) : abinop P op t x y s K := by
  unfold ebinop at h
  split at h
  · split at h
    · rename_i ht
      unfold abinop
      refine ⟨ht, ?_⟩
      split at h
      · cases h; exact hk
      · cases h; exact hk
      · cases h
    · cases h
  · rename_i a b hne
    unfold abinop
    split at h
    · rename_i r hr
      cases h
      split
      · rename_i a' b' e1 e2
        cases e1; cases e2
        exact (hne _ _ rfl rfl).elim
      · rename_i a' b' _ e1 e2
        cases e1; cases e2
        simp only [hr]; exact hk
      · rename_i e1 _; cases e1
      · rename_i h1 h2 h3; exact (h2 a b rfl rfl).elim
    · cases h
  · rename_i o r rs
    split at h
    · rename_i ht
      unfold abinop
      simp only
      refine ⟨ht, ?_⟩
      split at h
      · cases h
        intro b hb
        cases b
        · exact hk
        · exact absurd (hb rfl) (by simp)
      · cases h
        intro b hb
        cases b
        · exact absurd (hb rfl) (by simp)
        · exact hk
      · cases h
    · cases h
  · cases h
theorem eunop_sound {op : UnOp} {x p : PV} (h : eunop op x = .ok p) (hk : K p s) : aunop op x s K := by
  unfold eunop at h; unfold aunop
  split at h <;> first | (cases h; done) | (cases h; exact hk)
theorem econvert_sound {a d : TypeId} {x p : PV} (h : econvert P a d x = .ok p) (hk : K p s) : aconvert P a d x s K := by
  unfold econvert at h; unfold aconvert
  split at h
  · rename_i k n k' hk'
    split at h
    · rename_i ht; cases h; simp only [hk']; exact ⟨ht, hk⟩
    · cases h
  · cases h
theorem efieldAddr_sound {t f : Nat} {x p : PV} (h : efieldAddr P t x f = .ok p) (hk : K p s) : afieldAddr P t x f s K := by
  unfold efieldAddr at h; unfold afieldAddr
  split at h
  · rename_i o ft hf
    simp only [hf]
    split at h
    · rename_i hq
      refine ⟨hq.1, hq.2, ?_⟩
      split at h
      · cases h; exact hk
      · cases h; exact hk
      · cases h
    · cases h
  · cases h
theorem epart_sound {t off : Nat} {cs : List PV} {p : PV} (h : epart P t cs off = .ok p) (hk : K p s) : apart P t cs off s K := by
  unfold epart at h; unfold apart
  split at h
  · rename_i ht
    refine ⟨ht, ?_⟩
    split at h
    · rename_i ha; cases h; rw [if_pos ha]; exact hk
    · rename_i ha
      rw [if_neg ha]
      split at h
      · rename_i c hc; cases h; simp only [hc]; exact hk
      · cases h
  · cases h
theorem efield_sound {t f : Nat} {x p : PV} (h : efield P t x f = .ok p) (hk : K p s) : afield P t x f s K := by
  unfold efield at h; unfold afield
  split at h
  · rename_i o ft cs hf; simp only [hf]; exact epart_sound h hk
  · cases h
theorem eindexAddr_sound {t : Nat} {x i p : PV} (h : eindexAddr P t x i = .ok p) (hk : K p s) : aindexAddr P t x i s K := by
  unfold eindexAddr at h; unfold aindexAddr
  split at h
  · rename_i e k n he
    simp only [he]
    split at h
    · rename_i hq
      refine ⟨hq.1, hq.2, ?_⟩
      split at h
      · split at h
        · rename_i hq2; cases h; exact ⟨hq2.1, rowsW_spec hq2.2, hk⟩
        · cases h
      · split at h
        · rename_i hq2; cases h; exact ⟨hq2, hk⟩
        · cases h
      · cases h
    · cases h
  · cases h
theorem eindex_sound {t : Nat} {x i p : PV} (h : eindex P t x i = .ok p) (hk : K p s) : aindex P t x i s K := by
  unfold eindex at h; unfold aindex
  split at h
  · split at h
    · rename_i len e ha
      simp only [ha]
      split at h
      · rename_i hq; exact ⟨hq.1, hq.2.1, hq.2.2, epart_sound h hk⟩
      · cases h
    · cases h
  · split at h
    · rename_i hq; cases h; exact ⟨hq.1, hq.2.1, hq.2.2, hk⟩
    · cases h
  · cases h
theorem eextract_sound {x p : PV} {i : Nat} (h : eextract x i = .ok p) (hk : K p s) : aextract x i s K := by
  unfold eextract at h; unfold aextract
  split at h
  · split at h
    · rename_i q hq; cases h; simp only [hq]; exact hk
    · cases h
  · cases h
theorem eslice_sound {t : Nat} {x p : PV} {lo hi mx : Option PV} (h : eslice P t x lo hi mx = .ok p) (hk : K p s) : aslice P t x lo hi mx s K := by
  unfold eslice at h; unfold aslice
  split at h
  · split at h
    · rename_i e l hh he hl hhe
      simp only [he, hl, hhe]
      split at h
      · rename_i hq; cases h; exact ⟨hq.1, rowsW_spec hq.2.1, hq.2.2.1, hq.2.2.2.1, hq.2.2.2.2, hk⟩
      · cases h
    · rename_i e l hh k q he hl hhe
      simp only [he, hl, hhe]
      split at h
      · rename_i hq; cases h; exact ⟨hq.1, rowsW_spec hq.2.1, hq.2.2.1, hq.2.2.2.1, hq.2.2.2.2.1, hq.2.2.2.2.2.1, hq.2.2.2.2.2.2, hk⟩
      · cases h
    · cases h
  · split at h
    · rename_i e l hh he hl hhe
      simp only [he, hl, hhe]
      split at h
      · rename_i hq; cases h; exact ⟨hq.1, hq.2.1, hq.2.2.1, hq.2.2.2.1, hq.2.2.2.2.1, hq.2.2.2.2.2, hk⟩
      · cases h
    · cases h
  · split at h
    · rename_i l hh hl hhe
      simp only [hl, hhe]
      split at h
      · rename_i hq; cases h; exact ⟨hq.1, hq.2.1, hq.2.2.1, hq.2.2.2, hk⟩
      · cases h
    · cases h
  · cases h
theorem elen_sound {ts : List TypeId} {x p : PV} (h : elen P ts x = .ok p) (hk : K p s) : alen P ts x s K := by
  unfold elen at h; unfold alen
  split at h
  · split at h
    · rename_i ht; cases h; exact ⟨ht, hk⟩
    · cases h
  · split at h
    · rename_i ht; cases h; exact ⟨ht, hk⟩
    · cases h
  · split at h
    · rename_i ht; cases h; exact ⟨ht, hk⟩
    · cases h
  · cases h
end
end Go.Ab
namespace Go.Ab
open Go.RowKit
def RR.toA : RR → ARes | .ret p => .ret p | .pan p => .pan p
def EX.toA : EX → AExit | .normal => .normal | .exit n => .exit n | .goto l => .goto l | .ret => .ret | .pan p => .pan p
def Call0OK (P : Program) (call : Call0) : Prop := ∀ g args r, call g args = .ok r → ∀ s, ACall P g args s (fun r' s' => r' = r.toA ∧ s' = s)
def CallMOK (P : Program) (callM : CallM) : Prop := ∀ g args m r m', callM g args m = .ok (r, m') → ACall P g args m.st (fun r' s' => r' = r.toA ∧ s' = m'.st)
section
variable {P : Program} {call : Call0} {callM : CallM} {K Kp : PV → St → Prop} {s : St}
theorem OpOKo.weak {o : Oper} {ρ ρ' : Operand → PV} (hw : ∀ x Γ w u, VRep Γ w (ρ x) u → VRep Γ w (ρ' x) u) (h : OpOKo P o ρ' s K Kp) : OpOKo P o ρ s K Kp :=
  fun Γ ev w hm hv => h Γ ev w hm fun x hx => hw x Γ w _ (hv x hx)
theorem OpOKo.op {o : Oper} {ρ : Operand → PV} (h : OpOKo P o ρ s K Kp) : OpOK P o ρ s K Kp := fun Γ ev w hm hv => h Γ ev w hm fun x _ => hv x
theorem eopS_soundO (hc : Call0OK P call) {o : Oper} {ρ : Operand → PV} {p : PV} (h : eopS P call o.op ρ = .ok p) (s : St) : OpOKo P o ρ s (fun q s' => q = p ∧ s' = s) (fun _ _ => False) := by
  obtain ⟨Kx, hKx⟩ : ∃ Kx : PV → St → Prop, Kx = fun q s' => q = p ∧ s' = s := ⟨_, rfl⟩
  have kk : Kx p s := by rw [hKx]; exact ⟨rfl, rfl⟩
  rw [← hKx]
  have fin : aop P o.op (fun x => nz (ρ x)) s Kx (fun _ _ => False) → OpOKo P o ρ s Kx (fun _ _ => False) :=
    fun q => OpOKo.weak (fun x => nz_rep _) (aop_soundO o _ q)
  have fin2 : aop P o.op ρ s Kx (fun _ _ => False) → OpOKo P o ρ s Kx (fun _ _ => False) := fun q => aop_soundO o _ q
  obtain ⟨dst, op, ty, pos, after, guard⟩ := o
  simp only at h fin fin2 ⊢
  cases op <;> simp only [eopS] at h <;> simp only [aop] at fin fin2
  case move x => cases h; exact fin kk
  case assign x => cases h; exact fin kk
  case pick c a b =>
    refine fin ?_
    split at h
    · rename_i hb; cases h
      simp only [hb]
      unfold apick
      simp only
      split
      · rename_i e1 e2; rw [e1] at kk; exact kk
      · exact ⟨fun _ => kk, fun q => by cases q⟩
    · rename_i hb; cases h
      simp only [hb]
      unfold apick
      simp only
      split
      · rename_i e1 e2; rw [e2] at kk; exact kk
      · exact ⟨(fun q => by cases q), fun _ => kk⟩
    · cases h
  case build t parts => exact fin (ebuild_sound h kk)
  case buildSlice t len parts => exact fin (ebuildSlice_sound h kk)
  case nilCheck x =>
    refine fin ?_
    split at h
    · rename_i e; cases h; simp only [e, anil]; exact kk
    · rename_i e; cases h; simp only [e, anil]; exact kk
    · rename_i e; cases h; simp only [e, anil]; exact kk
    · cases h
  case binOp op t x y yt => exact fin2 (ebinop_sound h kk)
  case unOp op t x => exact fin (eunop_sound h kk)
  case convert a d x => exact fin (econvert_sound h kk)
  case makeInterface t x =>
    split at h
    · rename_i ht; cases h; exact fin ⟨ht, kk⟩
    · cases h
  case makeFunc fn first caps =>
    cases fn <;> simp only at h fin
    case func f => cases h; exact fin kk
    all_goals cases h
  case slice t x lo hi mx => exact fin (eslice_sound h kk)
  case fieldAddr t x f => exact fin (efieldAddr_sound h kk)
  case field t x f => exact fin (efield_sound h kk)
  case indexAddr t x i => exact fin (eindexAddr_sound h kk)
  case index t x i => exact fin (eindex_sound h kk)
  case extract x i => exact fin (eextract_sound h kk)
  case call c =>
    refine fin ?_
    unfold acall
    obtain ⟨callee, args, ts⟩ := c
    simp only at h ⊢
    cases callee with
    | value f =>
      simp only at h ⊢
      split at h
      · rename_i g first caps hf
        simp only [hf]
        split at h
        · rename_i q hq
          cases h
          refine (hc _ _ _ hq s).mono ?_
          rintro r s' ⟨rfl, rfl⟩
          exact kk
        · cases h
        · cases h
      · cases h
    | invoke r n => cases h
    | builtin b =>
      cases b <;> simp only at h ⊢ <;> try (cases h; done)
      case len =>
        split at h
        · rename_i x hx; simp only [hx]; exact elen_sound h kk
        · cases h
      case max =>
        unfold emax at h
        split at h
        · rename_i k a k' b hx; cases h; simp only [hx]; exact kk
        · cases h
      case min =>
        unfold emin at h
        split at h
        · rename_i k a k' b hx; cases h; simp only [hx]; exact kk
        · cases h
  all_goals cases h
theorem appD_full (m : EM) (n w : Nat) : m.st.appD .full n w = (m.newTok n w).st := (st_newTok m n w).symm
theorem eappend_sound {md : Bool} {o : Oper} {c : Call} {x y : Operand} {ρ : Operand → PV} {m m' : EM} {p : PV} (ho : o.op = .call c) (hcl : c.callee = .builtin .append) (ha : c.args.toList = [x, y])
    (h : eappend P md c.argTypes.toList (ρ x) (ρ y) m = .ok (p, m')) : OpOK P o ρ m.st (fun q s' => q = p ∧ s' = m'.st) (fun _ _ => False) := by
  unfold eappend at h
  split at h
  · rename_i t t' ow rows o2 news hts hx hy
    split at h
    · rename_i e he
      split at h
      · rename_i hq
        obtain ⟨rfl, h1, h2, h3, h4, h5, h6, h7⟩ := hq
        have hw1 := rowsW_spec h4
        have hw2 := rowsW_spec h5
        have main : appOK (tsize P e) m.st ow rows.length → ∀ K : PV → St → Prop, (∀ o' s', AppRes (tsize P e) m.st ow rows.length news.length o' s' → K (.list o' (rows ++ PV.stripR news)) s') → OpOK P o ρ m.st K (fun _ _ => False) := by
          intro hok K hK
          refine aop_sound o ρ ?_
          rw [ho]
          obtain ⟨callee, args, ts⟩ := c
          simp only at hcl ha hts
          subst hcl
          simp only [aop, acall, ha, hts, hx, hy]
          unfold aappend
          simp only [he]
          exact ⟨trivial, h1, h2, h3, hw1, hw2, h6, by omega, hok, hK⟩
        split at h
        · -- nothing is appended
          cases ow with
          | full =>
            simp only at h
            cases h
            refine main trivial _ fun o' s' hr => ?_
            rcases hr with ⟨_, rfl, rfl⟩ | ⟨h0, _⟩ | ⟨h0, _⟩
            · simp [PV.stripR]
            · simp at h0
            · simp at h0
          | tok k => simp only at h; cases h
          | no => simp only at h; cases h
        · rename_i r rs
          have hpos : 0 < (r :: rs).length := by simp
          split at h
          · cases ow <;> simp only at h
            case full =>
              cases h
              refine op_appendL ho hcl ha hts he h1 h2 hw1 hw2 h6 (by omega) hpos hx hy ⟨rfl, ?_⟩
              exact (st_new_cells _ _).symm
            all_goals cases h
          · cases ow <;> simp only at h
            case full =>
              cases h
              refine OpOK.sees (main trivial _ fun o' s' hr => ?_)
              exact ⟨_, _, appD_sees (m := m.st) (o := .full) trivial h7 hpos hr, rfl, appD_full _ _ _⟩
            case tok k =>
              split at h
              · rename_i top wd hk
                split at h
                · rename_i hq2
                  obtain ⟨hk1, rfl, rfl⟩ := hq2
                  cases h
                  have hok : appOK (tsize P e) m.st (.tok k) rows.length := by
                    refine ⟨hk1, ?_, ?_, rfl⟩
                    · show oTop (m.toks.get k) = _; rw [hk]; rfl
                    · show oWd (m.toks.get k) = _; rw [hk]; rfl
                  refine OpOK.sees (main hok _ fun o' s' hr => ?_)
                  refine ⟨_, _, appD_sees (m := m.st) (o := .tok k) hok h7 hpos hr, rfl, ?_⟩
                  have hk' : (m.newTok (rows.length + (r :: rs).length) (tsize P e)).toks.get k = some (rows.length, tsize P e) := by
                    show AL.get ((m.ntok, _, _) :: m.toks) k = _
                    simp only [AL.get]
                    rw [if_neg (by omega)]; exact hk
                  rw [st_killTok _ k hk', st_newTok]
                  rfl
                · cases h
              · cases h
            case no => cases h
      · cases h
    · cases h
  · cases h
theorem eop_sound (hc : Call0OK P call) (hM : CallMOK P callM) {md : Bool} {o : Oper} {ρ : Operand → PV} {m m' : EM} {r : RR} (h : eop P call callM md o.op ρ m = .ok (r, m')) :
    OpOK P o ρ m.st (fun q s' => r = .ret q ∧ s' = m'.st) (fun q s' => r = .pan q ∧ s' = m'.st) := by
  obtain ⟨Kx, hKx⟩ : ∃ Kx : PV → St → Prop, Kx = fun q s' => r = .ret q ∧ s' = m'.st := ⟨_, rfl⟩
  obtain ⟨Kp, hKp⟩ : ∃ Kp : PV → St → Prop, Kp = fun q s' => r = .pan q ∧ s' = m'.st := ⟨_, rfl⟩
  have kk : ∀ q, r = .ret q → Kx q m'.st := fun q e => by rw [hKx]; exact ⟨e, rfl⟩
  have kp : ∀ q, r = .pan q → Kp q m'.st := fun q e => by rw [hKp]; exact ⟨e, rfl⟩
  rw [← hKx, ← hKp]
  have finO : OpOK P o (fun x => nz (ρ x)) m.st Kx Kp → OpOK P o ρ m.st Kx Kp := fun q => OpOK.weak (fun x => nz_rep _) q
  have fin : aop P o.op (fun x => nz (ρ x)) m.st Kx Kp → OpOK P o ρ m.st Kx Kp := fun q => finO (aop_sound o _ q)
  have pure_ : ∀ p, eopS P call o.op ρ = .ok p → r = .ret p → m' = m → OpOK P o ρ m.st Kx Kp := by
    intro p hp hr hm
    refine (eopS_soundO hc hp m.st).op.mono ?_ (fun _ _ q => q.elim)
    rintro q s' ⟨rfl, rfl⟩
    have := kk q hr
    rwa [hm] at this
  cases hop : o.op
  case box t x =>
    rw [hop] at h fin; simp only [eop] at h; simp only [aop] at fin
    split at h
    · rename_i cs hcs; cases h
      refine fin ?_
      simp only [hcs]
      rw [show m.st.newLoc cs = (m.new (.cells cs)).st from (st_new_cells m cs).symm]
      exact kk _ rfl
    · cases h
  case alloc t =>
    rw [hop] at h fin; simp only [eop] at h; simp only [aop] at fin
    split at h
    · rename_i z hz
      split at h
      · rename_i hz1; cases h
        refine fin ?_
        simp only [hz]
        refine ⟨hz1, ?_⟩
        rw [show m.st.newLoc (zcells z) = (m.new (.cells (zcells z))).st from (st_new_cells m _).symm]
        exact kk _ rfl
      · cases h
    · cases h
  case load t x =>
    rw [hop] at h fin; simp only [eop] at h; simp only [aop] at fin
    split at h
    · rename_i p hp; cases h
      exact fin (eload_sound hp (kk _ rfl))
    · cases h
  case store t x y =>
    rw [hop] at h fin; simp only [eop] at h; simp only [aop] at fin
    split at h
    · rename_i p hp; cases h
      exact fin (estore_sound hp (kk _ rfl))
    · cases h
  case makeSlice t l c =>
    rw [hop] at h fin; simp only [eop] at h; simp only [aop] at fin
    split at h
    · rename_i k1 k k2 k' e hl hc' he
      split at h
      · rename_i z hz
        split at h
        · rename_i hq; cases h
          obtain ⟨h1, h2, h3, h4, h5, h6, h7⟩ := hq
          refine fin ?_
          unfold amakeSlice
          simp only [hl, hc', he, hz]
          refine ⟨h1, h2, h3, h4, h5, h6, h7, ?_⟩
          rw [← st_new_cells]
          exact kk _ rfl
        · cases h
      · cases h
    · cases h
  case range t x =>
    rw [hop] at h; simp only [eop] at h
    split at h
    · rename_i b hb
      split at h
      · rename_i ht; cases h
        refine finO (op_range hop ht hb ?_)
        rw [← st_new_iter]
        exact kk _ rfl
      · cases h
    · cases h
  case next x isS =>
    rw [hop] at h
    cases isS <;> simp only [eop] at h
    · cases h
    · split at h
      · rename_i k hk
        split at h
        · rename_i b i hi
          split at h
          · rename_i hlt
            refine finO (op_next (n := k) (s := b) (i := i) hop hk hlt hi (fun hlt2 => ?_) (fun hge => ?_))
            · rw [if_pos hlt2] at h; cases h
              rw [← st_put_iter hi]; exact kk _ rfl
            · rw [if_neg hge] at h; cases h; exact kk _ rfl
          · cases h
        · cases h
      · cases h
  case panic x =>
    rw [hop] at h fin; simp only [eop] at h; simp only [aop] at fin
    split at h
    · rename_i t y hx; cases h
      refine fin ?_
      simp only [hx]
      exact kp _ rfl
    · cases h
  case call c =>
    obtain ⟨callee, args, ts⟩ := c
    cases callee with
    | value f =>
      rw [hop] at h fin; simp only [eop] at h; simp only [aop, acall] at fin
      split at h
      · rename_i g first caps hf
        refine fin ?_
        simp only [hf]
        split at h
        · rename_i r' hr; cases h
          refine (hc _ _ _ hr m.st).mono ?_
          rintro r2 s' ⟨rfl, rfl⟩
          cases r <;> simp only [RR.toA]
          · exact kk _ rfl
          · exact kp _ rfl
        · refine (hM _ _ _ _ _ h).mono ?_
          rintro r2 s' ⟨rfl, rfl⟩
          cases r <;> simp only [RR.toA]
          · exact kk _ rfl
          · exact kp _ rfl
      · cases h
    | invoke q n =>
      rw [hop] at h pure_; simp only [eop] at h
      split at h
      · rename_i p hp; cases h; exact pure_ _ hp rfl rfl
      · cases h
    | builtin b =>
      rw [hop] at h pure_
      by_cases hb : b = .append
      · subst hb
        simp only [eop] at h
        split at h
        · rename_i x y hxy
          split at h
          · rename_i p m2 hp; cases h
            refine finO ((eappend_sound (ρ := fun x => nz (ρ x)) hop rfl hxy hp).mono ?_ (fun _ _ q => q.elim))
            rintro q s' ⟨rfl, rfl⟩
            exact kk _ rfl
          · cases h
        · cases h
      · by_cases hb2 : b = .clear
        · subst hb2
          simp only [eop] at h
          split at h
          · rename_i x t hx ht
            split at h
            · rename_i k off len cp e hk he
              split at h
              · rename_i z cs hz hcs
                split at h
                · rename_i hq; cases h
                  refine finO (op_clear (n := k) (off := off) (len := len) (cap := cp) (cs := cs) hop rfl hx ht he hz hq.1 hq.2.1 hk hq.2.2.1 hcs hq.2.2.2 ?_)
                  rw [← st_put_cells hcs]
                  exact kk _ rfl
                · cases h
              · cases h
            · cases h
          · cases h
        · have h' : (match eopS P call (.call ⟨.builtin b, args, ts⟩) ρ with | .ok p => Except.ok (RR.ret p, m) | .error s => .error s : ER (RR × EM)) = .ok (r, m') := by
            cases b <;> first | exact h | exact absurd rfl hb | exact absurd rfl hb2
          split at h'
          · rename_i p hp; cases h'; exact pure_ _ hp rfl rfl
          · cases h'
  all_goals
    rw [hop] at h pure_; simp only [eop] at h
    split at h
    · rename_i p hp; cases h; exact pure_ _ hp rfl rfl
    · cases h
end
end Go.Ab
namespace Go.Ab
open Go.RowKit
def Sat (Q : APost) (x : EX) (σ : AL PV) (m : EM) : Prop :=
  match x with
  | .pan p => ∀ σ, Q (.pan p) σ m.st
  | x => Q x.toA (slt σ) m.st
section
variable {P : Program} {call : Call0} {callM : CallM} {N : Nat} {ops : Array Oper} {Q : APost}
theorem want_true {σ : AL PV} {o : Oper} (h : ewant N ops σ o = some true) : o.guard = none ∨ ∃ j want d, o.guard = some (j, want) ∧ opDst ops j = some d ∧ d < N ∧ slt σ d = .v (.bool want) := by
  unfold ewant at h
  split at h
  · rename_i hg; exact .inl hg
  · rename_i j want hg
    right
    split at h
    · rename_i d hd
      split at h
      · rename_i hlt
        split at h
        · rename_i b hb
          refine ⟨j, want, d, hg, hd, hlt, ?_⟩
          have : b = want := by simpa using h
          unfold slt; rw [hb, this]; rfl
        · cases h
        · cases h
      · cases h
    · cases h
theorem want_false {σ : AL PV} {o : Oper} (h : ewant N ops σ o = some false) : ∃ j want d u, o.guard = some (j, want) ∧ opDst ops j = some d ∧ d < N ∧ slt σ d = .v u ∧ (match u with | .bool b => b == want | _ => false) = false := by
  unfold ewant at h
  split at h
  · cases h
  · rename_i j want hg
    split at h
    · rename_i d hd
      split at h
      · rename_i hlt
        split at h
        · rename_i b hb
          refine ⟨j, want, d, .bool b, hg, hd, hlt, by unfold slt; rw [hb]; rfl, by simpa using h⟩
        · rename_i u hne hb
          refine ⟨j, want, d, u, hg, hd, hlt, by unfold slt; rw [hb]; rfl, ?_⟩
          cases u <;> first | rfl | exact (hne _ rfl).elim
        · cases h
      · cases h
    · cases h
theorem want_aWant {σ : AL PV} {o : Oper} {b : Bool} (h : ewant N ops σ o = some b) : aWant N ops (slt σ) o = some b := by
  unfold ewant at h; unfold aWant
  split at h
  · rename_i hg; (try simp only [hg]); exact h
  · rename_i j want hg
    (try simp only [hg])
    split at h
    · rename_i d hd
      (try simp only [hd])
      split at h
      · rename_i hlt
        rw [if_pos hlt]
        unfold slt
        split at h
        · rename_i b' hb; rw [hb]; exact h
        · rename_i u hne hb; rw [hb]; simp only [oAny]; cases u <;> first | exact h | exact (hne _ rfl).elim
        · cases h
      · cases h
    · cases h
theorem eops_sound (hc : Call0OK P call) (hM : CallMOK P callM) {md : Bool} : ∀ (l : List Oper) (σ : AL PV) (m : EM) {x : EX} {σ' : AL PV} {m' : EM}, eops P call callM md N ops l σ m = .ok (x, σ', m') → Sat Q x σ' m' → AList P N ops Q l (slt σ) m.st
  | [], σ, m, x, σ', m', h, hq => by
    simp only [eops] at h; cases h
    exact AList.nil hq
  | o :: rest, σ, m, x, σ', m', h, hq => by
    simp only [eops] at h
    split at h
    · rename_i hd
      split at h
      · rename_i hw
        have key : OpOK P o (opv (slt σ)) m.st (fun p m' => AList P N ops Q rest (put (slt σ) o.dst p) m') (fun p m' => Q (.pan p) (slt σ) m') := by
          split at h
          · rename_i p m1 hp
            refine (eop_sound hc hM hp).mono ?_ ?_
            · rintro q s ⟨e, rfl⟩
              cases e
              have := eops_sound hc hM rest _ _ h hq
              rwa [slt_eput] at this
            · rintro q s ⟨e, rfl⟩; cases e
          · rename_i p m1 hp
            cases h
            refine (eop_sound hc hM hp).mono ?_ ?_
            · rintro q s ⟨e, rfl⟩; cases e
            · rintro q s ⟨e, rfl⟩; cases e; exact hq _
          · cases h
        rcases want_true hw with hg | ⟨j, want, d, hg, hj, hlt, hs⟩
        · exact AList.step hg hd key
        · exact AList.take hg hj hlt hs hd key
      · rename_i hw
        obtain ⟨j, want, d, u, hg, hj, hlt, hs, hu⟩ := want_false hw
        have := eops_sound hc hM rest _ _ h hq
        rw [slt_eput] at this
        exact AList.pass hg hj hlt hs (by revert hu hs; cases u <;> intros <;> first | assumption | rfl) hd this
      · cases h
    · cases h
variable {cls : Nat → Cls} {Qn : (Nat → PV) → St → Prop} {Qp : PV → St → Prop}
theorem DAny.firstG {i : Nat} {oi : Oper} {p : PV} (G : (Nat → PV) → St → Prop) (D ok : Nat → Bool) (hstep : ∀ {K : (Nat → PV) → St → Prop} {σ : Nat → PV} {m : St}, G σ m → K (put σ oi.dst p) m → DStep P N ops cls Qp i K σ m)
    (hswap : ∀ {j : Nat} {oj : Oper} {K : (Nat → PV) → St → Prop} {σ : Nat → PV} {m : St}, ops[j]? = some oj → oi.apart ops oj = true → ok j = true → G σ m → DStep P N ops cls Qp j K (put σ oi.dst p) m → DStep P N ops cls Qp j (fun σ' m' => G σ' m' ∧ K (put σ' oi.dst p) m') σ m)
    (hD : ∀ j oj, ops[j]? = some oj → D j = true → ∃ e ∈ oj.after, Region.binds .any e = true ∧ (e.on = i ∨ D e.on = true)) :
    ∀ (fuel : Nat) (listed : Array Bool) (σ : Nat → PV) (m : St), (∀ j, D j = true → listed.getD j true = false ∨ listed.size ≤ j) → listed.size = ops.size →
      (∀ j oj, ops[j]? = some oj → j ≠ i → listed.getD j true = false → D j = false → oi.apart ops oj = true ∧ ok j = true) →
      i ∈ Region.ready .any ops listed → G σ m →
      DAny P N ops cls Qn Qp fuel (listed.setIfInBounds i true) (put σ oi.dst p) m → DAny P N ops cls Qn Qp (fuel + 1) listed σ m := by
  intro fuel
  induction fuel with
  | zero =>
    intro listed σ m _ _ _ hr hy H
    refine ⟨fun h => (by rw [h] at hr; cases hr), fun j hj => ?_⟩
    by_cases hji : j = i
    · subst hji; exact hstep hy H
    · have := ready_mono hj hji
      rw [H.1] at this
      cases this
  | succ fuel ih =>
    intro listed σ m hinv hsz hfree hr hy H
    refine ⟨fun h => (by rw [h] at hr; cases hr), fun j hj => ?_⟩
    by_cases hji : j = i
    · subst hji; exact hstep hy H
    · have h1 := H.2 j (ready_mono hj hji)
      obtain ⟨hjun, oj, hoj, hall⟩ := mem_ready.1 hj
      have hi0 := (mem_ready.1 hr).1
      have hDj : D j = false := by
        cases hq : D j with
        | false => rfl
        | true =>
          obtain ⟨e, he, hb, hor⟩ := hD j oj hoj hq
          have h2 := hall e he hb
          rcases hor with heq | hd
          · rw [heq] at h2
            rcases Nat.lt_or_ge i listed.size with h' | h'
            · simp [h'] at hi0 h2; rw [hi0] at h2; cases h2
            · simp [Array.getElem?_eq_none h'] at h2
          · rcases hinv e.on hd with h3 | h3
            · rcases Nat.lt_or_ge e.on listed.size with h' | h'
              · simp [h'] at h3 h2; rw [h3] at h2; cases h2
              · simp [Array.getElem?_eq_none h'] at h2
            · simp [Array.getElem?_eq_none h3] at h2
      obtain ⟨ha, hg⟩ := hfree j oj hoj hji hjun hDj
      have h2 := hswap hoj ha hg hy h1
      refine DStep.mono (fun σ' m' h3 => ih (listed.setIfInBounds j true) σ' m' ?_ (by simpa using hsz) ?_ (ready_mono hr (Ne.symm hji)) h3.1 ?_) h2
      · intro k hk
        have hkj : j ≠ k := fun e => by subst e; rw [hDj] at hk; cases hk
        rcases hinv k hk with h4 | h4
        · left; rw [getD_set_ne true hkj]; exact h4
        · right; simpa using h4
      · intro k ok' hk hki hun hno
        refine hfree k ok' hk hki ?_ hno
        by_cases hjk : j = k
        · subst hjk; exact hjun
        · rw [getD_set_ne true hjk] at hun; exact hun
      · rw [Array.setIfInBounds_comm _ _ hji]
        exact h3.2
end
section
variable {P : Program} {call : Call0} {callM : CallM} {N : Nat} {l : List Oper} {cls : List Cls} {Q : APost} {bef : Array Nat}
theorem canTakeD_spec {s : Bool} {listed : Array Bool} {i : Nat} (h : canTakeD s cls l.toArray bef listed i = true) : ∃ oi, l[i]? = some oi ∧ cls.getD i .W = (if s then .S else .L) ∧ i ∈ Region.ready .any l.toArray listed ∧
    (∀ j oj, l.toArray[j]? = some oj → (bef.getD j 0).testBit i = true → listed.getD j true = false ∧ ∃ e ∈ oj.after, Region.binds .any e = true ∧ (e.on = i ∨ (bef.getD e.on 0).testBit i = true)) ∧
    (∀ j oj, l.toArray[j]? = some oj → j ≠ i → listed.getD j true = false → (bef.getD j 0).testBit i = false → oi.apart l.toArray oj = true ∧ (s || goesWithL (cls.getD j .W)) = true) := by
  unfold canTakeD at h
  split at h
  · cases h
  · rename_i oi hoi
    simp only [Bool.and_eq_true] at h
    obtain ⟨⟨h1, h2⟩, h3⟩ := h
    refine ⟨oi, by simpa using hoi, by simpa using h1, by simpa using h2, fun j oj hj hb => ?_, fun j oj hj hji hun hb => ?_⟩
    · have hlt : j < l.toArray.size := (Array.getElem?_eq_some_iff.1 hj).1
      have := List.all_eq_true.1 h3 j (by simpa using hlt)
      rw [if_pos hb, hj] at this
      simp only [Bool.and_eq_true, Bool.not_eq_true'] at this
      obtain ⟨k1, k2⟩ := this
      rw [Array.any_eq_true'] at k2
      obtain ⟨e, he, h5⟩ := k2
      simp only [Bool.and_eq_true, Bool.or_eq_true, beq_iff_eq] at h5
      exact ⟨k1, e, he, h5.1, h5.2⟩
    · have hlt : j < l.toArray.size := (Array.getElem?_eq_some_iff.1 hj).1
      have := List.all_eq_true.1 h3 j (by simpa using hlt)
      rw [if_neg (by rw [hb]; simp), hj, hun] at this
      simp only [Bool.or_false, Bool.or_eq_true, beq_iff_eq, hji, false_or, Bool.and_eq_true] at this
      exact ⟨this.1, by simpa using this.2⟩
theorem eopS_congr {op : Op} {ρ ρ' : Operand → PV} (h : ∀ x ∈ op.operands.toList, ρ x = ρ' x) : eopS P call op ρ = eopS P call op ρ' := by
  cases op <;> simp only [Op.operands] at h <;> simp only [eopS]
  case move x => rw [h x (by simp)]
  case assign x => rw [h x (by simp)]
  case pick c a b => rw [h c (by simp), h a (by simp), h b (by simp)]
  case build t parts =>
    rw [show (parts.toList.map (fun x => (x.1, nz (ρ x.2)))) = parts.toList.map (fun x => (x.1, nz (ρ' x.2))) from List.map_congr_left fun x hx => by rw [h x.2 (by simpa using ⟨x.1, by simpa using hx⟩)]]
  case buildSlice t len parts =>
    rw [show (parts.toList.map (fun x => (x.1, nz (ρ x.2)))) = parts.toList.map (fun x => (x.1, nz (ρ' x.2))) from List.map_congr_left fun x hx => by rw [h x.2 (by simpa using ⟨x.1, by simpa using hx⟩)]]
  case nilCheck x => rw [h x (by simp)]
  case binOp op t x y yt => rw [h x (by simp), h y (by simp)]
  case unOp op t x => rw [h x (by simp)]
  case convert s d x => rw [h x (by simp)]
  case makeInterface t x => rw [h x (by simp)]
  case makeFunc fn first caps =>
    cases fn <;> simp only
    case func f =>
      rw [show first.toList.map (fun x => nz (ρ x)) = first.toList.map (fun x => nz (ρ' x)) from List.map_congr_left fun x hx => by rw [h x (by rw [Array.toList_append, List.mem_append]; exact .inl hx)], show caps.toList.map (fun x => nz (ρ x)) = caps.toList.map (fun x => nz (ρ' x)) from List.map_congr_left fun x hx => by rw [h x (by rw [Array.toList_append, List.mem_append]; exact .inr hx)]]
  case slice t x lo hi mx =>
    have e : ∀ o : Option Operand, (∀ x, o = some x → ρ x = ρ' x) → o.map (fun x => nz (ρ x)) = o.map (fun x => nz (ρ' x)) := fun o ho => by cases o with | none => rfl | some x => simp [ho x rfl]
    rw [h x (by simp), e lo (fun y hy => h y (by subst hy; simp)), e hi (fun y hy => h y (by subst hy; simp)), e mx (fun y hy => h y (by subst hy; simp))]
  case fieldAddr s x f => rw [h x (by simp)]
  case field s x f => rw [h x (by simp)]
  case indexAddr t x i => rw [h x (by simp), h i (by simp)]
  case index t x i => rw [h x (by simp), h i (by simp)]
  case extract x i => rw [h x (by simp)]
  case call c =>
    obtain ⟨callee, args, ts⟩ := c
    have ha : ∀ x ∈ args.toList, ρ x = ρ' x := fun x hx => h x (by simp only [Call.operands, Array.toList_append, List.mem_append]; exact .inr hx)
    have e1 : args.toList.map (fun x => nz (ρ x)) = args.toList.map (fun x => nz (ρ' x)) := List.map_congr_left fun x hx => by rw [ha x hx]
    have e2 : args.toList.map (fun x => (nz (ρ x)).strip) = args.toList.map (fun x => (nz (ρ' x)).strip) := List.map_congr_left fun x hx => by rw [ha x hx]
    cases callee with
    | value f =>
      have hf : ρ f = ρ' f := h f (by simp [Call.operands])
      simp only [hf, e2]
    | invoke r n => rfl
    | builtin b =>
      cases b <;> simp only [e1]
      case len => split <;> first | rfl | (rename_i x hx; rw [ha x (by rw [hx]; simp)])
theorem eop_congr {op : Op} {ρ ρ' : Operand → PV} {md : Bool} {m : EM} (h : ∀ x ∈ op.operands.toList, ρ x = ρ' x) : eop P call callM md op ρ m = eop P call callM md op ρ' m := by
  have hS := eopS_congr (P := P) (call := call) h
  cases op <;> simp only [Op.operands] at h <;> simp only [eop] <;> try (rw [hS]; done)
  case box t x => rw [h x (by simp)]
  case load t x => rw [h x (by simp)]
  case store t x y => rw [h x (by simp), h y (by simp)]
  case makeSlice t l c => rw [h l (by simp), h c (by simp)]
  case range t x => rw [h x (by simp)]
  case next x b =>
    cases b <;> simp only
    · rw [hS]
    · rw [h x (by simp)]
  case panic x => rw [h x (by simp)]
  case call c =>
    obtain ⟨callee, args, ts⟩ := c
    have ha : ∀ x ∈ args.toList, ρ x = ρ' x := fun x hx => h x (by simp only [Call.operands, Array.toList_append, List.mem_append]; exact .inr hx)
    have e2 : args.toList.map (fun x => (nz (ρ x)).strip) = args.toList.map (fun x => (nz (ρ' x)).strip) := List.map_congr_left fun x hx => by rw [ha x hx]
    cases callee with
    | value f =>
      have hf : ρ f = ρ' f := h f (by simp [Call.operands])
      simp only [hf, e2]
    | invoke r n => simp only; rw [hS]
    | builtin b =>
      cases b <;> simp only <;> try (rw [hS]; done)
      case append => split <;> first | rfl | (rename_i x y hx; rw [ha x (by rw [hx]; simp), ha y (by rw [hx]; simp)])
      case clear => split <;> first | rfl | (rename_i x t hx ht; rw [ha x (by rw [hx]; simp)])
theorem eop_soundO (hc : Call0OK P call) (hM : CallMOK P callM) {md : Bool} {o : Oper} {ρ : Operand → PV} {m m' : EM} {r : RR} (h : eop P call callM md o.op ρ m = .ok (r, m')) :
    OpOKo P o ρ m.st (fun q s' => r = .ret q ∧ s' = m'.st) (fun q s' => r = .pan q ∧ s' = m'.st) := by
  intro Γ ev w hm hv
  classical
  rw [eop_congr (ρ' := fun x => if x ∈ o.op.operands.toList then ρ x else .any) (fun x hx => by simp only [if_pos hx])] at h
  refine eop_sound hc hM h Γ ev w hm fun x => ?_
  by_cases hx : x ∈ o.op.operands.toList
  · simp only [if_pos hx]; exact hv x hx
  · simp only [if_neg hx]; trivial
theorem edraw_step (hc : Call0OK P call) (hM : CallMOK P callM) {i : Nat} {rest : List Nat} {σ : AL PV} {m : EM} {x : EX} {σ' : AL PV} {m' : EM} {K : (Nat → PV) → St → Prop}
    (h : edraw P call callM N l.toArray cls (i :: rest) σ m = .ok (x, σ', m')) (hq : Sat Q x σ' m')
    (hk : ∀ σ1 m1, edraw P call callM N l.toArray cls rest σ1 m1 = .ok (x, σ', m') → K (slt σ1) m1.st) :
    DStep P N l.toArray (fun i => cls.getD i .W) (QP Q) i K (slt σ) m.st ∧
      ∀ o, l.toArray[i]? = some o → dstOK N o.dst = true ∧ (cls.getD i .W = .S → ∃ p, Got P N l.toArray true o p (slt σ) m.st ∧ K (put (slt σ) o.dst p) m.st) ∧ (cls.getD i .W = .L → ∃ p, GotL P N l.toArray o p (slt σ) m.st ∧ K (put (slt σ) o.dst p) m.st) := by
  simp only [edraw] at h
  split at h
  · cases h
  · rename_i o ho
    split at h
    · rename_i hd
      split at h
      · rename_i hw
        have hw' := want_aWant hw
        have hK := hk _ _ h
        rw [slt_eput] at hK
        refine ⟨⟨o, ho, hd, .inl ⟨hw', hK⟩⟩, fun o' ho' => ?_⟩
        rw [ho] at ho'; cases ho'
        exact ⟨hd, fun _ => ⟨_, .inl ⟨hw', rfl⟩, hK⟩, fun _ => ⟨_, .inl ⟨hw', rfl⟩, hK⟩⟩
      · rename_i hw
        have hw' := want_aWant hw
        split at h
        · rename_i hcl
          split at h
          · rename_i p hp
            have hK := hk _ _ h
            rw [slt_eput] at hK
            have hS := eopS_soundO hc hp
            refine ⟨⟨o, ho, hd, .inr ⟨hw', ?_⟩⟩, fun o' ho' => ?_⟩
            · simp only [hcl]; exact ⟨p, hS, hK⟩
            · rw [ho] at ho'; cases ho'
              exact ⟨hd, fun _ => ⟨p, .inr ⟨hw', hS⟩, hK⟩, (fun q => by rw [hcl] at q; cases q)⟩
          · cases h
        · rename_i hcl
          split at h
          · rename_i t y hop
            split at h
            · rename_i p hp
              have hK := hk _ _ h
              rw [slt_eput] at hK
              have hL : ∀ s, Ext m.st s → OpOKo P o (opv (slt σ)) s (fun p' m'' => p' = p ∧ m'' = s) (fun _ _ => False) := fun s he => by
                refine OpOKo.weak (fun x => nz_rep _) (aop_soundO o _ ?_)
                rw [hop]
                simp only [aop]
                exact eload_ext hp he ⟨rfl, rfl⟩
              refine ⟨⟨o, ho, hd, .inr ⟨hw', ?_⟩⟩, fun o' ho' => ?_⟩
              · simp only [hcl]; exact ⟨p, hL, hK⟩
              · rw [ho] at ho'; cases ho'
                exact ⟨hd, (fun q => by rw [hcl] at q; cases q), fun _ => ⟨p, .inr ⟨hw', hL⟩, hK⟩⟩
            · cases h
          · cases h
        · cases h
        · rename_i hcl
          have fin : DStep P N l.toArray (fun i => cls.getD i .W) (QP Q) i K (slt σ) m.st → DStep P N l.toArray (fun i => cls.getD i .W) (QP Q) i K (slt σ) m.st ∧
            ∀ o, l.toArray[i]? = some o → dstOK N o.dst = true ∧ (cls.getD i .W = .S → ∃ p, Got P N l.toArray true o p (slt σ) m.st ∧ K (put (slt σ) o.dst p) m.st) ∧ (cls.getD i .W = .L → ∃ p, GotL P N l.toArray o p (slt σ) m.st ∧ K (put (slt σ) o.dst p) m.st) := fun q =>
            ⟨q, fun o' ho' => by rw [ho] at ho'; cases ho'; exact ⟨hd, (fun q => by rw [hcl] at q; cases q), (fun q => by rw [hcl] at q; cases q)⟩⟩
          split at h
          · rename_i t y hop
            split at h
            · rename_i cs hcs
              have hK := hk _ _ h
              rw [slt_eput] at hK
              refine fin ⟨o, ho, hd, .inr ⟨hw', ?_⟩⟩
              simp only [hcl]
              refine OpOKo.weak (fun x => nz_rep _) (aop_soundO o _ ?_)
              rw [hop]
              simp only [aop, hcs]
              rw [← st_new_cells]
              refine ⟨?_, hK⟩
              rw [st_new_cells]
              exact ⟨Nat.le_succ _, fun n hn => by simp; omega⟩
            · cases h
          · rename_i t hop
            split at h
            · rename_i z hz
              split at h
              · rename_i hz1
                have hK := hk _ _ h
                rw [slt_eput] at hK
                refine fin ⟨o, ho, hd, .inr ⟨hw', ?_⟩⟩
                simp only [hcl]
                refine aop_soundO o _ ?_
                rw [hop]
                simp only [aop, hz]
                refine ⟨hz1, ?_⟩
                rw [← st_new_cells]
                refine ⟨?_, hK⟩
                rw [st_new_cells]
                exact ⟨Nat.le_succ _, fun n hn => by simp; omega⟩
              · cases h
            · cases h
          · cases h
        · rename_i hcl
          refine ⟨⟨o, ho, hd, .inr ⟨hw', ?_⟩⟩, fun o' ho' => by rw [ho] at ho'; cases ho'; exact ⟨hd, (fun q => by rw [hcl] at q; cases q), (fun q => by rw [hcl] at q; cases q)⟩⟩
          simp only [hcl]
          split at h
          · rename_i p m1 hp
            have hK := hk _ _ h
            rw [slt_eput] at hK
            refine (eop_soundO hc hM hp).mono ?_ ?_
            · rintro q s ⟨e, rfl⟩; cases e; exact hK
            · rintro q s ⟨e, rfl⟩; cases e
          · rename_i p m1 hp
            cases h
            refine (eop_soundO hc hM hp).mono ?_ ?_
            · rintro q s ⟨e, rfl⟩; cases e
            · rintro q s ⟨e, rfl⟩; cases e; exact hq
          · cases h
      · cases h
    · cases h
end
end Go.Ab
namespace Go.Ab
open Go.RowKit
section
variable {P : Program} {call : Call0} {callM : CallM} {N : Nat} {l : List Oper} {cls : List Cls} {Q : APost} {bef : Array Nat}
theorem edraw_sound (hc : Call0OK P call) (hM : CallMOK P callM) : ∀ (n : Nat) (listed : Array Bool) (pl : List Nat) (σ : AL PV) (m : EM) {x : EX} {σ' : AL PV} {m' : EM}, listed.size = l.length → eplan cls l.toArray bef n listed = some pl →
    edraw P call callM N l.toArray cls pl σ m = .ok (x, σ', m') → Sat Q x σ' m' → DA P N l cls Q n listed (slt σ) m.st
  | 0, listed, pl, σ, m, x, σ', m', hsz, hp, h, hq => by
    simp only [eplan] at hp
    split at hp
    · rename_i hr
      cases hp
      simp only [edraw] at h; cases h
      exact ⟨hr, hq⟩
    · cases hp
  | n + 1, listed, pl, σ, m, x, σ', m', hsz, hp, h, hq => by
    simp only [eplan] at hp
    split at hp
    · cases hp
    · rename_i i hr
      cases hpl : eplan cls l.toArray bef n (listed.setIfInBounds i true) with
      | none => rw [hpl] at hp; cases hp
      | some pl' =>
        rw [hpl] at hp; cases hp
        have := edraw_step (K := DA P N l cls Q n (listed.setIfInBounds i true)) hc hM h hq (fun σ1 m1 h1 => edraw_sound hc hM n _ pl' σ1 m1 (by simpa using hsz) hpl h1 hq)
        exact DA.one hr this.1
    · rename_i rs _ _
      cases hf : (Region.ready .any l.toArray listed).find? (fun i => canTakeD (cls.getD i .W == .S) cls l.toArray bef listed i) with
      | none => rw [hf] at hp; cases hp
      | some i =>
        rw [hf] at hp
        simp only at hp
        cases hpl : eplan cls l.toArray bef n (listed.setIfInBounds i true) with
        | none => rw [hpl] at hp; cases hp
        | some pl' =>
          rw [hpl] at hp; cases hp
          have hct := List.find?_some hf
          obtain ⟨oi, hoi, hcl, hir, h1, h2⟩ := canTakeD_spec hct
          have hoi' : l.toArray[i]? = some oi := by simpa using hoi
          obtain ⟨_, hst⟩ := edraw_step (K := DA P N l cls Q n (listed.setIfInBounds i true)) hc hM h hq (fun σ1 m1 h1 => edraw_sound hc hM n _ pl' σ1 m1 (by simpa using hsz) hpl h1 hq)
          obtain ⟨hd, hS, hL⟩ := hst oi hoi'
          have hsz' : listed.size = l.toArray.size := by simpa using hsz
          have hinv : ∀ j, (bef.getD j 0).testBit i = true → listed.getD j true = false ∨ listed.size ≤ j := fun j hj => by
            rcases Nat.lt_or_ge j l.toArray.size with hlt | hge
            · exact .inl (h1 j _ (Array.getElem?_eq_getElem hlt) hj).1
            · right; omega
          by_cases hc1 : cls.getD i .W = .S
          · obtain ⟨p, hG, hK⟩ := hS hc1
            refine DAny.firstG (p := p) (oi := oi) (fun σ m => Got P N l.toArray true oi p σ m) (fun j => (bef.getD j 0).testBit i) (fun j => true)
              (fun hg hk => hg.step hoi' hd (by simp only [hc1, if_true]) hk) (fun hj ha _ hg hk => DStep.swap hj ha (by simp [goesWith]) hg hk)
              (fun j oj hj hb => (h1 j oj hj hb).2) n listed (slt σ) m.st hinv hsz' (fun j oj hj hji hun hb => ⟨(h2 j oj hj hji hun hb).1, rfl⟩) hir hG hK
          · have hb : (cls.getD i .W == .S) = false := by simpa using hc1
            rw [hb] at hcl h2
            simp only [Bool.false_eq_true, if_false] at hcl
            obtain ⟨p, hG, hK⟩ := hL hcl
            refine DAny.firstG (p := p) (oi := oi) (fun σ m => GotL P N l.toArray oi p σ m) (fun j => (bef.getD j 0).testBit i) (fun j => goesWithL (cls.getD j .W))
              (fun hg hk => hg.step hoi' hd hcl hk) (fun hj ha hok hg hk => DStep.swapL hj ha hok hg hk)
              (fun j oj hj hb => (h1 j oj hj hb).2) n listed (slt σ) m.st hinv hsz' (fun j oj hj hji hun hb => ⟨(h2 j oj hj hji hun hb).1, by simpa using (h2 j oj hj hji hun hb).2⟩) hir hG hK
theorem eregion_sound (hc : Call0OK P call) (hM : CallMOK P callM) {id : Nat} {md : Bool} {ops : Array Oper} {draw : Bool} {σ : AL PV} {m : EM} {x : EX} {σ' : AL PV} {m' : EM} (h : eregion P call callM md N ops draw σ m = .ok (x, σ', m')) (hq : Sat Q x σ' m') :
    AW P N (.region id ops draw) Q (slt σ) m.st := by
  unfold eregion at h
  have e : ops = ops.toList.toArray := (Array.toArray_toList).symm
  cases draw with
  | false =>
    simp only [Bool.false_eq_true, if_false] at h
    exact AW.region (eops_sound hc hM _ _ _ h hq)
  | true =>
    simp only [if_true] at h
    split at h
    · rename_i hmix
      have one : ∀ cls : List Cls, (match eplan cls ops (Region.before ops) ops.toList.length (Array.replicate ops.toList.length false) with | some pl => edraw P call callM N ops cls pl σ m | none => .error "plan" : ER (EX × AL PV × EM)) = .ok (x, σ', m') → AW P N (.region id ops true) Q (slt σ) m.st := by
        intro cls h1
        rw [e]
        refine AW.draw cls hmix ?_
        split at h1
        · rename_i pl hpl
          rw [e] at hpl h1
          refine edraw_sound (bef := Region.before ops.toList.toArray) hc hM _ _ pl σ m ?_ ?_ h1 hq
          · simp
          · simpa using hpl
        · cases h1
      split at h
      · rename_i r hr
        cases h
        exact one _ hr
      · split at h
        · rename_i r hr
          cases h
          exact one _ hr
        · cases h
    · cases h
def CodeOK (P : Program) (ih : CodeF) : Prop := ∀ N md c σ m x σ' m', ih N md c σ m = .ok (x, σ', m') → ∀ Q, Sat Q x σ' m' → AW P N c Q (slt σ) m.st
theorem ecode1_sound {cfg : ECfg} {ih : CodeF} (hi : CodeOK P ih) (hc : Call0OK P (call0 P cfg ih (callM1 P cfg ih))) (hM : CallMOK P (callM1 P cfg ih)) {md : Bool} {c : Code} (hnl : ∀ b, c ≠ .loop b) {σ : AL PV} {m : EM} {x : EX} {σ' : AL PV} {m' : EM}
    (h : ecode1 P cfg ih N md c σ m = .ok (x, σ', m')) {Q : APost} (hq : Sat Q x σ' m') : AW P N c Q (slt σ) m.st := by
  cases c <;> simp only [ecode1] at h
  case skip => cases h; exact AW.skip hq
  case label l => cases h; exact AW.label hq
  case exit i => cases h; exact AW.exit hq
  case goto i => cases h; exact AW.goto hq
  case ret => cases h; exact AW.ret hq
  case region id ops draw => exact eregion_sound hc hM h hq
  case seq a b =>
    refine AW.seq ?_
    split at h
    · rename_i σ1 m1 h1
      exact hi _ _ _ _ _ _ _ _ h1 _ (hi _ _ _ _ _ _ _ _ h _ hq)
    · rename_i hne
      cases x with
      | normal => exact (hne _ _ h).elim
      | exit i => exact hi _ _ _ _ _ _ _ _ h _ hq
      | goto i => exact hi _ _ _ _ _ _ _ _ h _ hq
      | ret => exact hi _ _ _ _ _ _ _ _ h _ hq
      | pan p => exact hi _ _ _ _ _ _ _ _ h _ hq
  case cond c a b =>
    split at h
    · rename_i hb
      exact AW.cond (t := true) hb (fun _ => hi _ _ _ _ _ _ _ _ h _ hq) (fun q => by cases q)
    · rename_i hb
      exact AW.cond (t := false) hb (fun q => by cases q) (fun _ => hi _ _ _ _ _ _ _ _ h _ hq)
    · cases h
  case block i b =>
    refine AW.block ?_
    split at h
    · rename_i j σ1 m1 h1
      refine hi _ _ _ _ _ _ _ _ h1 _ ?_
      show AExit.inBlock i Q (.exit j) (slt σ1) m1.st
      simp only [AExit.inBlock]
      split at h
      · rename_i e; cases h; rw [if_pos e]; exact hq
      · rename_i e; cases h; rw [if_neg e]; exact hq
    · rename_i hne
      cases x with
      | normal => exact hi _ _ _ _ _ _ _ _ h _ hq
      | exit i => exact (hne _ _ _ h).elim
      | goto i => exact hi _ _ _ _ _ _ _ _ h _ hq
      | ret => exact hi _ _ _ _ _ _ _ _ h _ hq
      | pan p => exact hi _ _ _ _ _ _ _ _ h _ hq
  case loop b => exact (hnl b rfl).elim
  all_goals cases h
theorem slots_get : ∀ (args : List PV) (k t : Nat), AL.get (slots k args) t = if k ≤ t then args[t - k]? else none
  | [], k, t => by simp [slots, AL.get]
  | x :: xs, k, t => by
    simp only [slots, AL.get]
    by_cases h : t = k
    · subst h; simp
    · rw [if_neg h, slots_get xs (k + 1) t]
      by_cases h2 : k ≤ t
      · rw [if_pos h2, if_pos (by omega), show t - k = (t - (k + 1)) + 1 from by omega, List.getElem?_cons_succ]
      · rw [if_neg h2, if_neg (by omega)]
theorem slt_slots (args : List PV) : slt (slots 0 args) = slots0 args := by
  funext t
  unfold slt slots0
  rw [slots_get]
  simp only [Nat.zero_le, if_true, Nat.sub_zero, List.getD_eq_getElem?_getD]
  cases args[t]? <;> rfl
theorem eres_sound {σ : AL PV} {m : EM} {r : ResultVar} {p : PV} (h : eres P σ m r = .ok p) : resV P (slt σ) m.st r p := by
  cases r <;> simp only [eres] at h
  · cases h; rfl
  · exact eload_sound (K := fun q m' => q = p ∧ m' = m.st) h ⟨rfl, rfl⟩
theorem eresL_sound {σ : AL PV} {m : EM} : ∀ {rs : List ResultVar} {ps : List PV}, eresL P σ m rs = .ok ps → ResL P (slt σ) m.st rs ps
  | [], ps, h => by simp only [eresL] at h; cases h; rfl
  | r :: rs, ps, h => by
    simp only [eresL] at h
    split at h
    · rename_i p hp
      split at h
      · rename_i ps' hps; cases h
        exact ⟨p, ps', rfl, eres_sound hp, eresL_sound hps⟩
      · cases h
    · cases h
theorem ebody_sound {ih : CodeF} (hi : CodeOK P ih) {md : Bool} {f : FuncId} {args : List PV} {m : EM} {r : RR} {m' : EM} (h : ebody P ih md f args m = .ok (r, m')) : ACall P f args m.st (fun r' s' => r' = r.toA ∧ s' = m'.st) := by
  unfold ebody at h
  split at h
  · rename_i fn hf
    split at h
    · rename_i c hb
      split at h
      · rename_i hq
        have fin : ∀ Q : APost, (∃ x σ' m1, ih fn.ntmps md c (slots 0 args) m = .ok (x, σ', m1) ∧ Sat Q x σ' m1) → AW P fn.ntmps c Q (slots0 args) m.st := by
          rintro Q ⟨x, σ', m1, h1, h2⟩
          have := hi _ _ _ _ _ _ _ _ h1 Q h2
          rwa [slt_slots] at this
        have res : ∀ σ' m1, (match fn.results.toList with
            | [r] => (match eres P σ' m1 r with | .ok p => .ok (.ret p.strip, m1) | .error s => .error s)
            | rs => (match eresL P σ' m1 rs with | .ok ps => .ok (.ret (PV.tup ps).strip, m1) | .error s => .error s) : ER (RR × EM)) = .ok (r, m') → ∃ p, ResP P fn.results.toList (slt σ') m1.st p ∧ r = .ret p.strip ∧ m' = m1 := by
          intro σ' m1 h1
          split at h1
          · rename_i r0 hr0
            split at h1
            · rename_i p hp; cases h1
              exact ⟨p, by rw [hr0]; exact eres_sound hp, rfl, rfl⟩
            · cases h1
          · rename_i hne
            split at h1
            · rename_i ps hps; cases h1
              refine ⟨.tup ps, ?_, rfl, rfl⟩
              have := eresL_sound hps
              revert this hne
              generalize fn.results.toList = rs
              intro hne this
              match rs, hne, this with
              | [r0], hne, _ => exact (hne _ rfl).elim
              | [], _, this => exact ⟨ps, rfl, this⟩
              | _ :: _ :: _, _, this => exact ⟨ps, rfl, this⟩
            · cases h1
        refine ACall.of_aw hf rfl hb hq.1 hq.2 (fin (Fin P fn m.st (fun r' s' => r' = r.toA ∧ s' = m'.st)) ?_)
        split at h
        · rename_i p σ' m1 h1
          cases h
          refine ⟨.pan p, σ', _, h1, fun _ => ?_⟩
          exact ⟨_, .inl rfl, rfl, rfl⟩
        · rename_i σ' m1 h1
          obtain ⟨p, k1, rfl, rfl⟩ := res _ _ h
          refine ⟨_, _, _, h1, ?_⟩
          exact ⟨p, _, k1, .inl rfl, rfl, rfl⟩
        · rename_i σ' m1 h1
          obtain ⟨p, k1, rfl, rfl⟩ := res _ _ h
          refine ⟨_, _, _, h1, ?_⟩
          exact ⟨p, _, k1, .inl rfl, rfl, rfl⟩
        · cases h
        · cases h
      · cases h
    · cases h
  · cases h
mutual
theorem scb_sc {nl nt : Nat} : ∀ p : PV, p.scb nl nt = true → p.sc nl nt
  | .any, _ => trivial
  | .v _, _ => trivial
  | .agg cs, h => scLb_sc cs h
  | .list o rows, h => by
    simp only [PV.scb, Bool.and_eq_true] at h
    refine ⟨scRb_sc rows h.1, ?_⟩
    cases o with
    | no => trivial
    | full => trivial
    | tok k => simpa using h.2
  | .ro cs, h => scLb_sc cs h
  | .loc n _, h => by simpa [PV.scb] using h
  | .marr n _ _ _, h => by simpa [PV.scb] using h
  | .clo _ first caps, h => by
    simp only [PV.scb, Bool.and_eq_true] at h
    exact ⟨scLb_sc first h.1, scLb_sc caps h.2⟩
  | .iface _ y, h => scb_sc y h
  | .tup xs, h => scLb_sc xs h
  | .yld n, h => by simpa [PV.scb] using h
  | .mtok k _, h => by simpa [PV.scb] using h
  | .mptr k _ _, h => by simpa [PV.scb] using h
theorem scLb_sc {nl nt : Nat} : ∀ xs : List PV, PV.scLb nl nt xs = true → PV.scL nl nt xs
  | [], _ => trivial
  | x :: xs, h => by
    simp only [PV.scLb, Bool.and_eq_true] at h
    exact ⟨scb_sc x h.1, scLb_sc xs h.2⟩
theorem scRb_sc {nl nt : Nat} : ∀ rs : List (List PV), PV.scRb nl nt rs = true → PV.scR nl nt rs
  | [], _ => trivial
  | r :: rs, h => by
    simp only [PV.scRb, Bool.and_eq_true] at h
    exact ⟨scLb_sc r h.1, scRb_sc rs h.2⟩
end
theorem entb_sc {nl nt : Nat} : ∀ (l : AL Ent), entb nl nt l = true → ∀ n cs, AL.get l n = some (.cells cs) → PV.scL nl nt cs
  | [], _, n, cs, h => by cases h
  | (k, e) :: l, hb, n, cs, h => by
    simp only [AL.get] at h
    split at h
    · cases h
      simp only [entb, Bool.and_eq_true] at hb
      exact scLb_sc _ hb.1
    · refine entb_sc l ?_ n cs h
      cases e <;> simp only [entb, Bool.and_eq_true] at hb
      · exact hb.2
      · exact hb
      · exact hb
theorem get_dropWhile {nl : Nat} : ∀ (l : AL Ent) (n : Nat), n < nl → AL.get (l.dropWhile (fun x => decide (nl ≤ x.1))) n = AL.get l n
  | [], n, _ => rfl
  | (k, e) :: l, n, h => by
    rw [List.dropWhile_cons]
    by_cases hk : nl ≤ k
    · simp only [hk, decide_true, if_true]
      rw [get_dropWhile l n h]
      simp only [AL.get]
      rw [if_neg (by omega)]
    · simp [hk]
theorem efz_sees {w : Nat} : ∀ (l : AL Ent) (p : PV) (m : EM), Sees p m.st (efz w l p m).1 (efz w l p m).2.st
  | [], p, m => Sees.refl _ _
  | (n, _) :: l, p, m => by
    simp only [efz]
    split
    · rename_i cs hcs
      split
      · rename_i hn
        refine Sees.trans ?_ (efz_sees l _ _)
        rw [st_put_gone hcs]
        exact Sees.fz hn hcs
      · exact efz_sees l p m
    · exact efz_sees l p m
theorem callM1_sound {cfg : ECfg} {ih : CodeF} (hi : CodeOK P ih) : CallMOK P (callM1 P cfg ih) := by
  intro f args m r m' h
  unfold callM1 at h
  split at h
  · exact ebody_sound hi h
  · split at h
    · rename_i r1 m1 h1
      simp only at h
      split at h
      · rename_i hq
        cases h
        obtain ⟨q1, q2, q3, q4⟩ := hq
        refine ACall.cut ((ebody_sound hi h1).mono ?_)
        rintro r' s' ⟨rfl, rfl⟩
        obtain ⟨m2, hm2⟩ : ∃ m2 : EM, m2 = { m1 with locs := m1.locs.dropWhile (fun x => decide (m.nloc ≤ x.1)), nloc := m.nloc } := ⟨_, rfl⟩
        refine ⟨m2.st, ⟨?_, ?_, ?_, ?_, ?_, ?_, ?_, ?_, fun k cs _ _ hc => by cases hc⟩, ?_, rfl, by rw [hm2]⟩
        · rw [hm2]; exact Nat.le_refl _
        · rw [hm2]; exact q1
        · rw [hm2]; exact q2
        · rw [hm2]; exact Nat.le_refl _
        · intro n cs hn hc
          have hn' : n < m.nloc := by rw [hm2] at hn; exact hn
          have hc' : entC (AL.get (m1.locs.dropWhile (fun x => decide (m.nloc ≤ x.1))) n) = some cs := by rw [hm2] at hc; exact hc
          refine ⟨?_, .inr ?_⟩
          · rw [get_dropWhile _ _ hn'] at hc'; exact hc'
          · unfold entC at hc'
            split at hc'
            · rename_i cs' hg; cases hc'
              have := entb_sc _ q3 n _ hg
              rw [hm2]; exact this
            · cases hc'
        · intro k hk; rw [hm2]; exact ⟨rfl, rfl⟩
        · intro n L hn hl; cases hl
        · intro n x hn hx
          have hn' : n < m.nloc := by rw [hm2] at hn; exact hn
          have hx' : entI (AL.get (m1.locs.dropWhile (fun x => decide (m.nloc ≤ x.1))) n) = some x := by rw [hm2] at hx; exact hx
          rw [get_dropWhile _ _ hn'] at hx'; exact hx'
        · have : r.scb m.nloc m1.ntok = true := q4
          cases r <;> simp only [RR.toA, RR.scb] at this ⊢
          · rw [hm2]; exact scb_sc _ this
          · rw [hm2]; exact scb_sc _ this
      · cases h
    · cases h
def SpcOK (P : Program) (cfg : ECfg) : Prop := ∀ callM, CallMOK P callM → ∀ f args p, cfg.spc callM f args = some (.ok p) → ∀ s, ACall P f args s (fun r s' => r = .ret p ∧ s' = s)
theorem call0_sound {cfg : ECfg} (hs : SpcOK P cfg) {ih : CodeF} (hi : CodeOK P ih) : Call0OK P (call0 P cfg ih (callM1 P cfg ih)) := by
  intro f args r h s
  unfold call0 at h
  split at h
  · rename_i p hp; cases h
    exact hs _ (callM1_sound hi) _ _ _ hp s
  · cases h
  · split at h
    · rename_i ha
      simp only [Bool.and_eq_true] at ha
      have hsc := scLb_sc _ ha.2
      split at h
      · rename_i r1 m1 h1
        have hb := ebody_sound hi h1
        rw [st_empty] at hb
        split at h
        · rename_i hq
          cases h
          refine ACall.closed (r0 := RR.toA (efin cfg f r1 m1)) ?_ hsc ?_ s
          · unfold efin
            split
            · rename_i p w hw
              refine ACall.sees (hb.mono ?_)
              rintro r' s' ⟨rfl, rfl⟩
              exact ⟨.ret (efz w m1.locs p m1).1, _, efz_sees m1.locs p m1, rfl⟩
            · exact hb.mono fun r' s' q => q.1
          · generalize efin cfg f r1 m1 = r2 at hq
            cases r2
            · exact scb_sc _ hq
            · exact scb_sc _ hq
        · cases h
      · cases h
    · cases h
theorem ecode_sound {cfg : ECfg} (hs : SpcOK P cfg) : ∀ n, CodeOK P (ecode P cfg n) := by
  intro n
  induction n using Nat.strongRecOn with
  | _ n ih =>
  intro N md c σ m x σ' m' h Q hq
  cases n with
  | zero => cases h
  | succ n =>
    have h' : ecode1 P cfg (ecode P cfg n) N md c σ m = .ok (x, σ', m') := h
    by_cases hl : ∃ b, c = .loop b
    · obtain ⟨b, rfl⟩ := hl
      refine AW.loop (ι := Nat) (fun k s t => k ≤ n + 1 ∧ ∃ σ1 m1, s = slt σ1 ∧ t = m1.st ∧ ecode P cfg k N md (.loop b) σ1 m1 = .ok (x, σ', m')) (fun k => k) (n + 1) ⟨Nat.le_refl _, σ, m, rfl, rfl, h⟩ ?_
      rintro k s t ⟨hk, σ1, m1, rfl, rfl, h1⟩
      cases k with
      | zero => cases h1
      | succ k =>
        have h2 : ecode1 P cfg (ecode P cfg k) N md (.loop b) σ1 m1 = .ok (x, σ', m') := h1
        simp only [ecode1] at h2
        have hi := ih k (by omega)
        split at h2
        · rename_i σ2 m2 h3
          refine hi _ _ _ _ _ _ _ _ h3 _ ?_
          exact ⟨k, ⟨by omega, σ2, m2, rfl, rfl, h2⟩, by omega⟩
        · rename_i hne
          cases x with
          | normal => exact (hne _ _ h2).elim
          | exit i => exact hi _ _ _ _ _ _ _ _ h2 _ hq
          | goto i => exact hi _ _ _ _ _ _ _ _ h2 _ hq
          | ret => exact hi _ _ _ _ _ _ _ _ h2 _ hq
          | pan p => exact hi _ _ _ _ _ _ _ _ h2 _ hq
    · have hi := ih n (by omega)
      exact ecode1_sound hi (call0_sound hs hi) (callM1_sound hi) (fun b e => hl ⟨b, e⟩) h' hq
theorem ecall_sound {cfg : ECfg} (hs : SpcOK P cfg) {n : Nat} {f : FuncId} {args : List PV} {r : RR} (h : ecall P cfg n f args = .ok r) (s : St) : ACall P f args s (fun r' s' => r' = r.toA ∧ s' = s) :=
  call0_sound hs (ecode_sound hs n) _ _ _ h s
end
end Go.Ab
namespace Go.Ab
open Go.RowKit
def Collects (P : Program) : List Deferred → World → (World → Prop) → Prop
  | [], w, K => K w
  | d :: ds, w, K => ∃ r w', d.target = .collected r ∧ (Instr.takeDeferred r).run P w = .ok [] w' ∧ Collects P ds w' K
theorem collect_steps {P : Program} {F : Fence} {n : Nat} : ∀ (ds : List Deferred) (fr : Frame) (cs : List Frame) (w : World) (K : World → Prop), fr.mode ≠ .run → fr.defers = ds → F.fn fr.fn → F.room (cs.length + 1 + n) → Collects P ds w K →
    ∃ w', K w' ∧ StepsIn (Machine.fenced P F) P (lone fr cs w) (lone { fr with defers := [] } cs w')
  | [], fr, cs, w, K, _, hd, _, _, h => ⟨w, h, by rw [← hd]; exact StepsIn.refl _⟩
  | d :: ds, fr, cs, w, K, hm, hd, hF, hr, h => by
    obtain ⟨r, w', ht, htake, hrest⟩ := h
    have h1 := step_collected (cs := cs) hm hd ht htake
    have i1 : (lone fr cs w).fenced P F := fenced_out (n := n) hF hr hm hd (fun g hg => by rw [ht] at hg; simp [Target.leads] at hg)
    obtain ⟨w'', hK, hs⟩ := collect_steps ds { fr with defers := [] ++ ds } cs w' K hm rfl hF hr hrest
    exact ⟨w'', hK, .head i1 h1 hs⟩
def bodyPostC (P : Program) (fn : Func) (c₀ : Frame) (cs : List Frame) (R : Ending → FrameMode → World → Prop) : Exit → Act → List Frame → World → Prop
  | .normal, a, cs', w | .ret, a, cs', w => ∃ u', cs' = { c₀ with mode := u' } :: cs ∧ Collects P a.defers w fun w' => ∃ v, (results fn a.tmps).run P w' = .ok v w' ∧ R (.returned v) u' w'
  | _, _, _, _ => False
theorem callsDIn_of_wpSIn_marks {P : Program} {F : Fence} {n : Nat} {f : FuncId} {fn : Func} {c : Code} {args : Array Value} {u : FrameMode} {w : World} {R : Ending → FrameMode → World → Prop}
    (hf : P.funcs[f]? = some fn) (hb : fn.body = some c) (hF : F.fn f)
    (h : ∀ (c₀ : Frame) (cs : List Frame), c₀.mode = u →
      c.wpSIn F n P (bodyPostC P fn c₀ cs R) { tmps := args ++ Array.replicate (fn.ntmps - args.size) undef, defers := [] } (c₀ :: cs) w) :
    CallsDIn F n P f args u w R := by
  refine ⟨hF, fun c₀ cs hu hroom => ?_⟩
  let b : Frame := { (default : Frame) with fn := f, kind := .deferred, roundOf := none }
  have henter : Frame.enter P f args .deferred =
      b.atR { tmps := args ++ Array.replicate (fn.ntmps - args.size) undef, defers := [] } [.code c] := by
    simp [Frame.enter, Frame.atR, hf, hb, b]
  obtain ⟨e, a', cs', w', hl, hq, harr⟩ := h c₀ cs hu b [] rfl rfl hF hroom
  rw [← henter] at harr
  cases e with
  | normal =>
    obtain ⟨u', rfl, hcol⟩ := hq
    obtain ⟨w'', ⟨v, hr, hR⟩, hs⟩ := collect_steps (n := n) a'.defers { b.atR a' [] with mode := .returning } ({ c₀ with mode := u' } :: cs) w' _ (by simp) rfl hF (by simpa using hroom) hcol
    exact ⟨.returned v, u', w'', _, hR, StepsIn.trans (StepsIn.trans harr (.one (fenced_calm (fr := b.atR a' []) hF hroom rfl) (stepR_end rfl))) hs, rfl, rfl, rfl, rfl, fn, hf, hr⟩
  | ret =>
    obtain ⟨u', rfl, hcol⟩ := hq
    obtain ⟨todo, hs0⟩ := harr.1 rfl
    obtain ⟨w'', ⟨v, hr, hR⟩, hs⟩ := collect_steps (n := n) a'.defers { b.atR a' todo with mode := .returning } ({ c₀ with mode := u' } :: cs) w' _ (by simp) rfl hF (by simpa using hroom) hcol
    exact ⟨.returned v, u', w'', _, hR, StepsIn.trans hs0 hs, rfl, rfl, rfl, rfl, fn, hf, hr⟩
  | panic chain => exact hq.elim
  | exit id => exact hq.elim
  | goto l => exact hq.elim
  | outgrown => exact hq.elim
def DMode (Γ : Ctx) (w : World) : Option PV → FrameMode → Prop
  | none, u => u = .returning
  | some p, u => ∃ v, u = .panicking [{ v := v, recovered := false }] ∧ VRep Γ w p v
def DCall (P : Program) (f : FuncId) (args : List PV) (m : St) (pn : Option PV) (R : St → Prop) : Prop :=
  HasBody P f ∧ ∀ Γ w us u, MemSim Γ m w → LRep Γ w args us → DMode Γ w pn u → CallsDIn Fence.wide 0 P f us.toArray u w fun e u' w' =>
    ∃ v m' Γ', e = .returned v ∧ settle u' = .returning ∧ R m' ∧ Γ.le Γ' ∧ Keeps Γ w w' ∧ MemSim Γ' m' w'
theorem DCall.mono {P : Program} {f : FuncId} {args : List PV} {m : St} {pn : Option PV} {R R' : St → Prop} (h : DCall P f args m pn R) (k : ∀ m', R m' → R' m') : DCall P f args m pn R' :=
  ⟨h.1, fun Γ w us u a b c => (h.2 Γ w us u a b c).mono fun e u' w' ⟨v, m', Γ', h1, h2, h3, r⟩ => ⟨v, m', Γ', h1, h2, k _ h3, r⟩⟩
def recV : Option PV → PV | none => .v .nilIface | some p => p
def FinD (m : St) (R : St → Prop) : APost
  | .normal, _, m' => ∃ m'', Lv m m' m'' ∧ R m''
  | .ret, _, m' => ∃ m'', Lv m m' m'' ∧ R m''
  | _, _, _ => False
section
variable {P : Program} {m m' m'' : St} {Γ Γ' : Ctx} {w w' : World}
theorem collects_sim {K : World → Prop} : ∀ (ms : List Nat) (w : World), ms.Nodup → (∀ D ∈ ms, w.heap[D]? = some (.deferred (some [])) ∧ Γ.base ≤ D ∧ ¬ Γ.x.mark D) → MemSim Γ m w → (∀ w', MemSim Γ m w' → Keeps Γ w w' → K w') →
    Collects P (ms.map (fun D => { target := .collected D, args := #[] })) w K
  | [], w, _, _, hm, k => k w hm (Keeps.refl _ _)
  | D :: ms, w, hd, hD, hm, k => by
    obtain ⟨h1, h2, h3⟩ := hD D (by simp)
    have hx : XSim Γ (w.putObj D (.deferred none)) := by
      refine ⟨fun D' hD' => ?_, fun l hl => ?_, hm.xs.rnd, by simp; exact hm.xs.dlo⟩
      · obtain ⟨a, b⟩ := hm.xs.mark D' hD'
        exact ⟨a, (World.putObj_heap_other (fun e : D' = D => h3 (by rw [← e]; exact hD'))).trans b⟩
      · obtain ⟨a, L, b⟩ := hm.xs.lps l hl
        refine ⟨a, L, (World.putObj_heap_other (fun e => ?_)).trans b⟩
        subst e; rw [b] at h1; cases h1
    obtain ⟨hm', hk'⟩ := hm.putObj (o' := .deferred none) h1 rfl rfl h2 (fun n L hn hL e => by
      obtain ⟨_, tmps, D', q, _⟩ := hm.lps.at_ n L hn hL
      rw [e, h1] at q; cases q) hx (fun n x a b e => by have := (hm.its.at_ n x a b).2; rw [e, h1] at this; cases this)
    refine ⟨D, _, rfl, run_takeDeferred h1, collects_sim ms _ (List.nodup_cons.1 hd).2 (fun D' hD' => ?_) hm' fun w' a b => k w' a (hk'.trans (Ctx.le.refl _) b)⟩
    obtain ⟨a, b, c⟩ := hD D' (by simp [hD'])
    exact ⟨(World.putObj_heap_other (fun e : D' = D => (List.nodup_cons.1 hd).1 (by rw [← e]; exact hD'))).trans a, b, c⟩
theorem DCall.of_rec {f : FuncId} {fn : Func} {id d : Nat} {B : Code} {ty : TypeId} {pos : String} {after : Array Edge} {tail : Array Oper} {args : List PV} {pn : Option PV} {R : St → Prop} {N : Nat} (hf : P.funcs[f]? = some fn) (hN : fn.ntmps = N)
    (hb : fn.body = some (.seq (.region id (#[⟨some d, .call ⟨.builtin .recover, #[], #[]⟩, ty, pos, after, none⟩] ++ tail) false) B)) (hn : (fn.name == "runtime.NumGoroutine") = false) (ha : args.length ≤ N) (hd : d < N) (hres : fn.results = #[])
    (ht : tail = #[] ∨ ∃ d2 ty2 pos2 after2, d2 < N ∧ tail = #[⟨some d2, .assign (.tmp d), ty2, pos2, after2, none⟩])
    (h : ∀ σ, (∀ t, t ≠ d → (∀ o ∈ tail.toList, o.dst ≠ some t) → σ t = slots0 args t) → σ d = recV pn → (∀ o ∈ tail.toList, ∀ t, o.dst = some t → σ t = recV pn) → AW P N B (FinD m R) σ m) : DCall P f args m pn R := by
  subst hN
  refine ⟨⟨fn, _, hf, hb, hn⟩, fun Γ w us u hm hr hu => ?_⟩
  have hl : us.length = args.length := LRep.len _ _ hr
  obtain ⟨tmps, htm⟩ : ∃ t : Array Value, t = us.toArray ++ Array.replicate (fn.ntmps - us.toArray.size) undef := ⟨_, rfl⟩
  have hts : tmps.size = fn.ntmps := by subst htm; simp; omega
  have hrep : ∀ t, VRep Γ w (slots0 args t) (tmps.getD t undef) := by
    intro t
    subst htm
    unfold slots0
    by_cases ht : t < args.length
    · rw [List.getD_eq_getElem?_getD, List.getElem?_eq_getElem ht]
      obtain ⟨u, h1, h2⟩ := LRep.get _ _ hr t _ (List.getElem?_eq_getElem ht)
      have : (us.toArray ++ Array.replicate (fn.ntmps - us.toArray.size) undef).getD t undef = u := by
        rw [Array.getD_eq_getD_getElem?, Array.getElem?_append_left (by simp; omega)]
        simp [h1]
      rw [this]
      exact h2
    · rw [List.getD_eq_getElem?_getD, List.getElem?_eq_none (by omega)]
      trivial
  -- what the frame below is, and what recover hands back
  obtain ⟨rv, u₁, hrv, hu₁, hrec⟩ : ∃ rv u₁, VRep Γ w (recV pn) rv ∧ settle u₁ = .returning ∧ ∀ (c₀ : Frame) (cs : List Frame), c₀.mode = u →
      (match recoverD (c₀ :: cs) with | some (v, cs') => v = rv ∧ cs' = { c₀ with mode := u₁ } :: cs | none => rv = .nilIface ∧ c₀ :: cs = { c₀ with mode := u₁ } :: cs) := by
    cases pn with
    | none =>
      refine ⟨.nilIface, .returning, rfl, rfl, fun c₀ cs hc => ?_⟩
      replace hu : u = .returning := hu
      subst hu
      have : recoverD (c₀ :: cs) = none := by simp [recoverD, hc]
      rw [this]
      exact ⟨rfl, by rw [← hc]⟩
    | some p =>
      obtain ⟨v, rfl, hv⟩ := hu
      refine ⟨v, .panicking [{ v := v, recovered := true }], hv, rfl, fun c₀ cs hc => ?_⟩
      have : recoverD (c₀ :: cs) = some (v, { c₀ with mode := .panicking [{ v := v, recovered := true }] } :: cs) := by simp [recoverD, hc]
      rw [this]
      exact ⟨rfl, rfl⟩
  refine callsDIn_of_wpSIn_marks hf hb trivial fun c₀ cs hc => ?_
  rw [← htm]
  refine wpSIn_seq (wpSIn_region ?_)
  -- the rest
  have rest : ∀ a : Act, a.tmps.size = fn.ntmps → a.defers = [] → a.tmps.getD d undef = rv → (∀ t, t ≠ d → (∀ o ∈ tail.toList, o.dst ≠ some t) → a.tmps.getD t undef = tmps.getD t undef) → (∀ o ∈ tail.toList, ∀ t, o.dst = some t → a.tmps.getD t undef = rv) →
      B.wpSIn Fence.wide 0 P (bodyPostC P fn c₀ cs fun e u' w' => ∃ v m' Γ', e = .returned v ∧ settle u' = .returning ∧ R m' ∧ Γ.le Γ' ∧ Keeps Γ w w' ∧ MemSim Γ' m' w') a ({ c₀ with mode := u₁ } :: cs) w := by
    intro a h1 h2 h3 h4 h5
    refine wpSIn_of_wpIn rfl ?_
    classical
    obtain ⟨σ, hσ⟩ : ∃ σ : Nat → PV, σ = fun t => if t = d ∨ ∃ o ∈ tail.toList, o.dst = some t then recV pn else slots0 args t := ⟨_, rfl⟩
    have hB := h σ (fun t k1 k2 => by rw [hσ]; exact if_neg (by rintro (q | ⟨o, q1, q2⟩); exact k1 q; exact k2 o q1 q2)) (by rw [hσ]; exact if_pos (.inl rfl)) (fun o k1 t k2 => by rw [hσ]; exact if_pos (.inr ⟨o, k1, k2⟩))
    have hsim : Sim (Γ.withX (Γ.x.into w.heap.size)) fn.ntmps σ m a w := by
      refine ⟨h1, ⟨[], by rw [h2]; rfl, List.nodup_nil, fun _ q => by cases q⟩, hm.withX _ hm.xs.into, fun t => VRep.withX ?_ _⟩
      rw [hσ]
      by_cases q : t = d ∨ ∃ o ∈ tail.toList, o.dst = some t
      · simp only [if_pos q]
        rcases q with rfl | ⟨o, q1, q2⟩
        · rw [h3]; exact hrv
        · rw [h5 o q1 t q2]; exact hrv
      · simp only [if_neg q]
        rw [h4 t (fun e => q (.inl e)) (fun o q1 q2 => q (.inr ⟨o, q1, q2⟩))]
        exact hrep t
    refine wpIn_mono (hB _ a w hsim) ?_
    rintro e a' w' ⟨x, σ', m', Γ', k1, k2, k3, k4, k5⟩
    obtain ⟨ms, hd1, hd2, hd3⟩ := k3.defers
    have hfd : Γ'.x.fd = [] := k4.x.fd
    have hdlo : Γ'.x.dlo = w.heap.size := k4.x.dlo
    have hms : ∀ D ∈ ms, w'.heap[D]? = some (.deferred (some [])) ∧ Γ'.base ≤ D ∧ ¬ Γ.x.mark D := fun D hD => by
      obtain ⟨a, b⟩ := k3.mem.xs.mark D (hd3 D hD).1
      refine ⟨b, a, fun q => ?_⟩
      have h6 := (Array.getElem?_eq_some_iff.1 (hm.xs.mark D q).2).1
      have h7 := (hd3 D hD).2
      omega
    rw [hfd, List.append_nil] at hd1
    have hx₂ : XSim (Γ'.withX Γ.x) w' := by
      have := hm.xs.back k4.base k4.x.mark k4.x.lps k5.below.size k3.mem.xs Γ'.nloc Γ'.ntok
      exact ⟨this.mark, this.lps, this.rnd, this.dlo⟩
    have hm₂ := k3.mem.withX Γ.x hx₂
    have l₂ : (Γ.withX Γ.x).le (Γ'.withX Γ.x) := ⟨k4.base, k4.nloc, k4.loc, k4.imm, k4.ntok, k4.tok, k4.wd, CtxX.le.refl _, k4.immb⟩
    have fin : (∃ m'', Lv m m' m'' ∧ R m'') → ∃ u', { c₀ with mode := u₁ } :: cs = { c₀ with mode := u' } :: cs ∧ Collects P a'.defers w' fun w' => ∃ v, (results fn a'.tmps).run P w' = .ok v w' ∧
        ∃ v' m' Γ', Ending.returned v = .returned v' ∧ settle u' = .returning ∧ R m' ∧ Γ.le Γ' ∧ Keeps Γ w w' ∧ MemSim Γ' m' w' := by
      rintro ⟨m'', hlv, hR⟩
      refine ⟨u₁, rfl, ?_⟩
      rw [hd1]
      refine collects_sim ms w' hd2 hms hm₂ fun w₂ hm₃ hk₂ => ?_
      have hk₃ : Keeps Γ w w₂ := Keeps.trans (A := Γ) (B := Γ'.withX Γ.x) ⟨k5.below, k5.imm⟩ l₂ hk₂
      have hx₃ : XSim ((Γ'.withX Γ.x).cut Γ.x m''.nloc m''.ntok) w₂ := ⟨hm₃.xs.mark, hm₃.xs.lps, hm₃.xs.rnd, hm₃.xs.dlo⟩
      obtain ⟨h6, h7⟩ := hlv.sim hm l₂ hx₃ hm₃
      exact ⟨.tuple #[], by simp [results, hres], _, m'', _, rfl, hu₁, hR, h7, hk₃, h6⟩
    cases x <;> cases e <;> simp only [XRep] at k2 <;> simp only [FinD] at k1
    · exact fin k1
    · exact fin k1
  have hrun : ∀ a : Act, (execOp a.eval ⟨some d, .call ⟨.builtin .recover, #[], #[]⟩, ty, pos, after, none⟩).run P w = .ok .recover w := by
    intro a
    simp [execOp, resolve, invoke, builtin]
  have hput : ∀ (t : Nat) (v : Value) (tm : Array Value), t < tm.size → ∀ i, (tm.setIfInBounds t v).getD i undef = if i = t then v else tm.getD i undef := by
    intro t v tm hlt i
    rw [Array.getD_eq_getD_getElem?, Array.getD_eq_getD_getElem?, Array.getElem?_setIfInBounds]
    by_cases e : i = t
    · subst e; simp [hlt]
    · rw [if_neg (Ne.symm e), if_neg e]
  have h0 := hrec c₀ cs hc
  rcases ht with rfl | ⟨d2, ty2, pos2, after2, hd2, rfl⟩
  · have hops : List.range (#[(⟨some d, .call ⟨.builtin .recover, #[], #[]⟩, ty, pos, after, none⟩ : Oper)] ++ #[]).size = [0] := rfl
    rw [hops]
    simp only [wpOpsSIn, Array.append_empty, List.getElem?_toArray, List.getElem?_cons_zero, Region.wanted, if_true, hrun]
    refine ⟨fun _ _ => trivial, ?_⟩
    have k : ∀ v, v = rv → B.wpSIn Fence.wide 0 P _ (({ tmps := tmps, defers := [] } : Act).put (some d) v) ({ c₀ with mode := u₁ } :: cs) w := fun v e => by
      subst e
      refine rest _ (by simp [Act.put, hts]) rfl ?_ (fun t e _ => ?_) (fun o ho => by simp at ho)
      · simp only [Act.put]; rw [hput d _ _ (by omega), if_pos rfl]
      · simp only [Act.put]; rw [hput d _ _ (by omega), if_neg e]
    split
    · rename_i v cs' hq
      rw [hq] at h0
      obtain ⟨rfl, rfl⟩ := h0
      exact k _ rfl
    · rename_i hq
      rw [hq] at h0
      obtain ⟨e1, e2⟩ := h0
      rw [e2]; exact k _ e1.symm
  · have hops : List.range (#[(⟨some d, .call ⟨.builtin .recover, #[], #[]⟩, ty, pos, after, none⟩ : Oper)] ++ #[(⟨some d2, .assign (.tmp d), ty2, pos2, after2, none⟩ : Oper)]).size = [0, 1] := rfl
    rw [hops]
    have hs2 : ∀ (a : Act), (execOp a.eval ⟨some d2, .assign (.tmp d), ty2, pos2, after2, none⟩).run P w = .ok (.value (a.tmps.getD d undef)) w := fun a => by simp [execOp, Act.eval]
    have k : ∀ v, v = rv → wpOpsSIn Fence.wide 0 P (#[(⟨some d, .call ⟨.builtin .recover, #[], #[]⟩, ty, pos, after, none⟩ : Oper)] ++ #[(⟨some d2, .assign (.tmp d), ty2, pos2, after2, none⟩ : Oper)]) (Exit.thenS (B.wpSIn Fence.wide 0 P (bodyPostC P fn c₀ cs fun e u' w' => ∃ v m' Γ', e = .returned v ∧ settle u' = .returning ∧ R m' ∧ Γ.le Γ' ∧ Keeps Γ w w' ∧ MemSim Γ' m' w')) (bodyPostC P fn c₀ cs fun e u' w' => ∃ v m' Γ', e = .returned v ∧ settle u' = .returning ∧ R m' ∧ Γ.le Γ' ∧ Keeps Γ w w' ∧ MemSim Γ' m' w')) [1] (({ tmps := tmps, defers := [] } : Act).put (some d) v) ({ c₀ with mode := u₁ } :: cs) w := fun v e => by
      subst e
      simp only [wpOpsSIn]
      have : (#[(⟨some d, .call ⟨.builtin .recover, #[], #[]⟩, ty, pos, after, none⟩ : Oper)] ++ #[(⟨some d2, .assign (.tmp d), ty2, pos2, after2, none⟩ : Oper)])[1]? = some ⟨some d2, .assign (.tmp d), ty2, pos2, after2, none⟩ := rfl
      rw [this]
      simp only [Region.wanted, if_true, hs2]
      refine ⟨fun _ _ => trivial, ?_⟩
      have hdd : (({ tmps := tmps, defers := [] } : Act).put (some d) v).tmps.getD d undef = v := by simp only [Act.put]; rw [hput d _ _ (by omega), if_pos rfl]
      rw [hdd]
      refine rest _ (by simp [Act.put, hts]) rfl ?_ (fun t e1 e2 => ?_) (fun o ho t e => ?_)
      · simp only [Act.put]; rw [hput d2 _ _ (by simp; omega)]
        split
        · rfl
        · rw [hput d _ _ (by omega), if_pos rfl]
      · have : t ≠ d2 := fun e => e2 ⟨some d2, .assign (.tmp d), ty2, pos2, after2, none⟩ (by simp) (by rw [e])
        simp only [Act.put]; rw [hput d2 _ _ (by simp; omega), if_neg this, hput d _ _ (by omega), if_neg e1]
      · simp at ho; subst ho; cases e
        simp only [Act.put]; rw [hput d2 _ _ (by simp; omega), if_pos rfl]
    have h00 : (#[(⟨some d, .call ⟨.builtin .recover, #[], #[]⟩, ty, pos, after, none⟩ : Oper)] ++ #[(⟨some d2, .assign (.tmp d), ty2, pos2, after2, none⟩ : Oper)])[0]? = some ⟨some d, .call ⟨.builtin .recover, #[], #[]⟩, ty, pos, after, none⟩ := rfl
    unfold wpOpsSIn
    rw [h00]
    simp only [Region.wanted, if_true, hrun]
    refine ⟨fun _ _ => trivial, ?_⟩
    split
    · rename_i v cs' hq
      rw [hq] at h0
      obtain ⟨rfl, rfl⟩ := h0
      exact k _ rfl
    · rename_i hq
      rw [hq] at h0
      obtain ⟨e1, e2⟩ := h0
      rw [e2]; exact k _ e1.symm
end
end Go.Ab
