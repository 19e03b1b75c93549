/- Texts of the proof, part Le: they prove nothing by themselves that is claimed. -/
import Derived.Test.YtgfadepkiejncaaGreatLd
import Derived.RecoverIn
set_option linter.unusedVariables false
set_option linter.unusedSimpArgs false
/- The abstract layer, 23: the computed run is sound: regions. Over any program. -/
namespace Go.Ab
open Go.RowKit

def Sat (Q : APost) (x : EX) (σ : AL PV) (m : EM) : Prop :=
  match x with
  | .pan p => ∀ σ, Q (.pan p) σ m.st
  | x => Q x.toA (slt σ) m.st

section
variable {P : Program} {call : Call0} {callM : CallM} {N : Nat} {ops : Array Oper} {Q : APost}

theorem want_true {σ : AL PV} {o : Oper} (h : ewant N ops σ o = some true) : o.guard = none ∨ ∃ j want d, o.guard = some (j, want) ∧ opDst ops j = some d ∧ d < N ∧ slt σ d = .v (.bool want) := by
  unfold ewant at h
  split at h
  · rename_i hg; exact .inl hg
  · rename_i j want hg
    right
    split at h
    · rename_i d hd
      split at h
      · rename_i hlt
        split at h
        · rename_i b hb
          refine ⟨j, want, d, hg, hd, hlt, ?_⟩
          have : b = want := by simpa using h
          unfold slt; rw [hb, this]; rfl
        · cases h
        · cases h
      · cases h
    · cases h
theorem want_false {σ : AL PV} {o : Oper} (h : ewant N ops σ o = some false) : ∃ j want d u, o.guard = some (j, want) ∧ opDst ops j = some d ∧ d < N ∧ slt σ d = .v u ∧ (match u with | .bool b => b == want | _ => false) = false := by
  unfold ewant at h
  split at h
  · cases h
  · rename_i j want hg
    split at h
    · rename_i d hd
      split at h
      · rename_i hlt
        split at h
        · rename_i b hb
          refine ⟨j, want, d, .bool b, hg, hd, hlt, by unfold slt; rw [hb]; rfl, by simpa using h⟩
        · rename_i u hne hb
          refine ⟨j, want, d, u, hg, hd, hlt, by unfold slt; rw [hb]; rfl, ?_⟩
          cases u <;> first | rfl | exact (hne _ rfl).elim
        · cases h
      · cases h
    · cases h
theorem want_aWant {σ : AL PV} {o : Oper} {b : Bool} (h : ewant N ops σ o = some b) : aWant N ops (slt σ) o = some b := by
  unfold ewant at h; unfold aWant
  split at h
  · rename_i hg; simp only [hg]; exact h
  · rename_i j want hg
    simp only [hg]
    split at h
    · rename_i d hd
      simp only [hd]
      split at h
      · rename_i hlt
        rw [if_pos hlt]
        unfold slt
        split at h
        · rename_i b' hb; rw [hb]; exact h
        · rename_i u hne hb; rw [hb]; simp only [oAny]; cases u <;> first | exact h | exact (hne _ rfl).elim
        · cases h
      · cases h
    · cases h

theorem eops_sound (hc : Call0OK P call) (hM : CallMOK P callM) {md : Bool} : ∀ (l : List Oper) (σ : AL PV) (m : EM) {x : EX} {σ' : AL PV} {m' : EM}, eops P call callM md N ops l σ m = .ok (x, σ', m') → Sat Q x σ' m' → AList P N ops Q l (slt σ) m.st
  | [], σ, m, x, σ', m', h, hq => by
    simp only [eops] at h; cases h
    exact AList.nil hq
  | o :: rest, σ, m, x, σ', m', h, hq => by
    simp only [eops] at h
    split at h
    · rename_i hd
      split at h
      · rename_i hw
        have key : OpOK P o (opv (slt σ)) m.st (fun p m' => AList P N ops Q rest (put (slt σ) o.dst p) m') (fun p m' => Q (.pan p) (slt σ) m') := by
          split at h
          · rename_i p m1 hp
            refine (eop_sound hc hM hp).mono ?_ ?_
            · rintro q s ⟨e, rfl⟩
              cases e
              have := eops_sound hc hM rest _ _ h hq
              rwa [slt_eput] at this
            · rintro q s ⟨e, rfl⟩; cases e
          · rename_i p m1 hp
            cases h
            refine (eop_sound hc hM hp).mono ?_ ?_
            · rintro q s ⟨e, rfl⟩; cases e
            · rintro q s ⟨e, rfl⟩; cases e; exact hq _
          · cases h
        rcases want_true hw with hg | ⟨j, want, d, hg, hj, hlt, hs⟩
        · exact AList.step hg hd key
        · exact AList.take hg hj hlt hs hd key
      · rename_i hw
        obtain ⟨j, want, d, u, hg, hj, hlt, hs, hu⟩ := want_false hw
        have := eops_sound hc hM rest _ _ h hq
        rw [slt_eput] at this
        exact AList.pass hg hj hlt hs (by revert hu hs; cases u <;> intros <;> first | assumption | rfl) hd this
      · cases h
    · cases h

/-! regions whose order is open -/
variable {cls : Nat → Cls} {Qn : (Nat → PV) → St → Prop} {Qp : PV → St → Prop}
/-- An operation that may be taken first: what comes behind it need not be looked at. -/
theorem DAny.firstG {i : Nat} {oi : Oper} {p : PV} (G : (Nat → PV) → St → Prop) (D ok : Nat → Bool) (hstep : ∀ {K : (Nat → PV) → St → Prop} {σ : Nat → PV} {m : St}, G σ m → K (put σ oi.dst p) m → DStep P N ops cls Qp i K σ m)
    (hswap : ∀ {j : Nat} {oj : Oper} {K : (Nat → PV) → St → Prop} {σ : Nat → PV} {m : St}, ops[j]? = some oj → oi.apart ops oj = true → ok j = true → G σ m → DStep P N ops cls Qp j K (put σ oi.dst p) m → DStep P N ops cls Qp j (fun σ' m' => G σ' m' ∧ K (put σ' oi.dst p) m') σ m)
    (hD : ∀ j oj, ops[j]? = some oj → D j = true → ∃ e ∈ oj.after, Region.binds .any e = true ∧ (e.on = i ∨ D e.on = true)) :
    ∀ (fuel : Nat) (listed : Array Bool) (σ : Nat → PV) (m : St), (∀ j, D j = true → listed.getD j true = false ∨ listed.size ≤ j) → listed.size = ops.size →
      (∀ j oj, ops[j]? = some oj → j ≠ i → listed.getD j true = false → D j = false → oi.apart ops oj = true ∧ ok j = true) →
      i ∈ Region.ready .any ops listed → G σ m →
      DAny P N ops cls Qn Qp fuel (listed.setIfInBounds i true) (put σ oi.dst p) m → DAny P N ops cls Qn Qp (fuel + 1) listed σ m := by
  intro fuel
  induction fuel with
  | zero =>
    intro listed σ m _ _ _ hr hy H
    refine ⟨fun h => (by rw [h] at hr; cases hr), fun j hj => ?_⟩
    by_cases hji : j = i
    · subst hji; exact hstep hy H
    · have := ready_mono hj hji
      rw [H.1] at this
      cases this
  | succ fuel ih =>
    intro listed σ m hinv hsz hfree hr hy H
    refine ⟨fun h => (by rw [h] at hr; cases hr), fun j hj => ?_⟩
    by_cases hji : j = i
    · subst hji; exact hstep hy H
    · have h1 := H.2 j (ready_mono hj hji)
      obtain ⟨hjun, oj, hoj, hall⟩ := mem_ready.1 hj
      have hi0 := (mem_ready.1 hr).1
      have hDj : D j = false := by
        cases hq : D j with
        | false => rfl
        | true =>
          obtain ⟨e, he, hb, hor⟩ := hD j oj hoj hq
          have h2 := hall e he hb
          rcases hor with heq | hd
          · rw [heq] at h2
            rcases Nat.lt_or_ge i listed.size with h' | h'
            · simp [h'] at hi0 h2; rw [hi0] at h2; cases h2
            · simp [Array.getElem?_eq_none h'] at h2
          · rcases hinv e.on hd with h3 | h3
            · rcases Nat.lt_or_ge e.on listed.size with h' | h'
              · simp [h'] at h3 h2; rw [h3] at h2; cases h2
              · simp [Array.getElem?_eq_none h'] at h2
            · simp [Array.getElem?_eq_none h3] at h2
      obtain ⟨ha, hg⟩ := hfree j oj hoj hji hjun hDj
      have h2 := hswap hoj ha hg hy h1
      refine DStep.mono (fun σ' m' h3 => ih (listed.setIfInBounds j true) σ' m' ?_ (by simpa using hsz) ?_ (ready_mono hr (Ne.symm hji)) h3.1 ?_) h2
      · intro k hk
        have hkj : j ≠ k := fun e => by subst e; rw [hDj] at hk; cases hk
        rcases hinv k hk with h4 | h4
        · left; rw [getD_set_ne true hkj]; exact h4
        · right; simpa using h4
      · intro k ok' hk hki hun hno
        refine hfree k ok' hk hki ?_ hno
        by_cases hjk : j = k
        · subst hjk; exact hjun
        · rw [getD_set_ne true hjk] at hun; exact hun
      · rw [Array.setIfInBounds_comm _ _ hji]
        exact h3.2
end

section
variable {P : Program} {call : Call0} {callM : CallM} {N : Nat} {l : List Oper} {cls : List Cls} {Q : APost} {bef : Array Nat}

theorem canTakeD_spec {s : Bool} {listed : Array Bool} {i : Nat} (h : canTakeD s cls l.toArray bef listed i = true) : ∃ oi, l[i]? = some oi ∧ cls.getD i .W = (if s then .S else .L) ∧ i ∈ Region.ready .any l.toArray listed ∧
    (∀ j oj, l.toArray[j]? = some oj → (bef.getD j 0).testBit i = true → listed.getD j true = false ∧ ∃ e ∈ oj.after, Region.binds .any e = true ∧ (e.on = i ∨ (bef.getD e.on 0).testBit i = true)) ∧
    (∀ j oj, l.toArray[j]? = some oj → j ≠ i → listed.getD j true = false → (bef.getD j 0).testBit i = false → oi.apart l.toArray oj = true ∧ (s || goesWithL (cls.getD j .W)) = true) := by
  unfold canTakeD at h
  split at h
  · cases h
  · rename_i oi hoi
    simp only [Bool.and_eq_true] at h
    obtain ⟨⟨h1, h2⟩, h3⟩ := h
    refine ⟨oi, by simpa using hoi, by simpa using h1, by simpa using h2, fun j oj hj hb => ?_, fun j oj hj hji hun hb => ?_⟩
    · have hlt : j < l.toArray.size := (Array.getElem?_eq_some_iff.1 hj).1
      have := List.all_eq_true.1 h3 j (by simpa using hlt)
      rw [if_pos hb, hj] at this
      simp only [Bool.and_eq_true, Bool.not_eq_true'] at this
      obtain ⟨k1, k2⟩ := this
      rw [Array.any_eq_true'] at k2
      obtain ⟨e, he, h5⟩ := k2
      simp only [Bool.and_eq_true, Bool.or_eq_true, beq_iff_eq] at h5
      exact ⟨k1, e, he, h5.1, h5.2⟩
    · have hlt : j < l.toArray.size := (Array.getElem?_eq_some_iff.1 hj).1
      have := List.all_eq_true.1 h3 j (by simpa using hlt)
      rw [if_neg (by rw [hb]; simp), hj, hun] at this
      simp only [Bool.or_false, Bool.or_eq_true, beq_iff_eq, hji, false_or, Bool.and_eq_true] at this
      exact ⟨this.1, by simpa using this.2⟩

theorem eopS_congr {op : Op} {ρ ρ' : Operand → PV} (h : ∀ x ∈ op.operands.toList, ρ x = ρ' x) : eopS P call op ρ = eopS P call op ρ' := by
  cases op <;> simp only [Op.operands] at h <;> simp only [eopS]
  case move x => rw [h x (by simp)]
  case assign x => rw [h x (by simp)]
  case pick c a b => rw [h c (by simp), h a (by simp), h b (by simp)]
  case build t parts =>
    rw [show (parts.toList.map (fun x => (x.1, nz (ρ x.2)))) = parts.toList.map (fun x => (x.1, nz (ρ' x.2))) from List.map_congr_left fun x hx => by rw [h x.2 (by simpa using ⟨x.1, by simpa using hx⟩)]]
  case buildSlice t len parts =>
    rw [show (parts.toList.map (fun x => (x.1, nz (ρ x.2)))) = parts.toList.map (fun x => (x.1, nz (ρ' x.2))) from List.map_congr_left fun x hx => by rw [h x.2 (by simpa using ⟨x.1, by simpa using hx⟩)]]
  case nilCheck x => rw [h x (by simp)]
  case binOp op t x y yt => rw [h x (by simp), h y (by simp)]
  case unOp op t x => rw [h x (by simp)]
  case convert s d x => rw [h x (by simp)]
  case makeInterface t x => rw [h x (by simp)]
  case makeFunc fn first caps =>
    cases fn <;> simp only
    case func f =>
      rw [show first.toList.map (fun x => nz (ρ x)) = first.toList.map (fun x => nz (ρ' x)) from List.map_congr_left fun x hx => by rw [h x (by rw [Array.toList_append, List.mem_append]; exact .inl hx)], show caps.toList.map (fun x => nz (ρ x)) = caps.toList.map (fun x => nz (ρ' x)) from List.map_congr_left fun x hx => by rw [h x (by rw [Array.toList_append, List.mem_append]; exact .inr hx)]]
  case slice t x lo hi mx =>
    have e : ∀ o : Option Operand, (∀ x, o = some x → ρ x = ρ' x) → o.map (fun x => nz (ρ x)) = o.map (fun x => nz (ρ' x)) := fun o ho => by cases o with | none => rfl | some x => simp [ho x rfl]
    rw [h x (by simp), e lo (fun y hy => h y (by subst hy; simp)), e hi (fun y hy => h y (by subst hy; simp)), e mx (fun y hy => h y (by subst hy; simp))]
  case fieldAddr s x f => rw [h x (by simp)]
  case field s x f => rw [h x (by simp)]
  case indexAddr t x i => rw [h x (by simp), h i (by simp)]
  case index t x i => rw [h x (by simp), h i (by simp)]
  case extract x i => rw [h x (by simp)]
  case call c =>
    obtain ⟨callee, args, ts⟩ := c
    have ha : ∀ x ∈ args.toList, ρ x = ρ' x := fun x hx => h x (by simp only [Call.operands, Array.toList_append, List.mem_append]; exact .inr hx)
    have e1 : args.toList.map (fun x => nz (ρ x)) = args.toList.map (fun x => nz (ρ' x)) := List.map_congr_left fun x hx => by rw [ha x hx]
    have e2 : args.toList.map (fun x => (nz (ρ x)).strip) = args.toList.map (fun x => (nz (ρ' x)).strip) := List.map_congr_left fun x hx => by rw [ha x hx]
    cases callee with
    | value f =>
      have hf : ρ f = ρ' f := h f (by simp [Call.operands])
      simp only [hf, e2]
    | invoke r n => rfl
    | builtin b =>
      cases b <;> simp only [e1]
      case len => split <;> first | rfl | (rename_i x hx; rw [ha x (by rw [hx]; simp)])
theorem eop_congr {op : Op} {ρ ρ' : Operand → PV} {md : Bool} {m : EM} (h : ∀ x ∈ op.operands.toList, ρ x = ρ' x) : eop P call callM md op ρ m = eop P call callM md op ρ' m := by
  have hS := eopS_congr (P := P) (call := call) h
  cases op <;> simp only [Op.operands] at h <;> simp only [eop] <;> try (rw [hS]; done)
  case box t x => rw [h x (by simp)]
  case load t x => rw [h x (by simp)]
  case store t x y => rw [h x (by simp), h y (by simp)]
  case makeSlice t l c => rw [h l (by simp), h c (by simp)]
  case range t x => rw [h x (by simp)]
  case next x b =>
    cases b <;> simp only
    · rw [hS]
    · rw [h x (by simp)]
  case panic x => rw [h x (by simp)]
  case call c =>
    obtain ⟨callee, args, ts⟩ := c
    have ha : ∀ x ∈ args.toList, ρ x = ρ' x := fun x hx => h x (by simp only [Call.operands, Array.toList_append, List.mem_append]; exact .inr hx)
    have e2 : args.toList.map (fun x => (nz (ρ x)).strip) = args.toList.map (fun x => (nz (ρ' x)).strip) := List.map_congr_left fun x hx => by rw [ha x hx]
    cases callee with
    | value f =>
      have hf : ρ f = ρ' f := h f (by simp [Call.operands])
      simp only [hf, e2]
    | invoke r n => simp only; rw [hS]
    | builtin b =>
      cases b <;> simp only <;> try (rw [hS]; done)
      case append => split <;> first | rfl | (rename_i x y hx; rw [ha x (by rw [hx]; simp), ha y (by rw [hx]; simp)])
      case clear => split <;> first | rfl | (rename_i x t hx ht; rw [ha x (by rw [hx]; simp)])
theorem eop_soundO (hc : Call0OK P call) (hM : CallMOK P callM) {md : Bool} {o : Oper} {ρ : Operand → PV} {m m' : EM} {r : RR} (h : eop P call callM md o.op ρ m = .ok (r, m')) :
    OpOKo P o ρ m.st (fun q s' => r = .ret q ∧ s' = m'.st) (fun q s' => r = .pan q ∧ s' = m'.st) := by
  intro Γ ev w hm hv
  classical
  rw [eop_congr (ρ' := fun x => if x ∈ o.op.operands.toList then ρ x else .any) (fun x hx => by simp only [if_pos hx])] at h
  refine eop_sound hc hM h Γ ev w hm fun x => ?_
  by_cases hx : x ∈ o.op.operands.toList
  · simp only [if_pos hx]; exact hv x hx
  · simp only [if_neg hx]; trivial

/-- What one operation of a region comes to in the run. -/
theorem edraw_step (hc : Call0OK P call) (hM : CallMOK P callM) {i : Nat} {rest : List Nat} {σ : AL PV} {m : EM} {x : EX} {σ' : AL PV} {m' : EM} {K : (Nat → PV) → St → Prop}
    (h : edraw P call callM N l.toArray cls (i :: rest) σ m = .ok (x, σ', m')) (hq : Sat Q x σ' m')
    (hk : ∀ σ1 m1, edraw P call callM N l.toArray cls rest σ1 m1 = .ok (x, σ', m') → K (slt σ1) m1.st) :
    DStep P N l.toArray (fun i => cls.getD i .W) (QP Q) i K (slt σ) m.st ∧
      ∀ o, l.toArray[i]? = some o → dstOK N o.dst = true ∧ (cls.getD i .W = .S → ∃ p, Got P N l.toArray true o p (slt σ) m.st ∧ K (put (slt σ) o.dst p) m.st) ∧ (cls.getD i .W = .L → ∃ p, GotL P N l.toArray o p (slt σ) m.st ∧ K (put (slt σ) o.dst p) m.st) := by
  simp only [edraw] at h
  split at h
  · cases h
  · rename_i o ho
    split at h
    · rename_i hd
      split at h
      · rename_i hw
        have hw' := want_aWant hw
        have hK := hk _ _ h
        rw [slt_eput] at hK
        refine ⟨⟨o, ho, hd, .inl ⟨hw', hK⟩⟩, fun o' ho' => ?_⟩
        rw [ho] at ho'; cases ho'
        exact ⟨hd, fun _ => ⟨_, .inl ⟨hw', rfl⟩, hK⟩, fun _ => ⟨_, .inl ⟨hw', rfl⟩, hK⟩⟩
      · rename_i hw
        have hw' := want_aWant hw
        split at h
        · rename_i hcl
          split at h
          · rename_i p hp
            have hK := hk _ _ h
            rw [slt_eput] at hK
            have hS := eopS_soundO hc hp
            refine ⟨⟨o, ho, hd, .inr ⟨hw', ?_⟩⟩, fun o' ho' => ?_⟩
            · simp only [hcl]; exact ⟨p, hS, hK⟩
            · rw [ho] at ho'; cases ho'
              exact ⟨hd, fun _ => ⟨p, .inr ⟨hw', hS⟩, hK⟩, (fun q => by rw [hcl] at q; cases q)⟩
          · cases h
        · rename_i hcl
          split at h
          · rename_i t y hop
            split at h
            · rename_i p hp
              have hK := hk _ _ h
              rw [slt_eput] at hK
              have hL : ∀ s, Ext m.st s → OpOKo P o (opv (slt σ)) s (fun p' m'' => p' = p ∧ m'' = s) (fun _ _ => False) := fun s he => by
                refine OpOKo.weak (fun x => nz_rep _) (aop_soundO o _ ?_)
                rw [hop]
                simp only [aop]
                exact eload_ext hp he ⟨rfl, rfl⟩
              refine ⟨⟨o, ho, hd, .inr ⟨hw', ?_⟩⟩, fun o' ho' => ?_⟩
              · simp only [hcl]; exact ⟨p, hL, hK⟩
              · rw [ho] at ho'; cases ho'
                exact ⟨hd, (fun q => by rw [hcl] at q; cases q), fun _ => ⟨p, .inr ⟨hw', hL⟩, hK⟩⟩
            · cases h
          · cases h
        · cases h
        · rename_i hcl
          have fin : DStep P N l.toArray (fun i => cls.getD i .W) (QP Q) i K (slt σ) m.st → DStep P N l.toArray (fun i => cls.getD i .W) (QP Q) i K (slt σ) m.st ∧
            ∀ o, l.toArray[i]? = some o → dstOK N o.dst = true ∧ (cls.getD i .W = .S → ∃ p, Got P N l.toArray true o p (slt σ) m.st ∧ K (put (slt σ) o.dst p) m.st) ∧ (cls.getD i .W = .L → ∃ p, GotL P N l.toArray o p (slt σ) m.st ∧ K (put (slt σ) o.dst p) m.st) := fun q =>
            ⟨q, fun o' ho' => by rw [ho] at ho'; cases ho'; exact ⟨hd, (fun q => by rw [hcl] at q; cases q), (fun q => by rw [hcl] at q; cases q)⟩⟩
          split at h
          · rename_i t y hop
            split at h
            · rename_i cs hcs
              have hK := hk _ _ h
              rw [slt_eput] at hK
              refine fin ⟨o, ho, hd, .inr ⟨hw', ?_⟩⟩
              simp only [hcl]
              refine OpOKo.weak (fun x => nz_rep _) (aop_soundO o _ ?_)
              rw [hop]
              simp only [aop, hcs]
              rw [← st_new_cells]
              refine ⟨?_, hK⟩
              rw [st_new_cells]
              exact ⟨Nat.le_succ _, fun n hn => by simp; omega⟩
            · cases h
          · rename_i t hop
            split at h
            · rename_i z hz
              split at h
              · rename_i hz1
                have hK := hk _ _ h
                rw [slt_eput] at hK
                refine fin ⟨o, ho, hd, .inr ⟨hw', ?_⟩⟩
                simp only [hcl]
                refine aop_soundO o _ ?_
                rw [hop]
                simp only [aop, hz]
                refine ⟨hz1, ?_⟩
                rw [← st_new_cells]
                refine ⟨?_, hK⟩
                rw [st_new_cells]
                exact ⟨Nat.le_succ _, fun n hn => by simp; omega⟩
              · cases h
            · cases h
          · cases h
        · rename_i hcl
          refine ⟨⟨o, ho, hd, .inr ⟨hw', ?_⟩⟩, fun o' ho' => by rw [ho] at ho'; cases ho'; exact ⟨hd, (fun q => by rw [hcl] at q; cases q), (fun q => by rw [hcl] at q; cases q)⟩⟩
          simp only [hcl]
          split at h
          · rename_i p m1 hp
            have hK := hk _ _ h
            rw [slt_eput] at hK
            refine (eop_soundO hc hM hp).mono ?_ ?_
            · rintro q s ⟨e, rfl⟩; cases e; exact hK
            · rintro q s ⟨e, rfl⟩; cases e
          · rename_i p m1 hp
            cases h
            refine (eop_soundO hc hM hp).mono ?_ ?_
            · rintro q s ⟨e, rfl⟩; cases e
            · rintro q s ⟨e, rfl⟩; cases e; exact hq
          · cases h
      · cases h
    · cases h
end
end Go.Ab
/- The abstract layer, 24: the computed run is sound: code, functions, calls. Over any program. -/
namespace Go.Ab
open Go.RowKit

section
variable {P : Program} {call : Call0} {callM : CallM} {N : Nat} {l : List Oper} {cls : List Cls} {Q : APost} {bef : Array Nat}

theorem edraw_sound (hc : Call0OK P call) (hM : CallMOK P callM) : ∀ (n : Nat) (listed : Array Bool) (pl : List Nat) (σ : AL PV) (m : EM) {x : EX} {σ' : AL PV} {m' : EM}, listed.size = l.length → eplan cls l.toArray bef n listed = some pl →
    edraw P call callM N l.toArray cls pl σ m = .ok (x, σ', m') → Sat Q x σ' m' → DA P N l cls Q n listed (slt σ) m.st
  | 0, listed, pl, σ, m, x, σ', m', hsz, hp, h, hq => by
    simp only [eplan] at hp
    split at hp
    · rename_i hr
      cases hp
      simp only [edraw] at h; cases h
      exact ⟨hr, hq⟩
    · cases hp
  | n + 1, listed, pl, σ, m, x, σ', m', hsz, hp, h, hq => by
    simp only [eplan] at hp
    split at hp
    · cases hp
    · rename_i i hr
      cases hpl : eplan cls l.toArray bef n (listed.setIfInBounds i true) with
      | none => rw [hpl] at hp; cases hp
      | some pl' =>
        rw [hpl] at hp; cases hp
        have := edraw_step (K := DA P N l cls Q n (listed.setIfInBounds i true)) hc hM h hq (fun σ1 m1 h1 => edraw_sound hc hM n _ pl' σ1 m1 (by simpa using hsz) hpl h1 hq)
        exact DA.one hr this.1
    · rename_i rs _ _
      cases hf : (Region.ready .any l.toArray listed).find? (fun i => canTakeD (cls.getD i .W == .S) cls l.toArray bef listed i) with
      | none => rw [hf] at hp; cases hp
      | some i =>
        rw [hf] at hp
        simp only at hp
        cases hpl : eplan cls l.toArray bef n (listed.setIfInBounds i true) with
        | none => rw [hpl] at hp; cases hp
        | some pl' =>
          rw [hpl] at hp; cases hp
          have hct := List.find?_some hf
          obtain ⟨oi, hoi, hcl, hir, h1, h2⟩ := canTakeD_spec hct
          have hoi' : l.toArray[i]? = some oi := by simpa using hoi
          obtain ⟨_, hst⟩ := edraw_step (K := DA P N l cls Q n (listed.setIfInBounds i true)) hc hM h hq (fun σ1 m1 h1 => edraw_sound hc hM n _ pl' σ1 m1 (by simpa using hsz) hpl h1 hq)
          obtain ⟨hd, hS, hL⟩ := hst oi hoi'
          have hsz' : listed.size = l.toArray.size := by simpa using hsz
          have hinv : ∀ j, (bef.getD j 0).testBit i = true → listed.getD j true = false ∨ listed.size ≤ j := fun j hj => by
            rcases Nat.lt_or_ge j l.toArray.size with hlt | hge
            · exact .inl (h1 j _ (Array.getElem?_eq_getElem hlt) hj).1
            · right; omega
          by_cases hc1 : cls.getD i .W = .S
          · obtain ⟨p, hG, hK⟩ := hS hc1
            refine DAny.firstG (p := p) (oi := oi) (fun σ m => Got P N l.toArray true oi p σ m) (fun j => (bef.getD j 0).testBit i) (fun j => true)
              (fun hg hk => hg.step hoi' hd (by simp only [hc1, if_true]) hk) (fun hj ha _ hg hk => DStep.swap hj ha (by simp [goesWith]) hg hk)
              (fun j oj hj hb => (h1 j oj hj hb).2) n listed (slt σ) m.st hinv hsz' (fun j oj hj hji hun hb => ⟨(h2 j oj hj hji hun hb).1, rfl⟩) hir hG hK
          · have hb : (cls.getD i .W == .S) = false := by simpa using hc1
            rw [hb] at hcl h2
            simp only [Bool.false_eq_true, if_false] at hcl
            obtain ⟨p, hG, hK⟩ := hL hcl
            refine DAny.firstG (p := p) (oi := oi) (fun σ m => GotL P N l.toArray oi p σ m) (fun j => (bef.getD j 0).testBit i) (fun j => goesWithL (cls.getD j .W))
              (fun hg hk => hg.step hoi' hd hcl hk) (fun hj ha hok hg hk => DStep.swapL hj ha hok hg hk)
              (fun j oj hj hb => (h1 j oj hj hb).2) n listed (slt σ) m.st hinv hsz' (fun j oj hj hji hun hb => ⟨(h2 j oj hj hji hun hb).1, by simpa using (h2 j oj hj hji hun hb).2⟩) hir hG hK

theorem eregion_sound (hc : Call0OK P call) (hM : CallMOK P callM) {id : Nat} {md : Bool} {ops : Array Oper} {draw : Bool} {σ : AL PV} {m : EM} {x : EX} {σ' : AL PV} {m' : EM} (h : eregion P call callM md N ops draw σ m = .ok (x, σ', m')) (hq : Sat Q x σ' m') :
    AW P N (.region id ops draw) Q (slt σ) m.st := by
  unfold eregion at h
  have e : ops = ops.toList.toArray := (Array.toArray_toList).symm
  cases draw with
  | false =>
    simp only [Bool.false_eq_true, if_false] at h
    exact AW.region (eops_sound hc hM _ _ _ h hq)
  | true =>
    simp only [if_true] at h
    split at h
    · rename_i hmix
      have one : ∀ cls : List Cls, (match eplan cls ops (Region.before ops) ops.toList.length (Array.replicate ops.toList.length false) with | some pl => edraw P call callM N ops cls pl σ m | none => .error "plan" : ER (EX × AL PV × EM)) = .ok (x, σ', m') → AW P N (.region id ops true) Q (slt σ) m.st := by
        intro cls h1
        rw [e]
        refine AW.draw cls hmix ?_
        split at h1
        · rename_i pl hpl
          rw [e] at hpl h1
          refine edraw_sound (bef := Region.before ops.toList.toArray) hc hM _ _ pl σ m ?_ ?_ h1 hq
          · simp
          · simpa using hpl
        · cases h1
      split at h
      · rename_i r hr
        cases h
        exact one _ hr
      · split at h
        · rename_i r hr
          cases h
          exact one _ hr
        · cases h
    · cases h

/-! code -/
def CodeOK (P : Program) (ih : CodeF) : Prop := ∀ N md c σ m x σ' m', ih N md c σ m = .ok (x, σ', m') → ∀ Q, Sat Q x σ' m' → AW P N c Q (slt σ) m.st

theorem ecode1_sound {cfg : ECfg} {ih : CodeF} (hi : CodeOK P ih) (hc : Call0OK P (call0 P cfg ih (callM1 P cfg ih))) (hM : CallMOK P (callM1 P cfg ih)) {md : Bool} {c : Code} (hnl : ∀ b, c ≠ .loop b) {σ : AL PV} {m : EM} {x : EX} {σ' : AL PV} {m' : EM}
    (h : ecode1 P cfg ih N md c σ m = .ok (x, σ', m')) {Q : APost} (hq : Sat Q x σ' m') : AW P N c Q (slt σ) m.st := by
  cases c <;> simp only [ecode1] at h
  case skip => cases h; exact AW.skip hq
  case label l => cases h; exact AW.label hq
  case exit i => cases h; exact AW.exit hq
  case goto i => cases h; exact AW.goto hq
  case ret => cases h; exact AW.ret hq
  case region id ops draw => exact eregion_sound hc hM h hq
  case seq a b =>
    refine AW.seq ?_
    split at h
    · rename_i σ1 m1 h1
      exact hi _ _ _ _ _ _ _ _ h1 _ (hi _ _ _ _ _ _ _ _ h _ hq)
    · rename_i hne
      cases x with
      | normal => exact (hne _ _ h).elim
      | exit i => exact hi _ _ _ _ _ _ _ _ h _ hq
      | goto i => exact hi _ _ _ _ _ _ _ _ h _ hq
      | ret => exact hi _ _ _ _ _ _ _ _ h _ hq
      | pan p => exact hi _ _ _ _ _ _ _ _ h _ hq
  case cond c a b =>
    split at h
    · rename_i hb
      exact AW.cond (t := true) hb (fun _ => hi _ _ _ _ _ _ _ _ h _ hq) (fun q => by cases q)
    · rename_i hb
      exact AW.cond (t := false) hb (fun q => by cases q) (fun _ => hi _ _ _ _ _ _ _ _ h _ hq)
    · cases h
  case block i b =>
    refine AW.block ?_
    split at h
    · rename_i j σ1 m1 h1
      refine hi _ _ _ _ _ _ _ _ h1 _ ?_
      show AExit.inBlock i Q (.exit j) (slt σ1) m1.st
      simp only [AExit.inBlock]
      split at h
      · rename_i e; cases h; rw [if_pos e]; exact hq
      · rename_i e; cases h; rw [if_neg e]; exact hq
    · rename_i hne
      cases x with
      | normal => exact hi _ _ _ _ _ _ _ _ h _ hq
      | exit i => exact (hne _ _ _ h).elim
      | goto i => exact hi _ _ _ _ _ _ _ _ h _ hq
      | ret => exact hi _ _ _ _ _ _ _ _ h _ hq
      | pan p => exact hi _ _ _ _ _ _ _ _ h _ hq
  case loop b => exact (hnl b rfl).elim
  all_goals cases h

/-! functions -/
theorem slots_get : ∀ (args : List PV) (k t : Nat), AL.get (slots k args) t = if k ≤ t then args[t - k]? else none
  | [], k, t => by simp [slots, AL.get]
  | x :: xs, k, t => by
    simp only [slots, AL.get]
    by_cases h : t = k
    · subst h; simp
    · rw [if_neg h, slots_get xs (k + 1) t]
      by_cases h2 : k ≤ t
      · rw [if_pos h2, if_pos (by omega), show t - k = (t - (k + 1)) + 1 from by omega, List.getElem?_cons_succ]
      · rw [if_neg h2, if_neg (by omega)]
theorem slt_slots (args : List PV) : slt (slots 0 args) = slots0 args := by
  funext t
  unfold slt slots0
  rw [slots_get]
  simp only [Nat.zero_le, if_true, Nat.sub_zero, List.getD_eq_getElem?_getD]
  cases args[t]? <;> rfl
theorem eres_sound {σ : AL PV} {m : EM} {r : ResultVar} {p : PV} (h : eres P σ m r = .ok p) : resV P (slt σ) m.st r p := by
  cases r <;> simp only [eres] at h
  · cases h; rfl
  · exact eload_sound (K := fun q m' => q = p ∧ m' = m.st) h ⟨rfl, rfl⟩
theorem eresL_sound {σ : AL PV} {m : EM} : ∀ {rs : List ResultVar} {ps : List PV}, eresL P σ m rs = .ok ps → ResL P (slt σ) m.st rs ps
  | [], ps, h => by simp only [eresL] at h; cases h; rfl
  | r :: rs, ps, h => by
    simp only [eresL] at h
    split at h
    · rename_i p hp
      split at h
      · rename_i ps' hps; cases h
        exact ⟨p, ps', rfl, eres_sound hp, eresL_sound hps⟩
      · cases h
    · cases h
theorem ebody_sound {ih : CodeF} (hi : CodeOK P ih) {md : Bool} {f : FuncId} {args : List PV} {m : EM} {r : RR} {m' : EM} (h : ebody P ih md f args m = .ok (r, m')) : ACall P f args m.st (fun r' s' => r' = r.toA ∧ s' = m'.st) := by
  unfold ebody at h
  split at h
  · rename_i fn hf
    split at h
    · rename_i c hb
      split at h
      · rename_i hq
        have fin : ∀ Q : APost, (∃ x σ' m1, ih fn.ntmps md c (slots 0 args) m = .ok (x, σ', m1) ∧ Sat Q x σ' m1) → AW P fn.ntmps c Q (slots0 args) m.st := by
          rintro Q ⟨x, σ', m1, h1, h2⟩
          have := hi _ _ _ _ _ _ _ _ h1 Q h2
          rwa [slt_slots] at this
        have res : ∀ σ' m1, (match fn.results.toList with
            | [r] => (match eres P σ' m1 r with | .ok p => .ok (.ret p.strip, m1) | .error s => .error s)
            | rs => (match eresL P σ' m1 rs with | .ok ps => .ok (.ret (PV.tup ps).strip, m1) | .error s => .error s) : ER (RR × EM)) = .ok (r, m') → ∃ p, ResP P fn.results.toList (slt σ') m1.st p ∧ r = .ret p.strip ∧ m' = m1 := by
          intro σ' m1 h1
          split at h1
          · rename_i r0 hr0
            split at h1
            · rename_i p hp; cases h1
              exact ⟨p, by rw [hr0]; exact eres_sound hp, rfl, rfl⟩
            · cases h1
          · rename_i hne
            split at h1
            · rename_i ps hps; cases h1
              refine ⟨.tup ps, ?_, rfl, rfl⟩
              have := eresL_sound hps
              revert this hne
              generalize fn.results.toList = rs
              intro hne this
              match rs, hne, this with
              | [r0], hne, _ => exact (hne _ rfl).elim
              | [], _, this => exact ⟨ps, rfl, this⟩
              | _ :: _ :: _, _, this => exact ⟨ps, rfl, this⟩
            · cases h1
        refine ACall.of_aw hf rfl hb hq.1 hq.2 (fin (Fin P fn m.st (fun r' s' => r' = r.toA ∧ s' = m'.st)) ?_)
        split at h
        · rename_i p σ' m1 h1
          cases h
          refine ⟨.pan p, σ', _, h1, fun _ => ?_⟩
          exact ⟨_, .inl rfl, rfl, rfl⟩
        · rename_i σ' m1 h1
          obtain ⟨p, k1, rfl, rfl⟩ := res _ _ h
          refine ⟨_, _, _, h1, ?_⟩
          exact ⟨p, _, k1, .inl rfl, rfl, rfl⟩
        · rename_i σ' m1 h1
          obtain ⟨p, k1, rfl, rfl⟩ := res _ _ h
          refine ⟨_, _, _, h1, ?_⟩
          exact ⟨p, _, k1, .inl rfl, rfl, rfl⟩
        · cases h
        · cases h
      · cases h
    · cases h
  · cases h

mutual
theorem scb_sc {nl nt : Nat} : ∀ p : PV, p.scb nl nt = true → p.sc nl nt
  | .any, _ => trivial
  | .v _, _ => trivial
  | .agg cs, h => scLb_sc cs h
  | .list o rows, h => by
    simp only [PV.scb, Bool.and_eq_true] at h
    refine ⟨scRb_sc rows h.1, ?_⟩
    cases o with
    | no => trivial
    | full => trivial
    | tok k => simpa using h.2
  | .ro cs, h => scLb_sc cs h
  | .loc n _, h => by simpa [PV.scb] using h
  | .marr n _ _ _, h => by simpa [PV.scb] using h
  | .clo _ first caps, h => by
    simp only [PV.scb, Bool.and_eq_true] at h
    exact ⟨scLb_sc first h.1, scLb_sc caps h.2⟩
  | .iface _ y, h => scb_sc y h
  | .tup xs, h => scLb_sc xs h
  | .yld n, h => by simpa [PV.scb] using h
  | .mtok k _, h => by simpa [PV.scb] using h
  | .mptr k _ _, h => by simpa [PV.scb] using h
theorem scLb_sc {nl nt : Nat} : ∀ xs : List PV, PV.scLb nl nt xs = true → PV.scL nl nt xs
  | [], _ => trivial
  | x :: xs, h => by
    simp only [PV.scLb, Bool.and_eq_true] at h
    exact ⟨scb_sc x h.1, scLb_sc xs h.2⟩
theorem scRb_sc {nl nt : Nat} : ∀ rs : List (List PV), PV.scRb nl nt rs = true → PV.scR nl nt rs
  | [], _ => trivial
  | r :: rs, h => by
    simp only [PV.scRb, Bool.and_eq_true] at h
    exact ⟨scLb_sc r h.1, scRb_sc rs h.2⟩
end
theorem entb_sc {nl nt : Nat} : ∀ (l : AL Ent), entb nl nt l = true → ∀ n cs, AL.get l n = some (.cells cs) → PV.scL nl nt cs
  | [], _, n, cs, h => by cases h
  | (k, e) :: l, hb, n, cs, h => by
    simp only [AL.get] at h
    split at h
    · cases h
      simp only [entb, Bool.and_eq_true] at hb
      exact scLb_sc _ hb.1
    · refine entb_sc l ?_ n cs h
      cases e <;> simp only [entb, Bool.and_eq_true] at hb
      · exact hb.2
      · exact hb
      · exact hb
theorem get_dropWhile {nl : Nat} : ∀ (l : AL Ent) (n : Nat), n < nl → AL.get (l.dropWhile (fun x => decide (nl ≤ x.1))) n = AL.get l n
  | [], n, _ => rfl
  | (k, e) :: l, n, h => by
    rw [List.dropWhile_cons]
    by_cases hk : nl ≤ k
    · simp only [hk, decide_true, if_true]
      rw [get_dropWhile l n h]
      simp only [AL.get]
      rw [if_neg (by omega)]
    · simp [hk]

theorem efz_sees {w : Nat} : ∀ (l : AL Ent) (p : PV) (m : EM), Sees p m.st (efz w l p m).1 (efz w l p m).2.st
  | [], p, m => Sees.refl _ _
  | (n, _) :: l, p, m => by
    simp only [efz]
    split
    · rename_i cs hcs
      split
      · rename_i hn
        refine Sees.trans ?_ (efz_sees l _ _)
        rw [st_put_gone hcs]
        exact Sees.fz hn hcs
      · exact efz_sees l p m
    · exact efz_sees l p m

theorem callM1_sound {cfg : ECfg} {ih : CodeF} (hi : CodeOK P ih) : CallMOK P (callM1 P cfg ih) := by
  intro f args m r m' h
  unfold callM1 at h
  split at h
  · exact ebody_sound hi h
  · split at h
    · rename_i r1 m1 h1
      simp only at h
      split at h
      · rename_i hq
        cases h
        obtain ⟨q1, q2, q3, q4⟩ := hq
        refine ACall.cut ((ebody_sound hi h1).mono ?_)
        rintro r' s' ⟨rfl, rfl⟩
        obtain ⟨m2, hm2⟩ : ∃ m2 : EM, m2 = { m1 with locs := m1.locs.dropWhile (fun x => decide (m.nloc ≤ x.1)), nloc := m.nloc } := ⟨_, rfl⟩
        refine ⟨m2.st, ⟨?_, ?_, ?_, ?_, ?_, ?_, ?_, ?_, fun k cs _ _ hc => by cases hc⟩, ?_, rfl, by rw [hm2]⟩
        · rw [hm2]; exact Nat.le_refl _
        · rw [hm2]; exact q1
        · rw [hm2]; exact q2
        · rw [hm2]; exact Nat.le_refl _
        · intro n cs hn hc
          have hn' : n < m.nloc := by rw [hm2] at hn; exact hn
          have hc' : entC (AL.get (m1.locs.dropWhile (fun x => decide (m.nloc ≤ x.1))) n) = some cs := by rw [hm2] at hc; exact hc
          refine ⟨?_, .inr ?_⟩
          · rw [get_dropWhile _ _ hn'] at hc'; exact hc'
          · unfold entC at hc'
            split at hc'
            · rename_i cs' hg; cases hc'
              have := entb_sc _ q3 n _ hg
              rw [hm2]; exact this
            · cases hc'
        · intro k hk; rw [hm2]; exact ⟨rfl, rfl⟩
        · intro n L hn hl; cases hl
        · intro n x hn hx
          have hn' : n < m.nloc := by rw [hm2] at hn; exact hn
          have hx' : entI (AL.get (m1.locs.dropWhile (fun x => decide (m.nloc ≤ x.1))) n) = some x := by rw [hm2] at hx; exact hx
          rw [get_dropWhile _ _ hn'] at hx'; exact hx'
        · have : r.scb m.nloc m1.ntok = true := q4
          cases r <;> simp only [RR.toA, RR.scb] at this ⊢
          · rw [hm2]; exact scb_sc _ this
          · rw [hm2]; exact scb_sc _ this
      · cases h
    · cases h

/-- What the configuration's own answers must be. -/
def SpcOK (P : Program) (cfg : ECfg) : Prop := ∀ callM, CallMOK P callM → ∀ f args p, cfg.spc callM f args = some (.ok p) → ∀ s, ACall P f args s (fun r s' => r = .ret p ∧ s' = s)
theorem call0_sound {cfg : ECfg} (hs : SpcOK P cfg) {ih : CodeF} (hi : CodeOK P ih) : Call0OK P (call0 P cfg ih (callM1 P cfg ih)) := by
  intro f args r h s
  unfold call0 at h
  split at h
  · rename_i p hp; cases h
    exact hs _ (callM1_sound hi) _ _ _ hp s
  · cases h
  · split at h
    · rename_i ha
      simp only [Bool.and_eq_true] at ha
      have hsc := scLb_sc _ ha.2
      split at h
      · rename_i r1 m1 h1
        have hb := ebody_sound hi h1
        rw [st_empty] at hb
        split at h
        · rename_i hq
          cases h
          refine ACall.closed (r0 := RR.toA (efin cfg f r1 m1)) ?_ hsc ?_ s
          · unfold efin
            split
            · rename_i p w hw
              refine ACall.sees (hb.mono ?_)
              rintro r' s' ⟨rfl, rfl⟩
              exact ⟨.ret (efz w m1.locs p m1).1, _, efz_sees m1.locs p m1, rfl⟩
            · exact hb.mono fun r' s' q => q.1
          · generalize efin cfg f r1 m1 = r2 at hq
            cases r2
            · exact scb_sc _ hq
            · exact scb_sc _ hq
        · cases h
      · cases h
    · cases h

theorem ecode_sound {cfg : ECfg} (hs : SpcOK P cfg) : ∀ n, CodeOK P (ecode P cfg n) := by
  intro n
  induction n using Nat.strongRecOn with
  | _ n ih =>
  intro N md c σ m x σ' m' h Q hq
  cases n with
  | zero => cases h
  | succ n =>
    have h' : ecode1 P cfg (ecode P cfg n) N md c σ m = .ok (x, σ', m') := h
    by_cases hl : ∃ b, c = .loop b
    · obtain ⟨b, rfl⟩ := hl
      refine AW.loop (ι := Nat) (fun k s t => k ≤ n + 1 ∧ ∃ σ1 m1, s = slt σ1 ∧ t = m1.st ∧ ecode P cfg k N md (.loop b) σ1 m1 = .ok (x, σ', m')) (fun k => k) (n + 1) ⟨Nat.le_refl _, σ, m, rfl, rfl, h⟩ ?_
      rintro k s t ⟨hk, σ1, m1, rfl, rfl, h1⟩
      cases k with
      | zero => cases h1
      | succ k =>
        have h2 : ecode1 P cfg (ecode P cfg k) N md (.loop b) σ1 m1 = .ok (x, σ', m') := h1
        simp only [ecode1] at h2
        have hi := ih k (by omega)
        split at h2
        · rename_i σ2 m2 h3
          refine hi _ _ _ _ _ _ _ _ h3 _ ?_
          exact ⟨k, ⟨by omega, σ2, m2, rfl, rfl, h2⟩, by omega⟩
        · rename_i hne
          cases x with
          | normal => exact (hne _ _ h2).elim
          | exit i => exact hi _ _ _ _ _ _ _ _ h2 _ hq
          | goto i => exact hi _ _ _ _ _ _ _ _ h2 _ hq
          | ret => exact hi _ _ _ _ _ _ _ _ h2 _ hq
          | pan p => exact hi _ _ _ _ _ _ _ _ h2 _ hq
    · have hi := ih n (by omega)
      exact ecode1_sound hi (call0_sound hs hi) (callM1_sound hi) (fun b e => hl ⟨b, e⟩) h' hq
/-- **The computed call is right.** -/
theorem ecall_sound {cfg : ECfg} (hs : SpcOK P cfg) {n : Nat} {f : FuncId} {args : List PV} {r : RR} (h : ecall P cfg n f args = .ok r) (s : St) : ACall P f args s (fun r' s' => r' = r.toA ∧ s' = s) :=
  call0_sound hs (ecode_sound hs n) _ _ _ h s
end
end Go.Ab
/- The abstract layer, 25: deferred calls that recover. Over any program. -/
namespace Go.Ab
open Go.RowKit

/-- Marks taken, one behind the other. -/
def Collects (P : Program) : List Deferred → World → (World → Prop) → Prop
  | [], w, K => K w
  | d :: ds, w, K => ∃ r w', d.target = .collected r ∧ (Instr.takeDeferred r).run P w = .ok [] w' ∧ Collects P ds w' K
theorem collect_steps {P : Program} {F : Fence} {n : Nat} : ∀ (ds : List Deferred) (fr : Frame) (cs : List Frame) (w : World) (K : World → Prop), fr.mode ≠ .run → fr.defers = ds → F.fn fr.fn → F.room (cs.length + 1 + n) → Collects P ds w K →
    ∃ w', K w' ∧ StepsIn (Machine.fenced P F) P (lone fr cs w) (lone { fr with defers := [] } cs w')
  | [], fr, cs, w, K, _, hd, _, _, h => ⟨w, h, by rw [← hd]; exact StepsIn.refl _⟩
  | d :: ds, fr, cs, w, K, hm, hd, hF, hr, h => by
    obtain ⟨r, w', ht, htake, hrest⟩ := h
    have h1 := step_collected (cs := cs) hm hd ht htake
    have i1 : (lone fr cs w).fenced P F := fenced_out (n := n) hF hr hm hd (fun g hg => by rw [ht] at hg; simp [Target.leads] at hg)
    obtain ⟨w'', hK, hs⟩ := collect_steps ds { fr with defers := [] ++ ds } cs w' K hm rfl hF hr hrest
    exact ⟨w'', hK, .head i1 h1 hs⟩
def bodyPostC (P : Program) (fn : Func) (c₀ : Frame) (cs : List Frame) (R : Ending → FrameMode → World → Prop) : Exit → Act → List Frame → World → Prop
  | .normal, a, cs', w | .ret, a, cs', w => ∃ u', cs' = { c₀ with mode := u' } :: cs ∧ Collects P a.defers w fun w' => ∃ v, (results fn a.tmps).run P w' = .ok v w' ∧ R (.returned v) u' w'
  | _, _, _, _ => False
theorem callsDIn_of_wpSIn_marks {P : Program} {F : Fence} {n : Nat} {f : FuncId} {fn : Func} {c : Code} {args : Array Value} {u : FrameMode} {w : World} {R : Ending → FrameMode → World → Prop}
    (hf : P.funcs[f]? = some fn) (hb : fn.body = some c) (hF : F.fn f)
    (h : ∀ (c₀ : Frame) (cs : List Frame), c₀.mode = u →
      c.wpSIn F n P (bodyPostC P fn c₀ cs R) { tmps := args ++ Array.replicate (fn.ntmps - args.size) undef, defers := [] } (c₀ :: cs) w) :
    CallsDIn F n P f args u w R := by
  refine ⟨hF, fun c₀ cs hu hroom => ?_⟩
  let b : Frame := { (default : Frame) with fn := f, kind := .deferred, roundOf := none }
  have henter : Frame.enter P f args .deferred =
      b.atR { tmps := args ++ Array.replicate (fn.ntmps - args.size) undef, defers := [] } [.code c] := by
    simp [Frame.enter, Frame.atR, hf, hb, b]
  obtain ⟨e, a', cs', w', hl, hq, harr⟩ := h c₀ cs hu b [] rfl rfl hF hroom
  rw [← henter] at harr
  cases e with
  | normal =>
    obtain ⟨u', rfl, hcol⟩ := hq
    obtain ⟨w'', ⟨v, hr, hR⟩, hs⟩ := collect_steps (n := n) a'.defers { b.atR a' [] with mode := .returning } ({ c₀ with mode := u' } :: cs) w' _ (by simp) rfl hF (by simpa using hroom) hcol
    exact ⟨.returned v, u', w'', _, hR, StepsIn.trans (StepsIn.trans harr (.one (fenced_calm (fr := b.atR a' []) hF hroom rfl) (stepR_end rfl))) hs, rfl, rfl, rfl, rfl, fn, hf, hr⟩
  | ret =>
    obtain ⟨u', rfl, hcol⟩ := hq
    obtain ⟨todo, hs0⟩ := harr.1 rfl
    obtain ⟨w'', ⟨v, hr, hR⟩, hs⟩ := collect_steps (n := n) a'.defers { b.atR a' todo with mode := .returning } ({ c₀ with mode := u' } :: cs) w' _ (by simp) rfl hF (by simpa using hroom) hcol
    exact ⟨.returned v, u', w'', _, hR, StepsIn.trans hs0 hs, rfl, rfl, rfl, rfl, fn, hf, hr⟩
  | panic chain => exact hq.elim
  | exit id => exact hq.elim
  | goto l => exact hq.elim
  | outgrown => exact hq.elim

/-- How the frame below goes: it returns, or it panics with this. -/
def DMode (Γ : Ctx) (w : World) : Option PV → FrameMode → Prop
  | none, u => u = .returning
  | some p, u => ∃ v, u = .panicking [{ v := v, recovered := false }] ∧ VRep Γ w p v
/-- A deferred call, behind which the frame below goes on to return. -/
def DCall (P : Program) (f : FuncId) (args : List PV) (m : St) (pn : Option PV) (R : St → Prop) : Prop :=
  HasBody P f ∧ ∀ Γ w us u, MemSim Γ m w → LRep Γ w args us → DMode Γ w pn u → CallsDIn Fence.wide 0 P f us.toArray u w fun e u' w' =>
    ∃ v m' Γ', e = .returned v ∧ settle u' = .returning ∧ R m' ∧ Γ.le Γ' ∧ Keeps Γ w w' ∧ MemSim Γ' m' w'
theorem DCall.mono {P : Program} {f : FuncId} {args : List PV} {m : St} {pn : Option PV} {R R' : St → Prop} (h : DCall P f args m pn R) (k : ∀ m', R m' → R' m') : DCall P f args m pn R' :=
  ⟨h.1, fun Γ w us u a b c => (h.2 Γ w us u a b c).mono fun e u' w' ⟨v, m', Γ', h1, h2, h3, r⟩ => ⟨v, m', Γ', h1, h2, k _ h3, r⟩⟩

/-- What recover hands back. -/
def recV : Option PV → PV | none => .v .nilIface | some p => p
def FinD (m : St) (R : St → Prop) : APost
  | .normal, _, m' => ∃ m'', Lv m m' m'' ∧ R m''
  | .ret, _, m' => ∃ m'', Lv m m' m'' ∧ R m''
  | _, _, _ => False

section
variable {P : Program} {m m' m'' : St} {Γ Γ' : Ctx} {w w' : World}
theorem collects_sim {K : World → Prop} : ∀ (ms : List Nat) (w : World), ms.Nodup → (∀ D ∈ ms, w.heap[D]? = some (.deferred (some [])) ∧ Γ.base ≤ D ∧ ¬ Γ.x.mark D) → MemSim Γ m w → (∀ w', MemSim Γ m w' → Keeps Γ w w' → K w') →
    Collects P (ms.map (fun D => { target := .collected D, args := #[] })) w K
  | [], w, _, _, hm, k => k w hm (Keeps.refl _ _)
  | D :: ms, w, hd, hD, hm, k => by
    obtain ⟨h1, h2, h3⟩ := hD D (by simp)
    have hx : XSim Γ (w.putObj D (.deferred none)) := by
      refine ⟨fun D' hD' => ?_, fun l hl => ?_, hm.xs.rnd, by simp; exact hm.xs.dlo⟩
      · obtain ⟨a, b⟩ := hm.xs.mark D' hD'
        exact ⟨a, (World.putObj_heap_other (fun e : D' = D => h3 (by rw [← e]; exact hD'))).trans b⟩
      · obtain ⟨a, L, b⟩ := hm.xs.lps l hl
        refine ⟨a, L, (World.putObj_heap_other (fun e => ?_)).trans b⟩
        subst e; rw [b] at h1; cases h1
    obtain ⟨hm', hk'⟩ := hm.putObj (o' := .deferred none) h1 rfl rfl h2 (fun n L hn hL e => by
      obtain ⟨_, tmps, D', q, _⟩ := hm.lps.at_ n L hn hL
      rw [e, h1] at q; cases q) hx (fun n x a b e => by have := (hm.its.at_ n x a b).2; rw [e, h1] at this; cases this)
    refine ⟨D, _, rfl, run_takeDeferred h1, collects_sim ms _ (List.nodup_cons.1 hd).2 (fun D' hD' => ?_) hm' fun w' a b => k w' a (hk'.trans (Ctx.le.refl _) b)⟩
    obtain ⟨a, b, c⟩ := hD D' (by simp [hD'])
    exact ⟨(World.putObj_heap_other (fun e : D' = D => (List.nodup_cons.1 hd).1 (by rw [← e]; exact hD'))).trans a, b, c⟩

theorem settle_rec (v : Value) : settle (.panicking [{ v := v, recovered := true }]) = .returning := rfl

/-- The first operation recovers (and a second one hands on what it got). -/
theorem DCall.of_rec {f : FuncId} {fn : Func} {id d : Nat} {B : Code} {ty : TypeId} {pos : String} {after : Array Edge} {tail : Array Oper} {args : List PV} {pn : Option PV} {R : St → Prop} {N : Nat} (hf : P.funcs[f]? = some fn) (hN : fn.ntmps = N)
    (hb : fn.body = some (.seq (.region id (#[⟨some d, .call ⟨.builtin .recover, #[], #[]⟩, ty, pos, after, none⟩] ++ tail) false) B)) (hn : (fn.name == "runtime.NumGoroutine") = false) (ha : args.length ≤ N) (hd : d < N) (hres : fn.results = #[])
    (ht : tail = #[] ∨ ∃ d2 ty2 pos2 after2, d2 < N ∧ tail = #[⟨some d2, .assign (.tmp d), ty2, pos2, after2, none⟩])
    (h : ∀ σ, (∀ t, t ≠ d → (∀ o ∈ tail.toList, o.dst ≠ some t) → σ t = slots0 args t) → σ d = recV pn → (∀ o ∈ tail.toList, ∀ t, o.dst = some t → σ t = recV pn) → AW P N B (FinD m R) σ m) : DCall P f args m pn R := by
  subst hN
  refine ⟨⟨fn, _, hf, hb, hn⟩, fun Γ w us u hm hr hu => ?_⟩
  have hl : us.length = args.length := LRep.len _ _ hr
  obtain ⟨tmps, htm⟩ : ∃ t : Array Value, t = us.toArray ++ Array.replicate (fn.ntmps - us.toArray.size) undef := ⟨_, rfl⟩
  have hts : tmps.size = fn.ntmps := by subst htm; simp; omega
  have hrep : ∀ t, VRep Γ w (slots0 args t) (tmps.getD t undef) := by
    intro t
    subst htm
    unfold slots0
    by_cases ht : t < args.length
    · rw [List.getD_eq_getElem?_getD, List.getElem?_eq_getElem ht]
      obtain ⟨u, h1, h2⟩ := LRep.get _ _ hr t _ (List.getElem?_eq_getElem ht)
      have : (us.toArray ++ Array.replicate (fn.ntmps - us.toArray.size) undef).getD t undef = u := by
        rw [Array.getD_eq_getD_getElem?, Array.getElem?_append_left (by simp; omega)]
        simp [h1]
      rw [this]
      exact h2
    · rw [List.getD_eq_getElem?_getD, List.getElem?_eq_none (by omega)]
      trivial
  -- what the frame below is, and what recover hands back
  obtain ⟨rv, u₁, hrv, hu₁, hrec⟩ : ∃ rv u₁, VRep Γ w (recV pn) rv ∧ settle u₁ = .returning ∧ ∀ (c₀ : Frame) (cs : List Frame), c₀.mode = u →
      (match recoverD (c₀ :: cs) with | some (v, cs') => v = rv ∧ cs' = { c₀ with mode := u₁ } :: cs | none => rv = .nilIface ∧ c₀ :: cs = { c₀ with mode := u₁ } :: cs) := by
    cases pn with
    | none =>
      refine ⟨.nilIface, .returning, rfl, rfl, fun c₀ cs hc => ?_⟩
      replace hu : u = .returning := hu
      subst hu
      have : recoverD (c₀ :: cs) = none := by simp [recoverD, hc]
      rw [this]
      exact ⟨rfl, by rw [← hc]⟩
    | some p =>
      obtain ⟨v, rfl, hv⟩ := hu
      refine ⟨v, .panicking [{ v := v, recovered := true }], hv, rfl, fun c₀ cs hc => ?_⟩
      have : recoverD (c₀ :: cs) = some (v, { c₀ with mode := .panicking [{ v := v, recovered := true }] } :: cs) := by simp [recoverD, hc]
      rw [this]
      exact ⟨rfl, rfl⟩
  refine callsDIn_of_wpSIn_marks hf hb trivial fun c₀ cs hc => ?_
  rw [← htm]
  refine wpSIn_seq (wpSIn_region ?_)
  -- the rest
  have rest : ∀ a : Act, a.tmps.size = fn.ntmps → a.defers = [] → a.tmps.getD d undef = rv → (∀ t, t ≠ d → (∀ o ∈ tail.toList, o.dst ≠ some t) → a.tmps.getD t undef = tmps.getD t undef) → (∀ o ∈ tail.toList, ∀ t, o.dst = some t → a.tmps.getD t undef = rv) →
      B.wpSIn Fence.wide 0 P (bodyPostC P fn c₀ cs fun e u' w' => ∃ v m' Γ', e = .returned v ∧ settle u' = .returning ∧ R m' ∧ Γ.le Γ' ∧ Keeps Γ w w' ∧ MemSim Γ' m' w') a ({ c₀ with mode := u₁ } :: cs) w := by
    intro a h1 h2 h3 h4 h5
    refine wpSIn_of_wpIn rfl ?_
    classical
    obtain ⟨σ, hσ⟩ : ∃ σ : Nat → PV, σ = fun t => if t = d ∨ ∃ o ∈ tail.toList, o.dst = some t then recV pn else slots0 args t := ⟨_, rfl⟩
    have hB := h σ (fun t k1 k2 => by rw [hσ]; exact if_neg (by rintro (q | ⟨o, q1, q2⟩); exact k1 q; exact k2 o q1 q2)) (by rw [hσ]; exact if_pos (.inl rfl)) (fun o k1 t k2 => by rw [hσ]; exact if_pos (.inr ⟨o, k1, k2⟩))
    have hsim : Sim (Γ.withX (Γ.x.into w.heap.size)) fn.ntmps σ m a w := by
      refine ⟨h1, ⟨[], by rw [h2]; rfl, List.nodup_nil, fun _ q => by cases q⟩, hm.withX _ hm.xs.into, fun t => VRep.withX ?_ _⟩
      rw [hσ]
      by_cases q : t = d ∨ ∃ o ∈ tail.toList, o.dst = some t
      · simp only [if_pos q]
        rcases q with rfl | ⟨o, q1, q2⟩
        · rw [h3]; exact hrv
        · rw [h5 o q1 t q2]; exact hrv
      · simp only [if_neg q]
        rw [h4 t (fun e => q (.inl e)) (fun o q1 q2 => q (.inr ⟨o, q1, q2⟩))]
        exact hrep t
    refine wpIn_mono (hB _ a w hsim) ?_
    rintro e a' w' ⟨x, σ', m', Γ', k1, k2, k3, k4, k5⟩
    obtain ⟨ms, hd1, hd2, hd3⟩ := k3.defers
    have hfd : Γ'.x.fd = [] := k4.x.fd
    have hdlo : Γ'.x.dlo = w.heap.size := k4.x.dlo
    have hms : ∀ D ∈ ms, w'.heap[D]? = some (.deferred (some [])) ∧ Γ'.base ≤ D ∧ ¬ Γ.x.mark D := fun D hD => by
      obtain ⟨a, b⟩ := k3.mem.xs.mark D (hd3 D hD).1
      refine ⟨b, a, fun q => ?_⟩
      have h6 := (Array.getElem?_eq_some_iff.1 (hm.xs.mark D q).2).1
      have h7 := (hd3 D hD).2
      omega
    rw [hfd, List.append_nil] at hd1
    have hx₂ : XSim (Γ'.withX Γ.x) w' := by
      have := hm.xs.back k4.base k4.x.mark k4.x.lps k5.below.size k3.mem.xs Γ'.nloc Γ'.ntok
      exact ⟨this.mark, this.lps, this.rnd, this.dlo⟩
    have hm₂ := k3.mem.withX Γ.x hx₂
    have l₂ : (Γ.withX Γ.x).le (Γ'.withX Γ.x) := ⟨k4.base, k4.nloc, k4.loc, k4.imm, k4.ntok, k4.tok, k4.wd, CtxX.le.refl _, k4.immb⟩
    have fin : (∃ m'', Lv m m' m'' ∧ R m'') → ∃ u', { c₀ with mode := u₁ } :: cs = { c₀ with mode := u' } :: cs ∧ Collects P a'.defers w' fun w' => ∃ v, (results fn a'.tmps).run P w' = .ok v w' ∧
        ∃ v' m' Γ', Ending.returned v = .returned v' ∧ settle u' = .returning ∧ R m' ∧ Γ.le Γ' ∧ Keeps Γ w w' ∧ MemSim Γ' m' w' := by
      rintro ⟨m'', hlv, hR⟩
      refine ⟨u₁, rfl, ?_⟩
      rw [hd1]
      refine collects_sim ms w' hd2 hms hm₂ fun w₂ hm₃ hk₂ => ?_
      have hk₃ : Keeps Γ w w₂ := Keeps.trans (A := Γ) (B := Γ'.withX Γ.x) ⟨k5.below, k5.imm⟩ l₂ hk₂
      have hx₃ : XSim ((Γ'.withX Γ.x).cut Γ.x m''.nloc m''.ntok) w₂ := ⟨hm₃.xs.mark, hm₃.xs.lps, hm₃.xs.rnd, hm₃.xs.dlo⟩
      obtain ⟨h6, h7⟩ := hlv.sim hm l₂ hx₃ hm₃
      exact ⟨.tuple #[], by simp [results, hres], _, m'', _, rfl, hu₁, hR, h7, hk₃, h6⟩
    cases x <;> cases e <;> simp only [XRep] at k2 <;> simp only [FinD] at k1
    · exact fin k1
    · exact fin k1
  have hrun : ∀ a : Act, (execOp a.eval ⟨some d, .call ⟨.builtin .recover, #[], #[]⟩, ty, pos, after, none⟩).run P w = .ok .recover w := by
    intro a
    simp [execOp, resolve, invoke, builtin]
  have hput : ∀ (t : Nat) (v : Value) (tm : Array Value), t < tm.size → ∀ i, (tm.setIfInBounds t v).getD i undef = if i = t then v else tm.getD i undef := by
    intro t v tm hlt i
    rw [Array.getD_eq_getD_getElem?, Array.getD_eq_getD_getElem?, Array.getElem?_setIfInBounds]
    by_cases e : i = t
    · subst e; simp [hlt]
    · rw [if_neg (Ne.symm e), if_neg e]
  have h0 := hrec c₀ cs hc
  rcases ht with rfl | ⟨d2, ty2, pos2, after2, hd2, rfl⟩
  · have hops : List.range (#[(⟨some d, .call ⟨.builtin .recover, #[], #[]⟩, ty, pos, after, none⟩ : Oper)] ++ #[]).size = [0] := rfl
    rw [hops]
    simp only [wpOpsSIn, Array.append_empty, List.getElem?_toArray, List.getElem?_cons_zero, Region.wanted, if_true, hrun]
    refine ⟨fun _ _ => trivial, ?_⟩
    have k : ∀ v, v = rv → B.wpSIn Fence.wide 0 P _ (({ tmps := tmps, defers := [] } : Act).put (some d) v) ({ c₀ with mode := u₁ } :: cs) w := fun v e => by
      subst e
      refine rest _ (by simp [Act.put, hts]) rfl ?_ (fun t e _ => ?_) (fun o ho => by simp at ho)
      · simp only [Act.put]; rw [hput d _ _ (by omega), if_pos rfl]
      · simp only [Act.put]; rw [hput d _ _ (by omega), if_neg e]
    split
    · rename_i v cs' hq
      rw [hq] at h0
      obtain ⟨rfl, rfl⟩ := h0
      exact k _ rfl
    · rename_i hq
      rw [hq] at h0
      obtain ⟨e1, e2⟩ := h0
      rw [e2]; exact k _ e1.symm
  · have hops : List.range (#[(⟨some d, .call ⟨.builtin .recover, #[], #[]⟩, ty, pos, after, none⟩ : Oper)] ++ #[(⟨some d2, .assign (.tmp d), ty2, pos2, after2, none⟩ : Oper)]).size = [0, 1] := rfl
    rw [hops]
    have hs2 : ∀ (a : Act), (execOp a.eval ⟨some d2, .assign (.tmp d), ty2, pos2, after2, none⟩).run P w = .ok (.value (a.tmps.getD d undef)) w := fun a => by simp [execOp, Act.eval]
    have k : ∀ v, v = rv → wpOpsSIn Fence.wide 0 P (#[(⟨some d, .call ⟨.builtin .recover, #[], #[]⟩, ty, pos, after, none⟩ : Oper)] ++ #[(⟨some d2, .assign (.tmp d), ty2, pos2, after2, none⟩ : Oper)]) (Exit.thenS (B.wpSIn Fence.wide 0 P (bodyPostC P fn c₀ cs fun e u' w' => ∃ v m' Γ', e = .returned v ∧ settle u' = .returning ∧ R m' ∧ Γ.le Γ' ∧ Keeps Γ w w' ∧ MemSim Γ' m' w')) (bodyPostC P fn c₀ cs fun e u' w' => ∃ v m' Γ', e = .returned v ∧ settle u' = .returning ∧ R m' ∧ Γ.le Γ' ∧ Keeps Γ w w' ∧ MemSim Γ' m' w')) [1] (({ tmps := tmps, defers := [] } : Act).put (some d) v) ({ c₀ with mode := u₁ } :: cs) w := fun v e => by
      subst e
      simp only [wpOpsSIn]
      have : (#[(⟨some d, .call ⟨.builtin .recover, #[], #[]⟩, ty, pos, after, none⟩ : Oper)] ++ #[(⟨some d2, .assign (.tmp d), ty2, pos2, after2, none⟩ : Oper)])[1]? = some ⟨some d2, .assign (.tmp d), ty2, pos2, after2, none⟩ := rfl
      rw [this]
      simp only [Region.wanted, if_true, hs2]
      refine ⟨fun _ _ => trivial, ?_⟩
      have hdd : (({ tmps := tmps, defers := [] } : Act).put (some d) v).tmps.getD d undef = v := by simp only [Act.put]; rw [hput d _ _ (by omega), if_pos rfl]
      rw [hdd]
      refine rest _ (by simp [Act.put, hts]) rfl ?_ (fun t e1 e2 => ?_) (fun o ho t e => ?_)
      · simp only [Act.put]; rw [hput d2 _ _ (by simp; omega)]
        split
        · rfl
        · rw [hput d _ _ (by omega), if_pos rfl]
      · have : t ≠ d2 := fun e => e2 ⟨some d2, .assign (.tmp d), ty2, pos2, after2, none⟩ (by simp) (by rw [e])
        simp only [Act.put]; rw [hput d2 _ _ (by simp; omega), if_neg this, hput d _ _ (by omega), if_neg e1]
      · simp at ho; subst ho; cases e
        simp only [Act.put]; rw [hput d2 _ _ (by simp; omega), if_pos rfl]
    have h00 : (#[(⟨some d, .call ⟨.builtin .recover, #[], #[]⟩, ty, pos, after, none⟩ : Oper)] ++ #[(⟨some d2, .assign (.tmp d), ty2, pos2, after2, none⟩ : Oper)])[0]? = some ⟨some d, .call ⟨.builtin .recover, #[], #[]⟩, ty, pos, after, none⟩ := rfl
    unfold wpOpsSIn
    rw [h00]
    simp only [Region.wanted, if_true, hrun]
    refine ⟨fun _ _ => trivial, ?_⟩
    split
    · rename_i v cs' hq
      rw [hq] at h0
      obtain ⟨rfl, rfl⟩ := h0
      exact k _ rfl
    · rename_i hq
      rw [hq] at h0
      obtain ⟨e1, e2⟩ := h0
      rw [e2]; exact k _ e1.symm
end
end Go.Ab
/- The abstract layer, 26: a function with a deferred call. Over any program. -/
namespace Go.Ab
open Go.RowKit

theorem wpListIn_app {F : Fence} {n : Nat} {P : Program} {ops : Array Oper} {Q Q' : Exit → Act → World → Prop} {l2 : List Oper} (h1 : ∀ a w, Q' .normal a w → wpListIn F n P ops Q l2 a w) (h2 : ∀ e a w, (∀ _ : e = .normal, False) → Q' e a w → Q e a w) : ∀ (l1 : List Oper) (a : Act) (w : World), wpListIn F n P ops Q' l1 a w → wpListIn F n P ops Q (l1 ++ l2) a w
  | [], a, w, h => h1 a w h
  | o :: rest, a, w, h => by
    have ih := wpListIn_app h1 h2 rest
    rw [List.cons_append]
    unfold wpListIn at h ⊢
    split at h
    · rename_i hw
      rw [if_pos hw]
      obtain ⟨ha, hh⟩ := h
      refine ⟨ha, ?_⟩
      generalize (o.semAt F.round a.eval).run P w = r at *
      have lo : LetsOut Q' → LetsOut Q := fun ⟨a, w, q⟩ => ⟨a, w, h2 _ _ _ (by simp) q⟩
      cases r with
      | ok x w' =>
        cases x <;> simp only [Oper.uponIn] at hh ⊢
        case value v => exact ih _ _ hh
        case skip => exact ih _ _ hh
        case defer d => exact ih _ _ hh
        case enter f args =>
          refine ⟨hh.1, CallsIn.mono hh.2 fun e w'' he => ?_⟩
          cases e with
          | returned v => exact ih _ _ he
          | panicked ch => exact h2 _ _ _ (by simp) he
          | outgrown => exact lo he
        case round l f tmps assign body =>
          refine ⟨hh.1, RoundIn.mono hh.2 fun e w'' he => ?_⟩
          cases e with
          | returned v => exact ih _ _ he
          | panicked ch => exact h2 _ _ _ (by simp) he
          | outgrown => exact lo he
        case row row args => exact ⟨hh.1, RowsIn.mono hh.2 fun v w'' he => ih _ _ he⟩
      | halt x w' =>
        cases x <;> simp only [Oper.uponIn] at hh ⊢
        case panic v => exact h2 _ _ _ (by simp) hh
    · rename_i hw
      rw [if_neg hw]
      exact ⟨h.1, ih _ _ h.2⟩

/-- Where the code behind the defer statement ends. -/
def FinDf (P : Program) (fn : Func) (m : St) (g : FuncId) (ds : List PV) (R : ARes → St → Prop) : APost
  | .normal, σ, m' => DCall P g ds m' none (fun m'' => ∃ p m3, ResP P fn.results.toList σ m'' p ∧ LvS m m'' m3 p.strip ∧ R (.ret p.strip) m3)
  | .ret, σ, m' => DCall P g ds m' none (fun m'' => ∃ p m3, ResP P fn.results.toList σ m'' p ∧ LvS m m'' m3 p.strip ∧ R (.ret p.strip) m3)
  | .pan pv, σ, m' => DCall P g ds m' (some pv) (fun m'' => ∃ p m3, ResP P fn.results.toList σ m'' p ∧ LvS m m'' m3 p.strip ∧ R (.ret p.strip) m3)
  | _, _, _ => False

section
variable {P : Program} {m m' m'' : St} {Γ Γ' : Ctx} {w w' : World}

theorem ACall.of_defer {f : FuncId} {fn : Func} {N id : Nat} {A B : Code} {pre : List Oper} {fo : Operand} {dargs : Array Operand} {ts : Array TypeId} {ty : TypeId} {pos : String} {after : Array Edge} {ops : Array Oper} {args : List PV} {R : ARes → St → Prop} (hf : P.funcs[f]? = some fn) (hN : fn.ntmps = N)
    (hb : fn.body = some (.seq A (.seq (.region id ops false) B))) (hops : ops.toList = pre ++ [⟨none, .defer ⟨.value fo, dargs, ts⟩, ty, pos, after, none⟩]) (hn : (fn.name == "runtime.NumGoroutine") = false) (ha : args.length ≤ N)
    (h : AW P N A (AExit.then (fun σ m1 => AList P N ops (AExit.then (fun σ2 m2 => ∃ g first caps, Ab.opv σ2 fo = .clo g first caps ∧ AW P N B (FinDf P fn m g (first ++ dargs.toList.map (Ab.opv σ2) ++ caps) R) σ2 m2) (fun _ _ _ => False)) pre σ m1) (fun _ _ _ => False)) (slots0 args) m) : ACall P f args m R := by
  subst hN
  refine ⟨⟨fn, _, hf, hb, hn⟩, fun Γ w us hm hr => ?_⟩
  have hl : us.length = args.length := LRep.len _ _ hr
  refine callsIn_wide.1 (callsIn_of_wp_marks (F := Fence.wide) (n := 0) hf hb trivial ?_)
  refine wpIn_seq (wpIn_mono (h (Γ.withX (Γ.x.into w.heap.size)) { tmps := us.toArray ++ Array.replicate (fn.ntmps - us.toArray.size) undef, defers := [] } w ⟨?_, ⟨[], rfl, List.nodup_nil, fun _ h => by cases h⟩, hm.withX _ hm.xs.into, fun t => ?_⟩) ?_)
  · simp; omega
  · refine VRep.withX ?_ _
    unfold slots0
    by_cases ht : t < args.length
    · rw [List.getD_eq_getElem?_getD, List.getElem?_eq_getElem ht]
      obtain ⟨u, h1, h2⟩ := LRep.get _ _ hr t _ (List.getElem?_eq_getElem ht)
      have : (us.toArray ++ Array.replicate (fn.ntmps - us.toArray.size) undef).getD t undef = u := by
        rw [Array.getD_eq_getD_getElem?, Array.getElem?_append_left (by simp; omega)]
        simp [h1]
      rw [this]
      exact h2
    · rw [List.getD_eq_getElem?_getD, List.getElem?_eq_none (by omega)]
      trivial
  -- behind A
  rintro e₁ a₁ w₁ ⟨x₁, σ₁, m₁, Γ₁, h1, h2, h3, h4, h5⟩
  cases x₁ <;> simp only [AExit.then] at h1
  cases e₁ <;> simp only [XRep] at h2
  simp only [Exit.then]
  refine wpIn_seq (wpIn_region_list ?_)
  have hrnd1 : Γ₁.x.rnd = none := h4.x.rnd
  have hA := h1 Γ₁ a₁ w₁ h3
  rw [hrnd1] at hA
  rw [hops]
  refine wpListIn_app (Q' := fun e a w => match e with | .normal => ∃ σ₂ m₂ Γ₂, (∃ g first caps, Ab.opv σ₂ fo = .clo g first caps ∧ AW P fn.ntmps B (FinDf P fn m g (first ++ dargs.toList.map (Ab.opv σ₂) ++ caps) R) σ₂ m₂) ∧ Sim Γ₂ fn.ntmps σ₂ m₂ a w ∧ Γ₁.le Γ₂ ∧ Keeps Γ₁ w₁ w | _ => False) ?_ (fun e a w hne hq => by cases e <;> first | exact (hne rfl).elim | exact hq.elim) pre a₁ w₁ ?_
  rotate_left
  · refine wpList_mono (Q := Post Γ₁ w₁ fn.ntmps _) ?_ pre a₁ w₁ hA
    rintro e a w₂ ⟨x₂, σ₂, m₂, Γ₂, k1, k2, k3, k4, k5⟩
    cases x₂ <;> simp only [AExit.then] at k1
    cases e <;> simp only [XRep] at k2
    exact ⟨σ₂, m₂, Γ₂, k1, k3, k4, k5⟩
  -- the defer statement
  rintro a₂ w₂ ⟨σ₂, m₂, Γ₂, ⟨g, first, caps, hfo, hB⟩, k3, k4, k5⟩
  have hvf := k3.opv fo
  rw [hfo] at hvf
  obtain ⟨fs, cs, hef, hf1, hf2⟩ := hvf
  obtain ⟨d, hd⟩ : ∃ d : Deferred, d = { target := .fn (.func g) cs, args := fs ++ dargs.map a₂.eval } := ⟨_, rfl⟩
  have hrun : (execOp a₂.eval ⟨none, .defer ⟨.value fo, dargs, ts⟩, ty, pos, after, none⟩).run P w₂ = .ok (.defer d) w₂ := by
    subst hd
    simp only [execOp, resolve, Deferred.ofValue, hef, Sem.run_bind, Sem.run_pure, Result.andThen_ok]
  unfold wpListIn
  rw [if_pos (by simp [Region.wanted])]
  refine ⟨fun _ _ => trivial, ?_⟩
  have hsem : Oper.semAt (FW none).round a₂.eval ⟨none, .defer ⟨.value fo, dargs, ts⟩, ty, pos, after, none⟩ = execOp a₂.eval ⟨none, .defer ⟨.value fo, dargs, ts⟩, ty, pos, after, none⟩ := rfl
  have hfw : Fence.wide = FW none := rfl
  rw [hfw, hsem, hrun]
  simp only [Oper.uponIn, wpListIn, Exit.then, Act.put]
  -- the rest of the body, in a context that holds the deferred call
  obtain ⟨ms, hd1, hd2, hd3⟩ := k3.defers
  have l02 := h4.trans k4
  have kk02 : Keeps (Γ.withX (Γ.x.into w.heap.size)) w w₂ := h5.trans h4 k5
  have hfd : Γ₂.x.fd = [] := l02.x.fd
  have hdlo : Γ₂.x.dlo = w.heap.size := l02.x.dlo
  have hrnd2 : Γ₂.x.rnd = none := l02.x.rnd
  rw [hfd, List.append_nil] at hd1
  obtain ⟨x3, hx3⟩ : ∃ x3 : CtxX, x3 = { Γ₂.x with dlo := w₂.heap.size, fd := d :: a₂.defers } := ⟨_, rfl⟩
  have hxs3 : XSim (Γ₂.withX x3) w₂ := by
    subst hx3
    exact ⟨k3.mem.xs.mark, k3.mem.xs.lps, k3.mem.xs.rnd, Nat.le_refl _⟩
  have hm3 := k3.mem.withX x3 hxs3
  have hsim3 : Sim (Γ₂.withX x3) fn.ntmps σ₂ m₂ { a₂ with defers := d :: a₂.defers } w₂ := by
    refine ⟨k3.size, ⟨[], by subst hx3; rfl, List.nodup_nil, fun _ q => by cases q⟩, hm3, fun t => VRep.withX (k3.slots t) x3⟩
  have hB' := hB (Γ₂.withX x3) _ w₂ hsim3
  have hr3 : (Γ₂.withX x3).x.rnd = none := by subst hx3; exact hrnd2
  rw [hr3] at hB'
  refine wpIn_mono hB' ?_
  rintro e a' w' ⟨x, σ', m', Γ', g1, g2, g3, g4, g5⟩
  obtain ⟨ms', j1, j2, j3⟩ := g3.defers
  have hfd' : Γ'.x.fd = d :: a₂.defers := by rw [g4.x.fd]; subst hx3; rfl
  have hdlo' : Γ'.x.dlo = w₂.heap.size := by rw [g4.x.dlo]; subst hx3; rfl
  rw [hfd'] at j1
  -- the marks of B, of A
  have hsz : w.heap.size ≤ w₂.heap.size := kk02.below.size
  have hsz' : w₂.heap.size ≤ w'.heap.size := g5.below.size
  have hbase2 : Γ₂.base = Γ.base := l02.base
  have hbase' : Γ'.base = Γ.base := g4.base.trans hbase2
  -- memory with the caller's marks and those of A
  have hmarkA : ∀ D ∈ ms, Γ₂.x.mark D ∧ w.heap.size ≤ D ∧ D < w₂.heap.size := fun D hD => by
    obtain ⟨a, b⟩ := hd3 D hD
    exact ⟨a, by omega, (Array.getElem?_eq_some_iff.1 (k3.mem.xs.mark D a).2).1⟩
  obtain ⟨x4, hx4⟩ : ∃ x4 : CtxX, x4 = ⟨fun D => Γ.x.mark D ∨ D ∈ ms, Γ.x.lps, Γ.x.dlo, Γ.x.rnd, Γ.x.fd⟩ := ⟨_, rfl⟩
  have hmarks' : ∀ D, Γ₂.x.mark D → Γ'.x.mark D := fun D hD => g4.x.mark D (by subst hx3; exact hD)
  have hlps' : ∀ D, Γ.x.lps D → Γ'.x.lps D := fun D hD => g4.x.lps D (by subst hx3; exact l02.x.lps D hD)
  have hxs4 : XSim (Γ'.withX x4) w' := by
    subst hx4
    refine ⟨fun D hD => ?_, fun l hl => g3.mem.xs.lps l (hlps' l hl), fun l hl => hm.xs.rnd l hl, by have := hm.xs.dlo; show Γ.x.dlo ≤ _; omega⟩
    rcases hD with hD | hD
    · exact g3.mem.xs.mark D (hmarks' D (l02.x.mark D hD))
    · exact g3.mem.xs.mark D (hmarks' D (hmarkA D hD).1)
  have hm4 := g3.mem.withX x4 hxs4
  have hms4 : ∀ D ∈ ms', w'.heap[D]? = some (.deferred (some [])) ∧ (Γ'.withX x4).base ≤ D ∧ ¬ (Γ'.withX x4).x.mark D := fun D hD => by
    obtain ⟨a, b⟩ := g3.mem.xs.mark D (j3 D hD).1
    refine ⟨b, a, fun q => ?_⟩
    have h7 := (j3 D hD).2
    rw [hdlo'] at h7
    subst hx4
    rcases q with q | q
    · have h6 := (Array.getElem?_eq_some_iff.1 (hm.xs.mark D q).2).1
      omega
    · have := (hmarkA D q).2.2
      omega
  have hdrep : LRep (Γ'.withX x4) w' (first ++ dargs.toList.map (Ab.opv σ₂) ++ caps) (fs ++ dargs.map a₂.eval ++ cs).toList := by
    have q1 : LRep Γ₂ w₂ (first ++ dargs.toList.map (Ab.opv σ₂) ++ caps) (fs ++ dargs.map a₂.eval ++ cs).toList := by
      simp only [Array.toList_append, Array.toList_map]
      exact LRep.append _ _ _ _ (LRep.append _ _ _ _ hf1 (mapRep k3.opv _)) hf2
    have q2 : LRep (Γ₂.withX x3) w₂ _ _ := LRep.cut (x₀ := x3) (nl := Γ₂.nloc) (nt := Γ₂.ntok) _ _ (LRep.sc _ _ q1) q1
    have q3 := LRep.mono g4 g5 _ _ q2
    exact LRep.cut (x₀ := x4) (nl := Γ'.nloc) (nt := Γ'.ntok) _ _ (LRep.sc _ _ q3) q3
  have hslots4 : ∀ t, VRep (Γ'.withX x4) w' (σ' t) (a'.tmps.getD t undef) := fun t => VRep.withX (g3.slots t) x4
  have hkeep4 : Keeps Γ w w' := ⟨by have q := kk02.below.trans (show Below (Γ.withX (Γ.x.into w.heap.size)).base w₂ w' from by have := g5.below; rw [show (Γ₂.withX x3).base = (Γ.withX (Γ.x.into w.heap.size)).base from hbase2] at this; exact this); exact q, fun b o q => (g5.imm b o (l02.imm b o q)).trans (kk02.imm b o q)⟩
  have l04 : (Γ.withX Γ.x).le (Γ'.withX Γ.x) := by
    have l3 : (Γ₂.withX x3).le Γ' := g4
    refine ⟨hbase', Nat.le_trans l02.nloc l3.nloc, fun n hn => (l3.loc n (Nat.lt_of_lt_of_le hn l02.nloc)).trans (l02.loc n hn), fun b o q => l3.imm b o (l02.imm b o q), Nat.le_trans l02.ntok l3.ntok, fun k hk => ?_, fun k hk => (l3.wd k (Nat.lt_of_lt_of_le hk l02.ntok)).trans (l02.wd k hk), CtxX.le.refl _, fun b o q => (l3.immb b o q).elim (l02.immb b o) (fun r => .inr (by rw [show (Γ₂.withX x3).base = Γ.base from hbase2] at r; exact r))⟩
    rcases l02.tok k hk with ⟨t1, t2, t3⟩ | t1 <;> rcases l3.tok k (Nat.lt_of_lt_of_le hk l02.ntok) with ⟨u1, u2, u3⟩ | u1
    · exact .inl ⟨u1.trans t1, u2.trans t2, u3.trans t3⟩
    · exact .inr (by rw [show (Γ₂.withX x3).top k = Γ₂.top k from rfl, t1] at u1; exact u1)
    · exact .inr (by rw [show (Γ₂.withX x3).top k = Γ₂.top k from rfl] at u1; exact u1 ▸ t1)
    · exact .inr (Nat.lt_trans t1 u1)
  -- the way out
  have out : ∀ (pn : Option PV) (u : FrameMode), u ≠ .run → DMode (Γ'.withX x4) w' pn u →
      DCall P g (first ++ dargs.toList.map (Ab.opv σ₂) ++ caps) m' pn (fun m'' => ∃ p m3, ResP P fn.results.toList σ' m'' p ∧ LvS m m'' m3 p.strip ∧ R (.ret p.strip) m3) →
      LeavesInM Fence.wide 0 P fn a'.tmps (fun e w' => ∃ r m' Γ', R r m' ∧ ERep Γ' w' r e ∧ Γ.le Γ' ∧ Keeps Γ w w' ∧ MemSim Γ' m' w') a'.defers u w' := by
    intro pn u hu hmode hdc
    rw [j1]
    refine leavesM hu ms' w' j2 hms4 hm4 fun w₃ hm5 hk5 => ?_
    have hmode3 : DMode (Γ'.withX x4) w₃ pn u := by
      cases pn with
      | none => exact hmode
      | some p => obtain ⟨v, e, hv⟩ := hmode; exact ⟨v, e, VRep.mono (Ctx.le.refl _) hk5 _ _ hv⟩
    have hcall := hdc.2 (Γ'.withX x4) w₃ _ u hm5 (LRep.mono (Ctx.le.refl _) hk5 _ _ hdrep) hmode3
    rw [Array.toArray_toList] at hcall
    refine ⟨hu, .inr ⟨fun q => by simp [Fence.wide] at q, .func g, cs, g, fs ++ dargs.map a₂.eval ++ cs, by rw [hd], ?_, fun _ _ => trivial, ?_⟩⟩
    · rw [hd]; simp only [invoke]; exact run_callFunc hdc.1 _
    refine hcall.mono ?_
    rintro e u' w₄ ⟨v, m5, Γ₅, rfl, hset, ⟨p, m6, hp, hlv, hR⟩, hle5, hk6, hm6⟩
    simp only
    rw [hset, hd1]
    -- the marks of A
    have hkA : ∀ D, x4.mark D → Γ₅.x.mark D := fun D hD => hle5.x.mark D hD
    obtain ⟨G, hG⟩ : ∃ G : Ctx, G = Γ₅.withX Γ.x := ⟨_, rfl⟩
    have hsz4 : w.heap.size ≤ w₄.heap.size := by have := hk5.below.size; have := hk6.below.size; omega
    have hxs5 : XSim G w₄ := by
      subst hG
      refine ⟨fun D hD => hm6.xs.mark D (hkA D (by subst hx4; exact .inl hD)), fun l hl => hm6.xs.lps l (hle5.x.lps l (by subst hx4; exact hl)), fun l hl => hm.xs.rnd l hl, by have := hm.xs.dlo; show Γ.x.dlo ≤ _; omega⟩
    have hm7 : MemSim G m5 w₄ := by subst hG; exact hm6.withX Γ.x (by exact hxs5)
    have hbase5 : G.base = Γ.base := by subst hG; exact hle5.base.trans hbase'
    rw [← List.append_nil (ms.map _)]
    refine leavesM (Γ := G) (by simp) ms w₄ hd2 (fun D hD => ?_) hm7 fun w₅ hm8 hk8 => ?_
    · obtain ⟨a, b⟩ := hm6.xs.mark D (hkA D (by subst hx4; exact .inr hD))
      refine ⟨b, by rw [hbase5, ← hle5.base.trans hbase']; exact a, fun q => ?_⟩
      have q' : Γ.x.mark D := by subst hG; exact q
      have h6 := (Array.getElem?_eq_some_iff.1 (hm.xs.mark D q').2).1
      have := (hmarkA D hD).2.1
      omega
    · have l5 : (Γ.withX Γ.x).le G := by
        subst hG
        have l6 : (Γ'.withX Γ.x).le (Γ₅.withX Γ.x) := ⟨hle5.base, hle5.nloc, hle5.loc, hle5.imm, hle5.ntok, hle5.tok, hle5.wd, CtxX.le.refl _, hle5.immb⟩
        exact l04.trans l6
      have hx₃ : XSim (G.cut Γ.x m6.nloc m6.ntok) w₅ := by
        have := hm8.xs
        subst hG
        exact ⟨this.mark, this.lps, this.rnd, this.dlo⟩
      obtain ⟨q6, q7⟩ := hlv.sim hm l5 hx₃ hm8
      have hk45 : Keeps (Γ'.withX x4) w' w₄ := hk5.trans (Ctx.le.refl _) hk6
      have hkf : Keeps Γ w w₅ := by
        refine ⟨hkeep4.below.trans ?_, fun b o q => ?_⟩
        · have q1 := hk45.below
          rw [show (Γ'.withX x4).base = Γ.base from hbase'] at q1
          have q2 := hk8.below
          rw [hbase5] at q2
          exact q1.trans q2
        · have i1 : Γ'.imm b o := g4.imm b o (l02.imm b o q)
          have i2 : G.imm b o := by subst hG; exact hle5.imm b o i1
          exact ((hk8.imm b o i2).trans (hk45.imm b o i1)).trans (hkeep4.imm b o q)
      have hsl : ∀ t, VRep G w₅ (σ' t) (a'.tmps.getD t undef) := fun t => by
        have q1 := VRep.mono hle5 hk45 _ _ (hslots4 t)
        have q2 : VRep G w₄ (σ' t) (a'.tmps.getD t undef) := by subst hG; exact VRep.withX q1 Γ.x
        exact VRep.mono (Ctx.le.refl _) hk8 _ _ q2
      obtain ⟨rv, hrv, hrep⟩ := ResP_run (P := P) hsl hm8 hp
      refine ⟨rv, hrv, .ret p.strip, m6, _, hR, ?_, q7, hkf, q6⟩
      exact VRep.cut (Γ := G) _ _ (hlv.sc hm8 (VRep.strip _ _ hrep)) (VRep.strip _ _ hrep)
  cases x <;> cases e <;> simp only [XRep] at g2 <;> simp only [FinDf] at g1
  case normal.normal => exact out none .returning (by simp) rfl g1
  case ret.ret => exact out none .returning (by simp) rfl g1
  case pan.panic p ch =>
    obtain ⟨v, rfl, hv⟩ := g2
    exact out (some p) _ (by simp) ⟨v, rfl, VRep.withX hv x4⟩ g1
end
end Go.Ab
/- The abstract layer, 27: interface values compared with nil, asserted. Over any program. -/
namespace Go.Ab
open Go.RowKit
section
variable {P : Program} {m : St} {K Kp : PV → St → Prop}
theorem tifc_und {t : TypeId} (h : tifc P t = true) : ∃ ms, P.underlying t = some (.interface ms) := by
  unfold tifc at h
  split at h
  · rename_i ms hd; exact ⟨ms, hd⟩
  · cases h
theorem run_equalIn_ifaceNil {t u : TypeId} {ms : Array (String × TypeId)} {v : Value} (w : World) (d : Nat) (hd : P.underlying t = some (.interface ms)) : (Op.equalIn (d + 1) t (.iface u v) .nilIface).run P w = .ok false w := by
  simp [Op.equalIn, run_underlying hd]
theorem run_equalIn_nilNil {t : TypeId} {ms : Array (String × TypeId)} (w : World) (d : Nat) (hd : P.underlying t = some (.interface ms)) : (Op.equalIn (d + 1) t .nilIface .nilIface).run P w = .ok true w := by
  simp [Op.equalIn, run_underlying hd]
theorem op_ifaceNil {o : Oper} {x : Operand} {t yt u : TypeId} {y : PV} {ρ : Operand → PV} (ho : o.op = .binOp .eql t x (.const .nilIface) yt) (ht : tifc P t = true) (hx : ρ x = .iface u y) (hn : ρ (.const .nilIface) = .v .nilIface) (h : K (.v (.bool false)) m) : OpOK P o ρ m K Kp := by
  intro Γ ev w hm hv
  have h1 := hv x
  rw [hx] at h1
  obtain ⟨v, h1, _⟩ := h1
  have h2 := hv (.const .nilIface)
  rw [hn] at h2
  replace h2 : ev (.const .nilIface) = .nilIface := h2
  obtain ⟨ms, hd⟩ := tifc_und ht
  have hg := run_eqGuard_bool (P := P) (w := w) .eql t x (.const .nilIface) (.iface u v) .nilIface (by simp) (by simp)
  have hr : (binOp .eql t (.iface u v) .nilIface).run P w = .ok (.bool false) w := by
    simp only [binOp]
    simp [Op.equal, Op.maxDepth, run_equalIn_ifaceNil w 9999 hd]
  simp only [execOp, ho, h1, h2, Sem.run_bind, hg, Result.andThen_ok, hr, Sem.run_pure, Up]
  exact .same hm h rfl
theorem op_nilNil {o : Oper} {x : Operand} {t yt : TypeId} {ρ : Operand → PV} (ho : o.op = .binOp .eql t x (.const .nilIface) yt) (ht : tifc P t = true) (hx : ρ x = .v .nilIface) (hn : ρ (.const .nilIface) = .v .nilIface) (h : K (.v (.bool true)) m) : OpOK P o ρ m K Kp := by
  intro Γ ev w hm hv
  have h1 := hv x
  rw [hx] at h1
  replace h1 : ev x = .nilIface := h1
  have h2 := hv (.const .nilIface)
  rw [hn] at h2
  replace h2 : ev (.const .nilIface) = .nilIface := h2
  obtain ⟨ms, hd⟩ := tifc_und ht
  have hr : (binOp .eql t .nilIface .nilIface).run P w = .ok (.bool true) w := by
    simp only [binOp]
    simp [Op.equal, Op.maxDepth, run_equalIn_nilNil w 9999 hd]
  have hg : (eqGuard .eql t x (.const .nilIface) .nilIface .nilIface).run P w = .ok () w := by
    unfold eqGuard
    cases x <;> simp [Sem.run_bind, Sem.run_pure]
  simp only [execOp, ho, h1, h2, Sem.run_bind, hg, Result.andThen_ok, hr, Sem.run_pure, Up]
  exact .same hm h rfl
theorem op_assert {o : Oper} {x : Operand} {xt t : TypeId} {y : PV} {ρ : Operand → PV} (ho : o.op = .typeAssert x xt t true) (ht : tconc P t = true) (hx : ρ x = .iface t y) (h : K (.tup [y, .v (.bool true)]) m) : OpOK P o ρ m K Kp := by
  intro Γ ev w hm hv
  have h1 := hv x
  rw [hx] at h1
  obtain ⟨v, h1, hy⟩ := h1
  have hr : (Instr.typeAssert (.iface t v) xt t true).run P w = .ok (.tuple #[v, .bool true]) w := by
    unfold tconc at ht
    split at ht
    · cases ht
    · rename_i d hne hd
      simp only [Instr.typeAssert, Sem.run_bind, run_underlying hd, Result.andThen_ok]
      cases d <;> first | exact (hne _ rfl).elim | (simp; done)
    · cases ht
  simp only [execOp, ho, h1, Sem.run_bind, hr, Result.andThen_ok, Sem.run_pure, Up]
  exact .same hm h ⟨_, rfl, v, _, rfl, hy, _, _, rfl, rfl, rfl⟩
/-- One operation by its own rule, what follows behind a variable. -/
theorem AList.opK {N : Nat} {ops : Array Oper} {Q : APost} {σ : Nat → PV} {d : Tmp} {op : Op} {ty : TypeId} {pos : String} {after : Array Edge} {rest : List Oper} (hd : d < N)
    (h : ∀ K Kp : PV → St → Prop, (∀ p m', AList P N ops Q rest (upd σ d p) m' → K p m') → (∀ p m', Q (.pan p) σ m' → Kp p m') → OpOK P ⟨some d, op, ty, pos, after, none⟩ (Ab.opv σ) m K Kp) :
    AList P N ops Q (⟨some d, op, ty, pos, after, none⟩ :: rest) σ m :=
  AList.step rfl (by simpa [dstOK] using hd) (h _ _ (fun _ _ h => h) (fun _ _ h => h))
end
end Go.Ab
/- The abstract layer, 28: arrays of whoever, written and appended to. Over any program. -/
namespace Go.Ab
open Go.RowKit

def St.putA (m : St) (k t : Nat) (cs : List PV) : St := { m with top := upd m.top k t, arr := upd m.arr k (some cs) }
def St.noA (m : St) (k : Nat) : St := { m with arr := upd m.arr k none }
def Ctx.putA (Γ : Ctx) (k t b cp' : Nat) : Ctx := { Γ with tok := upd Γ.tok k b, top := upd Γ.top k t, cp := upd Γ.cp k cp' }

/-- Array number k is from here on what lies at b. -/
theorem MemSim.putA {Γ : Ctx} {m : St} {w : World} (h : MemSim Γ m w) {k t b cp' : Nat} {cs : List PV} {c c0 : List Value} (hk : k < m.ntok) (hb : Γ.base ≤ b) (hni : ∀ o, ¬ Γ.imm b o)
    (htk : ∀ k', k' < m.ntok → k' ≠ k → m.top k' < DEAD → Γ.tok k' ≠ b) (hlc : ∀ n cs, n < m.nloc → m.loc n = some cs → Γ.loc n ≠ b) (hblk : Blk w b c) (hcl : c.length = cp' * Γ.wd k)
    (hblk0 : Blk w b c0) (hr : LRep Γ w cs c0) (h1 : ∀ u ∈ c0, u.oneCell' = true) (hcs : cs.length = t * m.wd k) (hle : (t = Γ.top k ∧ b = Γ.tok k ∧ cp' = Γ.cp k) ∨ Γ.top k < t) :
    Γ.le (Γ.putA k t b cp') ∧ MemSim (Γ.putA k t b cp') (m.putA k t cs) w := by
  have l : Γ.le (Γ.putA k t b cp') := by
    refine ⟨rfl, Nat.le_refl _, fun _ _ => rfl, fun _ _ h => h, Nat.le_refl _, fun k' hk' => ?_, fun _ _ => rfl, CtxX.le.refl _, fun _ _ h => .inl h⟩
    by_cases e : k' = k
    · subst e
      rcases hle with ⟨rfl, rfl, rfl⟩ | hlt
      · left; exact ⟨upd_same _ _ _, upd_same _ _ _, upd_same _ _ _⟩
      · right; show Γ.top k' < upd Γ.top k' _ k'; rw [upd_same]; exact hlt
    · left; exact ⟨upd_ne _ _ _ _ e, upd_ne _ _ _ _ e, upd_ne _ _ _ _ e⟩
  have hdd : ∀ k', k' ≠ k → (m.putA k t cs).top k' < DEAD → m.top k' < DEAD := fun k' hk' hd => by
    have e : (m.putA k t cs).top k' = m.top k' := upd_ne _ _ _ _ hk'
    rwa [e] at hd
  refine ⟨l, ⟨h.nloc, h.ntok, ?_, ?_, h.apart, h.inj, h.immlt, h.base, ?_, ?_, ?_, ?_, ?_, h.lps.mono l (Keeps.refl _ _) h.nloc (fun n L a b => ⟨a, b⟩) (fun n' L a b => rfl), h.its.mono l h.nloc (fun n x a b => ⟨a, b⟩) (fun _ _ q _ => q), h.xs.mono rfl rfl (fun _ _ q _ => q)⟩⟩
  · intro k' hk'
    show upd Γ.top k t k' = upd m.top k t k' ∧ Γ.wd k' = m.wd k'
    have := h.top k' hk'
    by_cases e : k' = k
    · subst e; simp [upd_same, this]
    · simp [upd_ne _ _ _ _ e, this]
  · intro n cs' hn hc'
    obtain ⟨c', h1, h2, h3⟩ := h.locs n cs' hn hc'
    exact ⟨c', h1, LRep.mono l (Keeps.refl _ _) _ _ h2, h3⟩
  · intro k' hk' hd
    show ∃ c, Blk _ (upd Γ.tok k b k') c ∧ c.length = upd Γ.cp k cp' k' * Γ.wd k'
    by_cases e : k' = k
    · subst e; rw [upd_same, upd_same]; exact ⟨c, hblk, hcl⟩
    · rw [upd_ne _ _ _ _ e, upd_ne _ _ _ _ e]; exact h.toks k' hk' (hdd k' e hd)
  · intro k' hk' hd
    show Γ.base ≤ upd Γ.tok k b k' ∧ ∀ o, Γ.imm (upd Γ.tok k b k') o → o < upd Γ.top k t k' * Γ.wd k'
    by_cases e : k' = k
    · subst e; rw [upd_same]; exact ⟨hb, fun o ho => absurd ho (hni o)⟩
    · rw [upd_ne _ _ _ _ e, upd_ne _ _ _ _ e]; exact h.tapart k' hk' (hdd k' e hd)
  · intro k1 k2 a1 a2 d1 d2 hq
    replace hq : upd Γ.tok k b k1 = upd Γ.tok k b k2 := hq
    by_cases e1 : k1 = k <;> by_cases e2 : k2 = k
    · rw [e1, e2]
    · subst e1; rw [upd_same, upd_ne _ _ _ _ e2] at hq; exact absurd hq.symm (htk k2 a2 e2 (hdd k2 e2 d2))
    · subst e2; rw [upd_same, upd_ne _ _ _ _ e1] at hq; exact absurd hq (htk k1 a1 e1 (hdd k1 e1 d1))
    · rw [upd_ne _ _ _ _ e1, upd_ne _ _ _ _ e2] at hq; exact h.tinj k1 k2 a1 a2 (hdd k1 e1 d1) (hdd k2 e2 d2) hq
  · intro k' n cs' hk' hd hn hc'
    show upd Γ.tok k b k' ≠ Γ.loc n
    by_cases e : k' = k
    · subst e; rw [upd_same]; exact fun q => hlc n cs' hn hc' q.symm
    · rw [upd_ne _ _ _ _ e]; exact h.tloc k' n cs' hk' (hdd k' e hd) hn hc'
  · intro k' ds hk' hd hq
    replace hq : upd m.arr k (some cs) k' = some ds := hq
    show (∀ o, ¬ Γ.imm (upd Γ.tok k b k') o) ∧ ds.length = upd m.top k t k' * m.wd k' ∧ ∃ c, Blk w (upd Γ.tok k b k') c ∧ LRep _ w ds c ∧ _
    by_cases e : k' = k
    · subst e
      rw [upd_same] at hq ⊢
      rw [upd_same]
      cases hq
      exact ⟨hni, hcs, c0, hblk0, LRep.mono l (Keeps.refl _ _) _ _ hr, h1⟩
    · rw [upd_ne _ _ _ _ e] at hq ⊢
      rw [upd_ne _ _ _ _ e]
      obtain ⟨h0, hl, c, h1, h2, h3⟩ := h.arrs k' ds hk' (hdd k' e hd) hq
      exact ⟨h0, hl, c, h1, LRep.mono l (Keeps.refl _ _) _ _ h2, h3⟩

theorem setCell_blkL {w : World} {b : Nat} {c : List Value} (h : Blk w b c) (off : Nat) (u : Value) : ∃ c', c'.length = c.length ∧ Blk (w.setCell ⟨b, off, none⟩ u) b c' := by
  obtain ⟨e, a, h, d, hd⟩ := h
  refine ⟨((c ++ d).set off u).take c.length, by simp, e, a.setIfInBounds off u, by simp only [World.setCell, Array.getElem?_modify, if_true, h]; rfl, ((c ++ d).set off u).drop c.length, ?_⟩
  rw [Array.toList_setIfInBounds, hd, List.take_append_drop]
theorem setCells_blkL {b : Nat} : ∀ (us : List Value) (w : World) (off : Nat) (c : List Value), Blk w b c → ∃ c', c'.length = c.length ∧ Blk (setCells w b off us) b c'
  | [], w, off, c, h => ⟨c, rfl, h⟩
  | u :: us, w, off, c, h => by
    obtain ⟨c1, e1, h1⟩ := setCell_blkL h off u
    obtain ⟨c2, e2, h2⟩ := setCells_blkL us _ (off + 1) c1 h1
    exact ⟨c2, e2.trans e1, h2⟩
/-- An array's cells, written: what lies in it is not known for a moment. -/
theorem MemSim.tokWrite {Γ : Ctx} {m : St} {w : World} (h : MemSim Γ m w) {k off : Nat} {us : List Value} (hk : k < m.ntok) (hlv : m.top k < DEAD) (hni : ∀ o, ¬ Γ.imm (Γ.tok k) o) : MemSim Γ (m.noA k) (setCells w (Γ.tok k) off us) ∧ Keeps Γ w (setCells w (Γ.tok k) off us) := by
  obtain ⟨hb, _⟩ := h.tapart k hk hlv
  have hkp : Keeps Γ w (setCells w (Γ.tok k) off us) := ⟨setCells_below hb us w _, fun b o ho => by
    by_cases e : b = Γ.tok k
    · subst e; exact absurd ho (hni o)
    · exact cellAt_of_heap (setCells_heap us w _ b e) o⟩
  have l := Ctx.le.refl Γ
  obtain ⟨c, hblk, hcl⟩ := h.toks k hk hlv
  refine ⟨⟨h.nloc, h.ntok, h.top, ?_, h.apart, h.inj, ?_, ?_, ?_, h.tapart, h.tinj, h.tloc, ?_, h.lps.mono l hkp h.nloc (fun n L a b => ⟨a, b⟩) (fun n' L a b => setCells_heap us w _ _ fun e => h.lps.not_blk a b (e ▸ hblk)), h.its.mono l h.nloc (fun n x a b => ⟨a, b⟩) (heap_keep_cells hblk us _), h.xs.mono rfl rfl (heap_keep_cells hblk us _)⟩, hkp⟩
  · intro n cs' hn hc'
    obtain ⟨c', h1, h2, h3⟩ := h.locs n cs' hn hc'
    exact ⟨c', h1.of_heap (setCells_heap us w _ _ (fun e => h.tloc k n cs' hk hlv hn hc' e.symm)), LRep.mono l hkp _ _ h2, h3⟩
  · intro b o ho; rw [setCells_size]; exact h.immlt b o ho
  · rw [setCells_size]; exact h.base
  · intro k' hk' hd
    by_cases e : k' = k
    · subst e
      obtain ⟨c', e1, h1⟩ := setCells_blkL us w off c hblk
      exact ⟨c', h1, e1.trans hcl⟩
    · obtain ⟨c', h1, h2⟩ := h.toks k' hk' hd
      exact ⟨c', h1.of_heap (setCells_heap us w _ _ (fun q => e (h.tinj k' k hk' hk hd hlv q))), h2⟩
  · intro k' ds hk' hd hq
    replace hq : upd m.arr k none k' = some ds := hq
    by_cases e : k' = k
    · subst e; rw [upd_same] at hq; cases hq
    rw [upd_ne _ _ _ _ e] at hq
    obtain ⟨h0, hl, c, h1, h2, h3⟩ := h.arrs k' ds hk' hd hq
    exact ⟨h0, hl, c, h1.of_heap (setCells_heap us w _ _ (fun q => e (h.tinj k' k hk' hk hd hlv q))), LRep.mono l hkp _ _ h2, h3⟩

theorem St.putA_noA (m : St) (k t : Nat) (cs : List PV) : (m.noA k).putA k t cs = m.putA k t cs := by
  have : upd (upd m.arr k none) k (some cs) = upd m.arr k (some cs) := by funext i; simp only [upd]; split <;> rfl
  simp [St.putA, St.noA, this]

section
variable {P : Program} {m : St} {K Kp : PV → St → Prop} {Γ : Ctx} {w : World}

/-- Cells of an array written, what lies in it then being known. -/
theorem MemSim.writeA (hm : MemSim Γ m w) {k off t : Nat} {cs : List PV} {us c0 : List Value} (hk : k < m.ntok) (hlv : m.top k < DEAD) (hni : ∀ o, ¬ Γ.imm (Γ.tok k) o)
    (hblk : Blk (setCells w (Γ.tok k) off us) (Γ.tok k) c0) (hr : LRep Γ w cs c0) (h1 : ∀ u ∈ c0, u.oneCell' = true) (hcs : cs.length = t * m.wd k) (hle : t = m.top k ∨ m.top k < t) :
    Γ.le (Γ.putA k t (Γ.tok k) (Γ.cp k)) ∧ Keeps Γ w (setCells w (Γ.tok k) off us) ∧ MemSim (Γ.putA k t (Γ.tok k) (Γ.cp k)) (m.putA k t cs) (setCells w (Γ.tok k) off us) := by
  obtain ⟨m1, kp⟩ := hm.tokWrite (us := us) (off := off) hk hlv hni
  obtain ⟨ht1, ht2⟩ := hm.top k hk
  obtain ⟨c, b1, b2⟩ := m1.toks k hk hlv
  obtain ⟨l, m2⟩ := m1.putA (k := k) (t := t) (b := Γ.tok k) (cp' := Γ.cp k) (cs := cs) hk (hm.tapart k hk hlv).1 hni (fun k' a e d q => e (hm.tinj k' k a hk d hlv q))
    (fun n cs a b q => hm.tloc k n cs hk hlv a b q.symm) b1 b2 hblk (LRep.mono (Ctx.le.refl Γ) kp _ _ hr) h1 hcs (hle.imp (fun q => ⟨by rw [q, ht1], rfl, rfl⟩) (fun q => by rw [ht1]; exact q))
  rw [St.putA_noA] at m2
  exact ⟨l, kp, m2⟩

/-- An array is made anew: number k stands for the new one from here on. -/
theorem MemSim.moveA (hm : MemSim Γ m w) {k t cp' : Nat} {cs : List PV} {us : Array Value} {c0 d0 : List Value} (e : TypeId) (hk : k < m.ntok) (hu : us.toList = c0 ++ d0) (hr : LRep Γ w cs c0) (h1 : ∀ u ∈ c0, u.oneCell' = true)
    (hcp : cp' * m.wd k ≤ us.size) (hcs : cs.length = t * m.wd k) (hle : m.top k < t) :
    Γ.le (Γ.putA k t w.heap.size cp') ∧ Keeps Γ w (w.alloc (.cells us e)) ∧ MemSim (Γ.putA k t w.heap.size cp') (m.putA k t cs) (w.alloc (.cells us e)) := by
  obtain ⟨m1, kp⟩ := hm.alloc_any (.cells us e)
  obtain ⟨ht1, ht2⟩ := hm.top k hk
  have hb : Blk (w.alloc (.cells us e)) w.heap.size us.toList := Blk.new w us e
  obtain ⟨l, m2⟩ := m1.putA (k := k) (t := t) (b := w.heap.size) (cp' := cp') (cs := cs) (c := us.toList.take (cp' * m.wd k)) (c0 := c0) hk hm.base (fun o q => Nat.lt_irrefl _ (hm.immlt _ _ q))
    (fun k' a e' d q => by obtain ⟨c, h3, _⟩ := hm.toks k' a d; have := h3.lt; omega) (fun n cs' a b q => by obtain ⟨c, h3, _⟩ := hm.locs n cs' a b; have := h3.lt; omega)
    (Blk.take (d := us.toList.drop (cp' * m.wd k)) (by rw [List.take_append_drop]; exact hb)) (by rw [ht2]; simp; omega) (Blk.take (d := d0) (hu ▸ hb)) (LRep.mono (Ctx.le.refl Γ) kp _ _ hr) h1 hcs (.inr (by rw [ht1]; exact hle))
  exact ⟨l, kp, m2⟩

/-- A store into an array. -/
theorem op_storeA {o : Oper} {t : TypeId} {x y : Operand} {k off : Nat} {cs xs : List PV} {ρ : Operand → PV} (ho : o.op = .store t x y) (ht : tinfo P t = true) (hx : ρ x = .mptr k off (m.top k)) (hy : cells1 (ρ y) = some xs)
    (hk : k < m.ntok) (hlv : m.top k < DEAD) (ha : m.arr k = some cs) (hxl : xs.length = tsize P t) (hf : off + xs.length ≤ cs.length) (h : K .any (m.putA k (m.top k) (Ab.setL cs off xs))) : OpOK P o ρ m K Kp := by
  intro Γ ev w hm hv
  obtain ⟨h0, hl, c0, g1, g2, g3⟩ := hm.arrs k cs hk hlv ha
  obtain ⟨ht1, ht2⟩ := hm.top k hk
  have h1 := hv x
  rw [hx] at h1
  obtain ⟨_, _, a, h1, h2⟩ := h1
  have h2 := h2 ht1.symm
  subst h2
  obtain ⟨h3, h4⟩ := cells1_rep hy (hv y)
  have e1 := LRep.len _ _ g2
  have e2 := LRep.len _ _ h3
  obtain ⟨l, kp, m2⟩ := hm.writeA (k := k) (off := off) (t := m.top k) (cs := Ab.setL cs off xs) (us := (ev y).cells.toList) (c0 := Ab.setL c0 off (ev y).cells.toList) hk hlv h0 (setCells_blk _ w off c0 (by omega) g1) (LRep.setL g2 h3)
    (setL_all _ _ _ h4 g3) (by rw [setL_length]; exact hl) (.inl rfl)
  have hst := run_storeCells_cells (P := P) (Γ.tok k) off (ev y).cells.toList 0 w (fun j hj => by
    show (cellAt w (Γ.tok k) (off + 0 + j)).isSome = true
    rw [cellAt_blk g1 (by omega), List.getElem?_eq_getElem (by omega)]; rfl) (fun j hj => g1.frozen _) h4
  have hvs : (ev y).cells.size = tsize P t := by rw [← hxl, ← e2]; simp
  have hrun : (Instr.storeAt t (ev x) (ev y)).run P w = .ok () (setCells w (Γ.tok k) off (ev y).cells.toList) := by
    rw [h1]
    simp only [Instr.storeAt, Sem.run_bind, sureAddr_run, Result.andThen_ok, storeVar, run_size ht]
    simp only [hvs, ne_eq, not_true_eq_false, if_false]
    simpa using hst
  simp only [execOp, ho, Sem.run_bind, hrun, Result.andThen_ok, Sem.run_pure, Up]
  exact ⟨.any, _, _, h, trivial, l, kp, m2⟩

/-- The address of an element of an array. -/
theorem op_indexAddrA {o : Oper} {t e : TypeId} {x y : Operand} {k len : Nat} {j : IntKind} {n : Int} {ρ : Operand → PV} (ho : o.op = .indexAddr t x y) (he : telem P t = some e) (ht : tinfo P e = true) (hx : ρ x = .mtok k len)
    (hy : ρ y = .v (.int j n)) (h0 : 0 ≤ n) (hlt : n < len) (h : K (.mptr k (n.toNat * tsize P e) len) m) : OpOK P o ρ m K Kp := by
  intro Γ ev w hm hv
  have h1 := hv x
  rw [hx] at h1
  obtain ⟨q1, q2, a, cap, h1, h2⟩ := h1
  have h4 := hv y
  rw [hy] at h4
  replace h4 : ev y = .int j n := h4
  have hrun : (Instr.indexAt t (ev x) (ev y)).run P w = .ok (.pointer (some (a.add (n.toNat * tsize P e)))) w := by
    rw [h1, h4]
    simp [Instr.indexAt, asIntOf, run_underlying (telem_und he), h0, hlt, run_size ht]
  simp only [execOp, ho, Sem.run_bind, hrun, Result.andThen_ok, Sem.run_pure, Up]
  exact .same hm h ⟨q1, q2, _, rfl, fun q => by rw [(h2 q).1, add_addr, Nat.zero_add]⟩

/-- An append to an array, in place or made anew. -/
theorem op_appendA {o : Oper} {c : Call} {x y : Operand} {t e : TypeId} {o2 : Own} {k len : Nat} {cs : List PV} {news : List (List PV)} {ρ : Operand → PV} (ho : o.op = .call c) (hc : c.callee = .builtin .append) (ha : c.args.toList = [x, y]) (hts : c.argTypes.toList = [t, t])
    (he : telem P t = some e) (ht : tinfo P e = true) (hz : (tzero P e).map (fun z => z.cells.size) = some (tsize P e))
    (hx : ρ x = .mtok k len) (hy : ρ y = .list o2 news) (hk : k < m.ntok) (hlv : m.top k < DEAD) (harr : m.arr k = some cs) (hlen : len = m.top k) (hwd : m.wd k = tsize P e)
    (hw2 : RowsW (tsize P e) news) (hby : (len + news.length) * tbytes P e ≤ 140737488355328) (h62 : len + news.length ≤ 4611686018427387904) (hpos : 0 < news.length)
    (h : K (.mtok k (len + news.length)) (m.putA k (len + news.length) (cs ++ PV.stripL news.flatten))) : OpOK P o ρ m K Kp := by
  intro Γ ev w hm hv
  obtain ⟨h0, hl, c0, g1, g2, g3⟩ := hm.arrs k cs hk hlv harr
  obtain ⟨ht1, ht2⟩ := hm.top k hk
  have h1 := hv x
  rw [hx] at h1
  obtain ⟨_, _, a, cap, h1, h2⟩ := h1
  obtain ⟨rfl, h2, h3⟩ := h2 (by rw [hlen, ht1])
  have h4 := hv y
  rw [hy] at h4
  obtain ⟨callee, args, argTypes⟩ := c
  simp only at hc ha hts
  subst hc
  have hargs : args.map ev = #[ev x, ev y] := by rw [← Array.toArray_toList (xs := args), ha]; simp
  have htys : argTypes = #[t, t] := by rw [← Array.toArray_toList (xs := argTypes), hts]
  suffices hs : ∃ r w', (Builtin.append_ #[t, t] o.type #[ev x, ev y]).run P w = .ok r w' ∧ Then Γ w K r w' by
    obtain ⟨r, w', h3, h4⟩ := hs
    simp only [execOp, ho, resolve, Sem.run_bind, Sem.run_pure, Result.andThen_ok, invoke, builtin, hargs, htys, h3, Up]
    exact h4
  have hd := telem_und he
  obtain ⟨i, hi⟩ := tinfo_info ht
  have hsz : i.size = tsize P e := by simp [tsize, Program.cellsOf, hi]
  have hbt : i.bytes = tbytes P e := by simp [tbytes, Program.bytesOf, hi]
  obtain ⟨z, hz1, hz2⟩ : ∃ z, tzero P e = some z ∧ z.cells.size = tsize P e := by
    cases hq : tzero P e with
    | none => simp [hq] at hz
    | some z => simp [hq] at hz; exact ⟨z, rfl, hz⟩
  have hiz : i.zero = some z := by simpa [tzero, hi] using hz1
  obtain ⟨b, cap2, e4, b1, b2, b3, b4⟩ := h4
  cases b with
  | none => have := b2 rfl; omega
  | some bd =>
    obtain ⟨hsb, hsr⟩ := b3 bd rfl
    replace hsb := hsb.resolve_left (by omega)
    obtain ⟨bb, boff, bs⟩ := bd
    simp only at hsb hsr
    subst hsb
    obtain ⟨nws, n1, n2, n3, n4⟩ := rows_read hw2 hsr
    have n2' := LRep.strip _ _ n2
    have e1 := LRep.len _ _ g2
    have hfl := hw2.flat
    have hsl : (PV.stripL news.flatten).length = news.length * tsize P e := by rw [PV.stripL_length, hfl]
    rw [h1, e4]
    rw [hwd, ← hlen] at hl
    have hcs : (cs ++ PV.stripL news.flatten).length = (len + news.length) * m.wd k := by rw [List.length_append, hl, hsl, hwd, Nat.add_mul]
    have hmem : ∀ u ∈ c0 ++ nws, u.oneCell' = true := fun u hu => (List.mem_append.1 hu).elim (g3 u) (n3 u)
    by_cases hroom : len + news.length ≤ cap
    · obtain ⟨cb, hblk, hcl⟩ := hm.toks k hk hlv
      have hfit : len * tsize P e + nws.length ≤ cb.length := by
        rw [n1, hcl, ht2, hwd, ← h2, ← Nat.add_mul]; exact Nat.mul_le_mul_right _ hroom
      have hrun := run_append_room_cells (P := P) (w := w) t o.type e i hd hi (Γ.tok k) 0 len cap ⟨bb, boff, none⟩ news.length cap2 nws (by rw [n1, hsz]) n4 n3 hroom
        (fun j hj => by
          show (cellAt w (Γ.tok k) (0 + len * i.size + j)).isSome = true
          rw [hsz]
          have hlt : 0 + len * tsize P e + j < cb.length := by omega
          rw [cellAt_blk hblk hlt, List.getElem?_eq_getElem hlt]; rfl)
        (fun j hj => hblk.frozen _)
      have hbk : Blk (setCells w (Γ.tok k) (len * tsize P e) nws) (Γ.tok k) (c0 ++ nws) := by
        have q1 := setCells_blk nws w (len * tsize P e) cb hfit hblk
        rw [setL_eq nws cb _ hfit] at q1
        have q2 : cb.take (len * tsize P e) = c0 := by
          obtain ⟨ea, ar, r1, d1, r2⟩ := hblk
          obtain ⟨ea', ar', r1', d1', r2'⟩ := g1
          rw [r1] at r1'
          cases r1'
          rw [r2] at r2'
          have : c0.length = len * tsize P e := by omega
          have q3 := congrArg (List.take (len * tsize P e)) r2'
          rw [List.take_append_of_le_length (by omega), ← this, List.take_left] at q3
          rw [← this]; exact q3
        rw [q2] at q1
        exact Blk.take q1
      obtain ⟨l, kp, m2⟩ := hm.writeA (k := k) (off := len * tsize P e) (t := len + news.length) (us := nws) (c0 := c0 ++ nws) (cs := cs ++ PV.stripL news.flatten) hk hlv h0 hbk (LRep.append _ _ _ _ g2 n2') hmem hcs (.inr (by omega))
      refine ⟨_, _, hrun, ?_⟩
      rw [hsz, Nat.zero_add]
      refine ⟨_, _, _, h, ⟨by show k < Γ.ntok; rw [hm.ntok]; exact hk, ?_, _, _, rfl, fun _ => ⟨?_, ?_, hroom⟩⟩, l, kp, m2⟩
      · show _ ≤ upd Γ.top k _ k; rw [upd_same]; exact Nat.le_refl _
      · show _ = (⟨upd Γ.tok k _ k, 0, none⟩ : Addr); rw [upd_same]
      · show _ = upd Γ.cp k _ k; rw [upd_same]; exact h2
    · have hfit : Builtin.nextslicecap (len + news.length) cap * i.bytes ≤ 281474976710656 := by
        have h1 := nextslicecap_le (need := len + news.length) (old := cap) (by omega)
        have h2 : Builtin.nextslicecap (len + news.length) cap * i.bytes ≤ 2 * (len + news.length) * i.bytes := Nat.mul_le_mul_right _ h1
        rw [hbt] at h2 ⊢
        rw [Nat.mul_assoc] at h2
        omega
      have hrun := run_append_grow w t o.type e i z hd hi hiz ⟨Γ.tok k, 0, none⟩ len cap c0 (by rw [e1, hl, hsz]) (fun j v hj => by
        rw [add_addr]
        exact cellAt_blk' g1 (by simpa using hj)) ⟨bb, boff, none⟩ news.length cap2 nws (by rw [n1, hsz]) n4 (by omega) (by omega) hfit
      obtain ⟨hmd, hkd⟩ := hm.drew
      have hge := grownCap_ge w (len + news.length) cap e
      obtain ⟨l, kp, m2⟩ := hmd.moveA (k := k) (t := len + news.length) (cp' := grownCap w (len + news.length) cap e) (us := c0.toArray ++ nws.toArray ++ Builtin.zeroCells z.cells (grownCap w (len + news.length) cap e - (len + news.length))) (c0 := c0 ++ nws)
        (d0 := (Builtin.zeroCells z.cells (grownCap w (len + news.length) cap e - (len + news.length))).toList) (cs := cs ++ PV.stripL news.flatten) e hk (by simp) (LRep.mono (Ctx.le.refl Γ) hkd _ _ (LRep.append _ _ _ _ g2 n2')) hmem (by
          rw [hwd]
          simp only [Array.size_append, List.size_toArray, e1, hl, n1, zeroCells_size, hz2]
          rw [← Nat.add_mul, ← Nat.add_mul]
          exact Nat.mul_le_mul_right _ (by omega)) hcs (by omega)
      refine ⟨_, _, hrun, ?_⟩
      refine ⟨_, _, _, h, ⟨by show k < Γ.ntok; rw [hm.ntok]; exact hk, ?_, _, _, rfl, fun _ => ⟨?_, ?_, hge⟩⟩, l, hkd.trans (Ctx.le.refl _) kp, m2⟩
      · show _ ≤ upd Γ.top k _ k; rw [upd_same]; exact Nat.le_refl _
      · show _ = (⟨upd Γ.tok k _ k, 0, none⟩ : Addr); rw [upd_same]; rfl
      · show _ = upd Γ.cp k _ k; rw [upd_same]

/-- The first append, to no elements. -/
theorem op_append0 {o : Oper} {c : Call} {x y : Operand} {t e : TypeId} {o2 : Own} {news : List (List PV)} {ρ : Operand → PV} (ho : o.op = .call c) (hc : c.callee = .builtin .append) (ha : c.args.toList = [x, y]) (hts : c.argTypes.toList = [t, t])
    (he : telem P t = some e) (ht : tinfo P e = true) (hz : (tzero P e).map (fun z => z.cells.size) = some (tsize P e)) (hx : ρ x = .list .full []) (hy : ρ y = .list o2 news)
    (hw2 : RowsW (tsize P e) news) (hby : news.length * tbytes P e ≤ 140737488355328) (h62 : news.length ≤ 4611686018427387904) (hpos : 0 < news.length)
    (h : K (.mtok m.ntok news.length) ((m.newTok 0 (tsize P e)).putA m.ntok news.length (PV.stripL news.flatten))) : OpOK P o ρ m K Kp := by
  intro Γ ev w hm hv
  have h1 := hv x
  rw [hx] at h1
  obtain ⟨a, cap, h1, _, a2, a3, a4⟩ := h1
  replace a4 : cap = 0 := a4
  subst a4
  have h4 := hv y
  rw [hy] at h4
  obtain ⟨callee, args, argTypes⟩ := c
  simp only at hc ha hts
  subst hc
  have hargs : args.map ev = #[ev x, ev y] := by rw [← Array.toArray_toList (xs := args), ha]; simp
  have htys : argTypes = #[t, t] := by rw [← Array.toArray_toList (xs := argTypes), hts]
  suffices hs : ∃ r w', (Builtin.append_ #[t, t] o.type #[ev x, ev y]).run P w = .ok r w' ∧ Then Γ w K r w' by
    obtain ⟨r, w', h3, h4⟩ := hs
    simp only [execOp, ho, resolve, Sem.run_bind, Sem.run_pure, Result.andThen_ok, invoke, builtin, hargs, htys, h3, Up]
    exact h4
  have hd := telem_und he
  obtain ⟨i, hi⟩ := tinfo_info ht
  have hsz : i.size = tsize P e := by simp [tsize, Program.cellsOf, hi]
  have hbt : i.bytes = tbytes P e := by simp [tbytes, Program.bytesOf, hi]
  obtain ⟨z, hz1, hz2⟩ : ∃ z, tzero P e = some z ∧ z.cells.size = tsize P e := by
    cases hq : tzero P e with
    | none => simp [hq] at hz
    | some z => simp [hq] at hz; exact ⟨z, rfl, hz⟩
  have hiz : i.zero = some z := by simpa [tzero, hi] using hz1
  obtain ⟨b, cap2, e4, b1, b2, b3, b4⟩ := h4
  cases b with
  | none => have := b2 rfl; omega
  | some bd =>
    obtain ⟨hsb, hsr⟩ := b3 bd rfl
    replace hsb := hsb.resolve_left (by omega)
    obtain ⟨bb, boff, bs⟩ := bd
    simp only at hsb hsr
    subst hsb
    obtain ⟨nws, n1, n2, n3, n4⟩ := rows_read hw2 hsr
    have n2' := LRep.strip _ _ n2
    have hsl : (PV.stripL news.flatten).length = news.length * tsize P e := by rw [PV.stripL_length, hw2.flat]
    rw [h1, e4]
    have fin : ∀ {cap' : Nat} {us : Array Value}, news.length ≤ cap' → us = nws.toArray ++ Builtin.zeroCells z.cells (cap' - news.length) →
        Then Γ w K (.slice (some ⟨w.heap.size, 0, none⟩) news.length cap') (w.drew.alloc (.cells us e)) := by
      intro cap' us hge hus
      subst hus
      obtain ⟨hmd, hkd⟩ := hm.drew
      have husz : (nws.toArray ++ Builtin.zeroCells z.cells (cap' - news.length)).size = cap' * tsize P e := by
        simp only [Array.size_append, List.size_toArray, n1, zeroCells_size, hz2]
        rw [← Nat.add_mul]; congr 1; omega
      obtain ⟨g1, g2, _⟩ := hmd.newTok (us := nws.toArray ++ Builtin.zeroCells z.cells (cap' - news.length)) (n := 0) (cap := cap') (width := tsize P e) (cs := []) (by rw [Nat.zero_mul]; rfl) (by simp) husz (Nat.zero_le _) e
      have hnt : Γ.ntok = m.ntok := hm.ntok
      have hk : m.ntok < (m.newTok 0 (tsize P e)).ntok := Nat.lt_succ_self _
      have htop : (m.newTok 0 (tsize P e)).top m.ntok = 0 := upd_same _ _ _
      have htok : (Γ.newTok w.drew.heap.size 0 cap' (tsize P e)).tok m.ntok = w.heap.size := by show upd Γ.tok Γ.ntok _ _ = _; rw [hnt, upd_same]; rfl
      have hlv : (m.newTok 0 (tsize P e)).top m.ntok < DEAD := by rw [htop]; decide
      have hb : Blk (w.drew.alloc (.cells (nws.toArray ++ Builtin.zeroCells z.cells (cap' - news.length)) e)) w.heap.size (nws.toArray ++ Builtin.zeroCells z.cells (cap' - news.length)).toList := Blk.new w.drew _ e
      obtain ⟨l, m2⟩ := g1.putA (k := m.ntok) (t := news.length) (b := w.heap.size) (cp' := cap') (cs := PV.stripL news.flatten) (c0 := nws) hk (by rw [← htok]; exact (g1.tapart _ hk hlv).1)
        (fun o ho => ho.elim (fun q => Nat.lt_irrefl _ (hm.immlt _ _ q)) (fun q => by omega)) (fun k' a e' d q => e' (g1.tinj k' m.ntok a hk d hlv (by rw [htok]; exact q)))
        (fun n cs' a b q => g1.tloc m.ntok n cs' hk hlv a b (by rw [htok]; exact q.symm)) hb
        (by show _ = cap' * upd Γ.wd Γ.ntok (tsize P e) m.ntok; rw [hnt, upd_same, ← husz]; simp) (Blk.take (d := (Builtin.zeroCells z.cells (cap' - news.length)).toList) (by simpa using hb))
        (LRep.mono (hkd.trans (Ctx.le.refl _) g2 |> fun _ => Ctx.le_newTok Γ w.drew.heap.size 0 cap' (tsize P e) hmd.base) (hkd.trans (Ctx.le.refl _) g2) _ _ n2') n3 (by rw [hsl]; show _ = _ * upd m.wd m.ntok _ m.ntok; rw [upd_same])
        (.inr (by show upd Γ.top Γ.ntok 0 m.ntok < _; rw [hnt, upd_same]; exact hpos))
      refine ⟨_, _, _, h, ⟨by show m.ntok < Γ.ntok + 1; omega, ?_, _, _, rfl, fun _ => ⟨?_, ?_, hge⟩⟩, (Ctx.le_newTok Γ w.drew.heap.size 0 cap' (tsize P e) hmd.base).trans l, hkd.trans (Ctx.le.refl _) g2, m2⟩
      · show _ ≤ upd _ m.ntok _ m.ntok; rw [upd_same]; exact Nat.le_refl _
      · show _ = (⟨upd _ m.ntok _ m.ntok, 0, none⟩ : Addr); rw [upd_same]
      · show _ = upd _ m.ntok _ m.ntok; rw [upd_same]
    cases a with
    | none =>
      have hrun := run_append_nil w t o.type e i z hd hi hiz ⟨bb, boff, none⟩ news.length cap2 nws (by rw [n1, hsz]) n4 hpos (by omega) (by rw [hbt]; omega)
      exact ⟨_, _, hrun, fin (grownCap_ge w _ 0 e) rfl⟩
    | some ad =>
      have hfit : Builtin.nextslicecap (0 + news.length) 0 * i.bytes ≤ 281474976710656 := by
        have h1 := nextslicecap_le (need := 0 + news.length) (old := 0) (by omega)
        have h2 : Builtin.nextslicecap (0 + news.length) 0 * i.bytes ≤ 2 * (0 + news.length) * i.bytes := Nat.mul_le_mul_right _ h1
        rw [hbt] at h2 ⊢
        rw [Nat.mul_assoc, Nat.zero_add] at h2
        rw [Nat.zero_add]
        omega
      have hrun := run_append_grow w t o.type e i z hd hi hiz ad 0 0 [] (by simp) (by simp) ⟨bb, boff, none⟩ news.length cap2 nws (by rw [n1, hsz]) n4 (by omega) (by omega) hfit
      refine ⟨_, _, hrun, ?_⟩
      simp only [Nat.zero_add]
      exact fin (grownCap_ge w _ 0 e) (by simp)

/-- The length of an array. -/
theorem op_lenA {o : Oper} {c : Call} {x : Operand} {t : TypeId} {k len : Nat} {ρ : Operand → PV} (ho : o.op = .call c) (hc : c.callee = .builtin .len) (ha : c.args.toList = [x]) (hts : c.argTypes.toList = [t])
    (he : (telem P t).isSome = true) (hx : ρ x = .mtok k len) (h : K (.v (.int .i64 len)) m) : OpOK P o ρ m K Kp := by
  intro Γ ev w hm hv
  have h1 := hv x
  rw [hx] at h1
  obtain ⟨_, _, a, cap, h1, _⟩ := h1
  obtain ⟨callee, args, argTypes⟩ := c
  simp only at hc ha hts
  subst hc
  have hargs : args.map ev = #[ev x] := by rw [← Array.toArray_toList (xs := args), ha]; simp
  have htys : argTypes = #[t] := by rw [← Array.toArray_toList (xs := argTypes), hts]
  obtain ⟨e, he⟩ := Option.isSome_iff_exists.1 he
  have hd := telem_und he
  simp only [execOp, ho, resolve, Sem.run_bind, Sem.run_pure, Result.andThen_ok, invoke, builtin, hargs, htys, h1]
  have hrun : (Builtin.len_ #[t] o.type #[.slice (some a) len cap]).run P w = .ok (.int .i64 len) w := by simp [Builtin.len_, run_underlying hd, Builtin.lenOf]; rfl
  rw [hrun]
  exact .same hm h rfl

/-! an array seen as a list -/
theorem MemSim.freezeA (h : MemSim Γ m w) {k : Nat} {cs : List PV} (hk : k < m.ntok) (hlv : m.top k < DEAD) (ha : m.arr k = some cs) :
    MemSim (Γ.newImm (Γ.tok k) cs.length) (m.noA k) w ∧ CRep (Γ.newImm (Γ.tok k) cs.length) w cs (Γ.tok k) 0 ∧ Γ.le (Γ.newImm (Γ.tok k) cs.length) := by
  obtain ⟨h0, hl, c, h1, h2, h7⟩ := h.arrs k cs hk hlv ha
  obtain ⟨hb, _⟩ := h.tapart k hk hlv
  have l := Ctx.le_newImm Γ (Γ.tok k) cs.length hb
  obtain ⟨ht1, ht2⟩ := h.top k hk
  refine ⟨⟨h.nloc, h.ntok, h.top, ?_, ?_, h.inj, ?_, h.base, h.toks, ?_, h.tinj, h.tloc, ?_, h.lps.mono l (Keeps.refl _ _) h.nloc (fun n L a b => ⟨a, b⟩) (fun n L a b => rfl), h.its.mono l h.nloc (fun n x a b => ⟨a, b⟩) (fun _ _ q _ => q), h.xs.mono rfl rfl (fun _ _ q _ => q)⟩, ?_, l⟩
  · intro n' cs' hn' hc'
    obtain ⟨c, h1, h2, h3⟩ := h.locs n' cs' hn' hc'
    exact ⟨c, h1, LRep.mono l (Keeps.refl _ _) _ _ h2, h3⟩
  · intro n' cs' hn' hc'
    obtain ⟨h3, h4⟩ := h.apart n' cs' hn' hc'
    refine ⟨h3, fun o ho => ?_⟩
    rcases ho with ho | ⟨ho, _⟩
    · exact h4 o ho
    · exact h.tloc k n' cs' hk hlv hn' hc' ho.symm
  · intro b o ho
    rcases ho with ho | ⟨ho, _⟩
    · exact h.immlt b o ho
    · subst ho; exact h1.lt
  · intro k' hk' hd
    obtain ⟨h3, h4⟩ := h.tapart k' hk' hd
    refine ⟨h3, fun o ho => ?_⟩
    rcases ho with ho | ⟨ho, ho2⟩
    · exact h4 o ho
    · have := h.tinj k' k hk' hk hd hlv ho
      subst this
      show o < Γ.top k' * Γ.wd k'
      rw [ht1, ht2, ← hl]; exact ho2
  · intro k' ds hk' hd hq
    replace hq : upd m.arr k none k' = some ds := hq
    by_cases e : k' = k
    · subst e; rw [upd_same] at hq; cases hq
    rw [upd_ne _ _ _ _ e] at hq
    obtain ⟨h0', hl', c', h1', h2', h3'⟩ := h.arrs k' ds hk' hd hq
    refine ⟨fun o ho => ?_, hl', c', h1', LRep.mono l (Keeps.refl _ _) _ _ h2', h3'⟩
    rcases ho with ho | ⟨ho, _⟩
    · exact h0' o ho
    · exact e (h.tinj k' k hk' hk hd hlv ho)
  · refine CRep.mk cs c _ 0 (LRep.mono l (Keeps.refl _ _) _ _ h2) fun i u hi' => ⟨?_, h7 u (List.mem_of_getElem? hi'), .inr ⟨rfl, ?_⟩⟩
    · exact cellAt_blk' h1 (by simpa using hi')
    · have := (List.getElem?_eq_some_iff.1 hi').1; rw [LRep.len _ _ h2] at this; simpa using this
theorem Sees.fzA {k len : Nat} {cs : List PV} {rows : List (List PV)} (hk : k < m.ntok) (hlv : m.top k < DEAD) (ha : m.arr k = some cs) (hlen : len = m.top k) (hr : rows.flatten = cs) (hrl : rows.length = len) :
    Sees (.mtok k len) m (.list .no rows) (m.noA k) := by
  intro Γ w v hm hv
  obtain ⟨h1, h2, l⟩ := hm.freezeA hk hlv ha
  refine ⟨_, h1, l, ?_⟩
  obtain ⟨_, _, a, cap, rfl, h3⟩ := hv
  obtain ⟨rfl, h4, h5⟩ := h3 (by rw [hlen, (hm.top k hk).1])
  refine ⟨_, cap, by rw [hrl], by rw [hrl]; exact h5, (fun q => by cases q), (fun ad hd => ?_), trivial⟩
  cases hd
  exact ⟨.inr rfl, (SRep.flat _ _ _).2 (hr ▸ h2)⟩

variable {N : Nat} {Q : APost} {σ : Nat → PV} {ops : Array Oper} {l : List Oper}
/-- A slot's value seen as another one. -/
theorem AList.sees {d : Nat} {p' : PV} {m' : St} (hs : Sees (σ d) m p' m') (h : AList P N ops Q l (upd σ d p') m') : AList P N ops Q l σ m := by
  intro Γ a w hs0
  obtain ⟨Γ', h1, le, h2⟩ := hs Γ w _ hs0.mem (hs0.slots d)
  have hs' := hs0.mono le (Keeps.refl Γ w) h1
  have := h _ a w ⟨hs'.size, hs'.defers, h1, fun t => ?_⟩
  · rw [le.x.rnd] at this; exact wpList_mono (Post.later le (Keeps.refl _ _)) _ _ _ this
  · by_cases e : t = d
    · subst e; rw [upd_same]; exact h2
    · rw [upd_ne _ _ _ _ e]; exact hs'.slots t
theorem AW.sees {c : Code} {d : Nat} {p' : PV} {m' : St} (hs : Sees (σ d) m p' m') (h : AW P N c Q (upd σ d p') m') : AW P N c Q σ m := by
  intro Γ a w hs0
  obtain ⟨Γ', h1, le, h2⟩ := hs Γ w _ hs0.mem (hs0.slots d)
  have hs' := hs0.mono le (Keeps.refl Γ w) h1
  have := h _ a w ⟨hs'.size, hs'.defers, h1, fun t => ?_⟩
  · rw [le.x.rnd] at this; exact wpIn_mono this (Post.later le (Keeps.refl _ _))
  · by_cases e : t = d
    · subst e; rw [upd_same]; exact h2
    · rw [upd_ne _ _ _ _ e]; exact hs'.slots t
end
end Go.Ab
/- The abstract layer, 29: regions whose order is open, what comes behind being seen through the whole region. Over any program. -/
namespace Go.Ab
open Go.RowKit

/-- May operation i be taken first? c: its class; g: what classes it goes with; bef: what comes behind what. -/
def canTakeT (c : Cls) (g : Cls → Bool) (cls : List Cls) (ops : Array Oper) (bef : Array Nat) (listed : Array Bool) (i : Nat) : Bool :=
  listed.size == ops.size && (match ops[i]? with
  | none => false
  | some oi => (cls.getD i .W == c) && (Region.ready .any ops listed).contains i && (List.range ops.size).all fun j =>
    if (bef.getD j 0).testBit i then
      !listed.getD j true && (match ops[j]? with | some oj => oj.after.any fun e => Region.binds .any e && (e.on == i || (bef.getD e.on 0).testBit i) | none => false)
    else j == i || listed.getD j true || (match ops[j]? with | some oj => oi.apart ops oj && g (cls.getD j .W) | none => false))
/-- A constant struct seen by its cells. -/
def cv : PV → PV
  | .v (.agg us) => .agg (us.toList.map ofV)
  | .v (.slice none 0 0) => .list .full []
  | p => p
theorem cv_rep (p : PV) (Γ : Ctx) (w : World) (u : Value) (h : VRep Γ w p u) : VRep Γ w (cv p) u := by
  unfold cv
  split
  · replace h : u = _ := h
    subst h
    exact ⟨_, rfl, ofVs_rep Γ w _⟩
  · replace h : u = _ := h
    subst h
    exact ⟨none, 0, rfl, Nat.le_refl _, fun _ => rfl, (fun ad h => by cases h), rfl⟩
  · exact h
/-- A rule for an operation, its operands alone being known. -/
theorem OpOKo.of {P : Program} {o : Oper} {ρ : Operand → PV} {m : St} {K Kp : PV → St → Prop} (h : ∀ ρ', (∀ x ∈ o.op.operands.toList, ρ' x = ρ x) → OpOK P o ρ' m K Kp) : OpOKo P o ρ m K Kp := by
  intro Γ ev w hm hv
  classical
  refine h (fun x => if x ∈ o.op.operands.toList then ρ x else .any) (fun x hx => by simp only [if_pos hx]) Γ ev w hm fun x => ?_
  by_cases hx : x ∈ o.op.operands.toList
  · simp only [if_pos hx]; exact hv x hx
  · simp only [if_neg hx]; trivial
theorem aop_cv {P : Program} {o : Oper} {ρ : Operand → PV} {m : St} {K Kp : PV → St → Prop} (h : aop P o.op (fun x => cv (ρ x)) m K Kp) : OpOKo P o ρ m K Kp := OpOKo.weak (fun x => cv_rep (ρ x)) (aop_soundO o _ h)
section
variable {P : Program} {N : Nat} {l : List Oper} {cls : List Cls} {Q : APost} {σ : Nat → PV} {m : St} {listed : Array Bool} {fuel : Nat}

theorem canTakeT_spec {c : Cls} {g : Cls → Bool} {bef : Array Nat} {i : Nat} {oi : Oper} (hi : l[i]? = some oi) (h : canTakeT c g cls l.toArray bef listed i = true) : listed.size = l.toArray.size ∧ cls.getD i .W = c ∧ i ∈ Region.ready .any l.toArray listed ∧
    (∀ j oj, l.toArray[j]? = some oj → (bef.getD j 0).testBit i = true → listed.getD j true = false ∧ ∃ e ∈ oj.after, Region.binds .any e = true ∧ (e.on = i ∨ (bef.getD e.on 0).testBit i = true)) ∧
    (∀ j oj, l.toArray[j]? = some oj → j ≠ i → listed.getD j true = false → (bef.getD j 0).testBit i = false → oi.apart l.toArray oj = true ∧ g (cls.getD j .W) = true) := by
  unfold canTakeT at h
  have hi' : l.toArray[i]? = some oi := by simpa using hi
  rw [hi'] at h
  simp only [Bool.and_eq_true] at h
  obtain ⟨hsz, ⟨h1, h2⟩, h3⟩ := h
  refine ⟨by simpa using hsz, by simpa using h1, by simpa using h2, fun j oj hj hb => ?_, fun j oj hj hji hun hb => ?_⟩
  · have hlt : j < l.toArray.size := (Array.getElem?_eq_some_iff.1 hj).1
    have := List.all_eq_true.1 h3 j (by simpa using hlt)
    rw [if_pos hb, hj] at this
    simp only [Bool.and_eq_true, Bool.not_eq_true'] at this
    obtain ⟨k1, k2⟩ := this
    rw [Array.any_eq_true'] at k2
    obtain ⟨e, he, h5⟩ := k2
    simp only [Bool.and_eq_true, Bool.or_eq_true, beq_iff_eq] at h5
    exact ⟨k1, e, he, h5.1, h5.2⟩
  · have hlt : j < l.toArray.size := (Array.getElem?_eq_some_iff.1 hj).1
    have := List.all_eq_true.1 h3 j (by simpa using hlt)
    rw [if_neg (by rw [hb]; simp), hj, hun] at this
    simp only [Bool.or_false, Bool.or_eq_true, beq_iff_eq, hji, false_or, Bool.and_eq_true] at this
    exact ⟨this.1, by simpa using this.2⟩

theorem bef_inv {bef : Array Nat} {i : Nat} (hsz : listed.size = l.toArray.size) (h1 : ∀ j oj, l.toArray[j]? = some oj → (bef.getD j 0).testBit i = true → listed.getD j true = false ∧ ∃ e ∈ oj.after, Region.binds .any e = true ∧ (e.on = i ∨ (bef.getD e.on 0).testBit i = true)) :
    ∀ j, (bef.getD j 0).testBit i = true → listed.getD j true = false ∨ listed.size ≤ j := fun j hj => by
  rcases Nat.lt_or_ge j l.toArray.size with hlt | hge
  · exact .inl (h1 j _ (Array.getElem?_eq_getElem hlt) hj).1
  · right; omega

theorem DA.takeT {s : Bool} {p : PV} {oi : Oper} (i : Nat) (hi : l[i]? = some oi) (hd : dstOK N oi.dst = true) (hc : canTakeT (if s then .S else .R) (goesWith s) cls l.toArray (Region.before l.toArray) listed i = true) (hg : Got P N l.toArray s oi p σ m)
    (h : DA P N l cls Q fuel (listed.setIfInBounds i true) (put σ oi.dst p) m) : DA P N l cls Q (fuel + 1) listed σ m := by
  obtain ⟨hsz, hcl, hr, h1, h2⟩ := canTakeT_spec hi hc
  have hi' : l.toArray[i]? = some oi := by simpa using hi
  exact DAny.firstG (p := p) (oi := oi) (fun σ m => Got P N l.toArray s oi p σ m) (fun j => ((Region.before l.toArray).getD j 0).testBit i) (fun j => goesWith s (cls.getD j .W))
    (fun hg hk => hg.step hi' hd hcl hk) (fun hj ha hok hg hk => DStep.swap hj ha hok hg hk)
    (fun j oj hj hb => (h1 j oj hj hb).2) fuel listed σ m (bef_inv hsz h1) hsz (fun j oj hj hji hun hb => h2 j oj hj hji hun hb) hr hg h
theorem DA.takeLT {p : PV} {oi : Oper} (i : Nat) (hi : l[i]? = some oi) (hd : dstOK N oi.dst = true) (hc : canTakeT .L goesWithL cls l.toArray (Region.before l.toArray) listed i = true) (hg : GotL P N l.toArray oi p σ m)
    (h : DA P N l cls Q fuel (listed.setIfInBounds i true) (put σ oi.dst p) m) : DA P N l cls Q (fuel + 1) listed σ m := by
  obtain ⟨hsz, hcl, hr, h1, h2⟩ := canTakeT_spec hi hc
  have hi' : l.toArray[i]? = some oi := by simpa using hi
  exact DAny.firstG (p := p) (oi := oi) (fun σ m => GotL P N l.toArray oi p σ m) (fun j => ((Region.before l.toArray).getD j 0).testBit i) (fun j => goesWithL (cls.getD j .W))
    (fun hg hk => hg.step hi' hd hcl hk) (fun hj ha hok hg hk => DStep.swapL hj ha hok hg hk)
    (fun j oj hj hb => (h1 j oj hj hb).2) fuel listed σ m (bef_inv hsz h1) hsz (fun j oj hj hji hun hb => h2 j oj hj hji hun hb) hr hg h

/-- An operation that looks at its slots alone. -/
theorem DA.ST {p : PV} {d : Tmp} {op : Op} {ty : TypeId} {pos : String} {after : Array Edge} (i : Nat) (hi : l[i]? = some ⟨some d, op, ty, pos, after, none⟩) (hc : canTakeT .S (goesWith true) cls l.toArray (Region.before l.toArray) listed i = true) (hd : d < N)
    (h1 : ∀ (m : St) (K : PV → St → Prop), K p m → aop P op (opv σ) m K (fun _ _ => False)) (h : DA P N l cls Q fuel (listed.setIfInBounds i true) (upd σ d p) m) : DA P N l cls Q (fuel + 1) listed σ m :=
  DA.takeT (s := true) i hi (by simpa [dstOK] using hd) hc (.inr ⟨rfl, fun m => aop_soundO _ _ (h1 m _ ⟨rfl, rfl⟩)⟩) h
/-- An operation that leaves memory as it is. -/
theorem DA.RT {p : PV} {d : Tmp} {op : Op} {ty : TypeId} {pos : String} {after : Array Edge} (i : Nat) (hi : l[i]? = some ⟨some d, op, ty, pos, after, none⟩) (hc : canTakeT .R (goesWith false) cls l.toArray (Region.before l.toArray) listed i = true) (hd : d < N)
    (h1 : ∀ (K : PV → St → Prop), K p m → aop P op (opv σ) m K (fun _ _ => False)) (h : DA P N l cls Q fuel (listed.setIfInBounds i true) (upd σ d p) m) : DA P N l cls Q (fuel + 1) listed σ m :=
  DA.takeT (s := false) i hi (by simpa [dstOK] using hd) hc (.inr ⟨rfl, aop_soundO _ _ (h1 _ ⟨rfl, rfl⟩)⟩) h
/-- An operation that looks at its slots alone, by a rule of its own. -/
theorem DA.SK {p : PV} {d : Tmp} {op : Op} {ty : TypeId} {pos : String} {after : Array Edge} (i : Nat) (hi : l[i]? = some ⟨some d, op, ty, pos, after, none⟩) (hc : canTakeT .S (goesWith true) cls l.toArray (Region.before l.toArray) listed i = true) (hd : d < N)
    (h1 : ∀ (m : St) (K : PV → St → Prop), K p m → OpOKo P ⟨some d, op, ty, pos, after, none⟩ (opv σ) m K (fun _ _ => False)) (h : DA P N l cls Q fuel (listed.setIfInBounds i true) (upd σ d p) m) : DA P N l cls Q (fuel + 1) listed σ m :=
  DA.takeT (s := true) i hi (by simpa [dstOK] using hd) hc (.inr ⟨rfl, fun m => h1 m _ ⟨rfl, rfl⟩⟩) h
/-- An operation that stands alone, by a rule of its own. -/
theorem DA.K {d : Option Tmp} {op : Op} {ty : TypeId} {pos : String} {after : Array Edge} (i : Nat) (hi : l[i]? = some ⟨d, op, ty, pos, after, none⟩) (hc : isReady l.toArray listed [i] = true) (hw : cls.getD i .W = .W) (hd : dstOK N d = true)
    (h : ∀ K Kp : PV → St → Prop, (∀ p m', DA P N l cls Q fuel (listed.setIfInBounds i true) (put σ d p) m' → K p m') → (∀ p m', (∀ σ, Q (.pan p) σ m') → Kp p m') → OpOKo P ⟨d, op, ty, pos, after, none⟩ (opv σ) m K Kp) : DA P N l cls Q (fuel + 1) listed σ m := by
  have hr : Region.ready .any l.toArray listed = [i] := by simpa [isReady] using hc
  refine DA.one hr ⟨_, by simpa using hi, hd, .inr ⟨by simp [aWant], ?_⟩⟩
  simp only [hw]
  exact h _ _ (fun _ _ h => h) (fun _ _ h => h)
theorem DStep.K {d : Option Tmp} {op : Op} {ty : TypeId} {pos : String} {after : Array Edge} {i : Nat} {K : (Nat → PV) → St → Prop} {Qp : PV → St → Prop} (hi : l[i]? = some ⟨d, op, ty, pos, after, none⟩) (hw : cls.getD i .W = .W) (hd : dstOK N d = true)
    (h : ∀ K' Kp : PV → St → Prop, (∀ p m', K (put σ d p) m' → K' p m') → (∀ p m', Qp p m' → Kp p m') → OpOKo P ⟨d, op, ty, pos, after, none⟩ (opv σ) m K' Kp) : DStep P N l.toArray (fun i => cls.getD i .W) Qp i K σ m := by
  refine ⟨_, by simpa using hi, hd, .inr ⟨by simp [aWant], ?_⟩⟩
  simp only [hw]
  exact h _ _ (fun _ _ h => h) (fun _ _ h => h)
/-- The stores of an appended element and of the slice, in either order. -/
theorem DA.stores {i j : Nat} {t1 t2 ty1 ty2 : TypeId} {p q r s : Tmp} {pos1 pos2 : String} {af1 af2 : Array Edge} {k off n o2 : Nat} {cs xs ds ys : List PV} (hi : l[i]? = some ⟨none, .store t1 (.tmp p) (.tmp q), ty1, pos1, af1, none⟩)
    (hj : l[j]? = some ⟨none, .store t2 (.tmp r) (.tmp s), ty2, pos2, af2, none⟩) (h0 : isReady l.toArray listed [i, j] = true) (h1 : isReady l.toArray (listed.setIfInBounds i true) [j] = true) (h2 : isReady l.toArray (listed.setIfInBounds j true) [i] = true)
    (h3 : isReady l.toArray ((listed.setIfInBounds i true).setIfInBounds j true) [] = true) (h4 : isReady l.toArray ((listed.setIfInBounds j true).setIfInBounds i true) [] = true) (hw1 : cls.getD i .W = .W) (hw2 : cls.getD j .W = .W)
    (ht1 : tinfo P t1 = true) (ht2 : tinfo P t2 = true) (hp : σ p = .mptr k off (m.top k)) (hq : cells1 (σ q) = some xs) (hk : k < m.ntok) (hlv : m.top k < DEAD) (ha : m.arr k = some cs) (hxl : xs.length = tsize P t1) (hf : off + xs.length ≤ cs.length)
    (hr : σ r = .loc n o2) (hs : cells1 (σ s) = some ys) (hn : n < m.nloc) (hd : m.loc n = some ds) (hyl : ys.length = tsize P t2) (hf2 : o2 + ys.length ≤ ds.length)
    (h : Q .normal σ ((m.putA k (m.top k) (setL cs off xs)).setLoc n (setL ds o2 ys))) : DA P N l cls Q 2 listed σ m := by
  refine DA.two h0 (DStep.K hi hw1 rfl fun K Kp hK _ => ?_) (DStep.K hj hw2 rfl fun K Kp hK _ => ?_)
  · refine OpOKo.of fun ρ' hρ => op_storeA rfl ht1 ((hρ (.tmp p) (by simp [Op.operands])).trans hp) (by rw [hρ (.tmp q) (by simp [Op.operands])]; exact hq) hk hlv ha hxl hf (hK _ _ ?_)
    refine DA.K j hj h1 hw2 rfl fun K Kp hK _ => aop_soundO _ _ ?_
    simp only [aop, opv, put, astore, hr, hs]
    refine ⟨ht2, ?_⟩
    have e : (m.putA k (m.top k) (setL cs off xs)).loc n = some ds := hd
    rw [e]
    exact ⟨hn, hyl, by omega, hK _ _ (DA.done h3 h)⟩
  · refine aop_soundO _ _ ?_
    simp only [aop, opv, astore, hr, hs, hd]
    refine ⟨ht2, hn, hyl, by omega, hK _ _ ?_⟩
    refine DA.K i hi h2 hw1 rfl fun K Kp hK _ => ?_
    refine OpOKo.of fun ρ' hρ => op_storeA (m := m.setLoc n (setL ds o2 ys)) rfl ht1 ((hρ (.tmp p) (by simp [Op.operands])).trans hp) (by rw [hρ (.tmp q) (by simp [Op.operands])]; exact hq) hk hlv ha hxl hf (hK _ _ (DA.done h4 h))
end
end Go.Ab
