/- Texts of the proof, part Le: they prove nothing by themselves that is claimed. -/
import Derived.Test.YtgfadepkiejncaaGreatLd
import Derived.Test.YtgfadepkiejncaaGreatLc
import Derived.Lib.DecodeN
set_option linter.unusedVariables false
set_option linter.unusedSimpArgs false
namespace Go.Proofs.YtgfadepkiejncaaGreat
open Go.Ab
set_option maxHeartbeats 0
def exI (n : Int) : GV := .mk 2 0 false [n] ⟨#[]⟩ []
def exO : GV := .mk 0 0 false [] ⟨#[]⟩ []
def exL (k : Int) (l : List GV) : GV := .mk k 0 false [] ⟨#[]⟩ l
def exF : GV := exL 8 [exL 7 [exI 1, exI 2], exL 7 [exI 1, exI 3], exL 7 [exI 2, exI 5]]
theorem set_ex : Gives Tryz.prog 41 [GV.pvs [exI 3, exO, exI 1, exI 3]] (.tup [(exL 8 [exI 1, exI 3]).pv, vE 0]) := fun m =>
  ecall_sound spc2_ok (n := 1000) (r := .ret (.tup [(exL 8 [exI 1, exI 3]).pv, vE 0])) (by kernel_rfl) m
theorem image_ex : Gives Tryz.prog 46 [exF.pv, (exI 1).pv] (.tup [(exL 8 [exI 2, exI 3]).pv, vE 0]) := fun m =>
  ecall_sound spc2_ok (n := 1000) (r := .ret (.tup [(exL 8 [exI 2, exI 3]).pv, vE 0])) (by kernel_rfl) m
theorem apply_ex : Gives Tryz.prog 47 [exF.pv, (exI 2).pv] (.tup [(exI 5).pv, vE 0]) := fun m =>
  ecall_sound spc2_ok (n := 1000) (r := .ret (.tup [(exI 5).pv, vE 0])) (by kernel_rfl) m
def spc3 : CallM → FuncId → List PV → Option (ER PV) := fun callM f args =>
  match f, args with
  | 41, [.list .no r] => match GV.ofR r with
    | some l => if (l.length == 4 && sameL l [exI 3, exO, exI 1, exI 3]) = true then some (.ok (.tup [(exL 8 [exI 1, exI 3]).pv, vE 0])) else none
    | none => none
  | 46, [.agg a, .agg b] => match GV.ofC a, GV.ofC b with
    | some a, some b => if (sameV a exF && sameV b (exI 1)) = true then some (.ok (.tup [(exL 8 [exI 2, exI 3]).pv, vE 0])) else none
    | _, _ => none
  | 47, [.agg a, .agg b] => match GV.ofC a, GV.ofC b with
    | some a, some b => if (sameV a exF && sameV b (exI 2)) = true then some (.ok (.tup [(exI 5).pv, vE 0])) else none
    | _, _ => none
  | f, args => spc2 callM f args
def cfg3 : ECfg := ⟨spc3, [141], [(96, 6)]⟩
theorem spc3_ok : SpcOK Tryz.prog cfg3 := by
  intro callM hM f args p h s
  replace h : spc3 callM f args = some (.ok p) := h
  unfold spc3 at h
  split at h
  · split at h
    · rename_i l hl
      split at h
      · rename_i hg; cases h
        have e1 := ofR_spec _ _ hl
        subst e1
        rw [Bool.and_eq_true, beq_iff_eq] at hg
        have e := (sameL_iff _ _ (by simpa using hg.1)).1 hg.2
        subst e
        exact set_ex s
      · cases h
    · cases h
  · split at h
    · rename_i x y hx hy
      split at h
      · rename_i hg; cases h
        have e1 := ofC_spec _ _ hx
        have e2 := ofC_spec _ _ hy
        subst e1 e2
        rw [Bool.and_eq_true, sameV_iff, sameV_iff] at hg
        obtain ⟨rfl, rfl⟩ := hg
        exact image_ex s
      · cases h
    · cases h
  · split at h
    · rename_i x y hx hy
      split at h
      · rename_i hg; cases h
        have e1 := ofC_spec _ _ hx
        have e2 := ofC_spec _ _ hy
        subst e1 e2
        rw [Bool.and_eq_true, sameV_iff, sameV_iff] at hg
        obtain ⟨rfl, rfl⟩ := hg
        exact apply_ex s
      · cases h
    · cases h
  · exact spc2_ok callM hM _ _ _ h s
theorem sanity : Gives Tryz.prog 18 [] (vB true) := fun m =>
  ecall_sound spc3_ok (n := 1000) (r := .ret (vB true)) (by kernel_rfl) m
end Go.Proofs.YtgfadepkiejncaaGreat
namespace Go.Proofs.YtgfadepkiejncaaGreat
open Go.Ab
set_option maxHeartbeats 0
set_option maxRecDepth 100000
attribute [local irreducible] AW AList ACall DA AExit.then AExit.inBlock
theorem lightF_nodes {v : GV} {most : Int} (h : lightF v most = true) : (nodes v : Int) ≤ most ∧ ∀ x ∈ walkV v, small x = true := by
  unfold lightF at h
  split at h
  · cases h
  · rename_i hlt
    have h3 := (wt_spec v most).2.2 (by omega)
    exact ⟨by omega, fun x hx => List.all_eq_true.1 h x hx⟩
theorem formedF_sizes {v : GV} (h : formedF v = true) : nodes v ≤ 400 ∧ ∀ x ∈ walkV v, x.abs.length ≤ 60 ∧ x.str.size ≤ 1100 := by
  simp only [formedF, Bool.and_eq_true] at h
  obtain ⟨h1, h2⟩ := lightF_nodes h.1
  refine ⟨by omega, fun x hx => ?_⟩
  have := h2 x hx
  simp [small] at this
  omega
mutual
theorem sameV_refl : ∀ a : GV, sameV a a = true
  | .mk k n ng a s l => by simp [sameV, sameInt, sameL_refl l]
theorem sameL_refl : ∀ l : List GV, sameL l l = true
  | [] => rfl
  | a :: l => by simp [sameL, sameV_refl a, sameL_refl l]
end
end Go.Proofs.YtgfadepkiejncaaGreat
namespace Go.Proofs.YtgfadepkiejncaaGreat
open Go.Ab
set_option maxHeartbeats 0
set_option maxRecDepth 100000
attribute [local irreducible] AW AList ACall DA AExit.then AExit.inBlock YCall DCall
theorem formedF_good {v : GV} (hv : v.ok) (h : formedF v = true) : good v ∧ v.dk := by
  simp only [formedF, Bool.and_eq_true, decide_eq_true_eq] at h
  exact ⟨⟨(checkF_ok.1 h.2).1, hv⟩, fol_dk v 0 1 h.2⟩
end Go.Proofs.YtgfadepkiejncaaGreat
namespace Go.Ab
theorem Fin.gives2 {P : Program} {fn : Func} {m m' : St} {σ : Nat → PV} {r : PV} (hm : Same m m') (hp : ResP P fn.results.toList σ m' r) (hq : r.strip = r := by simp) (hs : r.sc m.nloc m.ntok := by simp) : Fin P fn m (fun r' m' => r' = .ret r ∧ m' = m) .ret σ m' :=
  Fin.ret hp hm hq hs ⟨rfl, rfl⟩
end Go.Ab
namespace Go.Proofs.YtgfadepkiejncaaGreat
open Go.Ab
set_option maxHeartbeats 0
set_option maxRecDepth 100000
attribute [local irreducible] AW AList ACall DA AExit.then AExit.inBlock YCall DCall
end Go.Proofs.YtgfadepkiejncaaGreat
namespace Go.Proofs.YtgfadepkiejncaaGreat
open Go.Ab Go.Sort
set_option maxHeartbeats 0
set_option maxRecDepth 100000
attribute [local irreducible] AW AList ACall DA AExit.then AExit.inBlock YCall DCall
theorem val_sorted (l : List GV) (g : goods l) (hl : l.length ≤ 1000000) : Gives Tryz.prog 96 [GV.pvs l] (setV (setF l)).pv := by
  by_cases h0 : l = []
  · subst h0; exact sorted0
  · exact sortedG l g h0 hl
theorem setF_nodes (l : List GV) (g : goods l) : nodesL (setF l) ≤ nodesL l := by
  obtain ⟨s1, s2, s3⟩ := setF_spec _ g
  exact nodesL_sub (Inc_nodup s1) fun x hx => ((s3 x).1 hx).1
end Go.Proofs.YtgfadepkiejncaaGreat
namespace Go.Proofs.YtgfadepkiejncaaGreat
open Go.Ab
set_option maxHeartbeats 0
set_option maxRecDepth 100000
attribute [local irreducible] AW AList ACall DA AExit.then AExit.inBlock YCall DCall
theorem set_nonom {a : GV} (h : good a) (h8 : a.kind = 8) : ∀ x ∈ a.els, x.kind ≠ 0 := by
  have := h.1
  rw [fmd_eq] at this
  exact (this.2.1 h8).1
theorem setV_ok {l : List GV} (g : goods l) (hl : l.length < 1000000) : (setV l).ok :=
  ⟨by omega, by omega, by decide, by show (0 : Nat) < _; omega, by omega, fun x hx => (by cases hx), (okL_iff l).2 fun x hx => (g x hx).2⟩
theorem deepL_sub {l s : List GV} (hs : ∀ x ∈ s, x ∈ l) : deepL s ≤ deepL l := by
  have h1 : ∀ (l : List GV) (x : GV), x ∈ l → deep x ≤ deepL l := by
    intro l
    induction l with
    | nil => simp
    | cons v l ih =>
      intro x hx
      rcases List.mem_cons.1 hx with rfl | hx
      · simp [deepL]; omega
      · have := ih x hx; simp [deepL]; omega
  induction s with
  | nil => simp [deepL]
  | cons v s ih =>
    have := h1 l v (hs v (by simp))
    have := ih fun x hx => hs x (by simp [hx])
    simp [deepL]; omega
structure Fm (a : GV) : Prop where
  good : good a
  nodes : nodes a ≤ 400
  deep : deep a ≤ 20
theorem formed_Fm {v : GV} (hv : v.ok) (h : formedF v = true) : Fm v := by
  have h1 := (formedF_good hv h).1
  have h2 := (formedF_sizes h).1
  simp only [formedF, Bool.and_eq_true, decide_eq_true_eq] at h
  exact ⟨h1, h2, (checkF_ok.1 h.2).2.2⟩
theorem Fm.len {a : GV} (h : Fm a) : a.els.length ≤ 400 := by have := h.nodes; have := nodes_eq a; have := nodesL_len a.els; omega
abbrev zc : List PV := [PV.v (Value.int IntKind.i64 0), PV.v (Value.int IntKind.i64 0), PV.v (Value.bool false), PV.list Own.full [], PV.v (Value.string { data := #[] }), PV.list Own.full []]
end Go.Proofs.YtgfadepkiejncaaGreat
namespace Go.Proofs.YtgfadepkiejncaaGreat
open Go.Ab Go.Sort
set_option maxHeartbeats 0
set_option maxRecDepth 100000
attribute [local irreducible] AW AList ACall DA AExit.then AExit.inBlock YCall DCall
def pairB (v : GV) : Bool := decide (v.kind = 7) && decide ((v.els.length : Int) = 2) && !decide ((v.els[0]?.getD default).kind = 0) && !decide ((v.els[1]?.getD default).kind = 0)
theorem val_isPair (v : GV) : Gives Tryz.prog 50 [v.pv] (vB (pairB v)) := by
  intro m
  refine ACall.of_aw Tryz.func50 Tryz.ntmps50 rfl rfl (by simp) ?_
  by_cases h1 : v.kind = 7
  rotate_left
  · have F := @h1; refine tFg ?_; (try clear F)
    exact Fin.gives Same.auto rfl (by simp [upd_lit, pairB, h1])
  by_cases h2 : (v.els.length : Int) = 2
  rotate_left
  · have F := (aand @h1 @h2); refine tFg ?_; (try clear F)
    exact Fin.gives Same.auto rfl (by simp [upd_lit, pairB, h1, h2])
  obtain ⟨a, b, e⟩ : ∃ a b, v.els = [a, b] := by
    match h : v.els, h2 with
    | [a, b], _ => exact ⟨a, b, rfl⟩
    | [], h2 => simp at h2
    | [a], h2 => simp at h2
    | a :: b :: c :: l, h2 => simp at h2; omega
  have r0 : rowI (GV.rows [a, b]) 0 = a.cells := rows_getD [a, b] 0 (by simp)
  have r1 : rowI (GV.rows [a, b]) 1 = b.cells := rows_getD [a, b] 1 (by simp)
  have hp : pairB v = (!decide (a.kind = 0) && !decide (b.kind = 0)) := by simp [pairB, h1, e]
  rw [hp]
  clear h2 hp
  by_cases h3 : a.kind = 0
  · have F := (aand @h1 (aand @e (aand @r0 (aand @r1 @h3)))); refine tFg ?_; (try clear F)
    exact Fin.gives Same.auto rfl (by simp [upd_lit, h3])
  · have F := (aand @h1 (aand @e (aand @r0 (aand @r1 @h3)))); refine tFg ?_; (try clear F)
    exact Fin.gives Same.auto rfl (by simp [upd_lit, h3])
def fxF (p : GV → Bool) : List GV → Int → Int
  | [], _ => -1
  | x :: l, i => if p x then i else fxF p l (i + 1)
theorem fxF_nn (p : GV → Bool) : ∀ (l : List GV) (i : Int), 0 ≤ i → (0 ≤ fxF p l i ↔ l.any p = true)
  | [], i, _ => by simp [fxF]
  | x :: l, i, h => by
    have := fxF_nn p l (i + 1) (by omega)
    cases hx : p x <;> simp [fxF, hx, h] <;> simpa using this
theorem index_val (l : List GV) (p : GV → Bool) (f : FuncId) (hl : l.length < 1152921504606846976) (hf : ∀ x ∈ l, Gives Tryz.prog f [x.pv] (vB (p x))) : Gives Tryz.prog 148 [GV.pvs l, .clo f [] []] (vI (fxF p l 0)) := by
  intro m
  refine ACall.of_aw Tryz.func148 Tryz.ntmps148 rfl rfl (by simp) ?_
  refine tS ?_
  refine AW.loop (ι := Nat) (fun i σ m' => i ≤ l.length ∧ fxF p (l.drop i) i = fxF p l 0 ∧ σ 8 = vI i ∧ σ 7 = vI l.length ∧ σ 0 = GV.pvs l ∧ σ 1 = .clo f [] [] ∧ m' = m) (fun i => l.length - i) 0 ?_ ?_
  · exact ⟨by simp, rfl, by simp [upd_lit], by simp [upd_lit], by simp [upd_lit], by simp [upd_lit], rfl⟩
  rintro i σ m' ⟨hi, hF, t8, t7, t0, t1, rfl⟩
  by_cases hlt : i < l.length
  · rw [List.drop_eq_getElem_cons hlt, fxF] at hF
    have F := (aand @t8 (aand @t7 @hlt)); refine tFa ?_; (try clear F)
    have F := (aand @t0 (aand @t1 (aand @t8 (aand @hlt @rows_getD)))); refine tF ?_; (try clear F)
    have F := (aand @t0 (aand @t1 (aand @hlt @rows_getD))); refine tF1 fun K Kp hK hKp => ?_; (try clear F); refine Gives.at (hf l[i] (List.getElem_mem hlt)) ?_; apply hK; clear hK hKp K Kp
    cases hp : p l[i] with
    | true =>
      rw [hp, if_pos rfl] at hF
      refine tSa ?_
      exact Fin.gives Same.auto rfl (by simp [upd_lit, ← hF])
    | false =>
      rw [hp, if_neg (by simp)] at hF
      refine tSa ?_
      have F := @t8; refine tF ?_; (try clear F)
      exact ⟨i + 1, ⟨by omega, hF, by simp [upd_lit], by simp [upd_lit, t7], by simp [upd_lit, t0], by simp [upd_lit, t1], rfl⟩, by omega⟩
  · have e : i = l.length := by omega
    rw [e, List.drop_length, fxF] at hF
    have F := (aand @t8 (aand @t7 @hlt)); refine tFa ?_; (try clear F)
    exact Fin.gives Same.auto rfl (by simp [upd_lit, ← hF])
theorem contains_val (l : List GV) (p : GV → Bool) (f : FuncId) (hl : l.length < 1152921504606846976) (hf : ∀ x ∈ l, Gives Tryz.prog f [x.pv] (vB (p x))) : Gives Tryz.prog 100 [GV.pvs l, .clo f [] []] (vB (l.any p)) := by
  have e : decide (0 ≤ fxF p l 0) = l.any p := by rw [Bool.eq_iff_iff, decide_eq_true_eq]; exact fxF_nn p l 0 (by omega)
  intro m
  refine ACall.of_aw Tryz.func100 Tryz.ntmps100 rfl rfl (by simp) ?_
  refine tS ?_
  refine tS1 fun K Kp hK hKp => ?_; refine Gives.at (index_val l p f hl hf) ?_; apply hK; clear hK hKp K Kp
  refine tS ?_
  exact Fin.gives Same.auto rfl (by simp [upd_lit, ← e])
theorem clo101 (v : GV) : Gives Tryz.prog 101 [v.pv] (vB (!pairB v)) := by
  intro m
  refine ACall.of_aw Tryz.func101 Tryz.ntmps101 rfl rfl (by simp) ?_
  refine tS ?_
  refine tS1 fun K Kp hK hKp => ?_; refine Gives.at (val_isPair v) ?_; apply hK; clear hK hKp K Kp
  refine tS ?_
  exact Fin.gives Same.auto
def mapB (v : GV) : Bool := decide (v.kind = 8) && v.els.all pairB
theorem val_isMap (v : GV) (hl : v.els.length < 1152921504606846976) : Gives Tryz.prog 52 [v.pv] (vB (mapB v)) := by
  have hc := contains_val v.els (fun x => !pairB x) 101 hl fun x _ => clo101 x
  have e : (v.els.any fun x => !pairB x) = !v.els.all pairB := by rw [List.not_all_eq_any_not]
  rw [e] at hc
  intro m
  refine ACall.of_aw Tryz.func52 Tryz.ntmps52 rfl rfl (by simp) ?_
  by_cases h : v.kind = 8
  · have F := @h; refine tFg ?_; (try clear F)
    have F := @h; refine tFc (hc) ?_; (try clear F)
    have F := @h; refine tFg ?_; (try clear F)
    exact Fin.gives Same.auto rfl (by simp [upd_lit, mapB, h])
  · have F := @h; refine tFg ?_; (try clear F)
    exact Fin.gives Same.auto rfl (by simp [upd_lit, mapB, h])
end Go.Proofs.YtgfadepkiejncaaGreat
namespace Go.Proofs.YtgfadepkiejncaaGreat
open Go.Ab Go.Sort
set_option maxHeartbeats 0
set_option maxRecDepth 100000
attribute [local irreducible] AW AList ACall DA AExit.then AExit.inBlock YCall DCall
theorem pairB_iff {v : GV} : pairB v = true ↔ v.kind = 7 ∧ ∃ a b, v.els = [a, b] ∧ a.kind ≠ 0 ∧ b.kind ≠ 0 := by
  constructor
  · intro h
    simp only [pairB, Bool.and_eq_true, decide_eq_true_eq, Bool.not_eq_true', decide_eq_false_iff_not] at h
    obtain ⟨⟨⟨h1, h2⟩, h3⟩, h4⟩ := h
    refine ⟨h1, ?_⟩
    match hv : v.els, h2 with
    | [a, b], _ => rw [hv] at h3 h4; exact ⟨a, b, rfl, by simpa using h3, by simpa using h4⟩
    | [], h2 => simp at h2
    | [a], h2 => simp at h2
    | a :: b :: c :: l, h2 => simp at h2; omega
  · rintro ⟨h1, a, b, e, h3, h4⟩
    simp [pairB, h1, e, h3, h4]
def p1 (v : GV) : GV := v.els[0]?.getD default
def p2 (v : GV) : GV := v.els[1]?.getD default
abbrev zcV : List PV := [vI 0, vI 0, vB false, .list .full [], vS ⟨#[]⟩, .list .full []]
end Go.Proofs.YtgfadepkiejncaaGreat
namespace Go.Proofs.YtgfadepkiejncaaGreat
open Go.Ab Go.Sort
set_option maxHeartbeats 0
set_option maxRecDepth 100000
attribute [local irreducible] AW AList ACall DA AExit.then AExit.inBlock YCall DCall
theorem setF_deep (l : List GV) (g : goods l) : deepL (setF l) ≤ deepL l := by
  obtain ⟨_, _, s3⟩ := setF_spec _ g
  exact deepL_sub fun x hx => ((s3 x).1 hx).1
end Go.Proofs.YtgfadepkiejncaaGreat
namespace Go.Proofs.YtgfadepkiejncaaGreat
open Go.Ab Go.Sort
set_option maxHeartbeats 0
set_option maxRecDepth 100000
attribute [local irreducible] AW AList ACall DA AExit.then AExit.inBlock YCall DCall
end Go.Proofs.YtgfadepkiejncaaGreat
namespace Go.Ab
theorem Ow.other {m0 m m' : St} {o o' oB : Own} {s n q sB nB : Nat} (h : Ow m0 m o s n) (hB : Ow m0 m oB sB nB) (hd : ∀ k, o = .tok k → oB ≠ .tok k) (a : AppRes s m o n q o' m') :
    Ow m0 m' oB sB nB ∧ ∀ k, o' = .tok k → oB ≠ .tok k := by
  obtain ⟨h1, h2, h3⟩ := h
  obtain ⟨b1, b2, b3⟩ := hB
  rcases a with ⟨rfl, rfl, rfl⟩ | ⟨_, rfl, rfl⟩ | ⟨_, k, rfl, rfl, rfl⟩
  · exact ⟨⟨b1, b2, b3⟩, hd⟩
  · refine ⟨⟨b1.newTok _ _, ?_, b3⟩, ?_⟩
    · cases oB with
      | no => exact b2
      | full => trivial
      | tok k =>
        obtain ⟨c1, c2, c3, c4⟩ := b2
        have : k ≠ m.ntok := by omega
        exact ⟨Nat.lt_succ_of_lt c1, by simp [St.newTok, upd, this, c2], by simp [St.newTok, upd, this, c3], by simp [St.newTok, upd, this, c4]⟩
    · intro k e e2
      cases e
      subst e2
      exact absurd b2.1 (Nat.lt_irrefl _)
  · refine ⟨⟨b1.growTok (h3 k rfl) _, ?_, b3⟩, hd⟩
    cases oB with
    | no => exact b2
    | full => trivial
    | tok j =>
      obtain ⟨c1, c2, c3, c4⟩ := b2
      have : j ≠ k := fun e => hd k rfl (by rw [e])
      exact ⟨c1, by simp [St.growTok, upd, this, c2], c3, c4⟩
section
variable {P : Program} {N : Nat} {l : List Oper} {cls : List Cls} {Q : APost} {σ : Nat → PV} {m : St} {listed : Array Bool} {fuel : Nat}
end
end Go.Ab
namespace Go.Proofs.YtgfadepkiejncaaGreat
open Go.Ab Go.Sort
set_option maxHeartbeats 0
set_option maxRecDepth 100000
attribute [local irreducible] AW AList ACall DA AExit.then AExit.inBlock YCall DCall
end Go.Proofs.YtgfadepkiejncaaGreat
namespace Go.Ab
theorem AW.gen {P : Program} {N : Nat} {c : Code} {Q : APost} {σ : Nat → PV} {m : St} (h : ∀ mm, mm = m → AW P N c Q σ mm) : AW P N c Q σ m := h m rfl
end Go.Ab
namespace Go.Proofs.YtgfadepkiejncaaGreat
open Go.Ab Go.Sort
set_option maxHeartbeats 0
set_option maxRecDepth 100000
attribute [local irreducible] AW AList ACall DA AExit.then AExit.inBlock YCall DCall
end Go.Proofs.YtgfadepkiejncaaGreat
namespace Go.Proofs.YtgfadepkiejncaaGreat
open Go.Ab
set_option maxHeartbeats 0
set_option maxRecDepth 100000
attribute [local irreducible] AW AList ACall DA AExit.then AExit.inBlock YCall DCall
end Go.Proofs.YtgfadepkiejncaaGreat
namespace Go.Ab
theorem Post.imp {Γ : Ctx} {w : World} {N : Nat} {Q Q' : APost} (h : ∀ x σ m, Q x σ m → Q' x σ m) {e : Exit} {a : Act} {w' : World} (hp : Post Γ w N Q e a w') : Post Γ w N Q' e a w' := by
  obtain ⟨x, σ, m, Γ', h1, h2⟩ := hp
  exact ⟨x, σ, m, Γ', h x σ m h1, h2⟩
theorem AList.cut {P : Program} {N : Nat} {Q : APost} {ops : Array Oper} {l : List Oper} {σ : Nat → PV} {m : St} {I nx : (Nat → PV) → St → Prop} (h : AList P N ops (AExit.then I Q) l σ m) (h2 : ∀ σ m, I σ m → nx σ m) : AList P N ops (AExit.then nx Q) l σ m :=
  fun Γ a w hs => wpList_mono (fun _ _ _ => Post.imp fun x σ m h => by cases x <;> first | exact h2 σ m h | exact h) _ _ _ (h Γ a w hs)
end Go.Ab
namespace Go.Proofs.YtgfadepkiejncaaGreat
open Go.Ab
set_option maxHeartbeats 0
set_option maxRecDepth 100000
attribute [local irreducible] AW AList ACall DA AExit.then AExit.inBlock YCall DCall
end Go.Proofs.YtgfadepkiejncaaGreat
namespace Go.Ab
def Dies (P : Program) (f : FuncId) (args : List PV) (r : PV) : Prop := ∀ m, ACall P f args m (fun r' m' => r' = .pan r ∧ m' = m)
theorem Dies.at {P : Program} {f : FuncId} {args : List PV} {r : PV} {m : St} {K Kp : PV → St → Prop} (h : Dies P f args r) (k : Kp r m) :
    ACall P f args m (fun r' m' => match r' with | .ret p => K p m' | .pan p => Kp p m') := (h m).mono (by rintro _ _ ⟨rfl, rfl⟩; exact k)
def GivesAt (P : Program) (f : FuncId) (args : List PV) (m : St) (r : PV) : Prop := ACall P f args m (fun r' m' => r' = .ret r ∧ m' = m)
theorem GivesAt.at {P : Program} {f : FuncId} {args : List PV} {r : PV} {m : St} {K Kp : PV → St → Prop} (h : GivesAt P f args m r) (k : K r m) :
    ACall P f args m (fun r' m' => match r' with | .ret p => K p m' | .pan p => Kp p m') := ACall.mono h (by rintro _ _ ⟨rfl, rfl⟩; exact k)
theorem Fin.dies {P : Program} {fn : Func} {m m' : St} {σ : Nat → PV} {p r : PV} (hm : Same m m') (hq : p.strip = r := by simp [upd_lit]) (hs : r.sc m.nloc m.ntok := by simp) : Fin P fn m (fun r' m' => r' = .pan r ∧ m' = m) (.pan p) σ m' :=
  Fin.pan hm hq hs ⟨rfl, rfl⟩
theorem Fin.done {P : Program} {fn : Func} {m m' : St} {σ : Nat → PV} (hm : Same m m') (hp : ResP P fn.results.toList σ m' (.tup []) := by exact ⟨[], rfl, rfl⟩) : Fin P fn m (fun r' m' => r' = .ret (.tup []) ∧ m' = m) .normal σ m' :=
  Fin.normal hp hm rfl trivial ⟨rfl, rfl⟩
end Go.Ab
namespace Go.Proofs.YtgfadepkiejncaaGreat
open Go.Ab
set_option maxHeartbeats 0
set_option maxRecDepth 100000
attribute [local irreducible] AW AList ACall DA AExit.then AExit.inBlock YCall DCall
abbrev badE (e : Int) : PV := .iface 117 (.agg [vE e])
theorem need_ok (e : Int) : Gives Tryz.prog 125 [vB true, vE e] (.tup []) := by
  intro m
  refine ACall.of_aw Tryz.func125 Tryz.ntmps125 rfl rfl (by simp) ?_
  refine tSa ?_
  exact Fin.done Same.auto
theorem need_bad (e : Int) : Dies Tryz.prog 125 [vB false, vE e] (badE e) := by
  intro m
  refine ACall.of_aw Tryz.func125 Tryz.ntmps125 rfl rfl (by simp) ?_
  refine tSa ?_
  refine AList.op0 ?_; intro K Kp hK hKp; simp [↓aop, ↓Ab.opv, ↓upd_lit, ↓map_ta, ↓List.map_cons, ↓List.map_nil, Nat.add_assoc]; (try (simp (disch := omega) only [wrap_i64]; try simp [↓aop, ↓Ab.opv, ↓upd_lit, ↓map_ta, ↓List.map_cons, ↓List.map_nil, Nat.add_assoc])); apply hKp; clear hK hKp K Kp; repeat (first | refine AExit.panT ?_ | refine AExit.panB ?_)
  exact Fin.dies Same.auto
def idxF (x : Int) : List Int → Int → Int
  | [], _ => -1
  | y :: l, i => if x = y then i else idxF x l (i + 1)
theorem idxF_nn (x : Int) : ∀ (l : List Int) (i : Int), 0 ≤ i → (0 ≤ idxF x l i ↔ x ∈ l)
  | [], i, h => by simp [idxF]
  | y :: l, i, h => by
    simp only [idxF]
    by_cases e : x = y
    · rw [if_pos e]; simp [e, h]
    · rw [if_neg e, idxF_nn x l (i + 1) (by omega)]; simp [e]
theorem index_ints (l : List Int) (x : Int) (hl : l.length < 1152921504606846976) : Gives Tryz.prog 167 [.list .no (ints l), vI x] (vI (idxF x l 0)) := by
  intro m
  refine ACall.of_aw Tryz.func167 Tryz.ntmps167 rfl rfl (by simp) ?_
  refine tS ?_
  refine AW.loop (ι := Nat) (fun i σ m' => i ≤ l.length ∧ idxF x l 0 = idxF x (l.drop i) i ∧ σ 8 = vI i ∧ σ 7 = vI l.length ∧ σ 0 = .list .no (ints l) ∧ σ 1 = vI x ∧ m' = m) (fun i => l.length - i) 0 ?_ ?_
  · exact ⟨by simp, rfl, by simp [upd_lit], by simp [upd_lit], by simp [upd_lit], by simp [upd_lit], rfl⟩
  rintro i σ m' ⟨hi, hc, h8, h7, h0, h1, rfl⟩
  have F := (aand @h8 @h7); refine tF ?_; (try clear F)
  refine AW.condD (p := i < l.length) (by simp [upd_lit]) (fun hlt => ?_) (fun hge => ?_)
  · rw [List.drop_eq_getElem_cons hlt, idxF] at hc
    have F := (aand @h8 (aand @h0 (aand @h1 (aand @hlt @ints_getD)))); refine tF ?_; (try clear F)
    refine AW.condD (p := x = l[i]) (by simp [upd_lit]) (fun e => ?_) (fun e => ?_)
    · refine tS ?_
      rw [hc, if_pos e]
      exact Fin.gives Same.auto
    · have F := @h8; refine tF ?_; (try clear F)
      exact ⟨i + 1, ⟨by omega, by rw [hc, if_neg e]; rfl, by simp [upd_lit], by simp [upd_lit, h7], by simp [upd_lit, h0], by simp [upd_lit, h1], rfl⟩, by omega⟩
  · refine tS ?_
    rw [List.drop_eq_nil_of_le (by omega)] at hc
    rw [hc]
    exact Fin.gives Same.auto rfl (by simp [upd_lit, idxF])
theorem contains_ints (l : List Int) (x : Int) (hl : l.length < 1152921504606846976) : Gives Tryz.prog 154 [.list .no (ints l), vI x] (vB (decide (x ∈ l))) := by
  have e : decide (0 ≤ idxF x l 0) = decide (x ∈ l) := by rw [decide_eq_decide]; exact idxF_nn x l 0 (by omega)
  intro m
  refine ACall.of_aw Tryz.func154 Tryz.ntmps154 rfl rfl (by simp) ?_
  refine tS ?_
  refine tS1 fun K Kp hK hKp => ?_; refine Gives.at (index_ints l x hl) ?_; apply hK; clear hK hKp K Kp
  refine tS ?_
  exact Fin.gives Same.auto rfl (by simp [upd_lit, e])
theorem in_kinds (l : List Int) (v : GV) (hl : l.length < 1152921504606846976) (m : St) (n : Nat) (hn : n < m.nloc) (hm : m.loc n = some v.cells) : GivesAt Tryz.prog 153 [.list .no (ints l), .loc n 0] m (vB (decide (v.kind ∈ l))) := by
  refine ACall.of_aw Tryz.func153 Tryz.ntmps153 rfl rfl (by simp) ?_
  have F := (aand @hn @hm); refine tF ?_; (try clear F)
  refine tS1 fun K Kp hK hKp => ?_; refine Gives.at (contains_ints l v.kind hl) ?_; apply hK; clear hK hKp K Kp
  refine tS ?_
  exact Fin.gives Same.auto
@[simp] theorem bs57_1 (x : Int) (m : St) (K : PV → St → Prop) : abuildSlice Tryz.prog 57 1 [(0, vI x)] m K ↔ K (.list .full (ints [x])) m := by
  have h := abuildSlice_all (P := Tryz.prog) (t := 57) (s := 1) (e := 3) (z := .int .i64 0) (xs := [vI x]) (rs := ints [x]) (m := m) (K := K) (by simp) (by simp) (by simp) (by decide) (by decide) (by simp) (by simp) (cells1_ints [x])
  have e : (ints [x]).map PV.stripL = ints [x] := by simp [ints, PV.stripL, PV.strip]
  rw [e] at h
  exact h
@[simp] theorem bs57_4 (x y z w : Int) (m : St) (K : PV → St → Prop) : abuildSlice Tryz.prog 57 4 [(0, vI x), (1, vI y), (2, vI z), (3, vI w)] m K ↔ K (.list .full (ints [x, y, z, w])) m := by
  have h := abuildSlice_all (P := Tryz.prog) (t := 57) (s := 1) (e := 3) (z := .int .i64 0) (xs := [vI x, vI y, vI z, vI w]) (rs := ints [x, y, z, w]) (m := m) (K := K) (by simp) (by simp) (by simp) (by decide) (by decide) (by simp) (by simp) (cells1_ints [x, y, z, w])
  have e : (ints [x, y, z, w]).map PV.stripL = ints [x, y, z, w] := by simp [ints, PV.stripL, PV.strip]
  rw [e] at h
  exact h
def resE (e : Int) : ARes := if e = 0 then .ret (.tup []) else .pan (badE e)
def GivesR (P : Program) (f : FuncId) (args : List PV) (e : Int) : Prop := ∀ m, ACall P f args m (fun r' m' => r' = resE e ∧ m' = m)
theorem GivesR.ok {P : Program} {f : FuncId} {args : List PV} {e : Int} (h : GivesR P f args e) (h0 : e = 0) : Gives P f args (.tup []) := fun m => (h m).mono (by rintro _ _ ⟨rfl, rfl⟩; subst h0; exact ⟨rfl, rfl⟩)
theorem GivesR.bad {P : Program} {f : FuncId} {args : List PV} {e : Int} (h : GivesR P f args e) (h0 : e ≠ 0) : Dies P f args (badE e) := fun m => (h m).mono (by rintro _ _ ⟨rfl, rfl⟩; exact ⟨by rw [resE, if_neg h0], rfl⟩)
theorem fieldsF_iff (v : GV) : fieldsF v = true ↔ (0 ≤ v.kind ∧ v.kind ≤ 8) ∧ (v.num = 0 ∨ v.kind ∈ ([1, 3, 5, 6] : List Int)) ∧ ((v.neg = false ∧ v.abs = []) ∨ v.kind ∈ ([2, 3] : List Int)) ∧ (v.str.toList = [] ∨ v.kind ∈ ([4] : List Int)) ∧ (v.els = [] ∨ v.kind ∈ ([7, 8] : List Int)) := by
  unfold fieldsF
  simp only [Bool.or_eq_true, decide_eq_true_eq, Bool.and_eq_true, Bool.not_eq_true', decide_eq_false_iff_not, List.isEmpty_iff, List.mem_cons, List.not_mem_nil, or_false, List.length_pos_iff, Int.natCast_pos]
  by_cases h0 : v.kind < 0 ∨ 8 < v.kind
  · rw [if_pos h0]
    simp only [Bool.false_eq_true, false_iff]
    rintro ⟨h, _⟩; omega
  rw [if_neg h0]
  have hk : 0 ≤ v.kind ∧ v.kind ≤ 8 := by omega
  by_cases h1 : (decide (v.kind = 2) || decide (v.kind = 3)) = false ∧ (v.neg = true ∨ v.abs ≠ [])
  · rw [if_pos h1]
    simp only [Bool.false_eq_true, false_iff]
    rintro ⟨_, _, h, _⟩
    obtain ⟨q1, q2⟩ := h1
    simp at q1
    rcases h with ⟨h, h'⟩ | h | h
    · rcases q2 with q2 | q2
      · rw [h] at q2; cases q2
      · exact q2 h'
    · exact q1.1 h
    · exact q1.2 h
  rw [if_neg h1]
  have c2 : (v.neg = false ∧ v.abs = []) ∨ v.kind = 2 ∨ v.kind = 3 := by
    by_cases e : v.kind = 2 ∨ v.kind = 3
    · exact .inr e
    · refine .inl ?_
      have : ¬ (v.neg = true ∨ v.abs ≠ []) := fun q => h1 ⟨by simp; omega, q⟩
      simp at this; exact this
  by_cases h2 : (¬v.kind = 4 ∧ (!v.str.toList.isEmpty) = true) ∨ (¬v.kind = 7 ∧ ¬v.kind = 8) ∧ v.els ≠ []
  · rw [if_pos (by simpa using h2)]
    simp only [Bool.false_eq_true, false_iff]
    rintro ⟨_, _, _, h3, h4⟩
    simp at h2
    rcases h2 with ⟨q1, q2⟩ | ⟨q1, q2⟩
    · rcases h3 with h3 | h3
      · exact q2 h3
      · exact q1 h3
    · rcases h4 with h4 | h4
      · exact q2 h4
      · omega
  rw [if_neg (by simpa using h2)]
  simp at h2
  constructor
  · intro h
    refine ⟨hk, by simpa [or_assoc] using h, c2, ?_, ?_⟩
    · by_cases e : v.kind = 4
      · exact .inr e
      · exact .inl (h2.1 e)
    · by_cases e : v.kind = 7 ∨ v.kind = 8
      · exact .inr e
      · exact .inl (h2.2 (by omega) (by omega))
  · rintro ⟨_, h, _⟩
    rcases h with h | h | h | h | h <;> simp [h]
theorem val_fields (v : GV) (hv : v.ok) : GivesR Tryz.prog 126 [v.pv] (if fieldsF v then 0 else 2) := by
  have la := hv.abs
  have ll := hv.len
  have hi := fieldsF_iff v
  intro m
  have hbad : fieldsF v = false → resE (if fieldsF v then 0 else 2) = .pan (badE 2) := fun h => by rw [h]; rfl
  have hF : ∀ {p : Prop}, ¬ p → (fieldsF v = true → p) → fieldsF v = false := fun hp h => Bool.eq_false_iff.2 fun q => hp (h q)
  refine ACall.of_aw Tryz.func126 Tryz.ntmps126 rfl rfl (by simp) ?_
  by_cases hk : 0 ≤ v.kind ∧ v.kind ≤ 8
  rotate_left
  · rw [hbad (hF hk fun q => (hi.1 q).1)]
    by_cases hk0 : 0 ≤ v.kind
    · have hk8 : ¬ v.kind ≤ 8 := fun q => hk ⟨hk0, q⟩
      have F := (aand @hk0 @hk8); refine tFg ?_; (try clear F)
      refine tS1 fun K Kp hK hKp => ?_; refine Dies.at (need_bad 2) ?_; apply hKp; clear hK hKp K Kp; repeat (first | refine AExit.panT ?_ | refine AExit.panB ?_)
      exact Fin.dies Same.auto
    · have F := @hk0; refine tFg ?_; (try clear F)
      refine tS1 fun K Kp hK hKp => ?_; refine Dies.at (need_bad 2) ?_; apply hKp; clear hK hKp K Kp; repeat (first | refine AExit.panT ?_ | refine AExit.panB ?_)
      exact Fin.dies Same.auto
  have F := @hk; refine tFg ?_; (try clear F)
  refine tS1 fun K Kp hK hKp => ?_; refine Gives.at (need_ok 2) ?_; apply hK; clear hK hKp K Kp
  refine AList.nil ?_
  refine AExit.norT ?_
  refine AW.seq ?_
  refine AW.regionL ?_
  refine AList.cut (I := fun σ' m' => σ' 1 = .loc m.nloc 0 ∧ σ' 2 = .clo 153 [] [.loc m.nloc 0] ∧ m' = m.newLoc v.cells) ?_ ?_
  · refine tS ?_
    exact ⟨by simp [upd_lit], by simp [upd_lit], rfl⟩
  have hin := fun l hl => in_kinds l v hl (m.newLoc v.cells) m.nloc (by simp) (by simp)
  rintro σ _ ⟨h1, h2, rfl⟩
  refine AW.seq ?_
  refine AW.regionL ?_
  refine AList.cut (I := fun σ' m' => (v.num = 0 ∨ v.kind ∈ ([1, 3, 5, 6] : List Int)) ∧ σ' 1 = .loc m.nloc 0 ∧ σ' 2 = .clo 153 [] [.loc m.nloc 0] ∧ m' = m.newLoc v.cells) ?_ ?_
  · by_cases c : v.num = 0
    · have F := (aand @h1 @c); refine tFg ?_; (try clear F)
      refine tS1 fun K Kp hK hKp => ?_; refine Gives.at (need_ok 2) ?_; apply hK; clear hK hKp K Kp
      refine tS ?_
      exact ⟨.inl c, by simp [upd_lit, h1], by simp [upd_lit, h2], rfl⟩
    · have F := (aand @h1 (aand @h2 @c)); refine tFg ?_; (try clear F)
      refine AList.opT rfl (by decide) (by decide) ?_ ?_; (focus (first | rfl | (simp [↓upd_lit, Nat.add_assoc, h1, h2, c]; done))); intro K Kp hK hKp; simp [↓aop, ↓Ab.opv, ↓upd_lit, ↓map_ta, ↓List.map_cons, ↓List.map_nil, Nat.add_assoc, h1, h2, c]; (try (simp (disch := omega) only [wrap_i64]; try simp [↓aop, ↓Ab.opv, ↓upd_lit, ↓map_ta, ↓List.map_cons, ↓List.map_nil, Nat.add_assoc, h1, h2, c])); refine GivesAt.at (hin [1, 3, 5, 6] (by simp)) ?_; apply hK; clear hK hKp K Kp
      by_cases d : v.kind ∈ ([1, 3, 5, 6] : List Int)
      · rw [decide_eq_true d]
        refine tSg ?_
        refine tS1 fun K Kp hK hKp => ?_; refine Gives.at (need_ok 2) ?_; apply hK; clear hK hKp K Kp
        refine tS ?_
        exact ⟨.inr d, by simp [upd_lit, h1], by simp [upd_lit, h2], rfl⟩
      · rw [hbad (hF (p := v.num = 0 ∨ v.kind ∈ ([1, 3, 5, 6] : List Int)) (by simp only [not_or]; exact ⟨c, d⟩) fun q => (hi.1 q).2.1), decide_eq_false d]
        refine tSg ?_
        refine tS1 fun K Kp hK hKp => ?_; refine Dies.at (need_bad 2) ?_; apply hKp; clear hK hKp K Kp; repeat (first | refine AExit.panT ?_ | refine AExit.panB ?_)
        exact Fin.dies Same.auto
  clear h1 h2 σ
  rintro σ _ ⟨q1, h1, h2, rfl⟩
  refine AW.seq ?_
  refine AW.regionL ?_
  refine AList.cut (I := fun σ' m' => ((v.neg = false ∧ v.abs = []) ∨ v.kind ∈ ([2, 3] : List Int)) ∧ σ' 1 = .loc m.nloc 0 ∧ σ' 2 = .clo 153 [] [.loc m.nloc 0] ∧ m' = m.newLoc v.cells) ?_ ?_
  · have key : (v.neg = false ∧ v.abs = []) ∨ (v.neg = true ∧ True) ∨ (v.neg = false ∧ v.abs ≠ []) := by cases v.neg <;> simp [Classical.em]
    have key2 : ¬ (v.neg = false ∧ v.abs = []) → ¬ v.kind ∈ ([2, 3] : List Int) → fieldsF v = false := fun c d => hF (p := (v.neg = false ∧ v.abs = []) ∨ v.kind ∈ ([2, 3] : List Int)) (by rw [not_or]; exact ⟨c, d⟩) fun q => (hi.1 q).2.2.1
    rcases key with ⟨c, c'⟩ | ⟨c, c'⟩ | ⟨c, c'⟩
    · have F := (aand @h1 (aand @c @c')); refine tFg ?_; (try clear F)
      refine tS1 fun K Kp hK hKp => ?_; refine Gives.at (need_ok 2) ?_; apply hK; clear hK hKp K Kp
      refine tS ?_
      exact ⟨.inl ⟨c, c'⟩, by simp [upd_lit, h1], by simp [upd_lit, h2], rfl⟩
    all_goals (
      have F := (aand @h1 (aand @h2 (aand @c @c'))); refine tFg ?_; (try clear F)
      refine AList.opT rfl (by decide) (by decide) ?_ ?_; (focus (first | rfl | (simp [↓upd_lit, Nat.add_assoc, h1, h2, c, c']; done))); intro K Kp hK hKp; simp [↓aop, ↓Ab.opv, ↓upd_lit, ↓map_ta, ↓List.map_cons, ↓List.map_nil, Nat.add_assoc, h1, h2, c, c']; (try (simp (disch := omega) only [wrap_i64]; try simp [↓aop, ↓Ab.opv, ↓upd_lit, ↓map_ta, ↓List.map_cons, ↓List.map_nil, Nat.add_assoc, h1, h2, c, c'])); refine GivesAt.at (hin [2, 3] (by simp)) ?_; apply hK; clear hK hKp K Kp
      by_cases d : v.kind ∈ ([2, 3] : List Int)
      · rw [decide_eq_true d]
        refine tSg ?_
        refine tS1 fun K Kp hK hKp => ?_; refine Gives.at (need_ok 2) ?_; apply hK; clear hK hKp K Kp
        refine tS ?_
        exact ⟨.inr d, by simp [upd_lit, h1], by simp [upd_lit, h2], rfl⟩
      · rw [hbad (key2 (by rintro ⟨q1, q2⟩; first | (rw [q1] at c; cases c; done) | exact c' q2) d), decide_eq_false d]
        refine tSg ?_
        refine tS1 fun K Kp hK hKp => ?_; refine Dies.at (need_bad 2) ?_; apply hKp; clear hK hKp K Kp; repeat (first | refine AExit.panT ?_ | refine AExit.panB ?_)
        exact Fin.dies Same.auto)
  clear h1 h2 σ
  rintro σ _ ⟨q2, h1, h2, rfl⟩
  refine AW.seq ?_
  refine AW.regionL ?_
  refine AList.cut (I := fun σ' m' => (v.str.toList = [] ∨ v.kind ∈ ([4] : List Int)) ∧ σ' 1 = .loc m.nloc 0 ∧ σ' 2 = .clo 153 [] [.loc m.nloc 0] ∧ m' = m.newLoc v.cells) ?_ ?_
  · by_cases c : v.str.toList = []
    · have F := (aand @h1 @c); refine tFg ?_; (try clear F)
      refine tS1 fun K Kp hK hKp => ?_; refine Gives.at (need_ok 2) ?_; apply hK; clear hK hKp K Kp
      refine tS ?_
      exact ⟨.inl c, by simp [upd_lit, h1], by simp [upd_lit, h2], rfl⟩
    · have F := (aand @h1 (aand @h2 @c)); refine tFg ?_; (try clear F)
      refine AList.opT rfl (by decide) (by decide) ?_ ?_; (focus (first | rfl | (simp [↓upd_lit, Nat.add_assoc, h1, h2, c]; done))); intro K Kp hK hKp; simp [↓aop, ↓Ab.opv, ↓upd_lit, ↓map_ta, ↓List.map_cons, ↓List.map_nil, Nat.add_assoc, h1, h2, c]; (try (simp (disch := omega) only [wrap_i64]; try simp [↓aop, ↓Ab.opv, ↓upd_lit, ↓map_ta, ↓List.map_cons, ↓List.map_nil, Nat.add_assoc, h1, h2, c])); refine GivesAt.at (hin [4] (by simp)) ?_; apply hK; clear hK hKp K Kp
      by_cases d : v.kind ∈ ([4] : List Int)
      · rw [decide_eq_true d]
        refine tSg ?_
        refine tS1 fun K Kp hK hKp => ?_; refine Gives.at (need_ok 2) ?_; apply hK; clear hK hKp K Kp
        refine tS ?_
        exact ⟨.inr d, by simp [upd_lit, h1], by simp [upd_lit, h2], rfl⟩
      · rw [hbad (hF (p := v.str.toList = [] ∨ v.kind ∈ ([4] : List Int)) (by rw [not_or]; exact ⟨c, d⟩) fun q => (hi.1 q).2.2.2.1), decide_eq_false d]
        have F := @c; refine tFg ?_; (try clear F)
        have F := @c; refine tF1 fun K Kp hK hKp => ?_; (try clear F); refine Dies.at (need_bad 2) ?_; apply hKp; clear hK hKp K Kp; repeat (first | refine AExit.panT ?_ | refine AExit.panB ?_)
        exact Fin.dies Same.auto
  clear h1 h2 σ
  rintro σ _ ⟨q3, h1, h2, rfl⟩
  refine AW.regionL ?_
  have hgood : (v.els = [] ∨ v.kind ∈ ([7, 8] : List Int)) → resE (if fieldsF v then 0 else 2) = .ret (.tup []) := fun q4 => by rw [hi.2 ⟨hk, q1, q2, q3, q4⟩]; rfl
  by_cases c : v.els = []
  · have F := (aand @h1 @c); refine tFg ?_; (try clear F)
    refine tS1 fun K Kp hK hKp => ?_; refine Gives.at (need_ok 2) ?_; apply hK; clear hK hKp K Kp
    refine tS ?_
    rw [hgood (.inl c)]
    exact Fin.done Same.auto
  · have F := (aand @h1 (aand @h2 @c)); refine tFg ?_; (try clear F)
    refine AList.opT rfl (by decide) (by decide) ?_ ?_; (focus (first | rfl | (simp [↓upd_lit, Nat.add_assoc, h1, h2, c]; done))); intro K Kp hK hKp; simp [↓aop, ↓Ab.opv, ↓upd_lit, ↓map_ta, ↓List.map_cons, ↓List.map_nil, Nat.add_assoc, h1, h2, c]; (try (simp (disch := omega) only [wrap_i64]; try simp [↓aop, ↓Ab.opv, ↓upd_lit, ↓map_ta, ↓List.map_cons, ↓List.map_nil, Nat.add_assoc, h1, h2, c])); refine GivesAt.at (hin [7, 8] (by simp)) ?_; apply hK; clear hK hKp K Kp
    by_cases d : v.kind ∈ ([7, 8] : List Int)
    · rw [decide_eq_true d]
      refine tSg ?_
      refine tS1 fun K Kp hK hKp => ?_; refine Gives.at (need_ok 2) ?_; apply hK; clear hK hKp K Kp
      refine tS ?_
      rw [hgood (.inr d)]
      exact Fin.done Same.auto
    · rw [hbad (hF (p := v.els = [] ∨ v.kind ∈ ([7, 8] : List Int)) (by rw [not_or]; exact ⟨c, d⟩) fun q => (hi.1 q).2.2.2.2), decide_eq_false d]
      refine tSg ?_
      refine tS1 fun K Kp hK hKp => ?_; refine Dies.at (need_bad 2) ?_; apply hKp; clear hK hKp K Kp; repeat (first | refine AExit.panT ?_ | refine AExit.panB ?_)
      exact Fin.dies Same.auto
end Go.Proofs.YtgfadepkiejncaaGreat
namespace Go.Proofs.YtgfadepkiejncaaGreat
open Go.Ab Go.Sort
set_option maxHeartbeats 0
set_option maxRecDepth 100000
attribute [local irreducible] AW AList ACall DA AExit.then AExit.inBlock YCall DCall
def renN (xs ys : List Int) (k n : Int) : Int := if k = 5 ∧ n ≤ xs.length then xs[(n - 1).toNat]?.getD 0 else if k = 6 ∧ n < ys.length then ys[n.toNat]?.getD 0 else n
mutual
def ren (xs ys : List Int) : GV → GV
  | .mk k n ng a s l => if k = 8 then setV (setF (renL xs ys l)) else .mk k (renN xs ys k n) ng a s (renL xs ys l)
def renL (xs ys : List Int) : List GV → List GV
  | [] => []
  | v :: l => ren xs ys v :: renL xs ys l
end
theorem renL_map (xs ys : List Int) : ∀ l, renL xs ys l = l.map (ren xs ys)
  | [] => rfl
  | v :: l => congrArg (ren xs ys v :: ·) (renL_map xs ys l)
def numsOK (l : List Int) (n : Int) : Prop := ∀ x ∈ l, n ≤ x ∧ x < 9223372036854775808
theorem ren_node {k n n' : Int} {ng : Bool} {a : List Int} {s : ByteArray} {l l' : List GV} (h : nodeOK (.mk k n ng a s l)) (hl : l'.map GV.kind = l.map GV.kind) (hn : n' = n ∨ (k = 5 ∧ 1 ≤ n') ∨ (k = 6 ∧ 0 ≤ n')) :
    nodeOK (.mk k n' ng a s l') := by
  obtain ⟨h1, h2, h3, h4⟩ := h
  have hlen : l'.length = l.length := by simpa using congrArg List.length hl
  refine ⟨?_, ?_, h3, h4⟩
  · rw [fieldsF_iff] at h1 ⊢
    simp only [GV.kind, GV.num, GV.neg, GV.abs, GV.str, GV.els] at h1 ⊢
    obtain ⟨f1, f2, f3, f4, f5⟩ := h1
    refine ⟨f1, ?_, f3, f4, ?_⟩
    · rcases hn with rfl | ⟨rfl, _⟩ | ⟨rfl, _⟩
      · exact f2
      · exact .inr (by simp)
      · exact .inr (by simp)
    · rcases f5 with rfl | f5
      · exact .inl (List.length_eq_zero_iff.1 (by simpa using hlen))
      · exact .inr f5
  · rcases hn with rfl | ⟨rfl, h5⟩ | ⟨rfl, h5⟩
    · by_cases h7 : k = 7
      · subst h7
        have e1 : formF (.mk 7 n' ng a s l) = (decide (l = []) || !decide ((l[l.length - 1]?.getD default).kind = 0)) := rfl
        have e2 : formF (.mk 7 n' ng a s l') = (decide (l' = []) || !decide ((l'[l'.length - 1]?.getD default).kind = 0)) := rfl
        rw [e1] at h2
        rw [e2]
        have hk : ∀ i : Nat, i < l.length → (l'[i]?.getD default).kind = (l[i]?.getD default).kind := fun i hi => by
          have hi' : i < l'.length := by omega
          have := congrArg (fun z => z[i]?) hl
          simp only [List.getElem?_map, List.getElem?_eq_getElem hi, List.getElem?_eq_getElem hi', Option.map_some, Option.some.injEq] at this
          rw [List.getElem?_eq_getElem hi, List.getElem?_eq_getElem hi']
          exact this
        by_cases h0 : l = []
        · have : l' = [] := List.length_eq_zero_iff.1 (by rw [hlen, h0]; rfl)
          simp [this]
        · have hp : 0 < l.length := List.length_pos_iff.2 h0
          rw [hlen, hk _ (by omega)]
          simp only [Bool.or_eq_true, decide_eq_true_eq] at h2 ⊢
          rcases h2 with h2 | h2
          · exact absurd h2 h0
          · exact .inr h2
      · have e : formF (.mk k n' ng a s l') = formF (.mk k n' ng a s l) := by
          unfold formF
          simp only [show (GV.mk k n' ng a s l').kind = k from rfl, show (GV.mk k n' ng a s l).kind = k from rfl, if_neg h7]
          rfl
        rw [e]; exact h2
    · simp [formF, GV.kind, GV.num, h5]
    · simp [formF, GV.kind, GV.num, h5]
theorem set_good {l : List GV} (g : goods l) (hi : Inc l) (h0 : ∀ x ∈ l, x.kind ≠ 0) (hlen : l.length < 1000000) : good (setV l) := by
  refine ⟨?_, setV_ok g hlen⟩
  rw [fmd_eq]
  refine ⟨⟨?_, by rfl, by simp [GV.abs], by show (0 : Nat) ≤ 1000; omega⟩, fun _ => ⟨h0, (incr_none g).2 hi⟩, (fmdL_iff _).2 fun x hx => (g x hx).1⟩
  simp [fieldsF, GV.kind, GV.neg, GV.abs, GV.str, GV.els, GV.num]
theorem setF_good {l : List GV} (g : goods l) (hlen : l.length < 1000000) : good (setV (setF l)) := by
  obtain ⟨s1, s2, s3⟩ := setF_spec _ g
  exact set_good s2 s1 (fun x hx => ((s3 x).1 hx).2) (Nat.lt_of_le_of_lt (setF_len l) hlen)
theorem renN_ok {xs ys : List Int} (hx : numsOK xs 1) (hy : numsOK ys 0) {k n : Int} (h5 : k = 5 → 1 ≤ n) (h6 : k = 6 → 0 ≤ n) (hn : -9223372036854775808 ≤ n ∧ n < 9223372036854775808) :
    (renN xs ys k n = n ∨ (k = 5 ∧ 1 ≤ renN xs ys k n) ∨ (k = 6 ∧ 0 ≤ renN xs ys k n)) ∧ (-9223372036854775808 ≤ renN xs ys k n ∧ renN xs ys k n < 9223372036854775808) := by
  unfold renN
  split
  · rename_i h
    have hlt : (n - 1).toNat < xs.length := by have := h5 h.1; omega
    have := hx _ (List.getElem_mem hlt)
    rw [List.getElem?_eq_getElem hlt, Option.getD_some]
    exact ⟨.inr (.inl ⟨h.1, this.1⟩), by omega⟩
  · split
    · rename_i h
      have hlt : n.toNat < ys.length := by have := h6 h.1; omega
      have := hy _ (List.getElem_mem hlt)
      rw [List.getElem?_eq_getElem hlt, Option.getD_some]
      exact ⟨.inr (.inr ⟨h.1, this.1⟩), by omega⟩
    · exact ⟨.inl rfl, hn⟩
theorem node_num {v : GV} (h : nodeOK v) : (v.kind = 5 → 1 ≤ v.num) ∧ (v.kind = 6 → 0 ≤ v.num) := by
  have h2 := h.2.1
  constructor
  · intro hk
    simpa [formF, hk] using h2
  · intro hk
    simpa [formF, hk] using h2
mutual
theorem ren_ok {xs ys : List Int} (hx : numsOK xs 1) (hy : numsOK ys 0) : ∀ v : GV, good v → nodes v < 1000000 → good (ren xs ys v) ∧ nodes (ren xs ys v) ≤ nodes v ∧ deep (ren xs ys v) ≤ deep v ∧ (ren xs ys v).kind = v.kind
  | .mk k n ng a s l, g, hn => by
    have gl : goods l := g.els
    have hnl : nodesL l < 1000000 := by simp only [nodes] at hn; omega
    have hll := nodesL_len l
    obtain ⟨i1, i2, i3, i4⟩ := renL_ok hx hy l gl hnl
    have il : (renL xs ys l).length = l.length := by simpa using congrArg List.length i4
    rw [ren]
    by_cases h8 : k = 8
    · rw [if_pos h8]
      refine ⟨setF_good i1 (by omega), ?_, ?_, by rw [h8]; rfl⟩
      · have := setF_nodes _ i1
        simp only [nodes]; omega
      · have := setF_deep _ i1
        simp only [deep]; omega
    · rw [if_neg h8]
      have hf := g.1
      rw [fmd_eq] at hf
      have hnum := node_num hf.1
      have hok := g.2
      obtain ⟨r1, r2⟩ := renN_ok hx hy (k := k) (n := n) hnum.1 hnum.2 hok.num
      refine ⟨⟨?_, ?_⟩, ?_, ?_, rfl⟩
      · rw [fmd_eq]
        exact ⟨ren_node hf.1 i4 r1, fun h => absurd h h8, (fmdL_iff _).2 fun x hx' => (i1 x hx').1⟩
      · obtain ⟨o1, o2, o3, o4, o5, o6, o7⟩ := hok
        exact ⟨o1, r2, o3, o4, by rw [il]; exact o5, o6, (okL_iff _).2 fun x hx' => (i1 x hx').2⟩
      · simp only [nodes]; omega
      · simp only [deep]; omega
theorem renL_ok {xs ys : List Int} (hx : numsOK xs 1) (hy : numsOK ys 0) : ∀ l : List GV, goods l → nodesL l < 1000000 → goods (renL xs ys l) ∧ nodesL (renL xs ys l) ≤ nodesL l ∧ deepL (renL xs ys l) ≤ deepL l ∧ (renL xs ys l).map GV.kind = l.map GV.kind
  | [], _, _ => ⟨fun x hx => by simp [renL] at hx, Nat.le_refl _, Nat.le_refl _, rfl⟩
  | v :: l, g, hn => by
    simp only [nodesL] at hn
    obtain ⟨a1, a2, a3, a4⟩ := ren_ok hx hy v (g v (by simp)) (by omega)
    obtain ⟨b1, b2, b3, b4⟩ := renL_ok hx hy l (fun x hx => g x (by simp [hx])) (by omega)
    refine ⟨fun x hx => ?_, ?_, ?_, ?_⟩
    · rw [renL, List.mem_cons] at hx
      rcases hx with rfl | hx
      · exact a1
      · exact b1 x hx
    · simp only [renL, nodesL]; omega
    · simp only [renL, deepL]; omega
    · simp only [renL, List.map_cons, a4, b4]
end
end Go.Proofs.YtgfadepkiejncaaGreat
namespace Go.Ab
theorem AW.cuts4 {P : Program} {N : Nat} {I : (Nat → PV) → St → Prop} {Q : APost} {σ : Nat → PV} {m : St} {c1 c2 c3 c4 R : Code} (h2 : ∀ σ m, I σ m → AW P N R Q σ m) (h : AWs P N I Q [c1, c2, c3, c4] σ m) :
    AW P N (.seq c1 (.seq c2 (.seq c3 (.seq c4 R)))) Q σ m := AW.cuts R h2 [c1, c2, c3, c4] σ m h
end Go.Ab
namespace Go.Proofs.YtgfadepkiejncaaGreat
open Go.Ab Go.Sort
set_option maxHeartbeats 0
set_option maxRecDepth 100000
attribute [local irreducible] AW AList ACall DA AExit.then AExit.inBlock YCall DCall
abbrev intsP (l : List Int) : PV := .list .no (ints l)
theorem node_small {v : GV} (h : good v) : v.abs.length ≤ 1099511627776 := by have := h.1.node.2.2.1; omega
theorem ren_eq (xs ys : List Int) (v : GV) : ren xs ys v = if v.kind = 8 then setV (setF (renL xs ys v.els)) else .mk v.kind (renN xs ys v.kind v.num) v.neg v.abs v.str (renL xs ys v.els) := by cases v; rfl
theorem renL_take (xs ys : List Int) (l : List GV) (i : Nat) (h : i < l.length) : renL xs ys (l.take (i + 1)) = renL xs ys (l.take i) ++ [ren xs ys l[i]] := by
  rw [List.take_succ_eq_append_getElem h, renL_map, renL_map, List.map_append]; rfl
theorem renL_len (xs ys : List Int) (l : List GV) : (renL xs ys l).length = l.length := by rw [renL_map, List.length_map]
theorem node_set {v : GV} (h : good v) (h8 : v.kind = 8) : v.num = 0 ∧ v.neg = false ∧ v.abs = [] ∧ v.str = ⟨#[]⟩ := by
  have hf := node_fields h.1.node
  obtain ⟨f1, f2, f3, f4⟩ := hf
  refine ⟨f4 (by omega) (by omega) (by omega) (by omega), (f1 (by omega) (by omega)).1, (f1 (by omega) (by omega)).2, ?_⟩
  have h2 := f2 (by omega)
  have h3 : v.str.size = 0 := by
    rw [Lib.toList_data] at h2
    have := congrArg List.length h2
    simpa using this
  exact ByteArray.ext (Array.eq_empty_of_size_eq_zero h3)
theorem val_renamed1 (xs ys : List Int) (hx : numsOK xs 1) (hy : numsOK ys 0) (lx : xs.length < 1152921504606846976) (ly : ys.length < 1152921504606846976) (v : GV) (gv : good v) (hv : nodes v < 1000000) : Gives Tryz.prog 111 [v.pv, intsP xs, intsP ys] (ren xs ys v).pv := by
  induction hk : nodes v using Nat.strongRecOn generalizing v with
  | _ k ih =>
  subst hk
  have hn := nodes_eq v
  have hl := nodesL_len v.els
  obtain ⟨i1, i2, i3, i4⟩ := renL_ok hx hy v.els gv.els (by omega)
  have il := renL_len xs ys v.els
  have hnum := node_num gv.1.node
  intro m
  refine ACall.of_aw Tryz.func111 Tryz.ntmps111 rfl rfl (by simp) ?_
  refine AW.cuts4 (I := fun σ m' => σ 1 = intsP xs ∧ σ 2 = intsP ys ∧ σ 3 = .loc m.nloc 0 ∧ σ 6 = .loc (m.nloc + 1) 0 ∧ σ 7 = .loc (m.nloc + 2) 0 ∧ m'.loc m.nloc = some v.cells ∧ m'.loc (m.nloc + 1) = some zcV ∧
    m'.loc (m.nloc + 2) = some [vI v.kind, vI (renN xs ys v.kind v.num), vB v.neg, .list .no (limbs v.abs), vS v.str, .list .no (GV.rows v.els)] ∧ m'.nloc = m.nloc + 3 ∧ Same m m') ?_ ?_
  rotate_left
  · simp only [AWs]
    refine tS ?_
    refine tS1 fun K Kp hK hKp => ?_; refine Gives.at (clone22 v.abs (node_small gv)) ?_; apply hK; clear hK hKp K Kp
    have hc : ∀ n : Int, v.cells.set 1 (vI n) = [vI v.kind, vI n, vB v.neg, .list .no (limbs v.abs), vS v.str, .list .no (GV.rows v.els)] := fun n => by cases v; rfl
    have hc0 : v.cells.set 3 (.list .no (limbs v.abs)) = v.cells := by cases v; rfl
    have hcn : v.cells = [vI v.kind, vI v.num, vB v.neg, .list .no (limbs v.abs), vS v.str, .list .no (GV.rows v.els)] := cells_eq v
    by_cases h5 : v.kind = 5
    · have h1 := hnum.1 h5
      by_cases hle : v.num ≤ xs.length
      · obtain ⟨q, hq⟩ : ∃ q : Nat, v.num - 1 = q := ⟨(v.num - 1).toNat, by omega⟩
        have hlt : q < xs.length := by omega
        have hr : renN xs ys v.kind v.num = xs[q] := by
          rw [renN, if_pos ⟨h5, hle⟩, hq]; simp [hlt]
        have F := (aand @h5 @hc0); refine tFg ?_; (try clear F)
        have F := (aand @h5 (aand @hc0 @hle)); refine tFa ?_; (try clear F)
        have F := (aand @h5 (aand @hc0 (aand @hq (aand @hlt @ints_getD)))); refine tF ?_; (try clear F)
        exact ⟨by simp [upd_lit], by simp [upd_lit], by simp [upd_lit], by simp [upd_lit], by simp [upd_lit], by simp [Nat.add_assoc], by simp, by rw [hr]; simp [hc, h5], by simp, Same.auto⟩
      · have hr : renN xs ys v.kind v.num = v.num := by
          rw [renN, if_neg (fun h => hle h.2), if_neg (fun h => by omega)]
        have F := (aand @h5 @hc0); refine tFg ?_; (try clear F)
        have F := (aand @h5 (aand @hc0 @hle)); refine tFa ?_; (try clear F)
        have F := (aand @h5 @hc0); refine tFa ?_; (try clear F)
        exact ⟨by simp [upd_lit], by simp [upd_lit], by simp [upd_lit], by simp [upd_lit], by simp [upd_lit], by simp [Nat.add_assoc], by simp, by rw [hr]; simp [← hcn], by simp, Same.auto⟩
    by_cases h6 : v.kind = 6
    · have h1 := hnum.2 h6
      by_cases hle : v.num < ys.length
      · obtain ⟨q, hq⟩ : ∃ q : Nat, v.num = q := ⟨v.num.toNat, by omega⟩
        have hlt : q < ys.length := by omega
        have hr : renN xs ys v.kind v.num = ys[q] := by
          rw [renN, if_neg (fun h => h5 h.1), if_pos ⟨h6, hle⟩, hq]; simp [hlt]
        have F := (aand @h5 @hc0); refine tFg ?_; (try clear F)
        have F := (aand @h5 @hc0); refine tFa ?_; (try clear F)
        have F := (aand @h6 @hc0); refine tFg ?_; (try clear F)
        have F := (aand @h6 (aand @hc0 @hle)); refine tFa ?_; (try clear F)
        have F := (aand @h6 (aand @hc0 (aand @hq (aand @hlt @ints_getD)))); refine tF ?_; (try clear F)
        exact ⟨by simp [upd_lit], by simp [upd_lit], by simp [upd_lit], by simp [upd_lit], by simp [upd_lit], by simp [Nat.add_assoc], by simp, by rw [hr]; simp [hc, h6], by simp, Same.auto⟩
      · have hr : renN xs ys v.kind v.num = v.num := by
          rw [renN, if_neg (fun h => h5 h.1), if_neg (fun h => hle h.2)]
        have F := (aand @h5 @hc0); refine tFg ?_; (try clear F)
        have F := (aand @h5 @hc0); refine tFa ?_; (try clear F)
        have F := (aand @h6 @hc0); refine tFg ?_; (try clear F)
        have F := (aand @h6 (aand @hc0 @hle)); refine tFa ?_; (try clear F)
        exact ⟨by simp [upd_lit], by simp [upd_lit], by simp [upd_lit], by simp [upd_lit], by simp [upd_lit], by simp [Nat.add_assoc], by simp, by rw [hr]; simp [← hcn], by simp, Same.auto⟩
    · have hr : renN xs ys v.kind v.num = v.num := by
        rw [renN, if_neg (fun h => h5 h.1), if_neg (fun h => h6 h.1)]
      have F := (aand @h5 @hc0); refine tFg ?_; (try clear F)
      have F := (aand @h5 @hc0); refine tFa ?_; (try clear F)
      have F := (aand @h6 @hc0); refine tFg ?_; (try clear F)
      have F := (aand @h6 @hc0); refine tFa ?_; (try clear F)
      exact ⟨by simp [upd_lit], by simp [upd_lit], by simp [upd_lit], by simp [upd_lit], by simp [upd_lit], by simp [Nat.add_assoc], by simp, by rw [hr]; simp [← hcn], by simp, Same.auto⟩
  · rintro σ m' ⟨t1, t2, t3, t6, t7, g0, g1, g2, n1, sm⟩
    have q0 : m.nloc < m'.nloc := by omega
    have q1 : m.nloc + 1 < m'.nloc := by omega
    have q2 : m.nloc + 2 < m'.nloc := by omega
    obtain ⟨N, hN⟩ : ∃ N, N = renN xs ys v.kind v.num := ⟨_, rfl⟩
    rw [← hN] at g2
    have F := (aand @t7 (aand @g2 (aand @q2 (aand @t3 (aand @g0 @q0))))); refine tF ?_; (try clear F)
    refine AW.nilC (m := m'.setLoc (m.nloc + 2) ([vI v.kind, vI N, vB v.neg, .list .no (limbs v.abs), vS v.str, .v (.slice none 0 0)])) (n := m.nloc + 2) (i := 5) (cs := [vI v.kind, vI N, vB v.neg, .list .no (limbs v.abs), vS v.str, .v (.slice none 0 0)]) q2 (by rw [setLoc_loc, if_pos rfl]) (by rfl) ?_
    rw [setLoc_setLoc]
    simp only [List.set]
    refine AW.loop (ι := Nat) (fun i σ m'' => i ≤ v.els.length ∧ (∃ o, m''.loc (m.nloc + 2) = some ([vI v.kind, vI N, vB v.neg, .list .no (limbs v.abs), vS v.str, .list o (GV.rows (renL xs ys (v.els.take i)))]) ∧ Ow m m'' o 6 i) ∧ m''.loc m.nloc = some v.cells ∧ m''.loc (m.nloc + 1) = some zcV ∧ m.nloc + 3 ≤ m''.nloc ∧ σ 56 = vI i ∧ σ 55 = vI v.els.length ∧ σ 54 = GV.pvs v.els ∧ σ 1 = intsP xs ∧ σ 2 = intsP ys ∧ σ 3 = .loc m.nloc 0 ∧ σ 6 = .loc (m.nloc + 1) 0 ∧ σ 7 = .loc (m.nloc + 2) 0) (fun i => v.els.length - i) 0 ?_ ?_
    · exact ⟨by simp, ⟨.full, by simp [GV.rows, renL], .full (sm.setLoc (by omega) _)⟩, by simp [g0], by simp [g1], by simp; omega, by simp [upd_lit], by simp [upd_lit], by simp [upd_lit], by simp [upd_lit, t1], by simp [upd_lit, t2], by simp [upd_lit, t3], by simp [upd_lit, t6], by simp [upd_lit, t7]⟩
    clear t1 t2 t3 t6 t7 g0 g1 g2 q0 q1 q2 n1 sm
    rintro i σ m' ⟨hi, ⟨o, g2, ow⟩, g0, g1, hnl, t56, t55, t54, t1, t2, t3, t6, t7⟩
    have q0 : m.nloc < m'.nloc := by omega
    have q1 : m.nloc + 1 < m'.nloc := by omega
    have q2 : m.nloc + 2 < m'.nloc := by omega
    by_cases hlt : i < v.els.length
    · have ht := renL_take xs ys v.els i hlt
      have hlr := renL_len xs ys (v.els.take i)
      have hlt' : (v.els.take i).length = i := by simp; omega
      have hg := nodes_get v.els i hlt
      have gx := gv.els _ (List.getElem_mem hlt)
      have hne : m.nloc + 2 ≠ m'.nloc := by omega
      have hn0' : m.nloc + 2 < m'.nloc + 1 := by omega
      have ow2 : Ow m ((m'.newLoc zcV).setLoc m'.nloc v.els[i].cells) o 6 i := ⟨(ow.1.newLoc _).setLoc (by have := ow.1.lloc; omega) _, ow.2⟩
      have F := (aand @t56 (aand @t55 @hlt)); refine tFa ?_; (try clear F)
      have F := (aand @t54 (aand @t56 (aand @hlt @rows_getD))); refine tF ?_; (try clear F)
      repeat (first | refine AW.seq ?_ | refine AW.block ?_ | refine AW.skip ?_ | refine AExit.norT ?_ | refine AExit.norB ?_ | refine AList.nil ?_)
      refine AW.draw [.S, .R, .R, .S, .S, .R, .S, .W, .S, .W] (by decide +kernel) ?_; have F := (aand @t1 (aand @t2 (aand @t7 (aand @g2 (aand @hne (aand @hn0' @hlt)))))); refine dST 0 ?_; refine dRT 1 ?_; refine dRT 2 ?_; refine dST 3 ?_; refine dST 4 ?_; refine dCT ((ih _ (by omega) v.els[i] gx (by omega) rfl)) 5 ?_; refine dST 6 ?_; (try clear F); refine DA.W (oi := ?oiw1) 7 ?aw1 ?bw1 ?cw1 ?dw1 ?ew1 ?fw1; (case aw1 => rfl); (case bw1 => decide +kernel); (case cw1 => rfl); (case dw1 => rfl); (case ew1 => decide); intro K Kp hK hKp; (simp [t7, upd_lit]; refine app25 (l' := [ren xs ys v.els[i]]) ow2 (by rw [renL_len]; simp; omega) (by rw [renL_len]; simp; omega) fun o' m'' ho' hs => hK _ _ ?_; clear hK hKp K Kp); have F := (aand @t1 (aand @t2 (aand @t7 (aand @g2 (aand @hne (aand @hn0' @hlt)))))); (try clear F)
      have q2'' : m.nloc + 2 < m''.nloc := by rw [hs.nloc]; simp; omega
      have g2'' : m''.loc (m.nloc + 2) = some ([vI v.kind, vI N, vB v.neg, .list .no (limbs v.abs), vS v.str, .list o (GV.rows (renL xs ys (v.els.take i)))]) := by rw [hs.loc]; simp [hne, g2]
      skip; have F := (aand @t7 (aand @g2'' @q2'')); refine dST 8 ?_; refine dW 9 ?_; (try clear F); first | refine dN ?_ | refine dB ?_ | refine DA.done (by decide +kernel) ?_
      have F := @t56; refine tF ?_; (try clear F)
      refine ⟨i + 1, ⟨by omega, ⟨o', by simp [ht], ⟨ho'.1.setLoc (by omega) _, ho'.2⟩⟩, ?_, ?_, by simp [hs.nloc]; omega, by simp [upd_lit], by simp [upd_lit, t55], by simp [upd_lit, t54], by simp [upd_lit, t1], by simp [upd_lit, t2], by simp [upd_lit, t3], by simp [upd_lit, t6], by simp [upd_lit, t7]⟩, by omega⟩
      · simp [hs.loc, g0, show m.nloc ≠ m'.nloc from by omega]
      · simp [hs.loc, g1, show m.nloc + 1 ≠ m'.nloc from by omega]
    · have e : i = v.els.length := by omega
      rw [e, List.take_length] at g2
      have F := (aand @t56 (aand @t55 @hlt)); refine tFa ?_; (try clear F)
      by_cases h8 : v.kind = 8
      · rw [ren_eq, if_pos h8]
        obtain ⟨z1, z2, z3, z4⟩ := node_set gv h8
        have hz : N = 0 := by rw [hN, renN, if_neg (fun h => by omega), if_neg (fun h => by omega), z1]
        have he : (setV (setF (renL xs ys v.els))).els = setF (renL xs ys v.els) := rfl
        have F := (aand @t3 (aand @g0 @q0)); refine tF ?_; (try clear F)
        have F := @h8; refine tFa ?_; (try clear F)
        have F := (aand @t7 (aand @g2 @q2)); refine tF ?_; (try clear F)
        refine tS1 fun K Kp hK hKp => ?_; refine Gives.at (val_sorted (renL xs ys v.els) i1 (by omega)) ?_; apply hK; clear hK hKp K Kp
        have F := (aand @t7 (aand @g2 (aand @q2 (aand @t6 (aand @g1 (aand @q1 @he)))))); refine tF ?_; (try clear F)
        exact Fin.givesC (p := .agg [vI v.kind, vI N, vB v.neg, .list .no (limbs v.abs), vS v.str, GV.pvs (setF (renL xs ys v.els))]) rfl (by simp [upd_lit, t6, q1]) ((ow.1.setLoc (by omega) _).setLoc (by omega) _) (by simp [hz, h8, z2, z3, z4, GV.cells, limbs])
      · rw [ren_eq, if_neg h8]
        have F := (aand @t3 (aand @g0 @q0)); refine tF ?_; (try clear F)
        have F := @h8; refine tFa ?_; (try clear F)
        have F := (aand @t7 (aand @g2 (aand @q2 (aand @t6 (aand @g1 @q1))))); refine tF ?_; (try clear F)
        exact Fin.givesC (p := .agg [vI v.kind, vI N, vB v.neg, .list .no (limbs v.abs), vS v.str, .list o (GV.rows (renL xs ys v.els))]) rfl (by simp [upd_lit, t6, q1]) (ow.1.setLoc (by omega) _) (by simp [hN, GV.cells])
end Go.Proofs.YtgfadepkiejncaaGreat
namespace Go.Proofs.YtgfadepkiejncaaGreat
open Go.Ab Go.Sort
set_option maxHeartbeats 0
set_option maxRecDepth 100000
theorem nodesL_mem : ∀ (l : List GV) (x : GV), x ∈ l → nodes x ≤ nodesL l
  | [], x, h => by simp at h
  | v :: l, x, h => by
    rcases List.mem_cons.1 h with rfl | h
    · simp [nodesL]
    · have := nodesL_mem l x h; simp [nodesL]; omega
abbrev selfInv (xs ys : List Int) : Prop := ∀ k n : Int, (k = 5 → 1 ≤ n) → (k = 6 → 0 ≤ n) → renN xs ys k (renN xs ys k n) = n
mutual
theorem ren_inv {xs ys : List Int} (hx : numsOK xs 1) (hy : numsOK ys 0) (hs : selfInv xs ys) : ∀ v : GV, good v → nodes v < 1000000 → ren xs ys (ren xs ys v) = v
  | .mk k n ng a s l, g, hn => by
    have gl : goods l := g.els
    have hnl : nodesL l < 1000000 := by simp only [nodes] at hn; omega
    have ih := renL_inv hx hy hs l gl hnl
    have hnum := node_num g.1.node
    obtain ⟨i1, i2, i3, i4⟩ := renL_ok hx hy l gl hnl
    by_cases h8 : k = 8
    · have hv := node_set g h8
      obtain ⟨z1, z2, z3, z4⟩ := hv
      simp only [GV.num, GV.neg, GV.abs, GV.str] at z1 z2 z3 z4
      have e1 : ren xs ys (.mk k n ng a s l) = setV (setF (renL xs ys l)) := by rw [ren, if_pos h8]
      have e2 : ren xs ys (setV (setF (renL xs ys l))) = setV (setF (renL xs ys (setF (renL xs ys l)))) := by rw [ren, if_pos rfl]
      rw [e1, e2]
      obtain ⟨s1, s2, s3⟩ := setF_spec _ i1
      have hno := set_nonom g h8
      have hin := set_Inc g h8
      simp only [GV.els] at hno hin
      have hnS : nodesL (setF (renL xs ys l)) < 1000000 := Nat.lt_of_le_of_lt (Nat.le_trans (setF_nodes _ i1) i2) hnl
      obtain ⟨j1, j2, j3, j4⟩ := renL_ok hx hy _ s2 hnS
      have key : l = setF (renL xs ys (setF (renL xs ys l))) := by
        refine setF_eq j1 hin fun z => ?_
        rw [renL_map xs ys (setF _), List.mem_map]
        constructor
        · intro hz
          refine ⟨⟨ren xs ys z, ?_, ih z hz⟩, hno z hz⟩
          have hk : (ren xs ys z).kind = z.kind := (ren_ok hx hy z (gl z hz) (Nat.lt_of_le_of_lt (nodesL_mem l z hz) hnl)).2.2.2
          refine (s3 _).2 ⟨?_, by rw [hk]; exact hno z hz⟩
          rw [renL_map, List.mem_map]
          exact ⟨z, hz, rfl⟩
        · rintro ⟨⟨y, hy', rfl⟩, _⟩
          have := ((s3 y).1 hy').1
          rw [renL_map, List.mem_map] at this
          obtain ⟨x, hx', rfl⟩ := this
          rw [ih x hx']
          exact hx'
      rw [← key, h8, z1, z2, z3, z4]
    · have e1 : ren xs ys (.mk k n ng a s l) = .mk k (renN xs ys k n) ng a s (renL xs ys l) := by rw [ren, if_neg h8]
      have e2 : ren xs ys (.mk k (renN xs ys k n) ng a s (renL xs ys l)) = .mk k (renN xs ys k (renN xs ys k n)) ng a s (renL xs ys (renL xs ys l)) := by rw [ren, if_neg h8]
      rw [e1, e2, hs k n hnum.1 hnum.2]
      congr 1
      rw [renL_map, renL_map, List.map_map]
      exact (List.map_congr_left fun z hz => ih z hz).trans (List.map_id _)
theorem renL_inv {xs ys : List Int} (hx : numsOK xs 1) (hy : numsOK ys 0) (hs : selfInv xs ys) : ∀ l : List GV, goods l → nodesL l < 1000000 → ∀ z ∈ l, ren xs ys (ren xs ys z) = z
  | [], _, _, z, hz => by simp at hz
  | v :: l, g, hn, z, hz => by
    simp only [nodesL] at hn
    rcases List.mem_cons.1 hz with e | hz
    · rw [e]; exact ren_inv hx hy hs v (g v (by simp)) (by omega)
    · exact renL_inv hx hy hs l (fun x hx => g x (by simp [hx])) (by omega) z hz
end
theorem ren_same {xs ys : List Int} (hx : numsOK xs 1) (hy : numsOK ys 0) (hs : selfInv xs ys) {v : GV} (g : good v) (hn : nodes v < 1000000) : nodes (ren xs ys v) = nodes v ∧ deep (ren xs ys v) = deep v := by
  obtain ⟨a1, a2, a3, a4⟩ := ren_ok hx hy v g hn
  obtain ⟨b1, b2, b3, b4⟩ := ren_ok hx hy _ a1 (by omega)
  rw [ren_inv hx hy hs v g hn] at b2 b3
  omega
theorem pair_ren {xs ys : List Int} (hx : numsOK xs 1) (hy : numsOK ys 0) {v : GV} (g : good v) (hn : nodes v < 1000000) : pairB (ren xs ys v) = pairB v := by
  have hk := (ren_ok hx hy v g hn).2.2.2
  have hn' := nodes_eq v
  by_cases h7 : v.kind = 7
  · have e : (ren xs ys v).els = renL xs ys v.els := by rw [ren_eq, if_neg (by omega)]; rfl
    have i4 := (renL_ok hx hy v.els g.els (by omega)).2.2.2
    have il := renL_len xs ys v.els
    rw [Bool.eq_iff_iff, pairB_iff, pairB_iff, hk, e]
    constructor
    · rintro ⟨_, a, b, e2, h1, h2⟩
      rw [e2] at il i4
      match v.els, il, i4 with
      | [c, d], _, i4 =>
        simp at i4
        exact ⟨h7, c, d, rfl, by rw [← i4.1]; exact h1, by rw [← i4.2]; exact h2⟩
    · rintro ⟨_, a, b, e2, h1, h2⟩
      rw [e2] at i4 ⊢
      simp [renL] at i4
      exact ⟨h7, _, _, rfl, by rw [i4.1]; exact h1, by rw [i4.2]; exact h2⟩
  · have h1 : pairB v = false := by simp [pairB, h7]
    have h2 : pairB (ren xs ys v) = false := by simp [pairB, hk, h7]
    rw [h1, h2]
theorem map_ren {xs ys : List Int} (hx : numsOK xs 1) (hy : numsOK ys 0) {v : GV} (g : good v) (hn : nodes v < 1000000) : mapB (ren xs ys v) = mapB v := by
  have hk := (ren_ok hx hy v g hn).2.2.2
  have hn' := nodes_eq v
  by_cases h8 : v.kind = 8
  · have e : (ren xs ys v).els = setF (renL xs ys v.els) := by rw [ren_eq, if_pos h8]; rfl
    obtain ⟨i1, i2, i3, i4⟩ := renL_ok hx hy v.els g.els (by omega)
    obtain ⟨s1, s2, s3⟩ := setF_spec _ i1
    have hno := set_nonom g h8
    have hnm : ∀ x ∈ v.els, nodes x < 1000000 := fun x hx' => by have := nodesL_mem v.els x hx'; omega
    rw [mapB, mapB, hk, e, decide_eq_true h8, Bool.true_and, Bool.true_and, Bool.eq_iff_iff, List.all_eq_true, List.all_eq_true]
    constructor
    · intro h x hx'
      rw [← pair_ren hx hy (g.els x hx') (hnm x hx')]
      refine h _ ((s3 _).2 ⟨?_, ?_⟩)
      · rw [renL_map, List.mem_map]; exact ⟨x, hx', rfl⟩
      · rw [(ren_ok hx hy x (g.els x hx') (hnm x hx')).2.2.2]; exact hno x hx'
    · intro h y hy'
      have := ((s3 y).1 hy').1
      rw [renL_map, List.mem_map] at this
      obtain ⟨x, hx', rfl⟩ := this
      rw [pair_ren hx hy (g.els x hx') (hnm x hx')]
      exact h x hx'
  · have h1 : mapB v = false := by simp [mapB, h8]
    have h2 : mapB (ren xs ys v) = false := by simp [mapB, hk, h8]
    rw [h1, h2]
def sw (i k n : Int) : Int := if n = k then i else if n = i then k else n
theorem sw_sw (i k n : Int) : sw i k (sw i k n) = n := by unfold sw; by_cases h1 : n = k <;> by_cases h2 : n = i <;> simp [h1, h2] <;> (try split) <;> omega
def tb (n : Nat) (f : Nat → Int) : List Int := (List.range n).map f
theorem tb_len (n : Nat) (f : Nat → Int) : (tb n f).length = n := by simp [tb]
theorem tb_get (n : Nat) (f : Nat → Int) (j : Nat) (h : j < n) : (tb n f)[j]?.getD 0 = f j := by simp [tb, h]
abbrev atF1 (i k : Int) : List Int := tb 40 fun j => sw i k (j + 1)
abbrev prF1 (i k : Int) : List Int := tb 41 fun j => sw i k j
theorem sw_rng {i k n : Int} {a : Int} (h1 : a ≤ i) (h2 : a ≤ k) (h3 : a ≤ n) (i2 : i ≤ 40) (k2 : k ≤ 40) (n2 : n ≤ 1000) : a ≤ sw i k n ∧ sw i k n < 9223372036854775808 := by unfold sw; split <;> (try split) <;> omega
theorem ex_nums {i k : Int} (i1 : 1 ≤ i) (k1 : 1 ≤ k) (i2 : i ≤ 40) (k2 : k ≤ 40) : numsOK (atF1 i k) 1 ∧ numsOK (prF1 i k) 0 := by
  constructor
  · intro x hx
    simp only [atF1, tb, List.mem_map, List.mem_range] at hx
    obtain ⟨j, hj, rfl⟩ := hx
    exact sw_rng i1 k1 (by omega) i2 k2 (by omega)
  · intro x hx
    simp only [prF1, tb, List.mem_map, List.mem_range] at hx
    obtain ⟨j, hj, rfl⟩ := hx
    exact sw_rng (by omega) (by omega) (by omega) i2 k2 (by omega)
theorem ex_renN {i k : Int} (i1 : 1 ≤ i) (k1 : 1 ≤ k) (i2 : i ≤ 40) (k2 : k ≤ 40) (q n : Int) (h5 : q = 5 → 1 ≤ n) (h6 : q = 6 → 0 ≤ n) : renN (atF1 i k) (prF1 i k) q n = if q = 5 ∨ q = 6 then sw i k n else n := by
  unfold renN
  rw [tb_len, tb_len]
  by_cases q5 : q = 5
  · have := h5 q5
    rw [show (if q = 5 ∨ q = 6 then sw i k n else n) = sw i k n from if_pos (.inl q5)]
    by_cases hn : n ≤ 40
    · rw [if_pos ⟨q5, by simpa using hn⟩, tb_get _ _ _ (by omega)]
      congr 1; omega
    · rw [if_neg (fun h => hn (by simpa using h.2)), if_neg (fun h => by omega)]
      unfold sw; rw [if_neg (by omega), if_neg (by omega)]
  · rw [if_neg (fun h => q5 h.1)]
    by_cases q6 : q = 6
    · have := h6 q6
      rw [show (if q = 5 ∨ q = 6 then sw i k n else n) = sw i k n from if_pos (.inr q6)]
      by_cases hn : n < 41
      · rw [if_pos ⟨q6, by simpa using hn⟩, tb_get _ _ _ (by omega)]
        congr 1; omega
      · rw [if_neg (fun h => hn (by simpa using h.2))]
        unfold sw; rw [if_neg (by omega), if_neg (by omega)]
    · rw [if_neg (fun h => q6 h.1), if_neg (by omega)]
theorem ex_inv {i k : Int} (i1 : 1 ≤ i) (k1 : 1 ≤ k) (i2 : i ≤ 40) (k2 : k ≤ 40) (q n : Int) (h5 : q = 5 → 1 ≤ n) (h6 : q = 6 → 0 ≤ n) : renN (atF1 i k) (prF1 i k) q (renN (atF1 i k) (prF1 i k) q n) = n := by
  rw [ex_renN i1 k1 i2 k2 q n h5 h6]
  by_cases hq : q = 5 ∨ q = 6
  · rw [if_pos hq, ex_renN i1 k1 i2 k2 q _ (fun h => ?_) (fun h => ?_), if_pos hq, sw_sw]
    · have := h5 h
      unfold sw; split <;> (try split) <;> omega
    · have := h6 h
      unfold sw; split <;> (try split) <;> omega
  · rw [if_neg hq, ex_renN i1 k1 i2 k2 q n h5 h6, if_neg hq]
end Go.Proofs.YtgfadepkiejncaaGreat
namespace Go.Proofs.YtgfadepkiejncaaGreat
open Go.Ab Go.Sort
set_option maxHeartbeats 0
set_option maxRecDepth 100000
attribute [local irreducible] AW AList ACall DA AExit.then AExit.inBlock YCall DCall
end Go.Proofs.YtgfadepkiejncaaGreat
namespace Go.Proofs.YtgfadepkiejncaaGreat
open Go.Ab Go.Sort
set_option maxHeartbeats 0
set_option maxRecDepth 100000
attribute [local irreducible] AW AList ACall DA AExit.then AExit.inBlock YCall DCall
def fiF (p : Int → Bool) : List Int → Int → Int
  | [], _ => -1
  | x :: l, i => if p x then i else fiF p l (i + 1)
theorem fiF_nn (p : Int → Bool) : ∀ (l : List Int) (i : Int), 0 ≤ i → (0 ≤ fiF p l i ↔ l.any p = true)
  | [], i, _ => by simp [fiF]
  | x :: l, i, h => by
    have := fiF_nn p l (i + 1) (by omega)
    cases hx : p x <;> simp [fiF, hx, h] <;> simpa using this
theorem index_int (l : List Int) (p : Int → Bool) (f : FuncId) (hl : l.length < 1152921504606846976) (hf : ∀ x, Gives Tryz.prog f [vI x] (vB (p x))) : Gives Tryz.prog 150 [intsP l, .clo f [] []] (vI (fiF p l 0)) := by
  intro m
  refine ACall.of_aw Tryz.func150 Tryz.ntmps150 rfl rfl (by simp) ?_
  refine tS ?_
  refine AW.loop (ι := Nat) (fun i σ m' => i ≤ l.length ∧ fiF p (l.drop i) i = fiF p l 0 ∧ σ 8 = vI i ∧ σ 7 = vI l.length ∧ σ 0 = intsP l ∧ σ 1 = .clo f [] [] ∧ m' = m) (fun i => l.length - i) 0 ?_ ?_
  · exact ⟨by simp, rfl, by simp [upd_lit], by simp [upd_lit], by simp [upd_lit], by simp [upd_lit], rfl⟩
  rintro i σ m' ⟨hi, hF, t8, t7, t0, t1, rfl⟩
  by_cases hlt : i < l.length
  · rw [List.drop_eq_getElem_cons hlt, fiF] at hF
    have F := (aand @t8 (aand @t7 @hlt)); refine tFa ?_; (try clear F)
    have F := (aand @t0 (aand @t1 (aand @t8 (aand @hlt @ints_getD)))); refine tF ?_; (try clear F)
    have F := (aand @t0 (aand @t1 (aand @hlt @ints_getD))); refine tF1 fun K Kp hK hKp => ?_; (try clear F); refine Gives.at (hf l[i]) ?_; apply hK; clear hK hKp K Kp
    cases hp : p l[i] with
    | true =>
      rw [hp, if_pos rfl] at hF
      refine tSa ?_
      exact Fin.gives Same.auto rfl (by simp [upd_lit, ← hF])
    | false =>
      rw [hp, if_neg (by simp)] at hF
      refine tSa ?_
      have F := @t8; refine tF ?_; (try clear F)
      exact ⟨i + 1, ⟨by omega, hF, by simp [upd_lit], by simp [upd_lit, t7], by simp [upd_lit, t0], by simp [upd_lit, t1], rfl⟩, by omega⟩
  · have e : i = l.length := by omega
    rw [e, List.drop_length, fiF] at hF
    have F := (aand @t8 (aand @t7 @hlt)); refine tFa ?_; (try clear F)
    exact Fin.gives Same.auto rfl (by simp [upd_lit, ← hF])
theorem contains_int (l : List Int) (p : Int → Bool) (f : FuncId) (hl : l.length < 1152921504606846976) (hf : ∀ x, Gives Tryz.prog f [vI x] (vB (p x))) : Gives Tryz.prog 108 [intsP l, .clo f [] []] (vB (l.any p)) := by
  have e : decide (0 ≤ fiF p l 0) = l.any p := by rw [Bool.eq_iff_iff, decide_eq_true_eq]; exact fiF_nn p l 0 (by omega)
  intro m
  refine ACall.of_aw Tryz.func108 Tryz.ntmps108 rfl rfl (by simp) ?_
  refine tS ?_
  refine tS1 fun K Kp hK hKp => ?_; refine Gives.at (index_int l p f hl hf) ?_; apply hK; clear hK hKp K Kp
  refine tS ?_
  exact Fin.gives Same.auto rfl (by simp [upd_lit, ← e])
theorem clo109 (x : Int) : Gives Tryz.prog 109 [vI x] (vB (decide (x < 1))) := by
  intro m
  refine ACall.of_aw Tryz.func109 Tryz.ntmps109 rfl rfl (by simp) ?_
  refine tS ?_
  exact Fin.gives Same.auto
theorem clo110 (x : Int) : Gives Tryz.prog 110 [vI x] (vB (decide (x < 0))) := by
  intro m
  refine ACall.of_aw Tryz.func110 Tryz.ntmps110 rfl rfl (by simp) ?_
  refine tS ?_
  exact Fin.gives Same.auto
def argB (xs ys : List Int) : Bool := (xs.any fun x => decide (x < 1)) || (ys.any fun x => decide (x < 0))
theorem val_renamed (xs ys : List Int) (hx : numsOK xs 1) (hy : numsOK ys 0) (hb : argB xs ys = false) (lx : xs.length < 1152921504606846976) (ly : ys.length < 1152921504606846976) (v : GV) (gv : good v) (hv : nodes v < 1000000) : Gives Tryz.prog 59 [v.pv, intsP xs, intsP ys] (outP (ren xs ys v) 0) := by
  have h1 := contains_int xs _ 109 lx clo109
  have h2 := contains_int ys _ 110 ly clo110
  rw [argB, Bool.or_eq_false_iff] at hb
  rw [hb.1] at h1
  rw [hb.2] at h2
  intro m
  refine ACall.of_aw Tryz.func59 Tryz.ntmps59 rfl rfl (by simp) ?_
  refine tS ?_
  refine tS1 fun K Kp hK hKp => ?_; refine Gives.at (h1) ?_; apply hK; clear hK hKp K Kp
  refine tSg ?_
  refine tSc (h2) ?_
  refine tSa ?_
  refine tS1 fun K Kp hK hKp => ?_; refine Gives.at (val_renamed1 xs ys hx hy lx ly v gv hv) ?_; apply hK; clear hK hKp K Kp
  refine tS ?_
  exact Fin.gives2 Same.auto (by simp [ResP, ResL, resV, upd_lit, show Tryz.f59.results.toList = [.cell 6 27, .tmp 7] from rfl])
end Go.Proofs.YtgfadepkiejncaaGreat
namespace Go.Proofs.YtgfadepkiejncaaGreat
open Go.Ab
set_option maxHeartbeats 0
set_option maxRecDepth 100000
attribute [local irreducible] AW AList ACall DA AExit.then AExit.inBlock YCall DCall
theorem backward (a : List Int) : Gives Tryz.prog 168 [.list .no (limbs a)] (.clo 185 [] [.ro [.list .no (limbs a)]]) := by
  intro m
  refine ACall.of_aw Tryz.func168 Tryz.ntmps168 rfl rfl (by simp) ?_
  refine tSn ?_
  refine AW.frz (n := m.nloc) (d := 2) (cs := [.list .no (limbs a)]) (by simp) (by simp) ?_
  refine tS ?_
  exact Fin.gives ((Same.newLoc (Same.refl m) _).dropLoc (Nat.le_refl _))
def backYs (a : List Int) : List (List PV) := (List.range a.length).map fun (i : Nat) => [vI ((a.length : Int) - 1 - i), vW (a[a.length - 1 - i]?.getD 0)]
theorem back_iter {n b : Nat} {m0 : St} (a : List Int) (la : a.length < 1152921504606846976) {I : Nat → St → Prop} (y : Yields Tryz.prog n b m0 (backYs a) I) (m : St) (hI : I 0 m) (hb : b ≤ m.nloc) :
    ACall Tryz.prog 185 [.yld n, .ro [.list .no (limbs a)]] m (fun r m' => r = .ret (.tup []) ∧ I a.length m' ∧ Only b m m' ∧ m'.nloc = m.nloc) := by
  refine ACall.of_aw Tryz.func185 Tryz.ntmps185 rfl rfl (by simp) ?_
  refine tS ?_
  refine AW.loop (ι := Nat) (fun i σ m' => i ≤ a.length ∧ I i m' ∧ Only b m m' ∧ m'.nloc = m.nloc ∧ σ 3 = vI ((a.length : Int) - 1 - i) ∧ σ 1 = .ro [.list .no (limbs a)] ∧ σ 0 = .yld n) (fun i => a.length - i) 0 ?_ ?_
  · exact ⟨by simp, hI, Only.refl b m, rfl, by simp [upd_lit], by simp [upd_lit], by simp [upd_lit]⟩
  rintro i σ m' ⟨hi, hIi, oi, ni, h3, h1, h0⟩
  have F := (aand @h3 (aand @h1 @h0)); refine tF ?_; (try clear F)
  refine AW.condD (p := i < a.length) (by simp [upd_lit]; omega) (fun hlt => ?_) (fun hge => ?_)
  · obtain ⟨j, hj⟩ : ∃ j : Nat, a.length = i + 1 + j := ⟨a.length - (i + 1), by omega⟩
    have e1 : (a.length : Int) - 1 - i = (j : Int) := by omega
    have ej : j < a.length := by omega
    have e2 : a.length - 1 - i = j := by omega
    have e3 : (j : Int) < a.length := by omega
    rw [e1] at h3
    have F := (aand @h3 (aand @h1 (aand @h0 (aand @ej (aand @limbs_getD @e3))))); refine tF ?_; (try clear F)
    refine AList.op (by decide) ?_; intro K Kp hK hKp; simp [upd_lit, h0]
    have hc := y.call i (by simpa [backYs] using hlt) m' (by omega) hIi
    simp only [backYs, List.getElem_map, List.getElem_range, e1, e2, List.getElem?_eq_getElem ej, Option.getD_some] at hc
    refine hc.mono ?_
    rintro _ m1 ⟨rfl, hI2, o2, n2⟩
    apply hK; clear hK hKp K Kp
    refine tS ?_
    refine AW.cond (t := false) (by simp [upd_lit]) (fun h => by cases h) (fun _ => ?_)
    have F := @h3; refine tF ?_; (try clear F)
    exact ⟨i + 1, ⟨by omega, hI2, oi.trans o2, by omega, by simp [upd_lit]; omega, by simp [upd_lit, h1], by simp [upd_lit, h0]⟩, by omega⟩
  · refine tS ?_
    have e : i = a.length := by omega
    subst e
    obtain ⟨m'', l1, l2, l3, l4⟩ := y.leaves hb hI hIi oi
    exact ⟨.tup [], m'', ⟨[], rfl, rfl⟩, .inr ⟨l1.lv, by simp⟩, by simp, l2, l3, l4⟩
def restJ (a : List Int) : Nat → Int
  | 0 => 0
  | j + 1 => (restJ a j * 4294967296 + a[a.length - 1 - j]?.getD 0) % 10
theorem restJ_range (a : List Int) : ∀ j, 0 ≤ restJ a j ∧ restJ a j < 10
  | 0 => by simp [restJ]
  | j + 1 => by simp only [restJ]; omega
theorem restJ_at (a : List Int) : ∀ j, j ≤ a.length → restAt a (a.length - j) (restJ a j) = restAt a a.length 0
  | 0, _ => rfl
  | j + 1, h => by
    have ih := restJ_at a j (by omega)
    rw [show a.length - j = (a.length - (j + 1)) + 1 from by omega, restAt] at ih
    rw [← ih, restJ, List.getD_eq_getElem?_getD, show a.length - 1 - j = a.length - (j + 1) from by omega]
theorem val_tens (n : Bool) (a : List Int) (la : a.length < 1152921504606846976) (ha : limbOK a) : Gives Tryz.prog 155 [intv n a] (vB (tensF a)) := by
  have hF : tensF a = decide (restJ a a.length = 0) := by
    have := restJ_at a a.length (Nat.le_refl _)
    rw [Nat.sub_self, restAt] at this
    unfold tensF
    rw [← this]; simp
  intro m
  refine ACall.of_aw Tryz.func155 Tryz.ntmps155 rfl rfl (by simp) ?_
  refine tS ?_
  refine tS1 fun K Kp hK hKp => ?_; refine Gives.at (backward a) ?_; apply hK; clear hK hKp K Kp
  refine tS ?_
  refine AW.rangeFunc (f := 185) (first := []) (caps := [.ro [.list .no (limbs a)]]) (by simp [upd_lit]) (fun fn => ?_)
  generalize hmm : ((m.newLoc [vB n, .list .no (limbs a)]).newLoc [PV.v (Value.int .u64 0)]).setLoc (m.nloc + 1) [PV.v (Value.int .u64 0)] = mm
  have n1 : mm.nloc = m.nloc + 2 := by rw [← hmm]; rfl
  have sm : Same m mm := by rw [← hmm]; exact Same.auto
  have g1 : mm.loc (m.nloc + 1) = some [PV.v (Value.int .u64 0)] := by rw [← hmm]; simp
  clear hmm
  generalize hL : LoopA.mk _ _ _ _ _ _ _ _ = L
  refine ACall.mono (back_iter a la (Yields.ofVar (L := L) (P := Tryz.prog) (c := m.nloc + 1) (mm := mm) (f := fun j => [PV.v (Value.int .u64 (restJ a j))]) (by rw [n1]; omega) rfl (by rw [← hL]) (by rw [← hL]) ?_ ?_ ?_ ?_) _ ?_ (by simp)) ?_
  · intro x hx
    obtain ⟨y, _, rfl⟩ := List.mem_map.1 hx
    rw [← hL]; rfl
  · rw [← hL]; intro t ht; simp at ht; rcases ht with rfl | rfl
    · exact (by decide : (9 : Nat) < 19)
    · exact (by decide : (10 : Nat) < 19)
  · intro j a t; exact ⟨trivial, trivial⟩
  · intro j hj m' hI
    have hj' : j < a.length := by simpa [backYs] using hj
    have e1 : m'.loc (m.nloc + 1) = some [PV.v (Value.int .u64 (restJ a j))] := by rw [hI.loc _ (by rw [n1]; omega)]; simp
    have e2 : m.nloc + 1 < m'.nloc := by have := hI.lo'; rw [n1] at this; omega
    have hr := restJ_range a j
    have hx := getD_ok ha (a.length - 1 - j)
    have u1 : IntKind.u64.wrap (restJ a j * 4294967296) = restJ a j * 4294967296 := wrap_u64 _ (by omega) (by omega)
    have u2 : IntKind.u64.wrap (a[a.length - 1 - j]?.getD 0) = a[a.length - 1 - j]?.getD 0 := wrap_u64 _ (by omega) (by omega)
    have u3 : IntKind.u64.wrap (restJ a j * 4294967296 + a[a.length - 1 - j]?.getD 0) = restJ a j * 4294967296 + a[a.length - 1 - j]?.getD 0 := wrap_u64 _ (by omega) (by omega)
    have u4 : (restJ a j * 4294967296 + a[a.length - 1 - j]?.getD 0).tmod 10 = restJ a (j + 1) := by rw [restJ, Int.tmod_eq_emod_of_nonneg (by omega)]
    subst hL
    simp only [backYs, List.getElem_map, List.getElem_range, parm]
    refine tS ?_
    refine ⟨rfl, ?_⟩
    have F := (aand @e1 (aand @e2 (aand @u1 (aand @u2 (aand @u3 @u4))))); refine tF ?_; (try clear F)
    exact ⟨rfl, _, rfl, by simp [setL]⟩
  · refine ⟨by simp, by simp, fun i hi => ?_, fun i hi => rfl, fun i hi => rfl, rfl, rfl, rfl, rfl⟩
    by_cases e : i = m.nloc + 1
    · subst e; simp [g1, n1, restJ]
    · simp [e]
  · rintro _ m' ⟨rfl, hI, ho, hn'⟩
    refine ⟨_, _, rfl, by rw [hn']; simp, by rw [hI.lp _ (by simp)]; simp; rfl, by rw [← hL]; simp, by rw [← hL], ?_⟩
    have e1 : m'.loc (m.nloc + 1) = some [PV.v (Value.int .u64 (restJ a a.length))] := by rw [hI.loc _ (by rw [n1]; omega)]; simp
    have e2 : m.nloc + 1 < m'.nloc := by have := hI.lo'; rw [n1] at this; omega
    have F := (aand @e1 @e2); refine tF ?_; (try clear F)
    rw [hF]
    refine Fin.gives ?_
    have hs := hI.lo'
    rw [n1] at hs
    refine Same.mk (by have := sm.lloc; simp; omega) (by simp [hI.ntok]; exact sm.ltok) (fun i hi => ?_) (fun k hk => ?_) (fun i hi => ?_) (fun i hi => ?_) (fun k cs h1 h2 hc => (congrFun hI.arr k).trans (sm.getA h1 h2 hc))
    · simp; rw [hI.loc i (by rw [n1]; omega)]; simp [show i ≠ m.nloc + 1 from by omega, n1, show i ≠ m.nloc + 2 from by omega]; exact sm.get hi
    · simp [hI.top, hI.wd]; exact ⟨(sm.top k hk).1.symm, (sm.top k hk).2.symm⟩
    · simp; rw [if_neg (by omega), hI.lp i (by rw [n1]; omega)]; simp [n1, show i ≠ m.nloc + 2 from by omega]; exact sm.getL hi
    · rw [show (m'.dropLp mm.nloc).it = m'.it from rfl, hI.it i (by rw [n1]; omega)]; simp [upd_lit, St.newLp, n1, show i ≠ m.nloc + 2 from by omega]; exact sm.getI hi
end Go.Proofs.YtgfadepkiejncaaGreat
namespace Go.Ab
@[simp] theorem setIt_nloc (m : St) (n : Nat) (s : ByteArray) (i : Nat) : (m.setIt n s i).nloc = m.nloc := rfl
theorem Same.newIt {m m' : St} (h : Same m m') (s : ByteArray) (i : Nat) : Same m (m'.newIt s i) :=
  Same.trans h (Same.mk (Nat.le_succ _) (Nat.le_refl _) (fun n hn => upd_ne _ _ _ _ (by omega)) (fun _ _ => ⟨rfl, rfl⟩) (fun n hn => upd_ne _ _ _ _ (by omega)) (fun n hn => upd_ne _ _ _ _ (by omega)) (fun _ _ _ _ h => h))
theorem Same.setIt {m m' : St} (h : Same m m') {n : Nat} (hn : m.nloc ≤ n) (s : ByteArray) (i : Nat) : Same m (m'.setIt n s i) :=
  Same.mk h.lloc h.ltok (fun i hi => h.get hi) (fun k hk => ⟨(h.top k hk).1.symm, (h.top k hk).2.symm⟩) (fun n hn => h.getL hn) (fun j hj => by show upd m'.it n _ j = _; rw [upd_ne _ _ _ _ (by omega)]; exact h.getI hj) (fun k cs hk hd hc => h.getA hk hd hc)
end Go.Ab
namespace Go.Proofs.YtgfadepkiejncaaGreat
open Go.Ab
set_option maxHeartbeats 0
set_option maxRecDepth 100000
attribute [local irreducible] AW AList ACall DA AExit.then AExit.inBlock YCall DCall
def badR (r : Int) : Bool := !decide (r = 10) && (decide (r < 32) || decide (126 < r))
theorem val_rune (r : Int) : Gives Tryz.prog 157 [.v (.int .i32 r)] (vB (badR r)) := by
  intro m
  refine ACall.of_aw Tryz.func157 Tryz.ntmps157 rfl rfl (by simp) ?_
  by_cases h1 : r = 10
  · have F := @h1; refine tFg ?_; (try clear F)
    exact Fin.gives Same.auto rfl (by simp [upd_lit, badR, h1])
  by_cases h2 : r < 32
  · have F := (aand @h1 @h2); refine tFg ?_; (try clear F)
    exact Fin.gives Same.auto rfl (by simp [upd_lit, badR, h1, h2])
  · have F := (aand @h1 @h2); refine tFg ?_; (try clear F)
    exact Fin.gives Same.auto rfl (by simp [upd_lit, badR, h1, h2])
theorem decodeN_big (n b0 b1 b2 b3 : Nat) (h : 128 ≤ b0) : 128 ≤ (Lib.decodeN n b0 b1 b2 b3).1 := by
  unfold Lib.decodeN
  repeat' split
  all_goals first | omega | (simp; done) | (simp; omega)
theorem byteAt_get (s : ByteArray) (i : Nat) : byteAt s i = ((s.get! i).toNat : Int) := by
  unfold byteAt
  congr 2
  simp [ByteArray.get!, List.getD, Array.getElem!_eq_getD]; rfl
theorem dec_bad (s : ByteArray) (i : Nat) : badR ((Utf8.decode s i).1 : Int) = !textB (byteAt s i) ∧ (textB (byteAt s i) = true → (Utf8.decode s i).2 = 1) := by
  rw [Lib.decode_at, byteAt_get]
  generalize (s.get! i).toNat = b0
  by_cases h : b0 < 128
  · have e : Lib.decodeN (s.size - i) b0 (s.get! (i + 1)).toNat (s.get! (i + 2)).toNat (s.get! (i + 3)).toNat = (b0, 1) := by unfold Lib.decodeN; rw [if_pos h]
    rw [e]
    refine ⟨?_, fun _ => rfl⟩
    simp only [badR, textB, Bool.not_not]
    rw [Bool.and_comm]
  · have := decodeN_big (s.size - i) b0 (s.get! (i + 1)).toNat (s.get! (i + 2)).toNat (s.get! (i + 3)).toNat (by omega)
    have e1 : textB (b0 : Int) = false := by
      simp [textB]; omega
    rw [e1]
    refine ⟨?_, fun q => by cases q⟩
    simp [badR]; omega
def fb (s : ByteArray) : Nat → Nat → Int
  | 0, _ => -1
  | k + 1, i => if textB (byteAt s i) = true then fb s k (i + 1) else i
theorem fb_nn (s : ByteArray) : ∀ k i, 0 ≤ fb s k i ↔ ∃ j, i ≤ j ∧ j < i + k ∧ textB (byteAt s j) = false
  | 0, i => by simp [fb]; intro x h1 h2; omega
  | k + 1, i => by
    simp only [fb]
    by_cases h : textB (byteAt s i) = true
    · rw [if_pos h, fb_nn s k (i + 1)]
      constructor
      · rintro ⟨j, h1, h2, h3⟩; exact ⟨j, by omega, by omega, h3⟩
      · rintro ⟨j, h1, h2, h3⟩
        refine ⟨j, ?_, by omega, h3⟩
        rcases Nat.lt_or_eq_of_le h1 with h1 | h1
        · exact h1
        · subst h1; rw [h] at h3; cases h3
    · rw [if_neg h]
      exact ⟨fun _ => ⟨i, by omega, by omega, Bool.eq_false_iff.2 h⟩, fun _ => by omega⟩
theorem index_func (s : ByteArray) (ls : s.size < 1152921504606846976) : Gives Tryz.prog 186 [vS s, .clo 157 [] [], vB true] (vI (fb s s.size 0)) := by
  intro m
  refine ACall.of_aw Tryz.func186 Tryz.ntmps186 rfl rfl (by simp) ?_
  refine tS ?_
  refine AList.opK (by decide) ?_; intro K Kp hK hKp
  refine op_range (s := s) rfl (by simp) (by simp [opv, upd_lit]) ?_
  apply hK; clear hK hKp K Kp
  refine tS ?_
  refine AW.loop (ι := Nat) (fun i σ m' => i ≤ s.size ∧ fb s s.size 0 = fb s (s.size - i) i ∧ σ 10 = .loc m.nloc 0 ∧ σ 1 = .clo 157 [] [] ∧ σ 2 = vB true ∧ m'.it m.nloc = some (s, i) ∧ m.nloc < m'.nloc ∧ Same m m') (fun i => s.size - i) 0 ?_ ?_
  · exact ⟨by simp, rfl, by simp [upd_lit], by simp [upd_lit], by simp [upd_lit], upd_same _ _ _, Nat.lt_succ_self _, (Same.refl m).newIt _ _⟩
  rintro i σ m' ⟨hi, hc, h10, h1, h2, hit, hn, sm⟩
  refine AW.seq ?_
  refine AW.regionL ?_
  refine AList.opK (by decide) ?_; intro K Kp hK hKp
  refine op_next (n := m.nloc) (s := s) (i := i) rfl (by simp [opv, h10]) hn hit (fun hlt => ?_) (fun hge => ?_)
  · apply hK; clear hK hKp K Kp
    obtain ⟨hb, hw⟩ := dec_bad s i
    obtain ⟨k, hk⟩ : ∃ k, s.size - i = k + 1 := ⟨s.size - i - 1, by omega⟩
    rw [hk, fb] at hc
    have F := (aand @h1 @h2); refine tFa ?_; (try clear F)
    refine tS1 fun K Kp hK hKp => ?_; refine Gives.at (val_rune ((Utf8.decode s i).1 : Int)) ?_; apply hK; clear hK hKp K Kp
    refine tS ?_
    rw [hb]
    by_cases ht : textB (byteAt s i) = true
    · have F := (aand @ht @h2); refine tFa ?_; (try clear F)
      rw [if_pos ht] at hc
      rw [hw ht]
      exact ⟨i + 1, ⟨by omega, by rw [hc]; congr 1; omega, by simp [upd_lit, h10], by simp [upd_lit, h1], by simp [upd_lit, h2], upd_same _ _ _, hn, sm.setIt (Nat.le_refl _) _ _⟩, by omega⟩
    · have ht' := Bool.eq_false_iff.2 ht
      have F := (aand @ht' @h2); refine tFa ?_; (try clear F)
      rw [if_neg ht] at hc
      rw [hc]
      exact Fin.gives (sm.setIt (Nat.le_refl _) _ _)
  · apply hK; clear hK hKp K Kp
    refine tSa ?_
    rw [hc, show s.size - i = 0 from by omega]
    exact Fin.gives sm rfl (by simp [upd_lit, fb])
theorem contains_func (s : ByteArray) (ls : s.size < 1152921504606846976) : Gives Tryz.prog 156 [vS s, .clo 157 [] []] (vB (!textF s)) := by
  have e : decide (0 ≤ fb s s.size 0) = !textF s := by
    cases h : textF s with
    | true =>
      rw [textF, List.all_eq_true] at h
      rw [Bool.not_true, decide_eq_false_iff_not, fb_nn]
      rintro ⟨j, _, h2, h3⟩
      have := h j (by simp; omega)
      rw [this] at h3; cases h3
    | false =>
      rw [Bool.not_false, decide_eq_true_eq, fb_nn]
      rw [textF] at h
      rw [List.all_eq_false] at h
      obtain ⟨j, hj, h⟩ := h
      exact ⟨j, by omega, by simpa using hj, Bool.eq_false_iff.2 h⟩
  have hf : Gives Tryz.prog 169 [vS s, .clo 157 [] []] (vI (fb s s.size 0)) := by
    intro m
    refine ACall.of_aw Tryz.func169 Tryz.ntmps169 rfl rfl (by simp) ?_
    refine tS ?_
    refine tS1 fun K Kp hK hKp => ?_; refine Gives.at (index_func s ls) ?_; apply hK; clear hK hKp K Kp
    refine tS ?_
    exact Fin.gives Same.auto
  intro m
  refine ACall.of_aw Tryz.func156 Tryz.ntmps156 rfl rfl (by simp) ?_
  refine tS ?_
  refine tS1 fun K Kp hK hKp => ?_; refine Gives.at (hf) ?_; apply hK; clear hK hKp K Kp
  refine tS ?_
  exact Fin.gives Same.auto rfl (by simp [upd_lit, e])
end Go.Proofs.YtgfadepkiejncaaGreat
namespace Go.Proofs.YtgfadepkiejncaaGreat
open Go.Ab
set_option maxHeartbeats 0
set_option maxRecDepth 100000
attribute [local irreducible] AW AList ACall DA AExit.then AExit.inBlock YCall DCall
def contE (v : GV) : Int := if formF v = false then 2 else if ((v.kind = 2 ∨ v.kind = 3) ∧ 40 < v.abs.length) ∨ (v.kind = 4 ∧ 1000 < v.str.size) then 3 else 0
theorem contE_2 {v : GV} (h : formF v = false) : resE (contE v) = .pan (badE 2) := by rw [contE, if_pos h]; rfl
theorem contE_3 {v : GV} (h : formF v = true) (h2 : ((v.kind = 2 ∨ v.kind = 3) ∧ 40 < v.abs.length) ∨ (v.kind = 4 ∧ 1000 < v.str.size)) : resE (contE v) = .pan (badE 3) := by rw [contE, if_neg (by rw [h]; simp), if_pos h2]; rfl
theorem contE_0 {v : GV} (h : formF v = true) (h2 : ¬ (((v.kind = 2 ∨ v.kind = 3) ∧ 40 < v.abs.length) ∨ (v.kind = 4 ∧ 1000 < v.str.size))) : resE (contE v) = .ret (.tup []) := by rw [contE, if_neg (by rw [h]; simp), if_neg h2]; rfl
def numA (v : GV) : Bool := !((decide (0 < v.abs.length) && lastZ v.abs) || (decide (v.abs = []) && v.neg))
def numB (v : GV) : Bool := decide (v.kind = 2) || ((decide (1 ≤ v.num) && decide (v.num ≤ 20)) && (decide (v.num = 1) || !tensF v.abs))
theorem formF_num {v : GV} (h : v.kind = 2 ∨ v.kind = 3) : formF v = (numA v && numB v) := by
  unfold formF numA numB
  simp only
  rw [if_neg (by omega), if_neg (by omega), if_neg (by omega), if_pos h]
  generalize ((decide (0 < v.abs.length) && lastZ v.abs) || (decide (v.abs = []) && v.neg)) = q
  cases q with
  | true => simp
  | false =>
    rw [if_neg (by simp)]
    rcases h with h | h
    · simp [h]
    · simp [h]
theorem contents_num (v : GV) (hv : v.ok) (h : v.kind = 2 ∨ v.kind = 3) : GivesR Tryz.prog 127 [v.pv] (contE v) := by
  have la := hv.abs
  intro m
  refine ACall.of_aw Tryz.func127 Tryz.ntmps127 rfl rfl (by simp) ?_
  have hf := formF_num h
  have key : ∃ k : Int, v.kind = k ∧ (k = 2 ∨ k = 3) := ⟨v.kind, rfl, h⟩
  obtain ⟨k, hk, hk23⟩ := key
  have ek1 : ¬ k = 1 := by omega
  have ek5 : ¬ k = 5 := by omega
  have ek6 : ¬ k = 6 := by omega
  have hd2 : numA v = false ∨ numB v = false → resE (contE v) = .pan (badE 2) := fun q => contE_2 (by rw [hf]; rcases q with q | q <;> rw [q] <;> simp)
  rcases hk23 with rfl | rfl
  all_goals (
    have F := @hk; refine tFa ?_; (try clear F)
    refine AList.cut (I := fun σ' m' => numA v = true ∧ σ' 1 = .loc m.nloc 0 ∧ σ' 2 = vI v.abs.length ∧ m' = m.newLoc v.cells) ?_ ?_
    · by_cases ha : v.abs = []
      · have hl0 : v.abs.length = 0 := by rw [ha]; rfl
        cases hg : v.neg with
        | true =>
          rw [hd2 (.inl (by simp [numA, ha, hg]))]
          have F := (aand @ha (aand @hg @hl0)); refine tFg ?_; (try clear F)
          refine tS1 fun K Kp hK hKp => ?_; refine Dies.at (need_bad 2) ?_; apply hKp; clear hK hKp K Kp; repeat (first | refine AExit.panT ?_ | refine AExit.panB ?_)
          exact Fin.dies Same.auto
        | false =>
          have F := (aand @ha (aand @hg @hl0)); refine tFg ?_; (try clear F)
          refine tS1 fun K Kp hK hKp => ?_; refine Gives.at (need_ok 2) ?_; apply hK; clear hK hKp K Kp
          refine tS ?_
          exact ⟨by simp [numA, ha, hg], by simp [upd_lit], by simp [upd_lit, ha], rfl⟩
      · have hl : 0 < v.abs.length := List.length_pos_iff.2 ha
        obtain ⟨j, hj⟩ : ∃ j, v.abs.length = j + 1 := ⟨v.abs.length - 1, by omega⟩
        have ej : j < v.abs.length := by omega
        have e8 : (v.abs.length : Int) - 1 = (j : Int) := by omega
        have e9 : (0 : Int) < v.abs.length := by omega
        have hz : lastZ v.abs = decide (v.abs[j] = 0) := by simp [lastZ, hj, List.getElem?_eq_getElem ej]
        by_cases hz0 : v.abs[j] = 0
        · rw [hd2 (.inl (by simp [numA, hl, hz, hz0]))]
          have F := (aand @ha (aand @hl (aand @ej (aand @e8 (aand @e9 (aand @limbs_getD @hz0)))))); refine tFg ?_; (try clear F)
          refine tS1 fun K Kp hK hKp => ?_; refine Dies.at (need_bad 2) ?_; apply hKp; clear hK hKp K Kp; repeat (first | refine AExit.panT ?_ | refine AExit.panB ?_)
          exact Fin.dies Same.auto
        · have F := (aand @ha (aand @hl (aand @ej (aand @e8 (aand @e9 (aand @limbs_getD @hz0)))))); refine tFg ?_; (try clear F)
          refine tS1 fun K Kp hK hKp => ?_; refine Gives.at (need_ok 2) ?_; apply hK; clear hK hKp K Kp
          refine tS ?_
          exact ⟨by simp [numA, ha, hz, hz0], by simp [upd_lit], by simp [upd_lit], rfl⟩
    rintro σ _ ⟨hA, s1, s2, rfl⟩
    refine AW.seq ?_
    refine AW.regionL ?_
    refine AList.cut (I := fun σ' m' => numB v = true ∧ σ' 2 = vI v.abs.length ∧ m' = m.newLoc v.cells) ?_ ?_
    · first
        | (have hB : numB v = true := by simp [numB, hk]
           have F := (aand @s1 @hk); refine tFg ?_; (try clear F)
           refine tS1 fun K Kp hK hKp => ?_; refine Gives.at (need_ok 2) ?_; apply hK; clear hK hKp K Kp
           refine tS ?_
           exact ⟨hB, by simp [upd_lit, s2], rfl⟩)
        | (by_cases n1 : 1 ≤ v.num
           · by_cases n20 : v.num ≤ 20
             · by_cases ne : v.num = 1
               · have F := (aand @s1 (aand @hk (aand @n1 (aand @n20 @ne)))); refine tFg ?_; (try clear F)
                 refine tS1 fun K Kp hK hKp => ?_; refine Gives.at (need_ok 2) ?_; apply hK; clear hK hKp K Kp
                 refine tS ?_
                 exact ⟨by simp [numB, ne], by simp [upd_lit, s2], rfl⟩
               · have F := (aand @s1 (aand @hk (aand @n1 (aand @n20 @ne)))); refine tFg ?_; (try clear F)
                 have F := (aand @s1 (aand @hk (aand @n1 (aand @n20 @ne)))); refine tFc (val_tens v.neg v.abs hv.abs hv.limb) ?_; (try clear F)
                 cases ht : tensF v.abs with
                 | true =>
                   rw [hd2 (.inr (by simp [numB, hk, ne, ht]))]
                   have F := @ht; refine tFg ?_; (try clear F)
                   refine tS1 fun K Kp hK hKp => ?_; refine Dies.at (need_bad 2) ?_; apply hKp; clear hK hKp K Kp; repeat (first | refine AExit.panT ?_ | refine AExit.panB ?_)
                   exact Fin.dies Same.auto
                 | false =>
                   have F := @ht; refine tFg ?_; (try clear F)
                   refine tS1 fun K Kp hK hKp => ?_; refine Gives.at (need_ok 2) ?_; apply hK; clear hK hKp K Kp
                   refine tS ?_
                   exact ⟨by simp [numB, n1, n20, ht], by simp [upd_lit, s2], rfl⟩
             · rw [hd2 (.inr (by simp [numB, hk, n20]))]
               have F := (aand @s1 (aand @hk (aand @n1 @n20))); refine tFg ?_; (try clear F)
               refine tS1 fun K Kp hK hKp => ?_; refine Dies.at (need_bad 2) ?_; apply hKp; clear hK hKp K Kp; repeat (first | refine AExit.panT ?_ | refine AExit.panB ?_)
               exact Fin.dies Same.auto
           · rw [hd2 (.inr (by simp [numB, hk, n1]))]
             have F := (aand @s1 (aand @hk @n1)); refine tFg ?_; (try clear F)
             refine tS1 fun K Kp hK hKp => ?_; refine Dies.at (need_bad 2) ?_; apply hKp; clear hK hKp K Kp; repeat (first | refine AExit.panT ?_ | refine AExit.panB ?_)
             exact Fin.dies Same.auto)
    clear s1 s2 σ
    rintro σ _ ⟨hB, s2, rfl⟩
    have hform : formF v = true := by rw [hf, hA, hB]; rfl
    by_cases h40 : v.abs.length ≤ 40
    · have h40' : (v.abs.length : Int) ≤ 40 := by omega
      rw [contE_0 hform (by omega)]
      have F := (aand @s2 @h40'); refine tFa ?_; (try clear F)
      refine tS1 fun K Kp hK hKp => ?_; refine Gives.at (need_ok 3) ?_; apply hK; clear hK hKp K Kp
      refine tS ?_
      exact Fin.done Same.auto
    · have h40' : ¬ (v.abs.length : Int) ≤ 40 := by omega
      rw [contE_3 hform (.inl ⟨h, by omega⟩)]
      have F := (aand @s2 @h40'); refine tFa ?_; (try clear F)
      refine tS1 fun K Kp hK hKp => ?_; refine Dies.at (need_bad 3) ?_; apply hKp; clear hK hKp K Kp; repeat (first | refine AExit.panT ?_ | refine AExit.panB ?_)
      exact Fin.dies Same.auto)
theorem val_contents (v : GV) (hv : v.ok) : GivesR Tryz.prog 127 [v.pv] (contE v) := by
  have ll := hv.len
  have ls := hv.str
  by_cases h23 : v.kind = 2 ∨ v.kind = 3
  · exact contents_num v hv h23
  obtain ⟨k2, k3⟩ := not_or.1 h23
  intro m
  refine ACall.of_aw Tryz.func127 Tryz.ntmps127 rfl rfl (by simp) ?_
  by_cases k1 : v.kind = 1
  · have hf : formF v = (decide (v.num = 0) || decide (v.num = 1)) := by unfold formF; simp only; rw [if_pos k1]
    by_cases n0 : v.num = 0
    · rw [contE_0 (by rw [hf]; simp [n0]) (by omega)]
      have F := (aand @k1 @n0); refine tFa ?_; (try clear F)
      refine tS1 fun K Kp hK hKp => ?_; refine Gives.at (need_ok 2) ?_; apply hK; clear hK hKp K Kp
      refine tS ?_
      exact Fin.done Same.auto
    by_cases n1 : v.num = 1
    · rw [contE_0 (by rw [hf]; simp [n1]) (by omega)]
      have F := (aand @k1 @n1); refine tFa ?_; (try clear F)
      refine tS1 fun K Kp hK hKp => ?_; refine Gives.at (need_ok 2) ?_; apply hK; clear hK hKp K Kp
      refine tS ?_
      exact Fin.done Same.auto
    · rw [contE_2 (by rw [hf]; simp [n0, n1])]
      have F := (aand @k1 (aand @n0 @n1)); refine tFa ?_; (try clear F)
      refine tS1 fun K Kp hK hKp => ?_; refine Dies.at (need_bad 2) ?_; apply hKp; clear hK hKp K Kp; repeat (first | refine AExit.panT ?_ | refine AExit.panB ?_)
      exact Fin.dies Same.auto
  by_cases k5 : v.kind = 5
  · have hf : formF v = decide (1 ≤ v.num) := by unfold formF; simp only; rw [if_neg k1, if_pos k5]
    by_cases n0 : 1 ≤ v.num
    · rw [contE_0 (by rw [hf]; simp [n0]) (by omega)]
      have F := (aand @k5 @n0); refine tFa ?_; (try clear F)
      refine tS1 fun K Kp hK hKp => ?_; refine Gives.at (need_ok 2) ?_; apply hK; clear hK hKp K Kp
      refine tS ?_
      exact Fin.done Same.auto
    · rw [contE_2 (by rw [hf]; simp [n0])]
      have F := (aand @k5 @n0); refine tFa ?_; (try clear F)
      refine tS1 fun K Kp hK hKp => ?_; refine Dies.at (need_bad 2) ?_; apply hKp; clear hK hKp K Kp; repeat (first | refine AExit.panT ?_ | refine AExit.panB ?_)
      exact Fin.dies Same.auto
  by_cases k6 : v.kind = 6
  · have hf : formF v = decide (0 ≤ v.num) := by unfold formF; simp only; rw [if_neg k1, if_neg k5, if_pos k6]
    by_cases n0 : 0 ≤ v.num
    · rw [contE_0 (by rw [hf]; simp [n0]) (by omega)]
      have F := (aand @k6 @n0); refine tFa ?_; (try clear F)
      refine tS1 fun K Kp hK hKp => ?_; refine Gives.at (need_ok 2) ?_; apply hK; clear hK hKp K Kp
      refine tS ?_
      exact Fin.done Same.auto
    · rw [contE_2 (by rw [hf]; simp [n0])]
      have F := (aand @k6 @n0); refine tFa ?_; (try clear F)
      refine tS1 fun K Kp hK hKp => ?_; refine Dies.at (need_bad 2) ?_; apply hKp; clear hK hKp K Kp; repeat (first | refine AExit.panT ?_ | refine AExit.panB ?_)
      exact Fin.dies Same.auto
  by_cases k4 : v.kind = 4
  · have hf : formF v = textF v.str := by unfold formF; simp only; rw [if_neg k1, if_neg k5, if_neg k6, if_neg h23, if_pos k4]
    have F := @k4; refine tFa ?_; (try clear F)
    refine tS1 fun K Kp hK hKp => ?_; refine Gives.at (contains_func v.str ls) ?_; apply hK; clear hK hKp K Kp
    cases ht : textF v.str with
    | false =>
      rw [contE_2 (by rw [hf, ht])]
      have F := @ht; refine tF ?_; (try clear F)
      refine tS1 fun K Kp hK hKp => ?_; refine Dies.at (need_bad 2) ?_; apply hKp; clear hK hKp K Kp; repeat (first | refine AExit.panT ?_ | refine AExit.panB ?_)
      exact Fin.dies Same.auto
    | true =>
      have F := @ht; refine tF ?_; (try clear F)
      refine tS1 fun K Kp hK hKp => ?_; refine Gives.at (need_ok 2) ?_; apply hK; clear hK hKp K Kp
      by_cases hs : v.str.size ≤ 1000
      · have hs' : (v.str.size : Int) ≤ 1000 := by omega
        rw [contE_0 (by rw [hf, ht]) (by omega)]
        have F := @hs'; refine tFa ?_; (try clear F)
        refine tS1 fun K Kp hK hKp => ?_; refine Gives.at (need_ok 3) ?_; apply hK; clear hK hKp K Kp
        refine tS ?_
        exact Fin.done Same.auto
      · have hs' : ¬ (v.str.size : Int) ≤ 1000 := by omega
        rw [contE_3 (by rw [hf, ht]) (.inr ⟨k4, by omega⟩)]
        have F := @hs'; refine tFa ?_; (try clear F)
        refine tS1 fun K Kp hK hKp => ?_; refine Dies.at (need_bad 3) ?_; apply hKp; clear hK hKp K Kp; repeat (first | refine AExit.panT ?_ | refine AExit.panB ?_)
        exact Fin.dies Same.auto
  by_cases k7 : v.kind = 7
  · have hf : formF v = (decide (v.els = []) || !decide ((v.els[v.els.length - 1]?.getD default).kind = 0)) := by unfold formF; simp only; rw [if_neg k1, if_neg k5, if_neg k6, if_neg h23, if_neg k4, if_pos k7]
    by_cases he : v.els = []
    · have hl0 : v.els.length = 0 := by rw [he]; rfl
      rw [contE_0 (by rw [hf]; simp [he]) (by omega)]
      have F := (aand @k7 (aand @he @hl0)); refine tFa ?_; (try clear F)
      refine tS1 fun K Kp hK hKp => ?_; refine Gives.at (need_ok 2) ?_; apply hK; clear hK hKp K Kp
      refine tS ?_
      exact Fin.done Same.auto
    · have hl : 0 < v.els.length := List.length_pos_iff.2 he
      obtain ⟨j, hj⟩ : ∃ j, v.els.length = j + 1 := ⟨v.els.length - 1, by omega⟩
      have ej : j < v.els.length := by omega
      have e8 : (v.els.length : Int) - 1 = (j : Int) := by omega
      have e0 : (v.els[v.els.length - 1]?.getD default) = v.els[j] := by simp [hj, List.getElem?_eq_getElem ej]
      rw [e0] at hf
      by_cases hz : (v.els[j]).kind = 0
      · rw [contE_2 (by rw [hf]; simp [he, hz])]
        have F := (aand @k7 (aand @he (aand @ej (aand @e8 (aand @rows_getD @hz))))); refine tFa ?_; (try clear F)
        refine tS1 fun K Kp hK hKp => ?_; refine Dies.at (need_bad 2) ?_; apply hKp; clear hK hKp K Kp; repeat (first | refine AExit.panT ?_ | refine AExit.panB ?_)
        exact Fin.dies Same.auto
      · rw [contE_0 (by rw [hf]; simp [hz]) (by omega)]
        have F := (aand @k7 (aand @he (aand @ej (aand @e8 (aand @rows_getD @hz))))); refine tFa ?_; (try clear F)
        refine tS1 fun K Kp hK hKp => ?_; refine Gives.at (need_ok 2) ?_; apply hK; clear hK hKp K Kp
        refine tS ?_
        exact Fin.done Same.auto
  · rw [contE_0 (by unfold formF; simp only; rw [if_neg k1, if_neg k5, if_neg k6, if_neg h23, if_neg k4, if_neg k7]) (by omega)]
    have F := (aand @k1 (aand @k2 (aand @k3 (aand @k4 (aand @k5 (aand @k6 @k7)))))); refine tFa ?_; (try clear F)
    exact Fin.done Same.auto
end Go.Proofs.YtgfadepkiejncaaGreat
namespace Go.Ab
theorem Same.setBothK {m m' : St} {n : Nat} {a : List PV} (h : Same (m.setLoc n a) m') (b : List PV) : Same (m.setLoc n b) (m'.setLoc n b) :=
  Same.mk h.lloc h.ltok (fun i hi => by
    simp only [setLoc_loc]
    by_cases e : i = n
    · rw [if_pos e, if_pos e]
    · rw [if_neg e, if_neg e]; have := h.get (n := i) hi; rwa [setLoc_loc, if_neg e] at this) (fun k hk => ⟨(h.top k hk).1.symm, (h.top k hk).2.symm⟩) (fun i hi => h.getL hi) (fun i hi => h.getI hi) (fun k cs hk hd hc => h.getA hk hd hc)
theorem Same.unset {m : St} {n : Nat} {cs : List PV} (h : m.loc n = some cs) : Same (m.setLoc n cs) m :=
  Same.mk (Nat.le_refl _) (Nat.le_refl _) (fun i _ => by rw [setLoc_loc]; split; (rename_i e; rw [e, h]); rfl) (fun _ _ => ⟨rfl, rfl⟩) (fun _ _ => rfl) (fun _ _ => rfl) (fun _ _ _ _ h => h)
end Go.Ab
namespace Go.Proofs.YtgfadepkiejncaaGreat
open Go.Ab
set_option maxHeartbeats 0
set_option maxRecDepth 100000
attribute [local irreducible] AW AList ACall DA AExit.then AExit.inBlock YCall DCall
abbrev cnt (N : Int) : List PV := [vI 3000, vI 20, vI N]
def FolOK (v : GV) : Prop := ∀ (m : St) (n : Nat) (N d : Int), n < m.nloc → m.loc n = some (cnt N) → 0 ≤ N → (-4611686018427387904 ≤ d ∧ d < 4611686018427387904) →
  ACall Tryz.prog 83 [.loc n 0, v.pv, vI d] m (fun r m' => r = resE (folV v N 0 d).2 ∧ ∃ M : Int, m' = m.setLoc n (cnt M) ∧ ((folV v N 0 d).2 = 0 → M = (folV v N 0 d).1))
theorem fol_fin {m m' : St} {n : Nat} {e : Int} {M N' : Int} {σ : Nat → PV} {x : AExit} (hx : (x = .normal ∧ e = 0 ∧ M = N') ∨ (x = .pan (badE e) ∧ e ≠ 0)) (h : Same (m.setLoc n (cnt M)) m') :
    Fin Tryz.prog Tryz.f83 m (fun r m' => r = resE e ∧ ∃ M : Int, m' = m.setLoc n (cnt M) ∧ (e = 0 → M = N')) x σ m' := by
  have hl := (Leaves.ofSet h (by simp [PV.scL, PV.sc])).lv
  rcases hx with ⟨rfl, rfl, rfl⟩ | ⟨rfl, he⟩
  · exact ⟨.tup [], _, ⟨[], rfl, rfl⟩, .inr ⟨hl, by simp⟩, by simp [resE], M, rfl, fun _ => rfl⟩
  · exact ⟨_, .inr ⟨hl, by simp⟩, by simp [resE, he, PV.strip, PV.stripL], M, rfl, fun q => absurd q he⟩
theorem str_nil {s : ByteArray} (h : s.toList = []) : s.size = 0 := by
  rw [Lib.toList_data] at h
  have := congrArg List.length h
  simpa using this
theorem fields_lim {v : GV} (h : fieldsF v = true) : (((v.kind = 2 ∨ v.kind = 3) ∧ 40 < v.abs.length) ∨ (v.kind = 4 ∧ 1000 < v.str.size)) ↔ (40 < v.abs.length ∨ 1000 < v.str.size) := by
  obtain ⟨_, _, h2, h3, _⟩ := (fieldsF_iff v).1 h
  simp at h2 h3
  constructor
  · rintro (⟨_, q⟩ | ⟨_, q⟩)
    · exact .inl q
    · exact .inr q
  · rintro (q | q)
    · refine .inl ⟨?_, q⟩
      rcases h2 with h2 | h2
      · rw [h2.2] at q; simp at q
      · exact h2
    · refine .inr ⟨?_, q⟩
      rcases h3 with h3 | h3
      · rw [str_nil h3] at q; omega
      · exact h3
theorem fol_step (v : GV) (hv : v.ok) (ih : ∀ x ∈ v.els, FolOK x) : FolOK v := by
  intro m n N d hn hm hN hd
  have ll := hv.len
  rw [folV_eq, if_neg (by simp)]
  refine ACall.of_aw Tryz.func83 Tryz.ntmps83 rfl rfl (by simp) ?_
  have n1 : n ≠ m.nloc := by omega
  have n2 : n < m.nloc + 1 := by omega
  have n1' : m.nloc ≠ n := by omega
  have sm0 : Same (m.setLoc n (cnt N)) (m.newLoc v.cells) := (Same.unset hm).newLoc _
  refine tS ?_
  by_cases h1 : N < 3000
  rotate_left
  · rw [if_pos (by simp; omega)]
    refine AW.draw [.S, .S, .S, .R, .S, .S, .S, .S, .R, .S, .S, .S, .S, .S, .S, .S, .R, .S, .S, .W] (by decide +kernel) ?_; have F := (aand @n1 (aand @n2 (aand @hm @h1))); refine dST 0 ?_; refine dST 1 ?_; refine dST 2 ?_; refine dRT 3 ?_; refine dST 4 ?_; refine dST 5 ?_; refine dST 6 ?_; refine dST 7 ?_; refine dRT 8 ?_; refine dST 9 ?_; refine dST 10 ?_; refine dXxT 11 ?_; refine dXxT 12 ?_; refine dXxT 13 ?_; refine dXxT 14 ?_; refine dXxT 15 ?_; refine dXXT 16 ?_; refine dXxT 17 ?_; refine dST 18 ?_; (try clear F)
    refine DA.W 19 rfl (by decide +kernel) rfl rfl (by decide) ?_
    intro K Kp hK hKp
    simp [↓aop, ↓Ab.opv, ↓upd_lit]
    refine Dies.at (need_bad 3) (hKp _ _ fun σ => ?_)
    refine AExit.panT ?_
    exact fol_fin (.inr ⟨rfl, by decide⟩) sm0
  by_cases h2 : d ≤ 20
  rotate_left
  · rw [if_pos (by simp; omega)]
    refine AW.draw [.S, .S, .S, .R, .S, .S, .S, .S, .R, .S, .S, .S, .S, .S, .S, .S, .R, .S, .S, .W] (by decide +kernel) ?_; have F := (aand @n1 (aand @n2 (aand @hm (aand @h1 @h2)))); refine dST 0 ?_; refine dST 1 ?_; refine dST 2 ?_; refine dRT 3 ?_; refine dST 4 ?_; refine dST 5 ?_; refine dST 6 ?_; refine dST 7 ?_; refine dRT 8 ?_; refine dST 9 ?_; refine dST 10 ?_; refine dSGT 11 ?_; refine dSGT 12 ?_; refine dSGT 13 ?_; refine dSGT 14 ?_; refine dSGT 15 ?_; refine dRGT 16 ?_; refine dSGT 17 ?_; refine dST 18 ?_; (try clear F)
    refine DA.W 19 rfl (by decide +kernel) rfl rfl (by decide) ?_
    intro K Kp hK hKp
    simp [↓aop, ↓Ab.opv, ↓upd_lit]
    refine Dies.at (need_bad 3) (hKp _ _ fun σ => ?_)
    refine AExit.panT ?_
    exact fol_fin (.inr ⟨rfl, by decide⟩) sm0
  rw [if_neg (by simp; omega)]
  refine AW.draw [.S, .S, .S, .R, .S, .S, .S, .S, .R, .S, .S, .S, .S, .S, .S, .S, .R, .S, .S, .R] (by decide +kernel) ?_; have F := (aand @n1 (aand @n2 (aand @hm (aand @h1 @h2)))); refine dS 0 ?_; refine dS 1 ?_; refine dS 2 ?_; refine dR 3 ?_; refine dS 4 ?_; refine dS 5 ?_; refine dS 6 ?_; refine dS 7 ?_; refine dR 8 ?_; refine dS 9 ?_; refine dS 10 ?_; refine dSG 11 ?_; refine dSG 12 ?_; refine dSG 13 ?_; refine dSG 14 ?_; refine dSG 15 ?_; refine dRG 16 ?_; refine dSG 17 ?_; refine dS 18 ?_; refine dC ((need_ok 3)) 19 ?_; (try clear F); first | refine dN ?_ | refine dB ?_ | refine DA.done (by decide +kernel) ?_
  have F := (aand @n1 (aand @n2 @hm)); refine tF ?_; (try clear F)
  have sm1 : Same (m.setLoc n (cnt (N + 1))) ((m.newLoc v.cells).setLoc n (cnt (N + 1))) := sm0.setBothK _
  have hfields := val_fields v hv
  cases hf : fieldsF v with
  | false =>
    rw [if_pos (by simp)]
    rw [hf] at hfields
    have F := (aand @n1 (aand @n1' @n2)); refine tFn ?_; (try clear F)
    refine tS1 fun K Kp hK hKp => ?_; refine Dies.at (hfields.bad (by decide)) ?_; apply hKp; clear hK hKp K Kp; repeat (first | refine AExit.panT ?_ | refine AExit.panB ?_)
    exact fol_fin (.inr ⟨rfl, by decide⟩) sm1
  | true =>
  rw [hf] at hfields
  have F := (aand @n1 (aand @n1' @n2)); refine tFn ?_; (try clear F)
  refine tS1 fun K Kp hK hKp => ?_; refine Gives.at (hfields.ok rfl) ?_; apply hK; clear hK hKp K Kp
  have F := (aand @n1 (aand @n1' @n2)); refine tFn ?_; (try clear F)
  have hcont := val_contents v hv
  have hlim := fields_lim hf
  cases hfo : formF v with
  | false =>
    have e2 : contE v = 2 := by rw [contE, if_pos hfo]
    rw [e2] at hcont
    rw [if_pos (by simp)]
    refine tS1 fun K Kp hK hKp => ?_; refine Dies.at (hcont.bad (by decide)) ?_; apply hKp; clear hK hKp K Kp; repeat (first | refine AExit.panT ?_ | refine AExit.panB ?_)
    exact fol_fin (.inr ⟨rfl, by decide⟩) sm1
  | true =>
  rw [if_neg (by simp)]
  by_cases hli : 40 < v.abs.length ∨ 1000 < v.str.size
  · have e3 : contE v = 3 := by rw [contE, if_neg (by rw [hfo]; simp), if_pos (hlim.2 hli)]
    rw [e3] at hcont
    rw [if_pos (by simp; omega)]
    refine tS1 fun K Kp hK hKp => ?_; refine Dies.at (hcont.bad (by decide)) ?_; apply hKp; clear hK hKp K Kp; repeat (first | refine AExit.panT ?_ | refine AExit.panB ?_)
    exact fol_fin (.inr ⟨rfl, by decide⟩) sm1
  have e0 : contE v = 0 := by rw [contE, if_neg (by rw [hfo]; simp), if_neg (fun q => hli (hlim.1 q))]
  rw [e0] at hcont
  rw [if_neg (by simp; omega)]
  refine tS1 fun K Kp hK hKp => ?_; refine Gives.at (hcont.ok rfl) ?_; apply hK; clear hK hKp K Kp
  clear hfields hcont hlim hli e0
  have F := (aand @n1 (aand @n1' @n2)); refine tFn ?_; (try clear F)
  generalize hG : folL v.kind none v.els (N + 1) d = G
  refine AW.loop (ι := Nat) (fun i σ m' => i ≤ v.els.length ∧ σ 42 = vI i ∧ σ 41 = vI v.els.length ∧ σ 40 = GV.pvs v.els ∧ σ 4 = .loc m.nloc 0 ∧ σ 0 = .loc n 0 ∧ σ 2 = vI d ∧ m'.loc m.nloc = some v.cells ∧ m.nloc < m'.nloc ∧
    (∃ M, Same (m.setLoc n (cnt M)) m' ∧ 0 ≤ M ∧ G = folL v.kind (prevOf v.els i) (v.els.drop i) M d) ∧ (∀ j (h : j < v.els.length), j < i → fmd v.els[j])) (fun i => v.els.length - i) 0 ?_ ?_
  · exact ⟨by simp, by simp [upd_lit], by simp [upd_lit], by simp [upd_lit], by simp [upd_lit], by simp [upd_lit], by simp [upd_lit], by simp [n1.symm], by simp, ⟨N + 1, sm1, by omega, by simp [prevOf, hG]⟩, fun j _ h => by omega⟩
  clear hG sm0 sm1 hf hfo
  rintro i σ m' ⟨hi, h42, h41, h40, h4, h0, h2', hl, hnl, ⟨M, sm, hM, hF⟩, hfm⟩
  have n3 : n ≠ m'.nloc := by omega
  have n4 : n < m'.nloc + 1 := by omega
  have n5 : m.nloc ≠ m'.nloc := by omega
  have n6 : m.nloc < m'.nloc + 1 := by omega
  have hc : m'.loc n = some (cnt M) := by rw [sm.get (by simpa using hn)]; simp
  have F := (aand @h42 @h41); refine tF ?_; (try clear F)
  refine AW.condD (p := i < v.els.length) (by simp [upd_lit]) (fun hlt => ?_) (fun hge => ?_)
  rotate_left
  · refine tS ?_
    have e : i = v.els.length := by omega
    subst e
    rw [List.drop_length, folL] at hF
    subst hF
    exact fol_fin (.inl ⟨rfl, rfl, rfl⟩) sm
  obtain ⟨x, ex⟩ : ∃ x, x = v.els[i] := ⟨_, rfl⟩
  have ex' := ex.symm
  have hxe : x ∈ v.els := by rw [ex]; exact List.getElem_mem hlt
  have hx : x.ok := ok_els hv x hxe
  rw [List.drop_eq_getElem_cons hlt, folL, ← ex] at hF
  have F := (aand @h42 (aand @h40 (aand @h0 (aand @h2' (aand @hlt (aand @rows_getD @ex')))))); refine tF ?_; (try clear F)
  refine tS1 fun K Kp hK hKp => ?_
  refine ACall.mono (ih x hxe ((m'.newLoc _).setLoc m'.nloc x.cells) n M (d + 1) (by simp; omega) (by simp [n3, hc]) hM (by omega)) ?_
  rintro r m3 ⟨rfl, M1, rfl, hM1⟩
  have sm3 : Same (m.setLoc n (cnt M1)) (((m'.newLoc [PV.v (Value.int IntKind.i64 0), PV.v (Value.int IntKind.i64 0), PV.v (Value.bool false), PV.list Own.full [], PV.v (Value.string { data := #[] }), PV.list Own.full []]).setLoc m'.nloc x.cells).setLoc n (cnt M1)) := ((sm.newLoc _).setLoc sm.lloc _).setBothK _
  by_cases he : (folV x M 0 (d + 1)).2 = 0
  rotate_left
  · rw [if_pos he] at hF
    subst hF
    rw [resE, if_neg he]
    apply hKp; clear hK hKp K Kp
    repeat (first | refine AExit.panT ?_ | refine AExit.panB ?_)
    exact fol_fin (.inr ⟨rfl, he⟩) sm3
  rw [if_neg (by simp [he])] at hF
  rw [he, resE, if_pos rfl]
  apply hK; clear hK hKp K Kp
  have hM1 := hM1 he
  obtain ⟨fx, _, _, e4⟩ := fol_ok x M (d + 1) hM he
  have hM0 : 0 ≤ M1 := by rw [hM1, e4]; omega
  rw [← hM1] at hF
  have l3 : ((((m'.newLoc [PV.v (Value.int IntKind.i64 0), PV.v (Value.int IntKind.i64 0), PV.v (Value.bool false), PV.list Own.full [], PV.v (Value.string { data := #[] }), PV.list Own.full []]).setLoc m'.nloc x.cells).setLoc n (cnt M1)).loc m.nloc) = some v.cells := by simp [n1.symm, n5, hl]
  have nx : ∀ τ : Nat → PV, τ 42 = vI (i + 1) → τ 41 = vI v.els.length → τ 40 = GV.pvs v.els → τ 4 = .loc m.nloc 0 → τ 0 = .loc n 0 → τ 2 = vI d → badSet v.kind (prevOf v.els i) x = false →
      ∃ j, (j ≤ v.els.length ∧ τ 42 = vI j ∧ τ 41 = vI v.els.length ∧ τ 40 = GV.pvs v.els ∧ τ 4 = .loc m.nloc 0 ∧ τ 0 = .loc n 0 ∧ τ 2 = vI d ∧ (((m'.newLoc [PV.v (Value.int IntKind.i64 0), PV.v (Value.int IntKind.i64 0), PV.v (Value.bool false), PV.list Own.full [], PV.v (Value.string { data := #[] }), PV.list Own.full []]).setLoc m'.nloc x.cells).setLoc n (cnt M1)).loc m.nloc = some v.cells ∧ m.nloc < (((m'.newLoc [PV.v (Value.int IntKind.i64 0), PV.v (Value.int IntKind.i64 0), PV.v (Value.bool false), PV.list Own.full [], PV.v (Value.string { data := #[] }), PV.list Own.full []]).setLoc m'.nloc x.cells).setLoc n (cnt M1)).nloc ∧
    (∃ M, Same (m.setLoc n (cnt M)) (((m'.newLoc [PV.v (Value.int IntKind.i64 0), PV.v (Value.int IntKind.i64 0), PV.v (Value.bool false), PV.list Own.full [], PV.v (Value.string { data := #[] }), PV.list Own.full []]).setLoc m'.nloc x.cells).setLoc n (cnt M1)) ∧ 0 ≤ M ∧ G = folL v.kind (prevOf v.els j) (v.els.drop j) M d) ∧ (∀ k (h : k < v.els.length), k < j → fmd v.els[k])) ∧ v.els.length - j < v.els.length - i := by
    intro τ a1 a2 a3 a4 a5 a6 hb
    rw [if_neg (by rw [hb]; simp)] at hF
    refine ⟨i + 1, ⟨by omega, by simpa using a1, a2, a3, a4, a5, a6, l3, by simp; omega, ⟨M1, sm3, hM0, by rw [hF]; simp [prevOf, hlt, ex]⟩, fun k h hk => ?_⟩, by omega⟩
    by_cases e : k = i
    · subst e; rw [← ex]; exact fx
    · exact hfm k h (by omega)
  generalize hmm : ((m'.newLoc [PV.v (Value.int IntKind.i64 0), PV.v (Value.int IntKind.i64 0), PV.v (Value.bool false), PV.list Own.full [], PV.v (Value.string { data := #[] }), PV.list Own.full []]).setLoc m'.nloc x.cells).setLoc n (cnt M1) = mm at *
  have k1 : mm.loc m'.nloc = some x.cells := by rw [← hmm]; simp [n3.symm]
  have k2 : m'.nloc < mm.nloc := by rw [← hmm]; simp
  have k3 : m.nloc < mm.nloc := by omega
  clear hmm
  by_cases h8 : v.kind = 8
  rotate_left
  · have hb : badSet v.kind (prevOf v.els i) x = false := by simp [badSet, h8]
    have F := (aand @h4 (aand @l3 (aand @k3 @h8))); refine tFa ?_; (try clear F)
    have F := @h42; refine tF ?_; (try clear F)
    exact nx _ (by simp [upd_lit]) (by simp [upd_lit, h41]) (by simp [upd_lit, h40]) (by simp [upd_lit, h4]) (by simp [upd_lit, h0]) (by simp [upd_lit, h2']) hb
  by_cases hx0 : x.kind = 0
  · have hb : badSet v.kind (prevOf v.els i) x = true := by simp [badSet, h8, hx0]
    rw [if_pos hb] at hF
    subst hF
    have F := (aand @h4 (aand @l3 (aand @k3 @h8))); refine tFa ?_; (try clear F)
    refine AW.draw [.S, .R, .S, .S, .S, .S, .S, .S, .R, .S, .S, .S, .R, .R, .R, .S, .S, .S, .W] (by decide +kernel) ?_; have F := (aand @k1 (aand @k2 @hx0)); refine dST 0 ?_; refine dRT 1 ?_; refine dST 2 ?_; refine dST 3 ?_; refine dXxT 4 ?_; refine dXxT 5 ?_; refine dXxT 6 ?_; refine dXxT 7 ?_; refine dXXT 8 ?_; refine dXxT 9 ?_; refine dXxT 10 ?_; refine dXxT 11 ?_; refine dXXT 12 ?_; refine dXXT 13 ?_; refine dXXT 14 ?_; refine dXxT 15 ?_; refine dXxT 16 ?_; refine dST 17 ?_; (try clear F)
    refine DA.W 18 rfl (by decide +kernel) rfl rfl (by decide) ?_
    intro K Kp hK hKp
    simp [↓aop, ↓Ab.opv, ↓upd_lit]
    refine Dies.at (need_bad 2) (hKp _ _ fun σ => ?_)
    repeat (first | refine AExit.panT ?_ | refine AExit.panB ?_)
    exact fol_fin (.inr ⟨rfl, by decide⟩) sm3
  cases i with
  | zero =>
    have hb : badSet v.kind (prevOf v.els 0) x = false := by simp [badSet, hx0, prevOf]
    have F := (aand @h4 (aand @l3 (aand @k3 @h8))); refine tFa ?_; (try clear F)
    refine AW.draw [.S, .R, .S, .S, .S, .S, .S, .S, .R, .S, .S, .S, .R, .R, .R, .S, .S, .S, .R] (by decide +kernel) ?_; have F := (aand @k1 (aand @k2 @hx0)); refine dS 0 ?_; refine dR 1 ?_; refine dS 2 ?_; refine dS 3 ?_; refine dSG 4 ?_; refine dSG 5 ?_; refine dSG 6 ?_; refine dXx 7 ?_; refine dXX 8 ?_; refine dXx 9 ?_; refine dXx 10 ?_; refine dXx 11 ?_; refine dXX 12 ?_; refine dXX 13 ?_; refine dXX 14 ?_; refine dXx 15 ?_; refine dSG 16 ?_; refine dS 17 ?_; refine dC ((need_ok 2)) 18 ?_; (try clear F); first | refine dN ?_ | refine dB ?_ | refine DA.done (by decide +kernel) ?_
    have F := @h42; refine tF ?_; (try clear F)
    exact nx _ (by simp [upd_lit]) (by simp [upd_lit, h41]) (by simp [upd_lit, h40]) (by simp [upd_lit, h4]) (by simp [upd_lit, h0]) (by simp [upd_lit, h2']) hb
  | succ i =>
    have hi' : i < v.els.length := by omega
    obtain ⟨y, ey⟩ : ∃ y, y = v.els[i] := ⟨_, rfl⟩
    have ey' := ey.symm
    have hye : y ∈ v.els := by rw [ey]; exact List.getElem_mem hi'
    have gy : good y := ⟨by rw [ey]; exact hfm i hi' (by omega), ok_els hv y hye⟩
    have hcmp := val_compare y x gy ⟨fx, hx⟩
    have hp : prevOf v.els (i + 1) = some y := by simp [prevOf, List.getElem?_eq_getElem hi', ey]
    have e5 : ((i + 1 : Nat) : Int) - 1 = (i : Int) := by omega
    have e6 : ¬ ((i : Int) + 1 = 0) := by omega
    have e7 : (i : Int) < v.els.length := by omega
    by_cases hlt0 : cmpV y x < 0
    · have hb : badSet v.kind (prevOf v.els (i + 1)) x = false := by rw [hp]; simp [badSet, hx0]; omega
      have F := (aand @h4 (aand @l3 (aand @k3 @h8))); refine tFa ?_; (try clear F)
      refine AW.draw [.S, .R, .S, .S, .S, .S, .S, .S, .R, .S, .S, .S, .R, .R, .R, .S, .S, .S, .R] (by decide +kernel) ?_; have F := (aand @k1 (aand @k2 (aand @k3 (aand @l3 (aand @h4 (aand @h40 (aand @hx0 (aand @e5 (aand @e6 (aand @e7 (aand @hi' (aand @rows_getD (aand @ey' @hlt0))))))))))))); refine dS 0 ?_; refine dR 1 ?_; refine dS 2 ?_; refine dS 3 ?_; refine dSG 4 ?_; refine dSG 5 ?_; refine dSG 6 ?_; refine dSG 7 ?_; refine dRG 8 ?_; refine dSG 9 ?_; refine dSG 10 ?_; refine dSG 11 ?_; refine dRG 12 ?_; refine dRG 13 ?_; refine dCG ((hcmp)) 14 ?_; refine dSG 15 ?_; refine dSG 16 ?_; refine dS 17 ?_; refine dC ((need_ok 2)) 18 ?_; (try clear F); first | refine dN ?_ | refine dB ?_ | refine DA.done (by decide +kernel) ?_
      have F := @h42; refine tF ?_; (try clear F)
      exact nx _ (by simp [upd_lit]) (by simp [upd_lit, h41]) (by simp [upd_lit, h40]) (by simp [upd_lit, h4]) (by simp [upd_lit, h0]) (by simp [upd_lit, h2']) hb
    · have hb : badSet v.kind (prevOf v.els (i + 1)) x = true := by rw [hp]; simp [badSet, h8]; omega
      rw [if_pos hb] at hF
      subst hF
      have F := (aand @h4 (aand @l3 (aand @k3 @h8))); refine tFa ?_; (try clear F)
      refine AW.draw [.S, .R, .S, .S, .S, .S, .S, .S, .R, .S, .S, .S, .R, .R, .R, .S, .S, .S, .W] (by decide +kernel) ?_; have F := (aand @k1 (aand @k2 (aand @k3 (aand @l3 (aand @h4 (aand @h40 (aand @hx0 (aand @e5 (aand @e6 (aand @e7 (aand @hi' (aand @rows_getD (aand @ey' @hlt0))))))))))))); refine dST 0 ?_; refine dRT 1 ?_; refine dST 2 ?_; refine dST 3 ?_; refine dSGT 4 ?_; refine dSGT 5 ?_; refine dSGT 6 ?_; refine dSGT 7 ?_; refine dRGT 8 ?_; refine dSGT 9 ?_; refine dSGT 10 ?_; refine dSGT 11 ?_; refine dRGT 12 ?_; refine dRGT 13 ?_; refine dCGT ((hcmp)) 14 ?_; refine dSGT 15 ?_; refine dSGT 16 ?_; refine dST 17 ?_; (try clear F)
      refine DA.W 18 rfl (by decide +kernel) rfl rfl (by decide) ?_
      intro K Kp hK hKp
      simp [↓aop, ↓Ab.opv, ↓upd_lit]
      refine Dies.at (need_bad 2) (hKp _ _ fun σ => ?_)
      repeat (first | refine AExit.panT ?_ | refine AExit.panB ?_)
      exact fol_fin (.inr ⟨rfl, by decide⟩) sm3
end Go.Proofs.YtgfadepkiejncaaGreat
namespace Go.Proofs.YtgfadepkiejncaaGreat
open Go.Ab
set_option maxHeartbeats 0
set_option maxRecDepth 100000
attribute [local irreducible] AW AList ACall DA AExit.then AExit.inBlock YCall DCall
theorem val_follow (v : GV) (hv : v.ok) : FolOK v := by
  generalize hN : nodes v = N
  induction N using Nat.strongRecOn generalizing v with
  | _ N ih =>
  subst hN
  refine fol_step v hv fun x hx => ih (nodes x) ?_ x (ok_els hv x hx) rfl
  obtain ⟨i, hi, rfl⟩ := List.getElem_of_mem hx
  have := nodes_get v.els i hi
  have := nodes_eq v
  omega
theorem val_check (v : GV) (hv : v.ok) : Gives Tryz.prog 19 [v.pv] (vE (checkF v)) := by
  generalize he : checkF v = e
  intro m
  refine ACall.of_defer Tryz.func19 Tryz.ntmps19 (pre := []) rfl rfl rfl (by simp) ?_
  refine tS ?_
  refine ⟨82, [], [], rfl, ?_⟩
  refine tS ?_
  refine tS1 fun K Kp hK hKp => ?_
  refine ACall.mono (val_follow v hv _ (m.nloc + 1 + 1) 0 1 (by simp) (by simp) (by omega) (by omega)) ?_
  rintro r' s' ⟨rfl, M, rfl, hM⟩
  rw [show (folV v 0 0 1).2 = e from he]
  have sm : Same m ((((m.newLoc v.cells).newLoc [vE 0]).newLoc (cnt 0)).setLoc (m.nloc + 1 + 1) (cnt M)) := Same.auto
  generalize hmm : (((m.newLoc v.cells).newLoc [vE 0]).newLoc (cnt 0)).setLoc (m.nloc + 1 + 1) (cnt M) = mm at *
  have g1 : mm.loc (m.nloc + 1) = some [vE 0] := by rw [← hmm]; simp
  have g2 : m.nloc + 1 < mm.nloc := by rw [← hmm]; simp
  by_cases h0 : e = 0
  · rw [resE, if_pos h0]
    apply hK; clear hK hKp K Kp
    have F := (aand @g1 @g2); refine tF ?_; (try clear F)
    refine (caught_none _ _).mono ?_
    rintro s' rfl
    refine ⟨vE e, m, ?_, .inr ⟨(sm.setLoc (by omega) _).lv, by simp⟩, by simp, rfl⟩
    subst h0
    simp [ResP, resV, upd_lit, g2, show Tryz.f19.results.toList = [.cell 2 30] from rfl]
  · rw [resE, if_neg h0]
    apply hKp; clear hK hKp K Kp
    refine AExit.panT ?_
    refine (caught_pan _ (m.nloc + 1) e g2 g1).mono ?_
    rintro s' rfl
    refine ⟨vE e, m, ?_, .inr ⟨(sm.setLoc (by omega) _).lv, by simp⟩, by simp, rfl⟩
    simp [ResP, resV, upd_lit, g2, show Tryz.f19.results.toList = [.cell 2 30] from rfl]
end Go.Proofs.YtgfadepkiejncaaGreat
namespace Go.Ab
theorem AList.gen {P : Program} {N : Nat} {Q : APost} {ops : Array Oper} {l : List Oper} {σ : Nat → PV} {m : St} (h : ∀ mm, mm = m → AList P N ops Q l σ mm) : AList P N ops Q l σ m := h m rfl
end Go.Ab
namespace Go.Proofs.YtgfadepkiejncaaGreat
open Go.Ab Go.Sort
set_option maxHeartbeats 0
set_option maxRecDepth 100000
attribute [local irreducible] AW AList ACall DA AExit.then AExit.inBlock YCall DCall
def cellsI (l : List Int) : List PV := l.map fun x => vI x
theorem cellsI_len (l : List Int) : (cellsI l).length = l.length := by simp [cellsI]
theorem cellsI_set (n : Nat) (f : Nat → Int) (k : Nat) (x : Int) : (cellsI (tb n f)).set k (vI x) = cellsI (tb n (upd f k x)) := by
  apply List.ext_getElem
  · simp [cellsI, tb]
  · intro j h1 h2
    simp only [cellsI, tb, List.getElem_set, List.getElem_map, List.getElem_range, upd]
    by_cases e : k = j
    · rw [if_pos e, if_pos e.symm]
    · rw [if_neg e, if_neg (fun q => e q.symm)]
theorem cellsI_chunk : ∀ l : List Int, chunk 1 l.length (cellsI l) = ints l
  | [] => rfl
  | x :: l => by
    have := cellsI_chunk l
    simp only [cellsI, List.length_cons, List.map_cons, chunk, ints] at this ⊢
    simp [this]
theorem cellsI_zero (n : Nat) : zrow [vI 0] n = cellsI (tb n fun _ => 0) := by
  simp [zrow, cellsI, tb, Nat.mod_one]
theorem cellsI_fz (n : Nat) (l : List Int) : PV.fz n 1 (cellsI l) (.marr n 0 l.length l.length) = intsP l := by
  rw [PV.fz, if_pos ⟨rfl, Nat.le_refl _, by rw [cellsI_len]; omega⟩, List.drop_zero, Nat.mul_one, List.take_of_length_le (by rw [cellsI_len]; exact Nat.le_refl _), cellsI_chunk]
theorem tb_congr {n : Nat} {f g : Nat → Int} (h : ∀ j, j < n → f j = g j) : tb n f = tb n g := List.map_congr_left fun j hj => h j (List.mem_range.1 hj)
theorem law10 (a b : GV) (i k : Int) (ha : a.ok) (hb : b.ok) : Gives Tryz.prog 10 [a.pv, b.pv, vI i, vI k] (vB true) := by
  intro m
  refine ACall.of_aw Tryz.func10 Tryz.ntmps10 rfl rfl (by simp) ?_
  refine tS ?_
  refine tS1 fun K Kp hK hKp => ?_; refine Gives.at (law_formed a ha) ?_; apply hK; clear hK hKp K Kp
  cases h1 : formedF a with
  | false =>
    refine tSg ?_
    refine tSa ?_
    refine tS1 fun K Kp hK hKp => ?_; refine Gives.at (sanity) ?_; apply hK; clear hK hKp K Kp
    refine tS ?_
    exact Fin.gives Same.auto
  | true =>
  refine tSg ?_
  refine tSc (law_formed b hb) ?_
  cases h2 : formedF b with
  | false =>
    refine tSg ?_
    refine tSa ?_
    refine tS1 fun K Kp hK hKp => ?_; refine Gives.at (sanity) ?_; apply hK; clear hK hKp K Kp
    refine tS ?_
    exact Fin.gives Same.auto
  | true =>
  by_cases h3 : i < 1
  · have F := @h3; refine tFg ?_; (try clear F)
    refine tSa ?_
    refine tS1 fun K Kp hK hKp => ?_; refine Gives.at (sanity) ?_; apply hK; clear hK hKp K Kp
    refine tS ?_
    exact Fin.gives Same.auto
  by_cases h4 : k < 1
  · have F := (aand @h3 @h4); refine tFg ?_; (try clear F)
    refine tSa ?_
    refine tS1 fun K Kp hK hKp => ?_; refine Gives.at (sanity) ?_; apply hK; clear hK hKp K Kp
    refine tS ?_
    exact Fin.gives Same.auto
  by_cases h5 : 40 < i
  · have F := (aand @h3 (aand @h4 @h5)); refine tFg ?_; (try clear F)
    refine tSa ?_
    refine tS1 fun K Kp hK hKp => ?_; refine Gives.at (sanity) ?_; apply hK; clear hK hKp K Kp
    refine tS ?_
    exact Fin.gives Same.auto
  by_cases h6 : 40 < k
  · have F := (aand @h3 (aand @h4 (aand @h5 @h6))); refine tFg ?_; (try clear F)
    refine tSa ?_
    refine tS1 fun K Kp hK hKp => ?_; refine Gives.at (sanity) ?_; apply hK; clear hK hKp K Kp
    refine tS ?_
    exact Fin.gives Same.auto
  have F := (aand @h3 (aand @h4 (aand @h5 @h6))); refine tFg ?_; (try clear F)
  refine tSa ?_
  obtain ⟨i, rfl⟩ : ∃ i' : Nat, i = i' := ⟨i.toNat, by omega⟩
  obtain ⟨k, rfl⟩ : ∃ k' : Nat, k = k' := ⟨k.toNat, by omega⟩
  obtain ⟨p, hp⟩ : ∃ p : Nat, p + 1 = i := ⟨i - 1, by omega⟩
  obtain ⟨r, hr⟩ : ∃ r : Nat, r + 1 = k := ⟨k - 1, by omega⟩
  have ep : (i : Int) - 1 = (p : Int) := by omega
  have er : (k : Int) - 1 = (r : Int) := by omega
  have mk57 : ∀ (n : Nat) (m : St) (K : PV → St → Prop), n ≤ 1000 → K (.marr m.nloc 0 n n) (m.newLoc (cellsI (tb n fun _ => 0))) → amakeSlice Tryz.prog 57 (.v (.int .i64 n)) (.v (.int .i64 n)) m K := fun n m K hn h => by
    simp [amakeSlice]
    refine ⟨by omega, by omega, ?_⟩
    have := cellsI_zero n
    rw [show [PV.v (Value.int IntKind.i64 0)] = [vI 0] from rfl, this]
    exact h
  refine tS1 fun K Kp hK hKp => ?_
  refine mk57 40 _ _ (by omega) ?_
  apply hK; clear hK hKp K Kp
  refine tS ?_
  refine tS1 fun K Kp hK hKp => ?_
  refine mk57 41 _ _ (by omega) ?_
  apply hK; clear hK hKp K Kp
  refine tS ?_
  refine AW.gen fun mm hmm => ?_
  have sm : Same m mm := by rw [hmm]; exact Same.auto
  have g0 : mm.loc m.nloc = some a.cells := by rw [hmm]; simp [Nat.add_assoc]
  have g1 : mm.loc (m.nloc + 1) = some b.cells := by rw [hmm]; simp
  have g2 : mm.loc (m.nloc + 2) = some (cellsI (tb 40 fun _ => 0)) := by rw [hmm]; simp
  have g3 : mm.loc (m.nloc + 3) = some (cellsI (tb 41 fun _ => 0)) := by rw [hmm]; simp
  have n1 : mm.nloc = m.nloc + 4 := by rw [hmm]; simp
  clear hmm
  refine AW.loop (ι := Nat) (fun j σ m' => j ≤ 41 ∧ σ 11 = vI j ∧ σ 9 = .marr (m.nloc + 2) 0 40 40 ∧ σ 10 = .marr (m.nloc + 3) 0 41 41 ∧ σ 4 = .loc m.nloc 0 ∧ σ 5 = .loc (m.nloc + 1) 0 ∧ σ 2 = vI i ∧ σ 3 = vI k ∧ m'.loc m.nloc = some a.cells ∧ m'.loc (m.nloc + 1) = some b.cells ∧
    m'.loc (m.nloc + 2) = some (cellsI (tb 40 fun q => if q < j then q + 1 else 0)) ∧ m'.loc (m.nloc + 3) = some (cellsI (tb 41 fun q => if q < j then q else 0)) ∧ m'.nloc = m.nloc + 4 ∧ Same m m') (fun j => 41 - j) 0 ?_ ?_
  · exact ⟨by omega, by simp [upd_lit], by simp [upd_lit], by simp [upd_lit], by simp [upd_lit], by simp [upd_lit], by simp [upd_lit], by simp [upd_lit], g0, g1, by simpa using g2, by simpa using g3, n1, sm⟩
  clear g0 g1 g2 g3 n1 sm
  rintro j σ m' ⟨hj, t11, t9, t10, t4, t5, t2, t3, g0, g1, g2, g3, n1, sm⟩
  have q0 : m.nloc < m'.nloc := by omega
  have q1 : m.nloc + 1 < m'.nloc := by omega
  have q2 : m.nloc + 2 < m'.nloc := by omega
  have q3 : m.nloc + 3 < m'.nloc := by omega
  by_cases hlt : (j : Int) < 41
  · have st41 : (cellsI (tb 41 fun q => if q < j then (q : Int) else 0)).set j (vI j) = cellsI (tb 41 fun q => if q < j + 1 then (q : Int) else 0) := by
      rw [cellsI_set]; congr 1; refine tb_congr fun q _ => ?_
      simp only [upd]; by_cases e : q = j
      · rw [if_pos e, if_pos (by omega), e]
      · by_cases e2 : q < j
        · rw [if_neg e, if_pos e2, if_pos (by omega)]
        · rw [if_neg e, if_neg e2, if_neg (by omega)]
    have l41 : ∀ f, (cellsI (tb 41 f)).length = 41 := fun f => by rw [cellsI_len, tb_len]
    have l40 : ∀ f, (cellsI (tb 40 f)).length = 40 := fun f => by rw [cellsI_len, tb_len]
    have hj1 : j + 1 ≤ 41 := by omega
    by_cases h40 : (j : Int) < 40
    · have st40 : (cellsI (tb 40 fun q => if q < j then (q : Int) + 1 else 0)).set j (vI (j + 1)) = cellsI (tb 40 fun q => if q < j + 1 then (q : Int) + 1 else 0) := by
        rw [cellsI_set]; congr 1; refine tb_congr fun q _ => ?_
        simp only [upd]; by_cases e : q = j
        · rw [if_pos e, if_pos (by omega), e]
        · by_cases e2 : q < j
          · rw [if_neg e, if_pos e2, if_pos (by omega)]
          · rw [if_neg e, if_neg e2, if_neg (by omega)]
      have hj0 : j + 1 ≤ 40 := by omega
      have F := (aand @t11 @hlt); refine tFa ?_; (try clear F)
      have F := (aand @t11 @h40); refine tFa ?_; (try clear F)
      have F := (aand @t9 (aand @t10 (aand @t11 (aand @h40 (aand @g2 (aand @g3 (aand @q2 (aand @q3 (aand @hlt (aand @l40 (aand @l41 (aand @hj0 (aand @hj1 (aand @st40 @st41)))))))))))))); refine tF ?_; (try clear F)
      exact ⟨j + 1, ⟨hj1, by simp [upd_lit], by simp [upd_lit, t9], by simp [upd_lit, t10], by simp [upd_lit, t4], by simp [upd_lit, t5], by simp [upd_lit, t2], by simp [upd_lit, t3], by simp [g0], by simp [g1], by simp, by simp, by simp [n1], (sm.setLoc (by omega) _).setLoc (by omega) _⟩, by omega⟩
    · have e40 : (tb 40 fun q => if q < j then (q : Int) + 1 else 0) = tb 40 fun q => if q < j + 1 then (q : Int) + 1 else 0 := tb_congr fun q _ => by rw [if_pos (by omega), if_pos (by omega)]
      rw [e40] at g2
      have F := (aand @t11 @hlt); refine tFa ?_; (try clear F)
      have F := (aand @t11 @h40); refine tFa ?_; (try clear F)
      have F := (aand @t10 (aand @t11 (aand @g3 (aand @q3 (aand @hlt (aand @l41 (aand @hj1 @st41))))))); refine tF ?_; (try clear F)
      exact ⟨j + 1, ⟨hj1, by simp [upd_lit], by simp [upd_lit, t9], by simp [upd_lit, t10], by simp [upd_lit, t4], by simp [upd_lit, t5], by simp [upd_lit, t2], by simp [upd_lit, t3], by simp [g0], by simp [g1], by simp [g2], by simp, by simp [n1], sm.setLoc (by omega) _⟩, by omega⟩
  have e41 : j = 41 := by omega
  subst e41
  have F := (aand @t11 @hlt); refine tFa ?_; (try clear F)
  have l41 : ∀ f, (cellsI (tb 41 f)).length = 41 := fun f => by rw [cellsI_len, tb_len]
  have l40 : ∀ f, (cellsI (tb 40 f)).length = 40 := fun f => by rw [cellsI_len, tb_len]
  have s1 := cellsI_set 40 (fun q => if q < 41 then (q : Int) + 1 else 0) p k
  have s2 := cellsI_set 40 (upd (fun q => if q < 41 then (q : Int) + 1 else 0) p k) r i
  have s3 := cellsI_set 41 (fun q => if q < 41 then (q : Int) else 0) i k
  have s4 := cellsI_set 41 (upd (fun q => if q < 41 then (q : Int) else 0) i k) k i
  have f40 : tb 40 (upd (upd (fun q => if q < 41 then (q : Int) + 1 else 0) p k) r i) = atF1 i k := tb_congr fun q _ => by
    simp only [upd, sw]
    (repeat' split) <;> omega
  have f41 : tb 41 (upd (upd (fun q => if q < 41 then (q : Int) else 0) i k) k i) = prF1 i k := tb_congr fun q _ => by
    simp only [upd, sw]
    (repeat' split) <;> omega
  rw [f40] at s2
  rw [f41] at s4
  obtain ⟨X0, hX0⟩ : ∃ X, X = cellsI (tb 40 fun q => if q < 41 then (q : Int) + 1 else 0) := ⟨_, rfl⟩
  obtain ⟨X1, hX1⟩ : ∃ X, X = cellsI (tb 40 (upd (fun q => if q < 41 then (q : Int) + 1 else 0) p k)) := ⟨_, rfl⟩
  obtain ⟨Y0, hY0⟩ : ∃ X, X = cellsI (tb 41 fun q => if q < 41 then (q : Int) else 0) := ⟨_, rfl⟩
  obtain ⟨Y1, hY1⟩ : ∃ X, X = cellsI (tb 41 (upd (fun q => if q < 41 then (q : Int) else 0) i k)) := ⟨_, rfl⟩
  have lx0 : X0.length = 40 := by rw [hX0, l40]
  have lx1 : X1.length = 40 := by rw [hX1, l40]
  have ly0 : Y0.length = 41 := by rw [hY0, l41]
  have ly1 : Y1.length = 41 := by rw [hY1, l41]
  rw [← hX0] at g2 s1
  rw [← hX1] at s1 s2
  rw [← hY0] at g3 s3
  rw [← hY1] at s3 s4
  have u1 : (p : Int) < 40 := by omega
  have u2 : (r : Int) < 40 := by omega
  have u3 : (i : Int) < 41 := by omega
  have u4 : (k : Int) < 41 := by omega
  have v1 : p + 1 ≤ 40 := by omega
  have v2 : r + 1 ≤ 40 := by omega
  have v3 : i + 1 ≤ 41 := by omega
  have v4 : k + 1 ≤ 41 := by omega
  have F := (aand @t9 (aand @t2 (aand @t3 (aand @ep (aand @u1 (aand @v1 (aand @g2 (aand @q2 (aand @lx0 (aand @s1 (aand @er (aand @u2 (aand @v2 (aand @lx1 (aand @s2 (aand @t10 (aand @u3 (aand @v3 (aand @g3 (aand @q3 (aand @ly0 (aand @s3 (aand @u4 (aand @v4 (aand @ly1 @s4))))))))))))))))))))))))); refine tF ?_; (try clear F)
  refine AList.gen fun m3 hm3 => ?_
  have d2 : m3.loc (m.nloc + 2) = some (cellsI (atF1 i k)) := by rw [hm3]; simp
  have d3 : m3.loc (m.nloc + 3) = some (cellsI (prF1 i k)) := by rw [hm3]; simp
  have k0 : m3.loc m.nloc = some a.cells := by rw [hm3]; simp [g0]
  have k1 : m3.loc (m.nloc + 1) = some b.cells := by rw [hm3]; simp [g1]
  have kn : m3.nloc = m.nloc + 4 := by rw [hm3]; exact n1
  have sm3 : Same m m3 := by rw [hm3]; exact (((sm.setLoc (by omega) _).setLoc (by omega) _).setLoc (by omega) _).setLoc (by omega) _
  clear hm3 g0 g1 g2 g3 n1 sm q0 q1 q2 q3
  have z9 : PV.fz (m.nloc + 2) 1 (cellsI (atF1 i k)) (.marr (m.nloc + 2) 0 40 40) = intsP (atF1 i k) := by
    have := cellsI_fz (m.nloc + 2) (atF1 i k); rwa [tb_len] at this
  have z10 : PV.fz (m.nloc + 3) 1 (cellsI (prF1 i k)) (.marr (m.nloc + 3) 0 41 41) = intsP (prF1 i k) := by
    have := cellsI_fz (m.nloc + 3) (prF1 i k); rwa [tb_len] at this
  have see9 := Sees.fz (m := m3) (p := .marr (m.nloc + 2) 0 40 40) (n := m.nloc + 2) (s := 1) (by omega) d2
  rw [z9] at see9
  have see10 := Sees.fz (m := m3.dropLoc (m.nloc + 2)) (p := .marr (m.nloc + 3) 0 41 41) (n := m.nloc + 3) (s := 1) (cs := cellsI (prF1 i k)) (by show _ < m3.nloc; omega) (by simp [d3])
  rw [z10] at see10
  refine AList.sees (d := 9) (p' := intsP (atF1 i k)) (m' := m3.dropLoc (m.nloc + 2)) (by simp [upd_lit, t9]; exact see9) ?_
  refine AList.sees (d := 10) (p' := intsP (prF1 i k)) (m' := (m3.dropLoc (m.nloc + 2)).dropLoc (m.nloc + 3)) (by simp [upd_lit, t10]; exact see10) ?_
  refine AList.gen fun m4 hm4 => ?_
  have g0 : m4.loc m.nloc = some a.cells := by rw [hm4]; simp [k0]
  have g1 : m4.loc (m.nloc + 1) = some b.cells := by rw [hm4]; simp [k1]
  have n4 : m4.nloc = m.nloc + 4 := by rw [hm4]; exact kn
  have sm : Same m m4 := by rw [hm4]; exact (sm3.dropLoc (by omega)).dropLoc (by omega)
  clear hm4 see9 see10 d2 d3 k0 k1 kn sm3
  have q0 : m.nloc < m4.nloc := by omega
  have q1 : m.nloc + 1 < m4.nloc := by omega
  have fa := formed_Fm ha h1
  have fb := formed_Fm hb h2
  obtain ⟨nx, ny⟩ := ex_nums (i := i) (k := k) (by omega) (by omega) (by omega) (by omega)
  have hinv : selfInv (atF1 i k) (prF1 i k) := fun q n h5 h6 => ex_inv (by omega) (by omega) (by omega) (by omega) q n h5 h6
  have hargs : argB (atF1 i k) (prF1 i k) = false := by
    rw [argB, Bool.or_eq_false_iff, List.any_eq_false, List.any_eq_false]
    exact ⟨fun x hx => by have := (nx x hx).1; simp; omega, fun x hx => by have := (ny x hx).1; simp; omega⟩
  have lx : (atF1 (i : Int) k).length < 1152921504606846976 := by rw [tb_len]; omega
  have ly : (prF1 (i : Int) k).length < 1152921504606846976 := by rw [tb_len]; omega
  have na := fa.nodes
  have nb := fb.nodes
  obtain ⟨ga1, ga2, ga3, ga4⟩ := ren_ok nx ny a fa.good (by omega)
  obtain ⟨gb1, gb2, gb3, gb4⟩ := ren_ok nx ny b fb.good (by omega)
  have ra := val_renamed _ _ nx ny hargs lx ly a fa.good (by omega)
  have rb := val_renamed _ _ nx ny hargs lx ly b fb.good (by omega)
  have rx := val_renamed _ _ nx ny hargs lx ly _ ga1 (by omega)
  rw [ren_inv nx ny hinv a fa.good (by omega)] at rx
  obtain ⟨e1, e2⟩ := ren_same nx ny hinv fa.good (by omega)
  have e3 := pair_ren nx ny fa.good (by omega)
  have e4 := map_ren nx ny fa.good (by omega)
  have e5 : sameV (ren (atF1 i k) (prF1 i k) a) (ren (atF1 i k) (prF1 i k) b) = sameV a b := by
    rw [Bool.eq_iff_iff, sameV_iff, sameV_iff]
    constructor
    · intro h
      have := congrArg (ren (atF1 i k) (prF1 i k)) h
      rwa [ren_inv nx ny hinv a fa.good (by omega), ren_inv nx ny hinv b fb.good (by omega)] at this
    · intro h; rw [h]
  have e6 : checkF (ren (atF1 i k) (prF1 i k) a) = 0 := checkF_ok.2 ⟨ga1.1, by omega, by have := fa.deep; omega⟩
  have hsx := ref_same (ren (atF1 i k) (prF1 i k) a) (ren (atF1 i k) (prF1 i k) b) ga1.2 gb1.2
  have hchk := val_check (ren (atF1 i k) (prF1 i k) a) ga1.2
  have hnx := val_nodes (ren (atF1 i k) (prF1 i k) a) (by omega)
  have hdx := val_deep (ren (atF1 i k) (prF1 i k) a) (by omega)
  have hpx := val_isPair (ren (atF1 i k) (prF1 i k) a)
  have hmx := val_isMap (ren (atF1 i k) (prF1 i k) a) (by have h1 := nodes_eq (ren (atF1 i k) (prF1 i k) a); have h2 := nodesL_len (ren (atF1 i k) (prF1 i k) a).els; omega)
  rw [e5] at hsx
  rw [e6] at hchk
  rw [e1] at hnx
  rw [e2] at hdx
  rw [e3] at hpx
  rw [e4] at hmx
  have lena := fa.len
  have x_ok := ga1.2
  clear e1 e2 e3 e4 e5 e6 ga2 ga3 ga4 gb2 gb3 gb4
  generalize ren (atF1 i k) (prF1 i k) a = x at *
  generalize ren (atF1 i k) (prF1 i k) b = y at *
  generalize atF1 (i : Int) k = xs at *
  generalize prF1 (i : Int) k = ys at *
  have F := (aand @t4 (aand @g0 @n4)); refine tF ?_; (try clear F)
  refine tS1 fun K Kp hK hKp => ?_; refine Gives.at (ra) ?_; apply hK; clear hK hKp K Kp
  have F := (aand @t5 (aand @g1 @n4)); refine tF ?_; (try clear F)
  refine tS1 fun K Kp hK hKp => ?_; refine Gives.at (rb) ?_; apply hK; clear hK hKp K Kp
  have F := @n4; refine tF ?_; (try clear F)
  refine tS1 fun K Kp hK hKp => ?_; refine Gives.at (rx) ?_; apply hK; clear hK hKp K Kp
  have F := @n4; refine tF ?_; (try clear F)
  refine AList.gen fun m5 hm5 => ?_
  have g0' : m5.loc m.nloc = some a.cells := by rw [hm5]; simp [g0, n4, Nat.add_assoc]
  have g1' : m5.loc (m.nloc + 1) = some b.cells := by rw [hm5]; simp [g1, n4, Nat.add_assoc]
  have g4 : m5.loc (m.nloc + 4) = some x.cells := by rw [hm5]; simp [n4, Nat.add_assoc]
  have g5 : m5.loc (m.nloc + 5) = some y.cells := by rw [hm5]; simp [n4, Nat.add_assoc]
  have g6 : m5.loc (m.nloc + 6) = some a.cells := by rw [hm5]; simp [n4, Nat.add_assoc]
  have n5 : m5.nloc = m.nloc + 7 := by rw [hm5]; simp [n4, Nat.add_assoc]
  have sm5 : Same m m5 := by rw [hm5]; exact Same.auto
  clear hm5
  have hsa := ref_same a a ha ha
  rw [sameV_refl] at hsa
  have w0 : m.nloc < m5.nloc := by omega
  have w1 : m.nloc + 1 < m5.nloc := by omega
  have w4 : m.nloc + 4 < m5.nloc := by omega
  have w5 : m.nloc + 5 < m5.nloc := by omega
  have w6 : m.nloc + 6 < m5.nloc := by omega
  clear g0 g1 n4 q0 q1 n5
  have F := (aand @t4 (aand @g6 (aand @g0' (aand @w0 @w6)))); refine tFg ?_; (try clear F)
  refine tSc (hsa) ?_
  refine tSa ?_
  refine AW.draw [.R, .S, .R, .R, .R, .R, .S, .S, .S, .R, .R, .R, .R, .S, .S, .S, .R, .R, .R, .R, .R, .R, .S, .S, .S, .R, .R, .R, .R, .S, .S, .S, .R, .R, .R, .R, .S, .S, .S, .R, .R, .S, .S, .S] (by decide +kernel) ?_; have F := (aand @t4 (aand @t5 (aand @g0' (aand @g1' (aand @g4 (aand @g5 (aand @w0 (aand @w1 (aand @w4 @w5))))))))); refine dC ((sanity)) 0 ?_; refine dS 1 ?_; refine dRG 2 ?_; refine dCG ((hnx)) 3 ?_; refine dRG 4 ?_; refine dCG ((val_nodes a (by omega))) 5 ?_; refine dSG 6 ?_; refine dS 7 ?_; refine dS 8 ?_; refine dRG 9 ?_; refine dCG ((hdx)) 10 ?_; refine dRG 11 ?_; refine dCG ((val_deep a (by omega))) 12 ?_; refine dSG 13 ?_; refine dS 14 ?_; refine dS 15 ?_; refine dRG 16 ?_; refine dRG 17 ?_; refine dCG ((hsx)) 18 ?_; refine dRG 19 ?_; refine dRG 20 ?_; refine dCG ((ref_same a b ha hb)) 21 ?_; refine dSG 22 ?_; refine dS 23 ?_; refine dS 24 ?_; refine dRG 25 ?_; refine dCG ((hpx)) 26 ?_; refine dRG 27 ?_; refine dCG ((val_isPair a)) 28 ?_; refine dSG 29 ?_; refine dS 30 ?_; refine dS 31 ?_; refine dRG 32 ?_; refine dCG ((hmx)) 33 ?_; refine dRG 34 ?_; refine dCG ((val_isMap a (by omega))) 35 ?_; refine dSG 36 ?_; refine dS 37 ?_; refine dS 38 ?_; refine dRG 39 ?_; refine dCG ((hchk)) 40 ?_; refine dSG 41 ?_; refine dS 42 ?_; refine dS 43 ?_; (try clear F); first | refine dN ?_ | refine dB ?_ | refine DA.done (by decide +kernel) ?_
  refine tS ?_
  exact Fin.gives sm5
end Go.Proofs.YtgfadepkiejncaaGreat
