/- Texts of the proof, part Le: they prove nothing by themselves that is claimed. -/
import Derived.Test.YtgfadepkiejncaaGreatLd
import Derived.Test.YtgfadepkiejncaaGreatLc
import Derived.Lib.DecodeN
set_option linter.unusedVariables false
set_option linter.unusedSimpArgs false
namespace Go.Proofs.YtgfadepkiejncaaGreat
open Go.Ab Go.Sort
set_option maxHeartbeats 0
set_option maxRecDepth 100000
theorem keepTo_spec (R : Array GG) (L : Nat) (hL : R.size = L) (hs : SortedIn ltG 0 L R) : ∀ a, a ≤ L →
    Inc ((keepTo R a).map (·.1)) ∧ (∀ z : GG, z ∈ keepTo R a ↔ ∃ k, k < a ∧ gt R k = z)
  | 0, _ => ⟨List.Pairwise.nil, fun z => by simp [keepTo]⟩
  | a + 1, h => by
    obtain ⟨h1, h2⟩ := keepTo_spec R L hL hs a (by omega)
    have mono : ∀ i j, i ≤ j → j < L → cmpV (gt R i).1 (gt R j).1 ≤ 0 := by
      intro i j hij hj
      by_cases e : i = j
      · subst e; rw [cmp_self]; omega
      · have := hs i j (by omega) (by omega) hj
        have h3 : ¬ cmpV (gt R j).1 (gt R i).1 < 0 := by
          intro q; have : ltG R[j]! R[i]! = true := by simp [gt_eq, ltG, q]
          simp_all
        have := cmp_neg (gt R i).1 (gt R j).1
        omega
    rw [keepTo]
    by_cases hc : a = 0 ∨ cmpV (gt R a).1 (gt R (a - 1)).1 ≠ 0
    · rw [if_pos hc]
      refine ⟨?_, fun z => ?_⟩
      · rw [List.map_append]
        refine List.pairwise_append.2 ⟨h1, List.pairwise_singleton _ _, ?_⟩
        intro x hx y hy
        simp at hy
        subst hy
        obtain ⟨w, hw, rfl⟩ := List.mem_map.1 hx
        obtain ⟨k, hk, rfl⟩ := (h2 w).1 hw
        have ha : a ≠ 0 := by omega
        have hc2 : cmpV (gt R a).1 (gt R (a - 1)).1 ≠ 0 := hc.resolve_left ha
        have m1 := mono k (a - 1) (by omega) (by omega)
        have m2 := mono (a - 1) a (by omega) (by omega)
        have m3 := cmp_neg (gt R (a - 1)).1 (gt R a).1
        have m4 : cmpV (gt R (a - 1)).1 (gt R a).1 < 0 := by omega
        by_cases e : cmpV (gt R k).1 (gt R (a - 1)).1 = 0
        · rw [cmp_zero _ _ (gt R k).2 (gt R (a - 1)).2 e]; exact m4
        · exact cmp_trans _ _ _ (gt R k).2 (gt R (a - 1)).2 (gt R a).2 (by omega) m4
      · rw [List.mem_append, h2]
        constructor
        · rintro (⟨k, hk, e⟩ | e)
          · exact ⟨k, by omega, e⟩
          · simp at e; exact ⟨a, by omega, e.symm⟩
        · rintro ⟨k, hk, e⟩
          by_cases hka : k = a
          · subst hka; exact .inr (by simp [e])
          · exact .inl ⟨k, by omega, e⟩
    · rw [if_neg hc, List.append_nil]
      refine ⟨h1, fun z => ?_⟩
      rw [h2]
      have ha : a ≠ 0 := fun e => hc (.inl e)
      have hc2 : cmpV (gt R a).1 (gt R (a - 1)).1 = 0 := by
        by_cases e : cmpV (gt R a).1 (gt R (a - 1)).1 = 0
        · exact e
        · exact absurd (.inr e) hc
      have he : gt R a = gt R (a - 1) := Subtype.ext (cmp_zero _ _ (gt R a).2 (gt R (a - 1)).2 hc2)
      constructor
      · rintro ⟨k, hk, e⟩; exact ⟨k, by omega, e⟩
      · rintro ⟨k, hk, e⟩
        by_cases hka : k = a
        · subst hka; exact ⟨k - 1, by omega, by rw [← he]; exact e⟩
        · exact ⟨k, by omega, e⟩
theorem perm_mem {d R : Array GG} (h : PermIn 0 d.size d R) (z : GG) : z ∈ R.toList ↔ z ∈ d.toList := by
  have h3 := h.2.2
  have e1 : (d.extract 0 d.size).toList = d.toList := by simp
  have e2 : (R.extract 0 d.size).toList = R.toList := by rw [← h.1]; simp
  rw [e1, e2] at h3
  exact h3.mem_iff
theorem mem_gt (R : Array GG) (z : GG) : z ∈ R.toList ↔ ∃ k, k < R.size ∧ gt R k = z := by
  rw [List.mem_iff_getElem]
  constructor
  · rintro ⟨k, hk, e⟩; exact ⟨k, by simpa using hk, by rw [← gt_toList R k (by simpa using hk)]; exact e⟩
  · rintro ⟨k, hk, e⟩; exact ⟨k, by simpa using hk, by rw [gt_toList R k hk]; exact e⟩
theorem sorted_setF (l : List GV) (g : goods l) (d D R : Array GG) (hd : d.toList.map (·.1) = l) (hD : D.toList = d.toList.filter nzG) (hR : PermIn 0 D.size D R) (hs : SortedIn ltG 0 D.size R) :
    (keepTo R D.size).map (·.1) = setF l := by
  obtain ⟨h1, h2⟩ := keepTo_spec R D.size hR.1 hs D.size (Nat.le_refl _)
  refine setF_eq g h1 fun z => ?_
  subst hd
  constructor
  · intro hz
    obtain ⟨w, hw, rfl⟩ := List.mem_map.1 hz
    have : w ∈ R.toList := (mem_gt R w).2 (by rw [hR.1]; exact (h2 w).1 hw)
    rw [perm_mem hR, hD, List.mem_filter] at this
    exact ⟨List.mem_map.2 ⟨w, this.1, rfl⟩, by simpa [nzG] using this.2⟩
  · rintro ⟨hz, hk⟩
    obtain ⟨w, hw, rfl⟩ := List.mem_map.1 hz
    have : w ∈ R.toList := by rw [perm_mem hR, hD, List.mem_filter]; exact ⟨hw, by simpa [nzG] using hk⟩
    exact List.mem_map.2 ⟨w, (h2 w).2 (by rw [← hR.1]; exact (mem_gt R w).1 this), rfl⟩
end Go.Proofs.YtgfadepkiejncaaGreat
namespace Go.Proofs.YtgfadepkiejncaaGreat
open Go.Ab Go.Sort
set_option maxHeartbeats 0
set_option maxRecDepth 100000
attribute [local irreducible] AW AList ACall DA AExit.then AExit.inBlock YCall DCall
def mkL : (l : List GV) → goods l → List GG
  | [], _ => []
  | v :: l, g => ⟨v, g v (by simp)⟩ :: mkL l (fun x hx => g x (by simp [hx]))
theorem mkL_map : ∀ (l : List GV) (g : goods l), (mkL l g).map (·.1) = l
  | [], _ => rfl
  | v :: l, g => congrArg (v :: ·) (mkL_map l fun x hx => g x (by simp [hx]))
def mkG (l : List GV) (g : goods l) : Array GG := (mkL l g).toArray
theorem mkG_list (l : List GV) (g : goods l) : (mkG l g).toList.map (·.1) = l := by rw [mkG, List.toList_toArray, mkL_map]
theorem mkG_size (l : List GV) (g : goods l) : (mkG l g).size = l.length := by
  have := congrArg List.length (mkG_list l g)
  simpa using this
theorem chunk_rows : ∀ (l : List GV) (r : List PV), chunk 6 l.length ((GV.rows l).flatten ++ r) = GV.rows l
  | [], _ => rfl
  | v :: l, r => by
    simp only [List.length_cons, chunk, GV.rows, List.flatten_cons, List.append_assoc]
    rw [List.take_left' (cells_len v), List.drop_left' (cells_len v), chunk_rows l r]
theorem sortedG (l : List GV) (g : goods l) (h0 : l ≠ []) (hl : l.length ≤ 1000000) : Gives Tryz.prog 96 [GV.pvs l] (.agg (GV.mk 8 0 false [] ⟨#[]⟩ (setF l)).cells) := by
  intro m
  refine ACall.of_aw Tryz.func96 Tryz.ntmps96 rfl rfl (by simp) ?_
  refine tS ?_
  refine tS1 fun K Kp hK hKp => ?_; refine ACall.mono (cloneG l h0 hl _) ?_
  rintro _ _ ⟨rfl, rfl⟩
  refine hK _ _ ?_; clear hK hKp K Kp
  have hlen : (mkG l g).size = l.length := mkG_size l g
  obtain ⟨m1, hm1⟩ : ∃ m1, m1 = m.newLoc [vI 0, vI 0, vB false, .list .full [], .v (.string ⟨#[]⟩), .list .full []] := ⟨_, rfl⟩
  have H : Arr (m1.newLoc (GV.rows l).flatten) m1.nloc l.length (mkG l g) [] :=
    ⟨by simp, by rw [ar, mkG_list, List.append_nil]; simp, hlen, by omega⟩
  rw [← hm1]
  refine tS1 fun K Kp hK hKp => ?_; refine ACall.mono (deleteG H (fun _ _ => trivial) (Nat.le_refl _)) ?_
  rintro _ _ ⟨D, r2, hD, hr2, rfl, rfl⟩
  refine hK _ _ ?_; clear hK hKp K Kp
  have hDl : D.size ≤ l.length := by
    have := congrArg List.length hD
    have h2 := List.length_filter_le nzG (mkG l g).toList
    simp only [Array.length_toList] at this h2
    omega
  have H2 : Arr ((m1.newLoc (GV.rows l).flatten).setLoc m1.nloc (ar D r2)) m1.nloc D.size D r2 := ⟨by simp, by simp, rfl, by omega⟩
  refine tS ?_
  refine tS1 fun K Kp hK hKp => ?_; refine ACall.mono (sortG H2 hr2) ?_
  rintro _ _ ⟨R, hR1, hR2, rfl, rfl⟩
  refine hK _ _ ?_; clear hK hKp K Kp
  rw [setLoc_setLoc]
  have H3 : Arr ((m1.newLoc (GV.rows l).flatten).setLoc m1.nloc (ar R r2)) m1.nloc D.size R r2 := ⟨by simp, by simp, hR1.1, by omega⟩
  refine tS ?_
  refine tS1 fun K Kp hK hKp => ?_; refine ACall.mono (compactG H3 hr2 hDl) ?_
  rintro _ _ ⟨E, r3, hE, hr3, rfl, rfl⟩
  refine hK _ _ ?_; clear hK hKp K Kp
  rw [setLoc_setLoc]
  have hset := sorted_setF l g (mkG l g) D R (mkG_list l g) hD hR1 hR2
  rw [← hE] at hset
  refine tS1 fun K Kp hK hKp => ?_
  refine hK _ _ ?_; clear hK hKp K Kp
  refine AList.nil ?_
  refine AExit.norT ?_
  have hEl : E.size = (setF l).length := by
    have := congrArg List.length hset
    simpa using this
  have hEs : E.size ≤ l.length := by rw [hEl]; exact setF_len l
  have hsee := Sees.fz (m := (m1.newLoc (GV.rows l).flatten).setLoc m1.nloc (ar E r3)) (p := mar m1.nloc E.size l.length) (n := m1.nloc) (s := 6) (cs := ar E r3) (by simp) (by simp)
  have hch : PV.fz m1.nloc 6 (ar E r3) (mar m1.nloc E.size l.length) = GV.pvs (setF l) := by
    rw [PV.fz, if_pos ⟨rfl, hEs, by rw [ar_len]; omega⟩]
    have e1 : ((ar E r3).drop 0).take (E.size * 6) = (GV.rows (setF l)).flatten := by
      rw [List.drop_zero, ar, hset, hEl]
      exact List.take_left' (by rw [rows_flat_len])
    have e2 := chunk_rows (setF l) []
    rw [List.append_nil] at e2
    rw [e1, hEl, e2]
  rw [hch] at hsee
  refine AW.sees (d := 0) (p' := GV.pvs (setF l)) (m' := ((m1.newLoc (GV.rows l).flatten).setLoc m1.nloc (ar E r3)).dropLoc m1.nloc) (by simp only [upd_lit]; exact hsee) ?_
  subst hm1
  refine tS ?_
  refine Fin.givesC (p := .agg [vI 8, vI 0, vB false, .list .full [], vS ⟨#[]⟩, GV.pvs (setF l)]) rfl ?_ ?_ (by simp [GV.cells, limbs])
  · simp [upd_lit]; omega
  · refine Same.dropLoc ?_ (by simp) |>.setLoc (by simp) _
    refine Same.setLoc ?_ (by simp) _
    exact Same.auto
end Go.Proofs.YtgfadepkiejncaaGreat
namespace Go.Proofs.YtgfadepkiejncaaGreat
open Go.Ab Go.Sort
set_option maxHeartbeats 0
set_option maxRecDepth 100000
attribute [local irreducible] AW AList ACall DA AExit.then AExit.inBlock YCall DCall
theorem index0 : Gives Tryz.prog 148 [.list .no [], cloO] (vI (-1)) := by
  intro m
  refine ACall.of_aw Tryz.func148 Tryz.ntmps148 rfl rfl (by simp) ?_
  refine tS ?_
  refine AW.loop (ι := Nat) (fun _ σ m' => σ 8 = vI 0 ∧ σ 7 = vI 0 ∧ m' = m) (fun i => i) 0 ?_ ?_
  · exact ⟨by simp [upd_lit], by simp [upd_lit], rfl⟩
  rintro i σ m' ⟨t8, t7, rfl⟩
  have F := (aand @t8 @t7); refine tFa ?_; (try clear F)
  exact Fin.gives Same.auto
theorem delete0 : Gives Tryz.prog 140 [.list .no [], cloO] (.list .no []) := by
  intro m
  refine ACall.of_aw Tryz.func140 Tryz.ntmps140 rfl rfl (by simp) ?_
  refine tS ?_
  refine tS1 fun K Kp hK hKp => ?_; refine Gives.at (index0) ?_; apply hK; clear hK hKp K Kp
  refine tSa ?_
  exact Fin.gives Same.auto
theorem compact0 : Gives Tryz.prog 144 [.list .no [], cloE] (.list .no []) := by
  intro m
  refine ACall.of_aw Tryz.func144 Tryz.ntmps144 rfl rfl (by simp) ?_
  refine tSa ?_
  exact Fin.gives Same.auto
theorem insertion0 : Gives Tryz.prog 175 [.list .no [], vI 0, vI 0, cloC] (.tup []) := by
  intro m
  refine ACall.of_aw Tryz.func175 Tryz.ntmps175 rfl rfl (by simp) ?_
  refine tS ?_
  refine AW.loop (ι := Nat) (fun _ σ m' => σ 8 = vI 1 ∧ σ 2 = vI 0 ∧ m' = m) (fun i => i) 0 ?_ ?_
  · exact ⟨by simp [upd_lit], by simp [upd_lit], rfl⟩
  rintro i σ m' ⟨t8, t2, rfl⟩
  have F := (aand @t8 @t2); refine tFa ?_; (try clear F)
  exact Fin.here (r := .tup []) (by exact ⟨[], rfl, rfl⟩) (.inl rfl) ⟨rfl, rfl⟩
theorem pdq0 : Gives Tryz.prog 165 [.list .no [], vI 0, vI 0, vI 0, cloC] (.tup []) := by
  intro m
  refine ACall.of_aw Tryz.func165 Tryz.ntmps165 rfl rfl (by simp) ?_
  refine tS ?_
  refine AW.loop (ι := Nat) (fun _ σ m' => σ 0 = .list .no [] ∧ σ 1 = vI 0 ∧ σ 2 = vI 0 ∧ σ 4 = cloC ∧ m' = m) (fun i => i) 0 ?_ ?_
  · exact ⟨by simp [upd_lit], by simp [upd_lit], by simp [upd_lit], by simp [upd_lit], rfl⟩
  rintro i σ m' ⟨t0, t1, t2, t4, rfl⟩
  have F := (aand @t0 (aand @t1 (aand @t2 @t4))); refine tFa ?_; (try clear F)
  refine tS1 fun K Kp hK hKp => ?_; refine Gives.at (insertion0) ?_; apply hK; clear hK hKp K Kp
  refine tSa ?_
  exact Fin.here (r := .tup []) (by exact ⟨[], rfl, rfl⟩) (.inr rfl) ⟨rfl, rfl⟩
theorem sort0 : Gives Tryz.prog 143 [.list .no [], cloC] (.tup []) := by
  intro m
  refine ACall.of_aw Tryz.func143 Tryz.ntmps143 rfl rfl (by simp) ?_
  have hb : ((bitsLen 0 : Nat) : Int) = 0 := rfl
  refine tS ?_
  refine tS1 fun K Kp hK hKp => ?_; refine Gives.at (bitsLenG 0 (by omega)) ?_; apply hK; clear hK hKp K Kp
  have F := @hb; refine tF ?_; (try clear F)
  refine tS1 fun K Kp hK hKp => ?_; refine Gives.at (pdq0) ?_; apply hK; clear hK hKp K Kp
  refine tS ?_
  exact Fin.here (r := .tup []) (by exact ⟨[], rfl, rfl⟩) (.inl rfl) ⟨rfl, rfl⟩
theorem clone0 : Gives Tryz.prog 141 [.list .no []] (.list .no []) := by
  intro m
  refine ACall.of_aw Tryz.func141 Tryz.ntmps141 rfl rfl (by simp) ?_
  refine tS ?_
  refine AList.op (by decide) ?_; intro K Kp hK hKp; simp [upd_lit]
  refine ⟨?_, ?_⟩
  · apply hK; clear hK hKp K Kp
    refine tSa ?_
    refine AList.op (by decide) ?_; intro K Kp hK hKp; simp [upd_lit]
    refine app25 (l := []) (l' := []) (m0 := m) (.full (Same.refl m)) rfl (by simp) fun o' m'' ho' _ => hK _ _ ?_; clear hK hKp K Kp
    refine tS ?_
    exact Fin.ret rfl ho'.1 (by simp [upd_lit]; rfl) (by simp) ⟨rfl, rfl⟩
  · apply hK; clear hK hKp K Kp
    refine tS ?_
    refine AW.cond (t := true) (by simp [upd_lit]) (fun _ => ?_) (fun h => by cases h)
    refine tSn ?_
    refine AW.nilS (d := 2) (by simp [upd_lit]) ?_
    refine tS ?_
    exact Fin.ret rfl (Same.refl m) (by simp [upd_lit]) (by simp) ⟨rfl, rfl⟩
theorem sorted0 : Gives Tryz.prog 96 [GV.pvs []] (.agg (GV.mk 8 0 false [] ⟨#[]⟩ (setF [])).cells) := by
  intro m
  have e : setF [] = [] := List.length_eq_zero_iff.1 (Nat.le_zero.1 (setF_len []))
  rw [e]
  refine ACall.of_aw Tryz.func96 Tryz.ntmps96 rfl rfl (by simp) ?_
  refine tS ?_
  refine tS1 fun K Kp hK hKp => ?_; refine Gives.at (clone0) ?_; apply hK; clear hK hKp K Kp
  refine tS ?_
  refine tS1 fun K Kp hK hKp => ?_; refine Gives.at (delete0) ?_; apply hK; clear hK hKp K Kp
  refine tS ?_
  refine tS1 fun K Kp hK hKp => ?_; refine Gives.at (sort0) ?_; apply hK; clear hK hKp K Kp
  refine tS ?_
  refine tS1 fun K Kp hK hKp => ?_; refine Gives.at (compact0) ?_; apply hK; clear hK hKp K Kp
  refine tS ?_
  refine Fin.givesC (p := .agg [vI 8, vI 0, vB false, .list .full [], vS ⟨#[]⟩, .list .no []]) rfl (by simp [upd_lit]) Same.auto (by rfl)
end Go.Proofs.YtgfadepkiejncaaGreat
namespace Go.Proofs.YtgfadepkiejncaaGreat
open Go.Ab Go.Sort
set_option maxHeartbeats 0
set_option maxRecDepth 100000
attribute [local irreducible] AW AList ACall DA AExit.then AExit.inBlock YCall DCall
theorem val_sorted (l : List GV) (g : goods l) (hl : l.length ≤ 1000000) : Gives Tryz.prog 96 [GV.pvs l] (setV (setF l)).pv := by
  by_cases h0 : l = []
  · subst h0; exact sorted0
  · exact sortedG l g h0 hl
theorem setF_nodes (l : List GV) (g : goods l) : nodesL (setF l) ≤ nodesL l := by
  obtain ⟨s1, s2, s3⟩ := setF_spec _ g
  exact nodesL_sub (Inc_nodup s1) fun x hx => ((s3 x).1 hx).1
theorem val_set (l : List GV) (g : goods l) (hl : l.length ≤ 1000000) (hn : nodesL l < 1000000000) : Gives Tryz.prog 41 [GV.pvs l] (outP (fitV (setV (setF l))) (fitE (setV (setF l)))) := by
  have h1 := setF_nodes l g
  obtain ⟨s1, s2, s3⟩ := setF_spec _ g
  have en : nodes (setV (setF l)) = 1 + nodesL (setF l) := nodes_eq _
  intro m
  refine ACall.of_aw Tryz.func41 Tryz.ntmps41 rfl rfl (by simp) ?_
  refine tS ?_
  refine tS1 fun K Kp hK hKp => ?_; refine Gives.at (val_sorted l g hl) ?_; apply hK; clear hK hKp K Kp
  refine tS ?_
  refine tS1 fun K Kp hK hKp => ?_; refine Gives.at (val_sized (setV (setF l)) (by omega) (small_list s2)) ?_; apply hK; clear hK hKp K Kp
  refine tS ?_
  refine Fin.ret (p := outP (fitV (setV (setF l))) (fitE (setV (setF l)))) ?_ Same.auto (by simp) (by simp) ⟨rfl, rfl⟩
  simp [ResP, ResL, resV, upd_lit, show Tryz.f41.results.toList = [.cell 2 27, .tmp 3] from rfl]
def tmN (l : List GV) : Nat → Nat
  | 0 => 0
  | n + 1 => if (l[n]?.getD default).kind = 0 then tmN l n else n + 1
def tmF (l : List GV) : List GV := l.take (tmN l l.length)
abbrev tupV (l : List GV) : GV := .mk 7 0 false [] ⟨#[]⟩ l
theorem slice3 (l : List GV) (n : Nat) (hn : n ≤ l.length) (m : St) (K : PV → St → Prop) (h : K (.list .full (GV.rows (l.take n))) m) : aslice Tryz.prog 25 (GV.pvs l) none (some (vI n)) (some (vI n)) m K := by
  simp [aslice, abnd, rows_take]; exact ⟨hn, h⟩
theorem val_tuple (l : List GV) (g : goods l) (hl : l.length ≤ 1000000) (hn : nodesL l < 1000000000) : Gives Tryz.prog 40 [GV.pvs l] (outP (fitV (tupV (tmF l))) (fitE (tupV (tmF l)))) := by
  have h1 := nodesL_take_le l (tmN l l.length)
  have en : nodes (tupV (tmF l)) = 1 + nodesL (l.take (tmN l l.length)) := nodes_eq _
  intro m
  refine ACall.of_aw Tryz.func40 Tryz.ntmps40 rfl rfl (by simp) ?_
  refine tS ?_
  generalize hmm : m.newLoc _ = mm
  have sm : Same m mm := by rw [← hmm]; exact Same.auto
  have g0 : mm.loc m.nloc = some [vI 0, vI 0, vB false, .list .full [], vS ⟨#[]⟩, .list .full []] := by rw [← hmm]; simp
  have n0 : m.nloc < mm.nloc := by rw [← hmm]; simp
  clear hmm
  refine AW.loop (ι := Nat) (fun n σ m' => n ≤ l.length ∧ tmN l n = tmN l l.length ∧ σ 0 = GV.pvs l ∧ σ 2 = .loc m.nloc 0 ∧ σ 4 = vI n ∧ m' = mm) (fun n => n) l.length ?_ ?_
  · exact ⟨by simp, rfl, by simp [upd_lit], by simp [upd_lit], by simp [upd_lit], rfl⟩
  rintro n σ m' ⟨hn', ht, t0, t2, t4, rfl⟩
  have tk : ∀ (h : tmN l n = n), tmF l = l.take n := fun h => by rw [tmF, ← ht, h]
  have en' : ∀ k : Nat, nodes (tupV (l.take k)) = 1 + nodesL (l.take k) := fun k => nodes_eq _
  have gt : ∀ k : Nat, goods (l.take k) := fun k x hx => g x (List.mem_of_mem_take hx)
  have fin : ∀ (q : Nat), nodesL (l.take q) ≤ nodesL l := fun q => nodesL_take_le l q
  cases n with
  | zero =>
    have e := tk rfl
    rw [e]
    have := fin 0
    have := en' 0
    have F := (aand @t0 @t4); refine tFa ?_; (try clear F)
    have F := (aand @t0 @t4); refine tF1 fun K Kp hK hKp => ?_; (try clear F)
    refine slice3 l 0 (by omega) _ _ ?_
    apply hK; clear hK hKp K Kp
    refine tS ?_
    refine tS1 fun K Kp hK hKp => ?_; refine Gives.at (val_sized (tupV (l.take 0)) (by omega) (small_list (gt _))) ?_; apply hK; clear hK hKp K Kp
    have F := (aand @t2 (aand @g0 @n0)); refine tF ?_; (try clear F)
    refine Fin.ret (p := outP (fitV (tupV (l.take 0))) (fitE (tupV (l.take 0)))) ?_ (sm.setLoc (by omega) _) (by simp) (by simp) ⟨rfl, rfl⟩
    simp [ResP, ResL, resV, upd_lit, t2, n0, show Tryz.f40.results.toList = [.cell 2 27, .tmp 3] from rfl]
  | succ n =>
    have hlt : n < l.length := by omega
    have e1 : (l[n]?.getD default) = l[n] := by rw [List.getElem?_eq_getElem hlt, Option.getD_some]
    obtain ⟨q, hq⟩ : ∃ q : Int, q = ((n + 1 : Nat) : Int) := ⟨_, rfl⟩
    have e8 : q - 1 = (n : Int) := by omega
    have e9 : 0 < q := by omega
    rw [← hq] at t4
    by_cases hk : l[n].kind = 0
    · rw [tmN, e1, if_pos hk] at ht
      have F := (aand @t0 (aand @t4 (aand @e8 (aand @e9 (aand @hlt (aand @rows_getD @hk)))))); refine tFg ?_; (try clear F)
      refine tSa ?_
      have F := (aand @t4 @e8); refine tF ?_; (try clear F)
      exact ⟨n, ⟨by omega, ht, by simp [upd_lit, t0], by simp [upd_lit, t2], by simp [upd_lit], rfl⟩, by omega⟩
    · have e := tk (by rw [tmN, e1, if_neg hk])
      rw [e]
      have := fin (n + 1)
      have := en' (n + 1)
      have F := (aand @t0 (aand @t4 (aand @e8 (aand @e9 (aand @hlt (aand @rows_getD @hk)))))); refine tFg ?_; (try clear F)
      refine tSa ?_
      have F := (aand @t0 @t4); refine tF1 fun K Kp hK hKp => ?_; (try clear F)
      rw [hq]
      refine slice3 l (n + 1) hn' _ _ ?_
      apply hK; clear hK hKp K Kp
      refine tS ?_
      refine tS1 fun K Kp hK hKp => ?_; refine Gives.at (val_sized (tupV (l.take (n + 1))) (by omega) (small_list (gt _))) ?_; apply hK; clear hK hKp K Kp
      have F := (aand @t2 (aand @g0 @n0)); refine tF ?_; (try clear F)
      refine Fin.ret (p := outP (fitV (tupV (l.take (n + 1)))) (fitE (tupV (l.take (n + 1))))) ?_ (sm.setLoc (by omega) _) (by simp) (by simp) ⟨rfl, rfl⟩
      simp [ResP, ResL, resV, upd_lit, t2, n0, show Tryz.f40.results.toList = [.cell 2 27, .tmp 3] from rfl]
end Go.Proofs.YtgfadepkiejncaaGreat
namespace Go.Proofs.YtgfadepkiejncaaGreat
open Go.Ab Go.Sort
set_option maxHeartbeats 0
set_option maxRecDepth 100000
attribute [local irreducible] AW AList ACall DA AExit.then AExit.inBlock YCall DCall
theorem good_om : good omV := by
  refine ⟨?_, omV_ok⟩
  rw [fmd_eq]
  exact ⟨⟨by simp [fieldsF, GV.kind, GV.neg, GV.abs, GV.str, GV.els, GV.num], by rfl, by simp [GV.abs], by show (0 : Nat) ≤ 1000; omega⟩, fun h => by simp [GV.kind] at h, trivial⟩
def hasF (s x : GV) : Bool := if s.kind = 8 then isF s.els x else false
theorem has_any (s x : GV) (gs : good s) (gx : good x) (ls : nodes s < 100000000000) : Gives Tryz.prog 61 [s.pv, x.pv] (vB (hasF s x)) := by
  have hf := val_find s x gs gx ls
  by_cases h8 : s.kind = 8
  · have := law_has s x gs gx h8 ls
    rwa [hasF, if_pos h8]
  rw [if_neg h8] at hf
  rw [hasF, if_neg h8]
  intro m
  refine ACall.of_aw Tryz.func61 Tryz.ntmps61 rfl rfl (by simp) ?_
  refine tS ?_
  refine tS1 fun K Kp hK hKp => ?_; refine Gives.at (hf) ?_; apply hK; clear hK hKp K Kp
  refine tS ?_
  exact Fin.gives Same.auto
theorem fieldsF_set (l : List GV) : fieldsF (setV l) = true := by simp [fieldsF, GV.kind, GV.neg, GV.abs, GV.str, GV.els, GV.num]
theorem set_goodI {l : List GV} (g : goods l) (hi : Inc l) (h0 : ∀ x ∈ l, x.kind ≠ 0) (hlen : l.length < 1000000) : good (setV l) := by
  refine ⟨?_, setV_ok g hlen⟩
  rw [fmd_eq]
  exact ⟨⟨fieldsF_set l, by rfl, by simp [GV.abs], by show (0 : Nat) ≤ 1000; omega⟩, fun _ => ⟨h0, (incr_none g).2 hi⟩, (fmdL_iff _).2 fun x hx => (g x hx).1⟩
theorem setF_goodI {l : List GV} (g : goods l) (hlen : l.length < 1000000) : good (setV (setF l)) := by
  obtain ⟨s1, s2, s3⟩ := setF_spec _ g
  exact set_goodI s2 s1 (fun x hx => ((s3 x).1 hx).2) (Nat.lt_of_le_of_lt (setF_len l) hlen)
theorem hasF_mem {l : List GV} (g : goods l) (hi : Inc l) {x : GV} (gx : good x) : hasF (setV l) x = true ↔ x ∈ l := by
  rw [hasF, if_pos (show (setV l).kind = 8 from rfl)]; exact isF_mem l x gx g hi
theorem fitV_good {v : GV} (h : good v) : good (fitV v) := by unfold fitV; split; exact h; exact good_om
theorem fit_cases (v : GV) : (fitV v = v ∧ fitE v = 0) ∨ (fitV v = omV ∧ fitE v = 3) := by
  cases h : fitB v
  · exact .inr (by simp [fitV, fitE, h])
  · exact .inl (by simp [fitV, fitE, h])
theorem set_eta {a : GV} (h : good a) (h8 : a.kind = 8) : a = setV a.els := by
  have hf := h.1
  rw [fmd_eq] at hf
  have hn := node_fields hf.1
  obtain ⟨f1, f2, f3, f4⟩ := hn
  have e1 := f1 (by omega) (by omega)
  have e2 := f2 (by omega)
  have e4 := f4 (by omega) (by omega) (by omega) (by omega)
  have e3 : a.str = ⟨#[]⟩ := by
    rw [Lib.toList_data] at e2
    have := congrArg List.length e2
    exact ByteArray.ext (Array.eq_empty_of_size_eq_zero (by simpa using this))
  exact gv_ext h8 e4 e1.1 e1.2 e3 rfl
theorem set_ext {a b : GV} (ga : good a) (gb : good b) (ha : a.kind = 8) (hb : b.kind = 8) (h : ∀ z, z ∈ a.els ↔ z ∈ b.els) : a = b := by
  rw [set_eta ga ha, set_eta gb hb]
  congr 1
  exact Inc_unique _ _ (set_Inc ga ha) (set_Inc gb hb) h
end Go.Proofs.YtgfadepkiejncaaGreat
namespace Go.Proofs.YtgfadepkiejncaaGreat
open Go.Ab Go.Sort
set_option maxHeartbeats 0
set_option maxRecDepth 100000
attribute [local irreducible] AW AList ACall DA AExit.then AExit.inBlock YCall DCall
theorem nodesL_le {n : Nat} : ∀ (l : List GV), (∀ x ∈ l, nodes x ≤ n) → nodesL l ≤ l.length * n
  | [], _ => by simp [nodesL]
  | v :: l, h => by
    have h1 := h v (by simp)
    have h2 := nodesL_le l fun x hx => h x (by simp [hx])
    simp only [nodesL, List.length_cons, Nat.add_mul]
    omega
end Go.Proofs.YtgfadepkiejncaaGreat
namespace Go.Proofs.YtgfadepkiejncaaGreat
open Go.Ab Go.Sort
set_option maxHeartbeats 0
set_option maxRecDepth 100000
attribute [local irreducible] AW AList ACall DA AExit.then AExit.inBlock YCall DCall
def pairB (v : GV) : Bool := decide (v.kind = 7) && decide ((v.els.length : Int) = 2) && !decide ((v.els[0]?.getD default).kind = 0) && !decide ((v.els[1]?.getD default).kind = 0)
theorem val_isPair (v : GV) : Gives Tryz.prog 50 [v.pv] (vB (pairB v)) := by
  intro m
  refine ACall.of_aw Tryz.func50 Tryz.ntmps50 rfl rfl (by simp) ?_
  by_cases h1 : v.kind = 7
  rotate_left
  · have F := @h1; refine tFg ?_; (try clear F)
    exact Fin.gives Same.auto rfl (by simp [upd_lit, pairB, h1])
  by_cases h2 : (v.els.length : Int) = 2
  rotate_left
  · have F := (aand @h1 @h2); refine tFg ?_; (try clear F)
    exact Fin.gives Same.auto rfl (by simp [upd_lit, pairB, h1, h2])
  obtain ⟨a, b, e⟩ : ∃ a b, v.els = [a, b] := by
    match h : v.els, h2 with
    | [a, b], _ => exact ⟨a, b, rfl⟩
    | [], h2 => simp at h2
    | [a], h2 => simp at h2
    | a :: b :: c :: l, h2 => simp at h2; omega
  have r0 : rowI (GV.rows [a, b]) 0 = a.cells := rows_getD [a, b] 0 (by simp)
  have r1 : rowI (GV.rows [a, b]) 1 = b.cells := rows_getD [a, b] 1 (by simp)
  have hp : pairB v = (!decide (a.kind = 0) && !decide (b.kind = 0)) := by simp [pairB, h1, e]
  rw [hp]
  clear h2 hp
  by_cases h3 : a.kind = 0
  · have F := (aand @h1 (aand @e (aand @r0 (aand @r1 @h3)))); refine tFg ?_; (try clear F)
    exact Fin.gives Same.auto rfl (by simp [upd_lit, h3])
  · have F := (aand @h1 (aand @e (aand @r0 (aand @r1 @h3)))); refine tFg ?_; (try clear F)
    exact Fin.gives Same.auto rfl (by simp [upd_lit, h3])
def fxF (p : GV → Bool) : List GV → Int → Int
  | [], _ => -1
  | x :: l, i => if p x then i else fxF p l (i + 1)
theorem fxF_nn (p : GV → Bool) : ∀ (l : List GV) (i : Int), 0 ≤ i → (0 ≤ fxF p l i ↔ l.any p = true)
  | [], i, _ => by simp [fxF]
  | x :: l, i, h => by
    have := fxF_nn p l (i + 1) (by omega)
    cases hx : p x <;> simp [fxF, hx, h] <;> simpa using this
theorem index_val (l : List GV) (p : GV → Bool) (f : FuncId) (hl : l.length < 1152921504606846976) (hf : ∀ x ∈ l, Gives Tryz.prog f [x.pv] (vB (p x))) : Gives Tryz.prog 148 [GV.pvs l, .clo f [] []] (vI (fxF p l 0)) := by
  intro m
  refine ACall.of_aw Tryz.func148 Tryz.ntmps148 rfl rfl (by simp) ?_
  refine tS ?_
  refine AW.loop (ι := Nat) (fun i σ m' => i ≤ l.length ∧ fxF p (l.drop i) i = fxF p l 0 ∧ σ 8 = vI i ∧ σ 7 = vI l.length ∧ σ 0 = GV.pvs l ∧ σ 1 = .clo f [] [] ∧ m' = m) (fun i => l.length - i) 0 ?_ ?_
  · exact ⟨by simp, rfl, by simp [upd_lit], by simp [upd_lit], by simp [upd_lit], by simp [upd_lit], rfl⟩
  rintro i σ m' ⟨hi, hF, t8, t7, t0, t1, rfl⟩
  by_cases hlt : i < l.length
  · rw [List.drop_eq_getElem_cons hlt, fxF] at hF
    have F := (aand @t8 (aand @t7 @hlt)); refine tFa ?_; (try clear F)
    have F := (aand @t0 (aand @t1 (aand @t8 (aand @hlt @rows_getD)))); refine tF ?_; (try clear F)
    have F := (aand @t0 (aand @t1 (aand @hlt @rows_getD))); refine tF1 fun K Kp hK hKp => ?_; (try clear F); refine Gives.at (hf l[i] (List.getElem_mem hlt)) ?_; apply hK; clear hK hKp K Kp
    cases hp : p l[i] with
    | true =>
      rw [hp, if_pos rfl] at hF
      refine tSa ?_
      exact Fin.gives Same.auto rfl (by simp [upd_lit, ← hF])
    | false =>
      rw [hp, if_neg (by simp)] at hF
      refine tSa ?_
      have F := @t8; refine tF ?_; (try clear F)
      exact ⟨i + 1, ⟨by omega, hF, by simp [upd_lit], by simp [upd_lit, t7], by simp [upd_lit, t0], by simp [upd_lit, t1], rfl⟩, by omega⟩
  · have e : i = l.length := by omega
    rw [e, List.drop_length, fxF] at hF
    have F := (aand @t8 (aand @t7 @hlt)); refine tFa ?_; (try clear F)
    exact Fin.gives Same.auto rfl (by simp [upd_lit, ← hF])
theorem contains_val (l : List GV) (p : GV → Bool) (f : FuncId) (hl : l.length < 1152921504606846976) (hf : ∀ x ∈ l, Gives Tryz.prog f [x.pv] (vB (p x))) : Gives Tryz.prog 100 [GV.pvs l, .clo f [] []] (vB (l.any p)) := by
  have e : decide (0 ≤ fxF p l 0) = l.any p := by rw [Bool.eq_iff_iff, decide_eq_true_eq]; exact fxF_nn p l 0 (by omega)
  intro m
  refine ACall.of_aw Tryz.func100 Tryz.ntmps100 rfl rfl (by simp) ?_
  refine tS ?_
  refine tS1 fun K Kp hK hKp => ?_; refine Gives.at (index_val l p f hl hf) ?_; apply hK; clear hK hKp K Kp
  refine tS ?_
  exact Fin.gives Same.auto rfl (by simp [upd_lit, ← e])
theorem clo101 (v : GV) : Gives Tryz.prog 101 [v.pv] (vB (!pairB v)) := by
  intro m
  refine ACall.of_aw Tryz.func101 Tryz.ntmps101 rfl rfl (by simp) ?_
  refine tS ?_
  refine tS1 fun K Kp hK hKp => ?_; refine Gives.at (val_isPair v) ?_; apply hK; clear hK hKp K Kp
  refine tS ?_
  exact Fin.gives Same.auto
def mapB (v : GV) : Bool := decide (v.kind = 8) && v.els.all pairB
theorem val_isMap (v : GV) (hl : v.els.length < 1152921504606846976) : Gives Tryz.prog 52 [v.pv] (vB (mapB v)) := by
  have hc := contains_val v.els (fun x => !pairB x) 101 hl fun x _ => clo101 x
  have e : (v.els.any fun x => !pairB x) = !v.els.all pairB := by rw [List.not_all_eq_any_not]
  rw [e] at hc
  intro m
  refine ACall.of_aw Tryz.func52 Tryz.ntmps52 rfl rfl (by simp) ?_
  by_cases h : v.kind = 8
  · have F := @h; refine tFg ?_; (try clear F)
    have F := @h; refine tFc (hc) ?_; (try clear F)
    have F := @h; refine tFg ?_; (try clear F)
    exact Fin.gives Same.auto rfl (by simp [upd_lit, mapB, h])
  · have F := @h; refine tFg ?_; (try clear F)
    exact Fin.gives Same.auto rfl (by simp [upd_lit, mapB, h])
end Go.Proofs.YtgfadepkiejncaaGreat
namespace Go.Proofs.YtgfadepkiejncaaGreat
open Go.Ab Go.Sort
set_option maxHeartbeats 0
set_option maxRecDepth 100000
attribute [local irreducible] AW AList ACall DA AExit.then AExit.inBlock YCall DCall
theorem pairB_iff {v : GV} : pairB v = true ↔ v.kind = 7 ∧ ∃ a b, v.els = [a, b] ∧ a.kind ≠ 0 ∧ b.kind ≠ 0 := by
  constructor
  · intro h
    simp only [pairB, Bool.and_eq_true, decide_eq_true_eq, Bool.not_eq_true', decide_eq_false_iff_not] at h
    obtain ⟨⟨⟨h1, h2⟩, h3⟩, h4⟩ := h
    refine ⟨h1, ?_⟩
    match hv : v.els, h2 with
    | [a, b], _ => rw [hv] at h3 h4; exact ⟨a, b, rfl, by simpa using h3, by simpa using h4⟩
    | [], h2 => simp at h2
    | [a], h2 => simp at h2
    | a :: b :: c :: l, h2 => simp at h2; omega
  · rintro ⟨h1, a, b, e, h3, h4⟩
    simp [pairB, h1, e, h3, h4]
def p1 (v : GV) : GV := v.els[0]?.getD default
def p2 (v : GV) : GV := v.els[1]?.getD default
def imgL (l : List GV) (x : GV) : List GV := (l.filter fun p => decide (cmpV (p1 p) x = 0)).map p2
theorem imgL_take (l : List GV) (x : GV) (i : Nat) (h : i < l.length) : imgL (l.take (i + 1)) x = imgL (l.take i) x ++ (if cmpV (p1 l[i]) x = 0 then [p2 l[i]] else []) := by
  rw [imgL, filter_take _ l i h, List.map_append, imgL]
  congr 1
  by_cases hc : cmpV (p1 l[i]) x = 0 <;> simp [hc]
theorem imgL_len (l : List GV) (x : GV) (i : Nat) : (imgL (l.take i) x).length ≤ l.length := by
  rw [imgL, List.length_map]; exact filter_take_len _ l i
theorem pair_good {l : List GV} (g : goods l) {p a b : GV} (hp : p ∈ l) (e : p.els = [a, b]) : good a ∧ good b := by
  have := (g p hp).els
  rw [e] at this
  exact ⟨this a (by simp), this b (by simp)⟩
theorem imgL_goods {l : List GV} (g : goods l) (hp : l.all pairB = true) (x : GV) : goods (imgL l x) := by
  intro y hy
  rw [imgL, List.mem_map] at hy
  obtain ⟨p, h1, rfl⟩ := hy
  have hm := (List.mem_filter.1 h1).1
  obtain ⟨_, a, b, e, _, _⟩ := pairB_iff.1 (List.all_eq_true.1 hp p hm)
  have := (pair_good g hm e).2
  simpa [p2, e] using this
theorem pair_nodes {v a b : GV} (e : v.els = [a, b]) : nodes v = 1 + nodes a + nodes b := by
  have := nodes_eq v
  rw [e] at this
  simp [nodesL] at this
  omega
theorem imgL_nodes {l : List GV} (hp : l.all pairB = true) (x : GV) : nodesL (imgL l x) ≤ nodesL l := by
  induction l with
  | nil => simp [imgL, nodesL]
  | cons v l ih =>
    simp only [List.all_cons, Bool.and_eq_true] at hp
    have := ih hp.2
    obtain ⟨_, a, b, e, _, _⟩ := pairB_iff.1 hp.1
    have hn := pair_nodes e
    have e2 : p2 v = b := by simp [p2, e]
    simp only [imgL] at this ⊢
    rw [List.filter_cons]
    split
    · simp only [List.map_cons, nodesL, e2]; omega
    · simp only [nodesL]; omega
abbrev zcV : List PV := [vI 0, vI 0, vB false, .list .full [], vS ⟨#[]⟩, .list .full []]
theorem val_image (f x : GV) (gf : good f) (gx : good x) (lf : nodes f < 1000000) :
    Gives Tryz.prog 46 [f.pv, x.pv] (if mapB f then outP (fitV (setV (setF (imgL f.els x)))) (fitE (setV (setF (imgL f.els x)))) else outP omV 7) := by
  have ef := nodes_eq f
  have nf := nodesL_len f.els
  intro m
  refine ACall.of_aw Tryz.func46 Tryz.ntmps46 rfl rfl (by simp) ?_
  refine tS ?_
  refine tS1 fun K Kp hK hKp => ?_; refine Gives.at (val_isMap f (by omega)) ?_; apply hK; clear hK hKp K Kp
  cases hm : mapB f with
  | false =>
    rw [if_neg (by simp)]
    refine tSa ?_
    refine Fin.ret (p := .tup [.agg [vI 0, vI 0, vB false, .list .full [], vS ⟨#[]⟩, .list .full []], vE 7]) ?_ Same.auto (by rfl) (by simp) ⟨rfl, rfl⟩
    simp [ResP, ResL, resV, upd_lit, show Tryz.f46.results.toList = [.cell 4 27, .tmp 5] from rfl]
  | true =>
  rw [if_pos rfl]
  have hp : f.els.all pairB = true := by rw [mapB, Bool.and_eq_true] at hm; exact hm.2
  have gi := imgL_goods gf.els hp x
  have ni := imgL_nodes hp x
  have li := imgL_len f.els x f.els.length
  rw [List.take_length] at li
  refine tSa ?_
  refine tSn ?_
  refine AW.nilS (d := 6) (by simp [upd_lit]) ?_
  refine tS ?_
  generalize hmm : ((m.newLoc f.cells).newLoc x.cells).newLoc _ = mm
  have sm : Same m mm := by rw [← hmm]; exact Same.auto
  have g1 : mm.loc (m.nloc + 1) = some x.cells := by rw [← hmm]; simp
  have g2 : mm.loc (m.nloc + 2) = some zcV := by rw [← hmm]; simp
  have n1 : mm.nloc = m.nloc + 3 := by rw [← hmm]; simp
  clear hmm
  refine AW.loop (ι := Nat) (fun i σ m' => i ≤ f.els.length ∧ σ 16 = vI i ∧ σ 15 = vI f.els.length ∧ σ 14 = GV.pvs f.els ∧ σ 3 = .loc (m.nloc + 1) 0 ∧ σ 4 = .loc (m.nloc + 2) 0 ∧ (∃ o, σ 6 = .list o (GV.rows (imgL (f.els.take i) x)) ∧ Ow mm m' o 6 (imgL (f.els.take i) x).length)) (fun i => f.els.length - i) 0 ?_ ?_
  · exact ⟨by simp, by simp [upd_lit], by simp [upd_lit], by simp [upd_lit], by simp [upd_lit], by simp [upd_lit], .full, by simp [upd_lit, imgL, GV.rows], .full (Same.refl _)⟩
  rintro i σ m' ⟨hi, t16, t15, t14, t3, t4, o, t6, ho⟩
  have q1 : m.nloc + 1 < m'.nloc := Nat.lt_of_lt_of_le (by omega) ho.same.lloc
  have q2 : m.nloc + 2 < m'.nloc := Nat.lt_of_lt_of_le (by omega) ho.same.lloc
  have q3 : m.nloc + 3 ≤ m'.nloc := Nat.le_trans (by omega) ho.same.lloc
  have k1 : m'.loc (m.nloc + 1) = some x.cells := (ho.same.get (by omega)).trans g1
  have k2 : m'.loc (m.nloc + 2) = some zcV := (ho.same.get (by omega)).trans g2
  by_cases hlt : i < f.els.length
  · have ht := imgL_take f.els x i hlt
    have hl' := imgL_len f.els x i
    have hmem := List.getElem_mem hlt
    obtain ⟨p, ep⟩ : ∃ p, p = f.els[i] := ⟨_, rfl⟩
    have ep' := ep.symm
    rw [ep'] at hmem
    obtain ⟨_, a, b, e, _, _⟩ := pairB_iff.1 (List.all_eq_true.1 hp p hmem)
    obtain ⟨ga, gb⟩ := pair_good gf.els hmem e
    have ea : p1 p = a := by simp [p1, e]
    have eb : p2 p = b := by simp [p2, e]
    rw [← ep, ea, eb] at ht
    have r0 : rowI (GV.rows [a, b]) 0 = a.cells := rows_getD [a, b] 0 (by simp)
    have r1 : rowI (GV.rows [a, b]) 1 = b.cells := rows_getD [a, b] 1 (by simp)
    have F := (aand @t16 (aand @t15 @hlt)); refine tFa ?_; (try clear F)
    have F := (aand @t14 (aand @t16 (aand @hlt (aand @rows_getD @ep')))); refine tF ?_; (try clear F)
    repeat (first | refine AW.seq ?_ | refine AW.block ?_ | refine AW.skip ?_ | refine AExit.norT ?_ | refine AExit.norB ?_ | refine AList.nil ?_)
    have hne : m.nloc + 1 ≠ m'.nloc := by omega
    have q0 : m.nloc < m'.nloc := by omega
    refine AW.draw [.S, .R, .S, .R, .R, .R, .S] (by decide +kernel) ?_; have F := (aand @e (aand @t3 (aand @k1 (aand @q0 (aand @r0 @hne))))); refine dS 0 ?_; refine dR 1 ?_; refine dS 2 ?_; refine dR 3 ?_; refine dR 4 ?_; refine dC ((val_compare a x ga gx)) 5 ?_; refine dS 6 ?_; (try clear F); first | refine dN ?_ | refine dB ?_ | refine DA.done (by decide +kernel) ?_
    have ow2 : Ow mm ((m'.newLoc zcV).setLoc m'.nloc p.cells) o 6 (imgL (f.els.take i) x).length := ⟨(ho.1.newLoc _).setLoc (by omega) _, ho.2⟩
    by_cases hc : cmpV a x = 0
    · rw [if_pos hc] at ht
      have F := @hc; refine tFa ?_; (try clear F)
      have F := (aand @t6 (aand @e @r1)); refine tF ?_; (try clear F)
      refine AList.op (by decide) ?_; intro K Kp hK hKp; simp [t6, upd_lit]
      refine app25 (l' := [b]) ow2 rfl (by simp; omega) fun o' m'' ho' hs' => hK _ _ ?_; clear hK hKp K Kp
      have F := @t16; refine tF ?_; (try clear F)
      exact ⟨i + 1, ⟨by omega, by simp [upd_lit], by simp [upd_lit, t15], by simp [upd_lit, t14], by simp [upd_lit, t3], by simp [upd_lit, t4], o', by simp [upd_lit, ht], by rw [ht]; simpa using ho'⟩, by omega⟩
    · rw [if_neg hc, List.append_nil] at ht
      have F := @hc; refine tFa ?_; (try clear F)
      have F := @t16; refine tF ?_; (try clear F)
      exact ⟨i + 1, ⟨by omega, by simp [upd_lit], by simp [upd_lit, t15], by simp [upd_lit, t14], by simp [upd_lit, t3], by simp [upd_lit, t4], o, by simp [upd_lit, ht, t6], by rw [ht]; exact ow2⟩, by omega⟩
  · have e : i = f.els.length := by omega
    rw [e, List.take_length] at t6
    have F := (aand @t16 (aand @t15 @hlt)); refine tFa ?_; (try clear F)
    have F := @t6; refine tF ?_; (try clear F)
    have F := @t6; refine tF1 fun K Kp hK hKp => ?_; (try clear F); refine Gives.at (val_set (imgL f.els x) gi (by omega) (by omega)) ?_; apply hK; clear hK hKp K Kp
    have F := (aand @t4 (aand @k2 @q2)); refine tF ?_; (try clear F)
    refine Fin.ret (p := outP (fitV (setV (setF (imgL f.els x)))) (fitE (setV (setF (imgL f.els x))))) ?_ ((sm.trans ho.same).setLoc (by omega) _) (by simp) (by simp) ⟨rfl, rfl⟩
    simp [ResP, ResL, resV, upd_lit, t4, q2, show Tryz.f46.results.toList = [.cell 4 27, .tmp 5] from rfl]
end Go.Proofs.YtgfadepkiejncaaGreat
namespace Go.Proofs.YtgfadepkiejncaaGreat
open Go.Ab Go.Sort
set_option maxHeartbeats 0
set_option maxRecDepth 100000
attribute [local irreducible] AW AList ACall DA AExit.then AExit.inBlock YCall DCall
theorem fit_of {f : GV} (hf : Fm f) {s : List GV} (h1 : nodesL s ≤ nodesL f.els) (h2 : deepL s ≤ deepL f.els) : fitB (setV s) = true := by
  have h3 := hf.nodes
  have h4 := hf.deep
  rw [nodes_eq] at h3
  rw [deep_eq] at h4
  have e1 : nodes (setV s) = 1 + nodesL s := nodes_eq _
  have e2 : deep (setV s) = 1 + deepL s := deep_eq _
  simp [fitB, e1, e2]; omega
theorem setF_deep (l : List GV) (g : goods l) : deepL (setF l) ≤ deepL l := by
  obtain ⟨_, _, s3⟩ := setF_spec _ g
  exact deepL_sub fun x hx => ((s3 x).1 hx).1
theorem deepL_mem : ∀ (l : List GV) (x : GV), x ∈ l → deep x ≤ deepL l
  | [], x, h => by simp at h
  | v :: l, x, h => by
    rcases List.mem_cons.1 h with rfl | h
    · simp [deepL]; omega
    · have := deepL_mem l x h; simp [deepL]; omega
theorem deepL_lim {n : Nat} : ∀ (l : List GV), (∀ x ∈ l, deep x ≤ n) → deepL l ≤ n
  | [], _ => by simp [deepL]
  | v :: l, h => by
    have h1 := h v (by simp)
    have h2 := deepL_lim l fun x hx => h x (by simp [hx])
    simp [deepL]; omega
theorem pair_deep {v a b : GV} (e : v.els = [a, b]) : deep a < deep v ∧ deep b < deep v := by
  have := deep_eq v
  rw [e] at this
  simp [deepL] at this
  omega
theorem part_of {l : List GV} (g : goods l) (hp : l.all pairB = true) {y p : GV} (hm : p ∈ l) (h : y = p1 p ∨ y = p2 p) : good y ∧ y.kind ≠ 0 ∧ deep y ≤ deepL l := by
  obtain ⟨_, a, b, e, ha, hb⟩ := pairB_iff.1 (List.all_eq_true.1 hp p hm)
  obtain ⟨ga, gb⟩ := pair_good g hm e
  have h1 := pair_deep e
  have h2 := deepL_mem l p hm
  have ea : p1 p = a := by simp [p1, e]
  have eb : p2 p = b := by simp [p2, e]
  rw [ea, eb] at h
  rcases h with rfl | rfl
  · exact ⟨ga, ha, by omega⟩
  · exact ⟨gb, hb, by omega⟩
theorem img_fits {f : GV} (hf : Fm f) (hm : mapB f = true) (x : GV) : fitB (setV (setF (imgL f.els x))) = true := by
  have hp : f.els.all pairB = true := by rw [mapB, Bool.and_eq_true] at hm; exact hm.2
  have gi := imgL_goods hf.good.els hp x
  refine fit_of hf (Nat.le_trans (setF_nodes _ gi) (imgL_nodes hp x)) (Nat.le_trans (setF_deep _ gi) (deepL_lim _ fun y hy => ?_))
  rw [imgL, List.mem_map] at hy
  obtain ⟨p, h1, rfl⟩ := hy
  exact (part_of hf.good.els hp (List.mem_filter.1 h1).1 (.inr rfl)).2.2
theorem fit_all {f : GV} (hf : Fm f) (hm : mapB f = true) (q : GV → GV) (hq : ∀ p ∈ f.els, q p = p1 p ∨ q p = p2 p) : goods (f.els.map q) ∧ nodesL (f.els.map q) ≤ nodesL f.els ∧ fitB (setV (setF (f.els.map q))) = true := by
  have hp : f.els.all pairB = true := by rw [mapB, Bool.and_eq_true] at hm; exact hm.2
  have gg : goods (f.els.map q) := fun y hy => by
    obtain ⟨p, h1, rfl⟩ := List.mem_map.1 hy
    exact (part_of hf.good.els hp h1 (hq p h1)).1
  have hn : ∀ l : List GV, l.all pairB = true → (∀ p ∈ l, q p = p1 p ∨ q p = p2 p) → nodesL (l.map q) ≤ nodesL l := by
    intro l
    induction l with
    | nil => intro _ _; simp [nodesL]
    | cons v l ih =>
      intro hp hq
      simp only [List.all_cons, Bool.and_eq_true] at hp
      have h1 := ih hp.2 fun p h => hq p (by simp [h])
      obtain ⟨_, a, b, e, _, _⟩ := pairB_iff.1 hp.1
      have h2 := pair_nodes e
      have ea : p1 v = a := by simp [p1, e]
      have eb : p2 v = b := by simp [p2, e]
      have h3 := hq v (by simp)
      rw [ea, eb] at h3
      simp only [List.map_cons, nodesL]
      rcases h3 with h3 | h3 <;> rw [h3] <;> omega
  refine ⟨gg, hn _ hp hq, fit_of hf (Nat.le_trans (setF_nodes _ gg) (hn _ hp hq)) (Nat.le_trans (setF_deep _ gg) (deepL_lim _ fun y hy => ?_))⟩
  obtain ⟨p, h1, rfl⟩ := List.mem_map.1 hy
  exact (part_of hf.good.els hp h1 (hq p h1)).2.2
theorem tup_good {l : List GV} (g : goods l) (hl : l = [] ∨ (l[l.length - 1]?.getD default).kind ≠ 0) (hlen : l.length < 1000000) : good (tupV l) := by
  refine ⟨?_, ⟨by omega, by omega, by decide, by show (0 : Nat) < _; omega, by omega, fun x hx => (by cases hx), (okL_iff l).2 fun x hx => (g x hx).2⟩⟩
  rw [fmd_eq]
  refine ⟨⟨?_, ?_, by simp [GV.abs], by show (0 : Nat) ≤ 1000; omega⟩, fun h => by simp [GV.kind] at h, (fmdL_iff _).2 fun x hx => (g x hx).1⟩
  · simp [fieldsF, GV.kind, GV.neg, GV.abs, GV.str, GV.els, GV.num]
  · rcases hl with rfl | hl
    · rfl
    · have : decide ((l[l.length - 1]?.getD default).kind = 0) = false := decide_eq_false hl
      show (decide (l = []) || !decide ((l[l.length - 1]?.getD default).kind = 0)) = true
      rw [this]; simp
def turnP (p : GV) : GV := tupV [p2 p, p1 p]
def invL (l : List GV) : List GV := l.map turnP
theorem inv_all {f : GV} (hf : Fm f) (hm : mapB f = true) : goods (invL f.els) ∧ nodesL (invL f.els) ≤ nodesL f.els ∧ fitB (setV (setF (invL f.els))) = true := by
  have hp : f.els.all pairB = true := by rw [mapB, Bool.and_eq_true] at hm; exact hm.2
  have gg : goods (invL f.els) := fun y hy => by
    obtain ⟨p, h1, rfl⟩ := List.mem_map.1 hy
    have h2 := part_of hf.good.els hp h1 (.inl rfl)
    have h3 := part_of hf.good.els hp h1 (.inr rfl)
    refine tup_good (fun z hz => ?_) (.inr (by simpa using h2.2.1)) (by simp)
    simp at hz
    rcases hz with rfl | rfl
    · exact h3.1
    · exact h2.1
  have hn : ∀ l : List GV, l.all pairB = true → nodesL (invL l) ≤ nodesL l ∧ deepL (invL l) ≤ deepL l := by
    intro l
    induction l with
    | nil => intro _; simp [invL, nodesL, deepL]
    | cons v l ih =>
      intro hp
      simp only [List.all_cons, Bool.and_eq_true] at hp
      have h1 := ih hp.2
      obtain ⟨_, a, b, e, _, _⟩ := pairB_iff.1 hp.1
      have h2 := pair_nodes e
      have h4 := deep_eq v
      rw [e] at h4
      have ea : p1 v = a := by simp [p1, e]
      have eb : p2 v = b := by simp [p2, e]
      have h5 : nodes (turnP v) = 1 + nodesL [b, a] := by rw [turnP, ea, eb]; exact nodes_eq _
      have h6 : deep (turnP v) = 1 + deepL [b, a] := by rw [turnP, ea, eb]; exact deep_eq _
      simp only [nodesL, deepL] at h4 h5 h6
      simp only [invL, List.map_cons, nodesL, deepL] at h1 ⊢
      omega
  have h := hn _ hp
  exact ⟨gg, h.1, fit_of hf (Nat.le_trans (setF_nodes _ gg) h.1) (Nat.le_trans (setF_deep _ gg) h.2)⟩
end Go.Proofs.YtgfadepkiejncaaGreat
namespace Go.Proofs.YtgfadepkiejncaaGreat
open Go.Ab Go.Sort
set_option maxHeartbeats 0
set_option maxRecDepth 100000
attribute [local irreducible] AW AList ACall DA AExit.then AExit.inBlock YCall DCall
def imgS (f x : GV) : List GV := setF (imgL f.els x)
theorem val_imageM {f x : GV} (hf : Fm f) (gx : good x) (hm : mapB f = true) : Gives Tryz.prog 46 [f.pv, x.pv] (outP (setV (imgS f x)) 0) := by
  have h := val_image f x hf.good gx (by have := hf.nodes; omega)
  have hb := img_fits hf hm x
  rw [if_pos hm, show fitV (setV (setF (imgL f.els x))) = setV (setF (imgL f.els x)) from by simp [fitV, hb], show fitE (setV (setF (imgL f.els x))) = 0 from by simp [fitE, hb]] at h
  exact h
def onlyF (s : List GV) : GV := if (s.length : Int) = 1 then s[0]?.getD default else omV
theorem val_applyM {f x : GV} (hf : Fm f) (gx : good x) (hm : mapB f = true) : Gives Tryz.prog 47 [f.pv, x.pv] (outP (onlyF (imgS f x)) 0) := by
  have hi := val_imageM hf gx hm
  generalize imgS f x = S at *
  intro m
  refine ACall.of_aw Tryz.func47 Tryz.ntmps47 rfl rfl (by simp) ?_
  refine tS ?_
  refine tS1 fun K Kp hK hKp => ?_; refine Gives.at (hi) ?_; apply hK; clear hK hKp K Kp
  refine tS ?_
  by_cases h1 : (S.length : Int) = 1
  · obtain ⟨a, rfl⟩ : ∃ a, S = [a] := by
      match S, h1 with
      | [a], _ => exact ⟨a, rfl⟩
      | [], h => simp at h
      | a :: b :: l, h => simp at h; omega
    have e : onlyF [a] = a := rfl
    have r0 : rowI (GV.rows [a]) 0 = a.cells := rows_getD [a] 0 (by simp)
    have hs : (setV [a]).els = [a] := rfl
    rw [e]
    have F := (aand @r0 @hs); refine tFa ?_; (try clear F)
    refine Fin.ret (p := outP a 0) ?_ Same.auto (by simp) (by simp) ⟨rfl, rfl⟩
    simp [ResP, ResL, resV, upd_lit, show Tryz.f47.results.toList = [.cell 4 27, .tmp 5] from rfl]
  · have e : onlyF S = omV := by rw [onlyF, if_neg h1]
    have hs : (setV S).els = S := rfl
    rw [e]
    have F := (aand @h1 @hs); refine tFa ?_; (try clear F)
    refine Fin.ret (p := .tup [.agg [vI 0, vI 0, vB false, .list .full [], vS ⟨#[]⟩, .list .full []], vE 0]) ?_ Same.auto (by rfl) (by simp) ⟨rfl, rfl⟩
    simp [ResP, ResL, resV, upd_lit, show Tryz.f47.results.toList = [.cell 4 27, .tmp 5] from rfl]
theorem imgS_ok {f : GV} (hf : Fm f) (hm : mapB f = true) (x : GV) : goods (imgS f x) ∧ nodesL (imgS f x) ≤ nodesL f.els ∧ (imgS f x).length ≤ 400 := by
  have hp : f.els.all pairB = true := by rw [mapB, Bool.and_eq_true] at hm; exact hm.2
  have gi := imgL_goods hf.good.els hp x
  have h1 := setF_nodes _ gi
  have h2 := imgL_nodes hp x
  have h3 := nodesL_len (setF (imgL f.els x))
  have h4 := hf.nodes
  rw [nodes_eq] at h4
  exact ⟨(setF_spec _ gi).2.1, Nat.le_trans h1 h2, by unfold imgS; omega⟩
theorem invL_take (l : List GV) (i : Nat) (h : i < l.length) : invL (l.take (i + 1)) = invL (l.take i) ++ [turnP l[i]] := by
  rw [List.take_succ_eq_append_getElem h, invL, List.map_append]; rfl
theorem bs25_p (a b : GV) (m : St) (K : PV → St → Prop) : abuildSlice Tryz.prog 25 1 [(0, .agg [.v (.int .i64 7), .v (.int .i64 0), .v (.bool false), .list .full [], .v (.string ⟨#[]⟩), .list .no [b.cells, a.cells]])] m K ↔ K (.list .full [(tupV [b, a]).cells]) m := by
  rw [show [(0, PV.agg [.v (.int .i64 7), .v (.int .i64 0), .v (.bool false), .list .full [], .v (.string ⟨#[]⟩), .list .no [b.cells, a.cells]])] = partsFrom 0 [PV.agg [.v (.int .i64 7), .v (.int .i64 0), .v (.bool false), .list .full [], .v (.string ⟨#[]⟩), .list .no [b.cells, a.cells]]] from rfl]
  rw [show (1 : Nat) = [PV.agg [.v (.int .i64 7), .v (.int .i64 0), .v (.bool false), .list .full [], .v (.string ⟨#[]⟩), .list .no [b.cells, a.cells]]].length from rfl]
  rw [abuildSlice_all (s := 6) (e := 27) (z := .agg #[.int .i64 0, .int .i64 0, .bool false, .slice none 0 0, .string ⟨#[]⟩, .slice none 0 0]) (rs := [[.v (.int .i64 7), .v (.int .i64 0), .v (.bool false), .list .full [], .v (.string ⟨#[]⟩), .list .no [b.cells, a.cells]]]) (by simp) (by simp) (by simp) (by decide) (by decide) (by simp) (by simp) (.cons rfl rfl .nil)]
  have : [[PV.v (.int .i64 7), .v (.int .i64 0), .v (.bool false), .list .full [], .v (.string ⟨#[]⟩), .list .no [b.cells, a.cells]]].map PV.stripL = [(tupV [b, a]).cells] := by simp [GV.cells, GV.rows, limbs]
  rw [this]
theorem val_inverse {f : GV} (hf : Fm f) : Gives Tryz.prog 49 [f.pv] (if mapB f then outP (setV (setF (invL f.els))) 0 else outP omV 7) := by
  have lf := hf.len
  intro m
  refine ACall.of_aw Tryz.func49 Tryz.ntmps49 rfl rfl (by simp) ?_
  refine tS ?_
  refine tS1 fun K Kp hK hKp => ?_; refine Gives.at (val_isMap f (by omega)) ?_; apply hK; clear hK hKp K Kp
  cases hm : mapB f with
  | false =>
    rw [if_neg (by simp)]
    refine tSa ?_
    refine Fin.ret (p := .tup [.agg [vI 0, vI 0, vB false, .list .full [], vS ⟨#[]⟩, .list .full []], vE 7]) ?_ Same.auto (by rfl) (by simp) ⟨rfl, rfl⟩
    simp [ResP, ResL, resV, upd_lit, show Tryz.f49.results.toList = [.cell 2 27, .tmp 3] from rfl]
  | true =>
  rw [if_pos rfl]
  have hp : f.els.all pairB = true := by rw [mapB, Bool.and_eq_true] at hm; exact hm.2
  obtain ⟨g1, g2, g3⟩ := inv_all hf hm
  have hn := hf.nodes
  rw [nodes_eq] at hn
  have hset := val_set (invL f.els) g1 (by simp [invL]; omega) (by omega)
  rw [show fitV (setV (setF (invL f.els))) = setV (setF (invL f.els)) from by simp [fitV, g3], show fitE (setV (setF (invL f.els))) = 0 from by simp [fitE, g3]] at hset
  refine tSa ?_
  refine tSn ?_
  refine AW.nilS (d := 4) (by simp [upd_lit]) ?_
  refine tS ?_
  generalize hmm : (m.newLoc f.cells).newLoc _ = mm
  have sm : Same m mm := by rw [← hmm]; exact Same.auto
  have g1 : mm.loc (m.nloc + 1) = some zcV := by rw [← hmm]; simp
  have n1 : mm.nloc = m.nloc + 2 := by rw [← hmm]; simp
  clear hmm
  refine AW.loop (ι := Nat) (fun i σ m' => i ≤ f.els.length ∧ σ 14 = vI i ∧ σ 13 = vI f.els.length ∧ σ 12 = GV.pvs f.els ∧ σ 2 = .loc (m.nloc + 1) 0 ∧ (∃ o, σ 4 = .list o (GV.rows (invL (f.els.take i))) ∧ Ow mm m' o 6 (invL (f.els.take i)).length)) (fun i => f.els.length - i) 0 ?_ ?_
  · exact ⟨by simp, by simp [upd_lit], by simp [upd_lit], by simp [upd_lit], by simp [upd_lit], .full, by simp [upd_lit, invL, GV.rows], .full (Same.refl _)⟩
  rintro i σ m' ⟨hi, t14, t13, t12, t2, o, t4, ho⟩
  have q1 : m.nloc + 1 < m'.nloc := Nat.lt_of_lt_of_le (by omega) ho.same.lloc
  have k1 : m'.loc (m.nloc + 1) = some zcV := (ho.same.get (by omega)).trans g1
  by_cases hlt : i < f.els.length
  · have ht := invL_take f.els i hlt
    have hmem := List.getElem_mem hlt
    obtain ⟨p, ep⟩ : ∃ p, p = f.els[i] := ⟨_, rfl⟩
    have ep' := ep.symm
    rw [ep'] at hmem ht
    obtain ⟨_, a, b, e, _, _⟩ := pairB_iff.1 (List.all_eq_true.1 hp p hmem)
    have et : turnP p = tupV [b, a] := by simp [turnP, p1, p2, e]
    rw [et] at ht
    have r0 : rowI (GV.rows [a, b]) 0 = a.cells := rows_getD [a, b] 0 (by simp)
    have r1 : rowI (GV.rows [a, b]) 1 = b.cells := rows_getD [a, b] 1 (by simp)
    have ow2 : Ow mm ((m'.newLoc zcV).setLoc m'.nloc p.cells) o 6 (invL (f.els.take i)).length := ⟨(ho.1.newLoc _).setLoc (by omega) _, ho.2⟩
    have hl2 : (invL (f.els.take i)).length ≤ 400 := by simp [invL]; omega
    have F := (aand @t14 (aand @t13 @hlt)); refine tFa ?_; (try clear F)
    have F := (aand @t12 (aand @t14 (aand @hlt (aand @rows_getD @ep')))); refine tF ?_; (try clear F)
    repeat (first | refine AW.seq ?_ | refine AW.block ?_ | refine AW.skip ?_ | refine AExit.norT ?_ | refine AExit.norB ?_ | refine AList.nil ?_)
    have hne : m.nloc + 1 ≠ m'.nloc := by omega
    refine AW.draw [.S, .S, .R, .S, .R, .S, .R, .S, .R, .S, .S, .S, .W, .S] (by decide +kernel) ?_; have F := (aand @t4 (aand @e (aand @r0 (aand @r1 @bs25_p)))); refine dST 0 ?_; refine dST 1 ?_; refine dRT 2 ?_; refine dST 3 ?_; refine dRT 4 ?_; refine dST 5 ?_; refine dRT 6 ?_; refine dST 7 ?_; refine dRT 8 ?_; refine dST 9 ?_; refine dST 10 ?_; refine dST 11 ?_; (try clear F); refine DA.W (oi := ?oiw1) 12 ?aw1 ?bw1 ?cw1 ?dw1 ?ew1 ?fw1; (case aw1 => rfl); (case bw1 => decide +kernel); (case cw1 => rfl); (case dw1 => rfl); (case ew1 => decide); intro K Kp hK hKp; (simp [t4, upd_lit]; refine app25 (l' := [tupV [b, a]]) ow2 rfl (by simp; omega) fun o' m'' ho' hs => hK _ _ ?_; clear hK hKp K Kp); have F := (aand @t4 (aand @e (aand @r0 (aand @r1 @bs25_p)))); refine dST 13 ?_; (try clear F); first | refine dN ?_ | refine dB ?_ | refine DA.done (by decide +kernel) ?_
    have F := @t14; refine tF ?_; (try clear F)
    exact ⟨i + 1, ⟨by omega, by simp [upd_lit], by simp [upd_lit, t13], by simp [upd_lit, t12], by simp [upd_lit, t2], o', by simp [upd_lit, ht], by rw [ht]; simpa using ho'⟩, by omega⟩
  · have e : i = f.els.length := by omega
    rw [e, List.take_length] at t4
    have F := (aand @t14 (aand @t13 @hlt)); refine tFa ?_; (try clear F)
    have F := @t4; refine tF ?_; (try clear F)
    have F := @t4; refine tF1 fun K Kp hK hKp => ?_; (try clear F); refine Gives.at (hset) ?_; apply hK; clear hK hKp K Kp
    have F := (aand @t2 (aand @k1 @q1)); refine tF ?_; (try clear F)
    refine Fin.ret (p := outP (setV (setF (invL f.els))) 0) ?_ ((sm.trans ho.same).setLoc (by omega) _) (by simp) (by simp) ⟨rfl, rfl⟩
    simp [ResP, ResL, resV, upd_lit, t2, q1, show Tryz.f49.results.toList = [.cell 2 27, .tmp 3] from rfl]
end Go.Proofs.YtgfadepkiejncaaGreat
namespace Go.Ab
theorem Ow.other {m0 m m' : St} {o o' oB : Own} {s n q sB nB : Nat} (h : Ow m0 m o s n) (hB : Ow m0 m oB sB nB) (hd : ∀ k, o = .tok k → oB ≠ .tok k) (a : AppRes s m o n q o' m') :
    Ow m0 m' oB sB nB ∧ ∀ k, o' = .tok k → oB ≠ .tok k := by
  obtain ⟨h1, h2, h3⟩ := h
  obtain ⟨b1, b2, b3⟩ := hB
  rcases a with ⟨rfl, rfl, rfl⟩ | ⟨_, rfl, rfl⟩ | ⟨_, k, rfl, rfl, rfl⟩
  · exact ⟨⟨b1, b2, b3⟩, hd⟩
  · refine ⟨⟨b1.newTok _ _, ?_, b3⟩, ?_⟩
    · cases oB with
      | no => exact b2
      | full => trivial
      | tok k =>
        obtain ⟨c1, c2, c3, c4⟩ := b2
        have : k ≠ m.ntok := by omega
        exact ⟨Nat.lt_succ_of_lt c1, by simp [St.newTok, upd, this, c2], by simp [St.newTok, upd, this, c3], by simp [St.newTok, upd, this, c4]⟩
    · intro k e e2
      cases e
      subst e2
      exact absurd b2.1 (Nat.lt_irrefl _)
  · refine ⟨⟨b1.growTok (h3 k rfl) _, ?_, b3⟩, hd⟩
    cases oB with
    | no => exact b2
    | full => trivial
    | tok j =>
      obtain ⟨c1, c2, c3, c4⟩ := b2
      have : j ≠ k := fun e => hd k rfl (by rw [e])
      exact ⟨c1, by simp [St.growTok, upd, this, c2], c3, c4⟩
section
variable {P : Program} {N : Nat} {l : List Oper} {cls : List Cls} {Q : APost} {σ : Nat → PV} {m : St} {listed : Array Bool} {fuel : Nat}
theorem DA.RN {p : PV} {op : Op} {ty : TypeId} {pos : String} {after : Array Edge} (i : Nat) (hi : l[i]? = some ⟨none, op, ty, pos, after, none⟩) (hc : canTake false cls l.toArray listed i = true)
    (h1 : ∀ (K : PV → St → Prop), K p m → aop P op (opv σ) m K (fun _ _ => False)) (h : DA P N l cls Q fuel (listed.setIfInBounds i true) σ m) : DA P N l cls Q (fuel + 1) listed σ m :=
  DA.take (s := false) i hi (by simp [dstOK]) hc (.inr ⟨rfl, aop_soundO _ _ (h1 _ ⟨rfl, rfl⟩)⟩) h
end
end Go.Ab
namespace Go.Proofs.YtgfadepkiejncaaGreat
open Go.Ab Go.Sort
set_option maxHeartbeats 0
set_option maxRecDepth 100000
attribute [local irreducible] AW AList ACall DA AExit.then AExit.inBlock YCall DCall
theorem app25b {m0 m : St} {o o2 oB : Ab.Own} {l l' : List GV} {n nB : Nat} {K : PV → St → Prop} (ho : Ow m0 m o 6 n) (hB : Ow m0 m oB 6 nB) (hd : ∀ k, o = .tok k → oB ≠ .tok k) (hn : n = l.length) (hb : l.length + l'.length ≤ 1099511627776)
    (k : ∀ o' m', Ow m0 m' o' 6 (n + l'.length) → Ow m0 m' oB 6 nB → (∀ k, oB = .tok k → o' ≠ .tok k) → LocSame m m' → K (.list o' (GV.rows (l ++ l'))) m') :
    aappend Tryz.prog [25, 25] (.list o (GV.rows l)) (.list o2 (GV.rows l')) m K := by
  subst hn
  refine ⟨rfl, ?_⟩
  simp only [show telem Tryz.prog 25 = some 27 by simp]
  have hs : tsize Tryz.prog 27 = 6 := by simp
  refine ⟨by simp, by simp, by simp, by rw [hs]; exact rows_w l, by rw [hs]; exact rows_w l', by simp; omega, by simp; omega, by rw [hs]; simpa using ho.2.1, fun o' m' ha => ?_⟩
  rw [hs] at ha
  have ho' : Ow m0 m o 6 (GV.rows l).length := by simpa using ho
  obtain ⟨b1, b2⟩ := ho'.other hB hd ha
  have := k o' m' (by have := ho'.app ha; simpa using this) b1 (fun j e e2 => b2 j e2 e) ha.locs
  rw [rows_append] at this
  rw [rows_strip]; exact this
theorem side0 (p a b : GV) (e : p.els = [a, b]) : (p1 p = p1 p ∨ p1 p = p2 p) ∧ rowI (GV.rows [a, b]) 0 = (p1 p).cells :=
  ⟨.inl rfl, by rw [rows_getD [a, b] 0 (by simp)]; simp [p1, e]⟩
theorem side1 (p a b : GV) (e : p.els = [a, b]) : (p2 p = p1 p ∨ p2 p = p2 p) ∧ rowI (GV.rows [a, b]) 1 = (p2 p).cells :=
  ⟨.inr rfl, by rw [rows_getD [a, b] 1 (by simp)]; simp [p2, e]⟩
def domS (f : GV) : List GV := setF (f.els.map p1)
def rngS (f : GV) : List GV := setF (f.els.map p2)
theorem val_sides {f : GV} (hf : Fm f) : Gives Tryz.prog 48 [f.pv] (if mapB f then .tup [(setV (domS f)).pv, (setV (rngS f)).pv, vE 0] else .tup [omV.pv, omV.pv, vE 7]) := by
  have lf := hf.len
  intro m
  refine ACall.of_aw Tryz.func48 Tryz.ntmps48 rfl rfl (by simp) ?_
  refine tS ?_
  refine tS1 fun K Kp hK hKp => ?_; refine Gives.at (val_isMap f (by omega)) ?_; apply hK; clear hK hKp K Kp
  cases hm : mapB f with
  | false =>
    rw [if_neg (by simp)]
    refine tSa ?_
    refine Fin.ret (p := .tup [.agg [vI 0, vI 0, vB false, .list .full [], vS ⟨#[]⟩, .list .full []], .agg [vI 0, vI 0, vB false, .list .full [], vS ⟨#[]⟩, .list .full []], vE 7]) ?_ Same.auto (by rfl) (by simp) ⟨rfl, rfl⟩
    simp [ResP, ResL, resV, upd_lit, show Tryz.f48.results.toList = [.cell 2 27, .cell 3 27, .tmp 4] from rfl]
  | true =>
  rw [if_pos rfl]
  have hp : f.els.all pairB = true := by rw [mapB, Bool.and_eq_true] at hm; exact hm.2
  have hn := hf.nodes
  rw [nodes_eq] at hn
  obtain ⟨ga, na, fa⟩ := fit_all hf hm p1 fun p _ => .inl rfl
  obtain ⟨gb, nb, fb⟩ := fit_all hf hm p2 fun p _ => .inr rfl
  have seta := val_set (f.els.map p1) ga (by simp; omega) (by omega)
  rw [show fitV (setV (setF (f.els.map p1))) = setV (domS f) from by simp [fitV, fa, domS], show fitE (setV (setF (f.els.map p1))) = 0 from by simp [fitE, fa]] at seta
  have setb := val_set (f.els.map p2) gb (by simp; omega) (by omega)
  rw [show fitV (setV (setF (f.els.map p2))) = setV (rngS f) from by simp [fitV, fb, rngS], show fitE (setV (setF (f.els.map p2))) = 0 from by simp [fitE, fb]] at setb
  refine tSa ?_
  refine tSn ?_
  refine AW.nilS (d := 5) (by simp [upd_lit]) ?_
  refine AW.nilS (d := 6) (by simp [upd_lit]) ?_
  refine tS ?_
  generalize hmm : ((m.newLoc f.cells).newLoc _).newLoc _ = mm
  have sm : Same m mm := by rw [← hmm]; exact Same.auto
  have g1 : mm.loc (m.nloc + 1) = some zcV := by rw [← hmm]; simp
  have g2 : mm.loc (m.nloc + 2) = some zcV := by rw [← hmm]; simp
  have n1 : mm.nloc = m.nloc + 3 := by rw [← hmm]; simp
  clear hmm
  refine AW.loop (ι := Nat) (fun i σ m' => i ≤ f.els.length ∧ σ 17 = vI i ∧ σ 16 = vI f.els.length ∧ σ 15 = GV.pvs f.els ∧ σ 2 = .loc (m.nloc + 1) 0 ∧ σ 3 = .loc (m.nloc + 2) 0 ∧ (∃ o o', σ 5 = .list o (GV.rows ((f.els.take i).map p1)) ∧ σ 6 = .list o' (GV.rows ((f.els.take i).map p2)) ∧ Ow mm m' o 6 ((f.els.take i).map p1).length ∧ Ow mm m' o' 6 ((f.els.take i).map p2).length ∧ ∀ k, o = .tok k → o' ≠ .tok k)) (fun i => f.els.length - i) 0 ?_ ?_
  · exact ⟨by simp, by simp [upd_lit], by simp [upd_lit], by simp [upd_lit], by simp [upd_lit], by simp [upd_lit], .full, .full, by simp [upd_lit, GV.rows], by simp [upd_lit, GV.rows], .full (Same.refl _), .full (Same.refl _), fun k e => by cases e⟩
  rintro i σ m' ⟨hi, t17, t16, t15, t2, t3, o, oB, t5, t6, ho, hoB, hdis⟩
  have q1 : m.nloc + 1 < m'.nloc := Nat.lt_of_lt_of_le (by omega) ho.same.lloc
  have q2 : m.nloc + 2 < m'.nloc := Nat.lt_of_lt_of_le (by omega) ho.same.lloc
  have k1 : m'.loc (m.nloc + 1) = some zcV := (ho.same.get (by omega)).trans g1
  have k2 : m'.loc (m.nloc + 2) = some zcV := (ho.same.get (by omega)).trans g2
  by_cases hlt : i < f.els.length
  · have ht1 : (f.els.take (i + 1)).map p1 = (f.els.take i).map p1 ++ [p1 f.els[i]] := by rw [List.take_succ_eq_append_getElem hlt, List.map_append]; rfl
    have ht2 : (f.els.take (i + 1)).map p2 = (f.els.take i).map p2 ++ [p2 f.els[i]] := by rw [List.take_succ_eq_append_getElem hlt, List.map_append]; rfl
    have hmem := List.getElem_mem hlt
    obtain ⟨p, ep⟩ : ∃ p, p = f.els[i] := ⟨_, rfl⟩
    have ep' := ep.symm
    rw [ep'] at hmem ht1 ht2
    obtain ⟨_, a, b, e, _, _⟩ := pairB_iff.1 (List.all_eq_true.1 hp p hmem)
    have r0 := (side0 p a b e).2
    have r1 := (side1 p a b e).2
    have hl1 : ((f.els.take i).map p1).length ≤ 400 := by simp; omega
    have hl2 : ((f.els.take i).map p2).length ≤ 400 := by simp; omega
    obtain ⟨md, hmd⟩ : ∃ md, md = ((m'.newLoc zcV).setLoc m'.nloc p.cells).dropLoc m'.nloc := ⟨_, rfl⟩
    have ow1 : Ow mm md o 6 ((f.els.take i).map p1).length := by rw [hmd]; exact ⟨((ho.1.newLoc _).setLoc (by omega) _).dropLoc ho.1.lloc, ho.2⟩
    have ow2 : Ow mm md oB 6 ((f.els.take i).map p2).length := by rw [hmd]; exact ⟨((hoB.1.newLoc _).setLoc (by omega) _).dropLoc hoB.1.lloc, hoB.2⟩
    have F := (aand @t17 (aand @t16 @hlt)); refine tFa ?_; (try clear F)
    have F := (aand @t15 (aand @t17 (aand @hlt (aand @rows_getD @ep')))); refine tF ?_; (try clear F)
    repeat (first | refine AW.seq ?_ | refine AW.block ?_ | refine AW.skip ?_ | refine AExit.norT ?_ | refine AExit.norB ?_ | refine AList.nil ?_)
    refine AW.frzL (n := m'.nloc) (d := 8) (cs := p.cells) (by simp) (by simp) (by simp [upd_lit]) ?_
    rw [← hmd]
    clear hmd
    refine AW.draw [.S, .S, .S, .S, .S, .S, .W, .S, .S, .S, .S, .S, .S, .W, .S, .S] (by decide +kernel) ?_; have F := (aand @t5 (aand @t6 (aand @e (aand @r0 @r1)))); refine dST 0 ?_; refine dST 1 ?_; refine dST 2 ?_; refine dST 3 ?_; refine dST 4 ?_; refine dST 5 ?_; refine dST 7 ?_; refine dST 8 ?_; refine dST 9 ?_; refine dST 10 ?_; refine dST 11 ?_; refine dST 12 ?_; (try clear F); refine DA.W (oi := ?oiw2) 6 ?aw2 ?bw2 ?cw2 ?dw2 ?ew2 ?fw2; (case aw2 => rfl); (case bw2 => decide +kernel); (case cw2 => rfl); (case dw2 => rfl); (case ew2 => decide); intro K Kp hK hKp; (simp [t5, upd_lit]; refine app25b (l' := [p1 p]) ow1 ow2 hdis (by simp) (by simp; omega) fun o1 m1 ho1 hB1 hd1 hs1 => hK _ _ ?_; clear hK hKp K Kp); have F := (aand @t5 (aand @t6 (aand @e (aand @r0 @r1)))); (try clear F); refine DA.W (oi := ?oiw3) 13 ?aw3 ?bw3 ?cw3 ?dw3 ?ew3 ?fw3; (case aw3 => rfl); (case bw3 => decide +kernel); (case cw3 => rfl); (case dw3 => rfl); (case ew3 => decide); intro K Kp hK hKp; (simp [t6, upd_lit]; refine app25b (l' := [p2 p]) hB1 ho1 hd1 (by simp) (by simp; omega) fun o2 m2 hB2 ho2 hd2 hs2 => hK _ _ ?_; clear hK hKp K Kp); have F := (aand @t5 (aand @t6 (aand @e (aand @r0 @r1)))); refine dST 14 ?_; refine dST 15 ?_; (try clear F); first | refine dN ?_ | refine dB ?_ | refine DA.done (by decide +kernel) ?_
    have F := @t17; refine tF ?_; (try clear F)
    exact ⟨i + 1, ⟨by omega, by simp [upd_lit], by simp [upd_lit, t16], by simp [upd_lit, t15], by simp [upd_lit, t2], by simp [upd_lit, t3], o1, o2, by simp [upd_lit, ht1], by simp [upd_lit, ht2], by rw [ht1]; simpa using ho2, by rw [ht2]; simpa using hB2, fun k h1 h2 => hd2 k h1 h2⟩, by omega⟩
  · have e : i = f.els.length := by omega
    rw [e, List.take_length] at t5 t6
    have F := (aand @t17 (aand @t16 @hlt)); refine tFa ?_; (try clear F)
    have F := @t5; refine tF ?_; (try clear F)
    have F := @t5; refine tF1 fun K Kp hK hKp => ?_; (try clear F); refine Gives.at (seta) ?_; apply hK; clear hK hKp K Kp
    have F := (aand @t2 (aand @k1 (aand @q1 @t6))); refine tF ?_; (try clear F)
    have F := @t6; refine tF1 fun K Kp hK hKp => ?_; (try clear F); refine Gives.at (setb) ?_; apply hK; clear hK hKp K Kp
    have F := (aand @t3 (aand @k2 @q2)); refine tF ?_; (try clear F)
    repeat (first | refine AW.seq ?_ | refine AW.block ?_ | refine AW.skip ?_ | refine AExit.norT ?_ | refine AExit.norB ?_ | refine AList.nil ?_)
    generalize hm3 : (m'.setLoc (m.nloc + 1) (setV (domS f)).cells).setLoc (m.nloc + 2) (setV (rngS f)).cells = m3
    have d1 : m3.loc (m.nloc + 1) = some (setV (domS f)).cells := by rw [← hm3]; simp
    have d2 : m3.loc (m.nloc + 2) = some (setV (rngS f)).cells := by rw [← hm3]; simp
    have p1 : m.nloc + 1 < m3.nloc := by rw [← hm3]; exact q1
    have p2 : m.nloc + 2 < m3.nloc := by rw [← hm3]; exact q2
    have sm3 : Same m m3 := by rw [← hm3]; exact ((sm.trans ho.same).setLoc (by omega) _).setLoc (by omega) _
    clear hm3
    have sf1 := setLoc_self d1
    have sf2 := setLoc_self d2
    refine AW.draw [.R, .R, .S, .R, .R, .S] (by decide +kernel) ?_; have F := (aand @t2 (aand @t3 (aand @p1 (aand @p2 (aand @d1 @d2))))); refine dR 0 ?_; refine dR 1 ?_; refine dS 2 ?_; (try clear F)
    refine DA.RN 3 rfl (by decide +kernel) (by intro K hK; simp [upd_lit, t2, p1, d1, set0_cells, sf1]; exact hK) ?_
    refine DA.RN 4 rfl (by decide +kernel) (by intro K hK; simp [upd_lit, t3, p2, d2, set0_cells, sf2]; exact hK) ?_
    skip; have F := True.intro; refine dST 5 ?_; (try clear F); first | refine dN ?_ | refine dB ?_ | refine DA.done (by decide +kernel) ?_
    refine tS ?_
    refine Fin.ret (p := .tup [(setV (domS f)).pv, (setV (rngS f)).pv, vE 0]) ?_ sm3 (by simp) (by simp) ⟨rfl, rfl⟩
    simp [ResP, ResL, resV, upd_lit, t2, t3, p1, p2, d1, d2, show Tryz.f48.results.toList = [.cell 2 27, .cell 3 27, .tmp 4] from rfl]
end Go.Proofs.YtgfadepkiejncaaGreat
namespace Go.Ab
theorem AW.gen {P : Program} {N : Nat} {c : Code} {Q : APost} {σ : Nat → PV} {m : St} (h : ∀ mm, mm = m → AW P N c Q σ mm) : AW P N c Q σ m := h m rfl
end Go.Ab
namespace Go.Proofs.YtgfadepkiejncaaGreat
open Go.Ab Go.Sort
set_option maxHeartbeats 0
set_option maxRecDepth 100000
attribute [local irreducible] AW AList ACall DA AExit.then AExit.inBlock YCall DCall
end Go.Proofs.YtgfadepkiejncaaGreat
namespace Go.Proofs.YtgfadepkiejncaaGreat
open Go.Ab
set_option maxHeartbeats 0
set_option maxRecDepth 100000
attribute [local irreducible] AW AList ACall DA AExit.then AExit.inBlock YCall DCall
end Go.Proofs.YtgfadepkiejncaaGreat
namespace Go.Ab
theorem Post.imp {Γ : Ctx} {w : World} {N : Nat} {Q Q' : APost} (h : ∀ x σ m, Q x σ m → Q' x σ m) {e : Exit} {a : Act} {w' : World} (hp : Post Γ w N Q e a w') : Post Γ w N Q' e a w' := by
  obtain ⟨x, σ, m, Γ', h1, h2⟩ := hp
  exact ⟨x, σ, m, Γ', h x σ m h1, h2⟩
theorem AList.cut {P : Program} {N : Nat} {Q : APost} {ops : Array Oper} {l : List Oper} {σ : Nat → PV} {m : St} {I nx : (Nat → PV) → St → Prop} (h : AList P N ops (AExit.then I Q) l σ m) (h2 : ∀ σ m, I σ m → nx σ m) : AList P N ops (AExit.then nx Q) l σ m :=
  fun Γ a w hs => wpList_mono (fun _ _ _ => Post.imp fun x σ m h => by cases x <;> first | exact h2 σ m h | exact h) _ _ _ (h Γ a w hs)
end Go.Ab
namespace Go.Proofs.YtgfadepkiejncaaGreat
open Go.Ab
set_option maxHeartbeats 0
set_option maxRecDepth 100000
attribute [local irreducible] AW AList ACall DA AExit.then AExit.inBlock YCall DCall
end Go.Proofs.YtgfadepkiejncaaGreat
namespace Go.Ab
def Dies (P : Program) (f : FuncId) (args : List PV) (r : PV) : Prop := ∀ m, ACall P f args m (fun r' m' => r' = .pan r ∧ m' = m)
theorem Dies.at {P : Program} {f : FuncId} {args : List PV} {r : PV} {m : St} {K Kp : PV → St → Prop} (h : Dies P f args r) (k : Kp r m) :
    ACall P f args m (fun r' m' => match r' with | .ret p => K p m' | .pan p => Kp p m') := (h m).mono (by rintro _ _ ⟨rfl, rfl⟩; exact k)
def GivesAt (P : Program) (f : FuncId) (args : List PV) (m : St) (r : PV) : Prop := ACall P f args m (fun r' m' => r' = .ret r ∧ m' = m)
theorem GivesAt.at {P : Program} {f : FuncId} {args : List PV} {r : PV} {m : St} {K Kp : PV → St → Prop} (h : GivesAt P f args m r) (k : K r m) :
    ACall P f args m (fun r' m' => match r' with | .ret p => K p m' | .pan p => Kp p m') := ACall.mono h (by rintro _ _ ⟨rfl, rfl⟩; exact k)
theorem Fin.done {P : Program} {fn : Func} {m m' : St} {σ : Nat → PV} (hm : Same m m') (hp : ResP P fn.results.toList σ m' (.tup []) := by exact ⟨[], rfl, rfl⟩) : Fin P fn m (fun r' m' => r' = .ret (.tup []) ∧ m' = m) .normal σ m' :=
  Fin.normal hp hm rfl trivial ⟨rfl, rfl⟩
end Go.Ab
namespace Go.Proofs.YtgfadepkiejncaaGreat
open Go.Ab
set_option maxHeartbeats 0
set_option maxRecDepth 100000
attribute [local irreducible] AW AList ACall DA AExit.then AExit.inBlock YCall DCall
abbrev badE (e : Int) : PV := .iface 117 (.agg [vE e])
@[simp] theorem bs57_1 (x : Int) (m : St) (K : PV → St → Prop) : abuildSlice Tryz.prog 57 1 [(0, vI x)] m K ↔ K (.list .full (ints [x])) m := by
  have h := abuildSlice_all (P := Tryz.prog) (t := 57) (s := 1) (e := 3) (z := .int .i64 0) (xs := [vI x]) (rs := ints [x]) (m := m) (K := K) (by simp) (by simp) (by simp) (by decide) (by decide) (by simp) (by simp) (cells1_ints [x])
  have e : (ints [x]).map PV.stripL = ints [x] := by simp [ints, PV.stripL, PV.strip]
  rw [e] at h
  exact h
@[simp] theorem bs57_4 (x y z w : Int) (m : St) (K : PV → St → Prop) : abuildSlice Tryz.prog 57 4 [(0, vI x), (1, vI y), (2, vI z), (3, vI w)] m K ↔ K (.list .full (ints [x, y, z, w])) m := by
  have h := abuildSlice_all (P := Tryz.prog) (t := 57) (s := 1) (e := 3) (z := .int .i64 0) (xs := [vI x, vI y, vI z, vI w]) (rs := ints [x, y, z, w]) (m := m) (K := K) (by simp) (by simp) (by simp) (by decide) (by decide) (by simp) (by simp) (cells1_ints [x, y, z, w])
  have e : (ints [x, y, z, w]).map PV.stripL = ints [x, y, z, w] := by simp [ints, PV.stripL, PV.strip]
  rw [e] at h
  exact h
def resE (e : Int) : ARes := if e = 0 then .ret (.tup []) else .pan (badE e)
def GivesR (P : Program) (f : FuncId) (args : List PV) (e : Int) : Prop := ∀ m, ACall P f args m (fun r' m' => r' = resE e ∧ m' = m)
theorem GivesR.ok {P : Program} {f : FuncId} {args : List PV} {e : Int} (h : GivesR P f args e) (h0 : e = 0) : Gives P f args (.tup []) := fun m => (h m).mono (by rintro _ _ ⟨rfl, rfl⟩; subst h0; exact ⟨rfl, rfl⟩)
end Go.Proofs.YtgfadepkiejncaaGreat
namespace Go.Proofs.YtgfadepkiejncaaGreat
open Go.Ab Go.Sort
set_option maxHeartbeats 0
set_option maxRecDepth 100000
attribute [local irreducible] AW AList ACall DA AExit.then AExit.inBlock YCall DCall
end Go.Proofs.YtgfadepkiejncaaGreat
namespace Go.Ab
end Go.Ab
namespace Go.Proofs.YtgfadepkiejncaaGreat
open Go.Ab Go.Sort
set_option maxHeartbeats 0
set_option maxRecDepth 100000
attribute [local irreducible] AW AList ACall DA AExit.then AExit.inBlock YCall DCall
end Go.Proofs.YtgfadepkiejncaaGreat
namespace Go.Proofs.YtgfadepkiejncaaGreat
open Go.Ab Go.Sort
set_option maxHeartbeats 0
set_option maxRecDepth 100000
theorem nodesL_mem : ∀ (l : List GV) (x : GV), x ∈ l → nodes x ≤ nodesL l
  | [], x, h => by simp at h
  | v :: l, x, h => by
    rcases List.mem_cons.1 h with rfl | h
    · simp [nodesL]
    · have := nodesL_mem l x h; simp [nodesL]; omega
end Go.Proofs.YtgfadepkiejncaaGreat
namespace Go.Proofs.YtgfadepkiejncaaGreat
open Go.Ab Go.Sort
set_option maxHeartbeats 0
set_option maxRecDepth 100000
attribute [local irreducible] AW AList ACall DA AExit.then AExit.inBlock YCall DCall
end Go.Proofs.YtgfadepkiejncaaGreat
namespace Go.Proofs.YtgfadepkiejncaaGreat
open Go.Ab Go.Sort
set_option maxHeartbeats 0
set_option maxRecDepth 100000
attribute [local irreducible] AW AList ACall DA AExit.then AExit.inBlock YCall DCall
end Go.Proofs.YtgfadepkiejncaaGreat
namespace Go.Proofs.YtgfadepkiejncaaGreat
open Go.Ab
set_option maxHeartbeats 0
set_option maxRecDepth 100000
attribute [local irreducible] AW AList ACall DA AExit.then AExit.inBlock YCall DCall
end Go.Proofs.YtgfadepkiejncaaGreat
namespace Go.Ab
@[simp] theorem setIt_nloc (m : St) (n : Nat) (s : ByteArray) (i : Nat) : (m.setIt n s i).nloc = m.nloc := rfl
theorem Same.newIt {m m' : St} (h : Same m m') (s : ByteArray) (i : Nat) : Same m (m'.newIt s i) :=
  Same.trans h (Same.mk (Nat.le_succ _) (Nat.le_refl _) (fun n hn => upd_ne _ _ _ _ (by omega)) (fun _ _ => ⟨rfl, rfl⟩) (fun n hn => upd_ne _ _ _ _ (by omega)) (fun n hn => upd_ne _ _ _ _ (by omega)) (fun _ _ _ _ h => h))
theorem Same.setIt {m m' : St} (h : Same m m') {n : Nat} (hn : m.nloc ≤ n) (s : ByteArray) (i : Nat) : Same m (m'.setIt n s i) :=
  Same.mk h.lloc h.ltok (fun i hi => h.get hi) (fun k hk => ⟨(h.top k hk).1.symm, (h.top k hk).2.symm⟩) (fun n hn => h.getL hn) (fun j hj => by show upd m'.it n _ j = _; rw [upd_ne _ _ _ _ (by omega)]; exact h.getI hj) (fun k cs hk hd hc => h.getA hk hd hc)
end Go.Ab
namespace Go.Proofs.YtgfadepkiejncaaGreat
open Go.Ab
set_option maxHeartbeats 0
set_option maxRecDepth 100000
attribute [local irreducible] AW AList ACall DA AExit.then AExit.inBlock YCall DCall
def fb (s : ByteArray) : Nat → Nat → Int
  | 0, _ => -1
  | k + 1, i => if textB (byteAt s i) = true then fb s k (i + 1) else i
end Go.Proofs.YtgfadepkiejncaaGreat
namespace Go.Proofs.YtgfadepkiejncaaGreat
open Go.Ab
set_option maxHeartbeats 0
set_option maxRecDepth 100000
attribute [local irreducible] AW AList ACall DA AExit.then AExit.inBlock YCall DCall
end Go.Proofs.YtgfadepkiejncaaGreat
namespace Go.Ab
end Go.Ab
namespace Go.Proofs.YtgfadepkiejncaaGreat
open Go.Ab
set_option maxHeartbeats 0
set_option maxRecDepth 100000
attribute [local irreducible] AW AList ACall DA AExit.then AExit.inBlock YCall DCall
end Go.Proofs.YtgfadepkiejncaaGreat
namespace Go.Proofs.YtgfadepkiejncaaGreat
open Go.Ab
set_option maxHeartbeats 0
set_option maxRecDepth 100000
attribute [local irreducible] AW AList ACall DA AExit.then AExit.inBlock YCall DCall
end Go.Proofs.YtgfadepkiejncaaGreat
namespace Go.Ab
theorem AList.gen {P : Program} {N : Nat} {Q : APost} {ops : Array Oper} {l : List Oper} {σ : Nat → PV} {m : St} (h : ∀ mm, mm = m → AList P N ops Q l σ mm) : AList P N ops Q l σ m := h m rfl
end Go.Ab
namespace Go.Proofs.YtgfadepkiejncaaGreat
open Go.Ab Go.Sort
set_option maxHeartbeats 0
set_option maxRecDepth 100000
attribute [local irreducible] AW AList ACall DA AExit.then AExit.inBlock YCall DCall
end Go.Proofs.YtgfadepkiejncaaGreat
namespace Go.Proofs.YtgfadepkiejncaaGreat
open Go.Ab Go.Sort
set_option maxHeartbeats 0
set_option maxRecDepth 100000
attribute [local irreducible] AW AList ACall DA AExit.then AExit.inBlock YCall DCall
@[simp] theorem bs74 (a b c d e f : Int) (m : St) (K : PV → St → Prop) : abuildSlice Tryz.prog 74 6 [(0, vI a), (1, vI b), (2, vI c), (3, vI d), (4, vI e), (5, vI f)] m K ↔ K (.list .full (ints [a, b, c, d, e, f])) m := by
  have h := abuildSlice_all (P := Tryz.prog) (t := 74) (s := 1) (e := 30) (z := .int .i64 0) (xs := [vI a, vI b, vI c, vI d, vI e, vI f]) (rs := ints [a, b, c, d, e, f]) (m := m) (K := K) (by simp) (by simp) (by simp) (by decide) (by decide) (by simp) (by simp) (cells1_ints [a, b, c, d, e, f])
  have e : (ints [a, b, c, d, e, f]).map PV.stripL = ints [a, b, c, d, e, f] := by simp [ints, PV.stripL, PV.strip]
  rw [e] at h
  exact h
@[simp] theorem bs25_6 (a b c d e f : GV) (m : St) (K : PV → St → Prop) : abuildSlice Tryz.prog 25 6 [(0, .agg a.cells), (1, .agg b.cells), (2, .agg c.cells), (3, .agg d.cells), (4, .agg e.cells), (5, .agg f.cells)] m K ↔ K (.list .full (GV.rows [a, b, c, d, e, f])) m := bs25 [a, b, c, d, e, f] m K (by simp)
end Go.Proofs.YtgfadepkiejncaaGreat
namespace Go.Proofs.YtgfadepkiejncaaGreat
open Go.Ab Go.Sort
set_option maxHeartbeats 0
set_option maxRecDepth 100000
theorem map_pairs {f : GV} (hm : mapB f = true) : f.els.all pairB = true := by rw [mapB, Bool.and_eq_true] at hm; exact hm.2
theorem map_kind {f : GV} (hm : mapB f = true) : f.kind = 8 := by rw [mapB, Bool.and_eq_true, decide_eq_true_eq] at hm; exact hm.1
theorem pair_eta {p : GV} (g : good p) (hp : pairB p = true) : p = tupV [p1 p, p2 p] ∧ (p1 p).kind ≠ 0 ∧ (p2 p).kind ≠ 0 := by
  obtain ⟨h7, a, b, e, ha, hb⟩ := pairB_iff.1 hp
  have ea : p1 p = a := by simp [p1, e]
  have eb : p2 p = b := by simp [p2, e]
  obtain ⟨f1, f2, f3, f4⟩ := node_fields g.1.node
  have e1 := f1 (by omega) (by omega)
  have e2 := f2 (by omega)
  have e4 := f4 (by omega) (by omega) (by omega) (by omega)
  have e3 : p.str = ⟨#[]⟩ := by
    rw [Lib.toList_data] at e2
    have := congrArg List.length e2
    exact ByteArray.ext (Array.eq_empty_of_size_eq_zero (by simpa using this))
  rw [ea, eb]
  exact ⟨gv_ext h7 e4 e1.1 e1.2 e3 e, ha, hb⟩
section
variable {f : GV} (hf : Fm f) (hm : mapB f = true)
include hf hm
theorem map_el {p : GV} (h : p ∈ f.els) : p = tupV [p1 p, p2 p] ∧ (p1 p).kind ≠ 0 ∧ (p2 p).kind ≠ 0 := pair_eta (hf.good.els p h) (List.all_eq_true.1 (map_pairs hm) p h)
theorem mem_img {x y : GV} (gx : good x) : y ∈ imgS f x ↔ tupV [x, y] ∈ f.els := by
  have gi := imgL_goods hf.good.els (map_pairs hm) x
  rw [imgS, (setF_spec _ gi).2.2, imgL, List.mem_map]
  constructor
  · rintro ⟨⟨p, h1, rfl⟩, _⟩
    obtain ⟨h2, h3⟩ := List.mem_filter.1 h1
    have he := (map_el hf hm h2).1
    have hx := cmp_zero (p1 p) x (part_of hf.good.els (map_pairs hm) h2 (.inl rfl)).1 gx (by simpa using h3)
    rw [← hx, ← he]; exact h2
  · intro h
    have := (map_el hf hm h).2.2
    exact ⟨⟨tupV [x, y], List.mem_filter.2 ⟨h, by simp [p1, GV.els, cmp_self]⟩, rfl⟩, this⟩
theorem img_inc (x : GV) : Inc (imgS f x) := (setF_spec _ (imgL_goods hf.good.els (map_pairs hm) x)).1
theorem mem_dom (x : GV) : x ∈ domS f ↔ ∃ y, tupV [x, y] ∈ f.els := by
  obtain ⟨g1, _, _⟩ := fit_all hf hm p1 fun p _ => .inl rfl
  rw [domS, (setF_spec _ g1).2.2, List.mem_map]
  constructor
  · rintro ⟨⟨p, h, rfl⟩, _⟩
    exact ⟨p2 p, by rw [← (map_el hf hm h).1]; exact h⟩
  · rintro ⟨y, h⟩
    exact ⟨⟨_, h, rfl⟩, (map_el hf hm h).2.1⟩
theorem mem_rng (y : GV) : y ∈ rngS f ↔ ∃ x, tupV [x, y] ∈ f.els := by
  obtain ⟨g1, _, _⟩ := fit_all hf hm p2 fun p _ => .inr rfl
  rw [rngS, (setF_spec _ g1).2.2, List.mem_map]
  constructor
  · rintro ⟨⟨p, h, rfl⟩, _⟩
    exact ⟨p1 p, by rw [← (map_el hf hm h).1]; exact h⟩
  · rintro ⟨x, h⟩
    exact ⟨⟨_, h, rfl⟩, (map_el hf hm h).2.2⟩
theorem has_img {x y : GV} (gx : good x) (gy : good y) (h0 : x.kind ≠ 0) (h1 : y.kind ≠ 0) : hasF (setV (imgS f x)) y = (decide (fitE (tupV [x, y]) = 0) && hasF f (fitV (tupV [x, y]))) := by
  obtain ⟨g1, _, _⟩ := imgS_ok hf hm x
  have gt : good (tupV [x, y]) := tup_good (fun z hz => by simp at hz; rcases hz with rfl | rfl <;> assumption) (.inr (by simpa using h1)) (by simp)
  have hh : hasF f (tupV [x, y]) = true ↔ tupV [x, y] ∈ f.els := by
    rw [hasF, if_pos (map_kind hm)]; exact isF_mem f.els _ gt hf.good.els (set_Inc hf.good (map_kind hm))
  rw [Bool.eq_iff_iff, hasF_mem g1 (img_inc hf hm x) gy, mem_img hf hm gx, Bool.and_eq_true, decide_eq_true_eq]
  rcases fit_cases (tupV [x, y]) with ⟨e1, e2⟩ | ⟨e1, e2⟩
  · rw [e1, e2, hh]; simp
  · rw [e1, e2]
    constructor
    · intro h
      exfalso
      have k1 := nodesL_mem _ _ h
      have k2 := deepL_mem _ _ h
      have k3 := hf.nodes
      have k4 := hf.deep
      rw [nodes_eq] at k3
      rw [deep_eq] at k4
      have : fitB (tupV [x, y]) = true := by simp only [fitB, Bool.and_eq_true, decide_eq_true_eq]; omega
      have : fitE (tupV [x, y]) = 0 := by simp [fitE, this]
      omega
    · rintro ⟨h, _⟩; omega
theorem has_dom {x : GV} (gx : good x) : hasF (setV (domS f)) x = decide (0 < (imgS f x).length) := by
  obtain ⟨g1, _, _⟩ := fit_all hf hm p1 fun p _ => .inl rfl
  have hh : hasF (setV (domS f)) x = true ↔ x ∈ domS f := hasF_mem (setF_spec _ g1).2.1 (setF_spec _ g1).1 gx
  rw [Bool.eq_iff_iff, hh, mem_dom hf hm, decide_eq_true_eq, List.length_pos_iff_exists_mem]
  constructor
  · rintro ⟨y, h⟩; exact ⟨y, (mem_img hf hm gx).2 h⟩
  · rintro ⟨y, h⟩; exact ⟨y, (mem_img hf hm gx).1 h⟩
theorem pairs_map : setF ((domS f).flatMap fun d => (imgS f d).map fun v => tupV [d, v]) = f.els ∧ goods ((domS f).flatMap fun d => (imgS f d).map fun v => tupV [d, v]) ∧ (∀ x ∈ domS f, good x) := by
  obtain ⟨g1, _, _⟩ := fit_all hf hm p1 fun p _ => .inl rfl
  have gd : ∀ x ∈ domS f, good x := (setF_spec _ g1).2.1
  have hmem : ∀ z, z ∈ ((domS f).flatMap fun d => (imgS f d).map fun v => tupV [d, v]) ↔ z ∈ f.els := by
    intro z
    rw [List.mem_flatMap]
    constructor
    · rintro ⟨d, hd, h⟩
      obtain ⟨v, hv, rfl⟩ := List.mem_map.1 h
      exact (mem_img hf hm (gd d hd)).1 hv
    · intro hz
      have he := (map_el hf hm hz).1
      have hz' : tupV [p1 z, p2 z] ∈ f.els := by rw [← he]; exact hz
      have hd := (mem_dom hf hm (p1 z)).2 ⟨p2 z, hz'⟩
      exact ⟨p1 z, hd, List.mem_map.2 ⟨p2 z, (mem_img hf hm (gd _ hd)).2 hz', he.symm⟩⟩
  have gg : goods ((domS f).flatMap fun d => (imgS f d).map fun v => tupV [d, v]) := fun z hz => hf.good.els z ((hmem z).1 hz)
  refine ⟨(setF_eq gg (set_Inc hf.good (map_kind hm)) fun z => ?_).symm, gg, gd⟩
  rw [hmem]
  exact ⟨fun h => ⟨h, set_nonom hf.good (map_kind hm) z h⟩, fun h => h.1⟩
def turnM (f : GV) : GV := setV (setF (invL f.els))
theorem mem_turn (z : GV) : z ∈ (turnM f).els ↔ ∃ x y, z = tupV [y, x] ∧ tupV [x, y] ∈ f.els := by
  obtain ⟨g1, _, _⟩ := inv_all hf hm
  show z ∈ setF (invL f.els) ↔ _
  rw [(setF_spec _ g1).2.2, invL, List.mem_map]
  constructor
  · rintro ⟨⟨p, h, rfl⟩, _⟩
    exact ⟨p1 p, p2 p, rfl, by rw [← (map_el hf hm h).1]; exact h⟩
  · rintro ⟨x, y, rfl, h⟩
    exact ⟨⟨_, h, rfl⟩, by show (7 : Int) ≠ 0; omega⟩
theorem turn_Fm : Fm (turnM f) ∧ mapB (turnM f) = true := by
  obtain ⟨g1, g2, g3⟩ := inv_all hf hm
  have h3 := setF_nodes _ g1
  have hl := hf.len
  have hn := hf.nodes
  rw [nodes_eq] at hn
  have e : nodes (turnM f) = 1 + nodesL (setF (invL f.els)) := nodes_eq _
  have hd : (deep (turnM f) : Int) ≤ 20 := by simp only [fitB, Bool.and_eq_true, decide_eq_true_eq] at g3; exact g3.2
  refine ⟨⟨setF_goodI g1 (by simp [invL]; omega), by omega, by omega⟩, ?_⟩
  rw [mapB, Bool.and_eq_true]
  refine ⟨rfl, List.all_eq_true.2 fun z hz => ?_⟩
  obtain ⟨x, y, rfl, h⟩ := (mem_turn hf hm z).1 hz
  have := map_el hf hm h
  exact pairB_iff.2 ⟨rfl, y, x, rfl, this.2.2, this.2.1⟩
theorem turn_dom : domS (turnM f) = rngS f := by
  obtain ⟨fg, mg⟩ := turn_Fm hf hm
  obtain ⟨a1, _, _⟩ := fit_all fg mg p1 fun p _ => .inl rfl
  obtain ⟨b1, _, _⟩ := fit_all hf hm p2 fun p _ => .inr rfl
  refine Inc_unique _ _ (setF_spec _ a1).1 (setF_spec _ b1).1 fun z => ?_
  show z ∈ domS (turnM f) ↔ z ∈ rngS f
  rw [mem_dom fg mg, mem_rng hf hm]
  constructor
  · rintro ⟨y, h⟩
    obtain ⟨x', y', e, h'⟩ := (mem_turn hf hm _).1 h
    injection e with _ _ _ _ _ e
    injection e with e1 e2
    injection e2 with e2 _
    exact ⟨x', by rw [e1]; exact h'⟩
  · rintro ⟨x, h⟩
    exact ⟨x, (mem_turn hf hm _).2 ⟨x, z, rfl, h⟩⟩
theorem turn_rng : rngS (turnM f) = domS f := by
  obtain ⟨fg, mg⟩ := turn_Fm hf hm
  obtain ⟨a1, _, _⟩ := fit_all fg mg p2 fun p _ => .inr rfl
  obtain ⟨b1, _, _⟩ := fit_all hf hm p1 fun p _ => .inl rfl
  refine Inc_unique _ _ (setF_spec _ a1).1 (setF_spec _ b1).1 fun z => ?_
  show z ∈ rngS (turnM f) ↔ z ∈ domS f
  rw [mem_rng fg mg, mem_dom hf hm]
  constructor
  · rintro ⟨y, h⟩
    obtain ⟨x', y', e, h'⟩ := (mem_turn hf hm _).1 h
    injection e with _ _ _ _ _ e
    injection e with e1 e2
    injection e2 with e2 _
    exact ⟨y', by rw [e2]; exact h'⟩
  · rintro ⟨x, h⟩
    exact ⟨x, (mem_turn hf hm _).2 ⟨z, x, rfl, h⟩⟩
theorem turn_turn : turnM (turnM f) = f := by
  obtain ⟨fg, mg⟩ := turn_Fm hf hm
  obtain ⟨fh, mh⟩ := turn_Fm fg mg
  refine set_ext fh.good hf.good rfl (map_kind hm) fun z => ?_
  rw [mem_turn fg mg]
  constructor
  · rintro ⟨x, y, rfl, h⟩
    obtain ⟨x', y', e, h'⟩ := (mem_turn hf hm _).1 h
    injection e with _ _ _ _ _ e
    injection e with e1 e2
    injection e2 with e2 _
    rw [e1, e2]; exact h'
  · intro hz
    have he := (map_el hf hm hz).1
    exact ⟨p2 z, p1 z, he, (mem_turn hf hm _).2 ⟨p1 z, p2 z, rfl, by rw [← he]; exact hz⟩⟩
end
end Go.Proofs.YtgfadepkiejncaaGreat
namespace Go.Ab
section
variable {P : Program} {N : Nat} {l : List Oper} {cls : List Cls} {Q : APost} {σ : Nat → PV} {m : St} {listed : Array Bool} {fuel : Nat} {B : Prop}
variable {p : PV} {d g j : Nat} {want : Bool} {op : Op} {ty : TypeId} {pos : String} {after : Array Edge}
theorem dGT (t : B) (i : Nat) (h : DA P N l cls Q fuel (listed.setIfInBounds i true) (upd σ d p) m) (hi : l[i]? = some ⟨some d, op, ty, pos, after, none⟩ := by exact rfl) (hc : canTakeT .S (goesWith true) cls l.toArray (Region.before l.toArray) listed i = true := by decide +kernel) (hd : d < N := by decide) (h1 : B → ∀ (m : St) (K : PV → St → Prop), K p m → aop P op (opv σ) m K (fun _ _ => False) := by intro t_ m K hK; simp [↓aop, ↓Ab.opv, ↓upd_lit, ↓map_ta, ↓List.map_cons, ↓List.map_nil, Nat.add_assoc, F]; (try (simp (disch := omega) only [wrap_i64]; try simp [↓aop, ↓Ab.opv, ↓upd_lit, ↓map_ta, ↓List.map_cons, ↓List.map_nil, Nat.add_assoc, F])); exact Gives.at t_ hK) : DA P N l cls Q (fuel + 1) listed σ m := DA.ST i hi hc hd (h1 t) h
end
end Go.Ab
namespace Go.Proofs.YtgfadepkiejncaaGreat
open Go.Ab Go.Sort
set_option maxHeartbeats 0
set_option maxRecDepth 100000
attribute [local irreducible] AW AList ACall DA AExit.then AExit.inBlock YCall DCall
theorem law_list (k : Int) (l : List GV) : Gives Tryz.prog 62 [vI k, GV.pvs l] (.agg (GV.mk k 0 false [] ⟨#[]⟩ l).cells) := by
  intro m
  refine ACall.of_aw Tryz.func62 Tryz.ntmps62 rfl rfl (by simp) ?_
  refine tS ?_
  exact Fin.givesC (p := .agg [vI k, vI 0, vB false, .list .full [], vS ⟨#[]⟩, GV.pvs l]) rfl (by simp [upd_lit]) Same.auto (by simp [GV.cells, limbs])
theorem only_cases {f : GV} (hf : Fm f) (hm : mapB f = true) (x : GV) : ((imgS f x).length = 1 ∧ ∃ y, imgS f x = [y] ∧ onlyF (imgS f x) = y ∧ y.kind ≠ 0 ∧ y.ok) ∨ (¬ (imgS f x).length = 1 ∧ onlyF (imgS f x) = omV) := by
  have gi := imgL_goods hf.good.els (map_pairs hm) x
  have hs := (setF_spec _ gi).2.2
  have hg := (setF_spec _ gi).2.1
  rw [show setF (imgL f.els x) = imgS f x from rfl] at hs hg
  by_cases h : (imgS f x).length = 1
  · left
    refine ⟨h, ?_⟩
    obtain ⟨y, e⟩ : ∃ y, imgS f x = [y] := List.length_eq_one_iff.1 h
    refine ⟨y, e, by rw [e]; rfl, ?_, ?_⟩
    · exact ((hs y).1 (by rw [e]; simp)).2
    · exact (hg y (by rw [e]; simp)).2
  · right
    exact ⟨h, by rw [onlyF, if_neg (by omega)]⟩
theorem flat_len {P : GV → List GV} {n : Nat} : ∀ l : List GV, (∀ d ∈ l, (P d).length ≤ n) → (l.flatMap P).length ≤ l.length * n
  | [], _ => by simp
  | d :: l, h => by
    have h1 := h d (by simp)
    have h2 := flat_len l fun x hx => h x (by simp [hx])
    rw [List.flatMap_cons, List.length_append, List.length_cons, Nat.add_mul]
    omega
def prP (f d : GV) : List GV := (imgS f d).map fun v => tupV [d, v]
theorem pr_set {f : GV} (hf : Fm f) (hm : mapB f = true) : Gives Tryz.prog 41 [GV.pvs ((domS f).flatMap (prP f))] (outP f 0) := by
  obtain ⟨h1, h2, _⟩ := pairs_map hf hm
  obtain ⟨ga1, na1, _⟩ := fit_all hf hm p1 fun p _ => .inl rfl
  have lf := hf.len
  have lD : (domS f).length ≤ 400 := by have : (domS f).length ≤ _ := setF_len (f.els.map p1); simp at this; omega
  have hl : ((domS f).flatMap (prP f)).length ≤ _ := flat_len (n := 400) (domS f) fun d _ => by rw [prP, List.length_map]; exact (imgS_ok hf hm d).2.2
  have hl2 : ((domS f).flatMap (prP f)).length ≤ 160000 := Nat.le_trans hl (by omega)
  have hsub : ∀ z ∈ (domS f).flatMap (prP f), nodes z ≤ 400 := fun z hz => by
    have hz' : z ∈ f.els := by
      have : z ∈ setF ((domS f).flatMap (prP f)) := ((setF_spec _ h2).2.2 z).2 ⟨hz, by
        obtain ⟨d, _, hd⟩ := List.mem_flatMap.1 hz
        obtain ⟨v, _, rfl⟩ := List.mem_map.1 hd
        show (7 : Int) ≠ 0; omega⟩
      rwa [show setF ((domS f).flatMap (prP f)) = f.els from h1] at this
    have k1 := nodesL_mem _ _ hz'
    have k2 := hf.nodes
    rw [nodes_eq] at k2
    omega
  have hn := nodesL_le _ hsub
  have h := val_set ((domS f).flatMap (prP f)) h2 (by omega) (by omega)
  rw [show setF ((domS f).flatMap (prP f)) = f.els from h1, ← set_eta hf.good (map_kind hm)] at h
  have hb : fitB f = true := by have := hf.nodes; have := hf.deep; simp [fitB]; omega
  rwa [show fitV f = f from by simp [fitV, hb], show fitE f = 0 from by simp [fitE, hb]] at h
theorem law11 (f x y : GV) (hf : f.ok) (hx : x.ok) (hy : y.ok) : Gives Tryz.prog 11 [f.pv, x.pv, y.pv] (vB true) := by
  intro m
  refine ACall.of_aw Tryz.func11 Tryz.ntmps11 rfl rfl (by simp) ?_
  refine tS ?_
  refine tS1 fun K Kp hK hKp => ?_; refine Gives.at (law_some f hf) ?_; apply hK; clear hK hKp K Kp
  cases h1 : someF f with
  | false =>
    refine tSg ?_
    refine tSa ?_
    refine tS1 fun K Kp hK hKp => ?_; refine Gives.at (sanity) ?_; apply hK; clear hK hKp K Kp
    refine tS ?_
    exact Fin.gives Same.auto
  | true =>
  refine tSg ?_
  refine tSc (law_some x hx) ?_
  cases h2 : someF x with
  | false =>
    refine tSg ?_
    refine tSa ?_
    refine tS1 fun K Kp hK hKp => ?_; refine Gives.at (sanity) ?_; apply hK; clear hK hKp K Kp
    refine tS ?_
    exact Fin.gives Same.auto
  | true =>
  refine tSg ?_
  refine tSc (law_some y hy) ?_
  cases h3 : someF y with
  | false =>
    refine tSg ?_
    refine tSa ?_
    refine tS1 fun K Kp hK hKp => ?_; refine Gives.at (sanity) ?_; apply hK; clear hK hKp K Kp
    refine tS ?_
    exact Fin.gives Same.auto
  | true =>
  simp only [someF, Bool.and_eq_true, Bool.not_eq_true', decide_eq_false_iff_not] at h1 h2 h3
  have ff := formed_Fm hf h1.2
  have fx := formed_Fm hx h2.2
  have fy := formed_Fm hy h3.2
  have lf := ff.len
  refine tSg ?_
  refine tSc (val_isMap f (by omega)) ?_
  cases hm : mapB f with
  | false =>
    refine tSg ?_
    refine tSa ?_
    refine tS1 fun K Kp hK hKp => ?_; refine Gives.at (sanity) ?_; apply hK; clear hK hKp K Kp
    refine tS ?_
    exact Fin.gives Same.auto
  | true =>
  have gx := fx.good
  have gy := fy.good
  have nf := ff.nodes
  have nx := fx.nodes
  have ny := fy.nodes
  obtain ⟨gS, nS, lS⟩ := imgS_ok ff hm x
  have enf := nodes_eq f
  have cS := val_imageM ff gx hm
  have cV := val_applyM ff gx hm
  have cD := val_sides ff
  rw [if_pos hm] at cD
  have cT := val_inverse ff
  rw [if_pos hm, show setV (setF (invL f.els)) = turnM f from rfl] at cT
  have gt : good (tupV [x, y]) := tup_good (fun z hz => by simp at hz; rcases hz with rfl | rfl <;> assumption) (.inr (by simpa using h3.1)) (by simp)
  have gxy : goods [x, y] := fun z hz => by simp at hz; rcases hz with rfl | rfl <;> assumption
  have etm : tmF [x, y] = [x, y] := by simp [tmF, tmN, h3.1]
  have cP := val_tuple [x, y] gxy (by simp) (by simp [nodesL]; omega)
  rw [etm] at cP
  have enS : nodes (setV (imgS f x)) = 1 + nodesL (imgS f x) := nodes_eq _
  have hS := has_any (setV (imgS f x)) y (by
    have gi := imgL_goods ff.good.els (map_pairs hm) x
    exact setF_goodI gi (by have := imgL_len f.els x f.els.length; rw [List.take_length] at this; omega)) gy (by omega)
  rw [has_img ff hm gx gy h2.1 h3.1] at hS
  have hfT := has_any f (fitV (tupV [x, y])) ff.good (fitV_good gt) (by omega)
  obtain ⟨pm1, pm2, gD⟩ := pairs_map ff hm
  obtain ⟨ga1, na1, _⟩ := fit_all ff hm p1 fun p _ => .inl rfl
  have lD : (domS f).length ≤ 400 := by have : (domS f).length ≤ _ := setF_len (f.els.map p1); simp at this; omega
  have hD := has_any (setV (domS f)) x (setF_goodI ga1 (by simp; omega)) gx (by
    have e1 : nodes (setV (domS f)) = 1 + nodesL (domS f) := nodes_eq _
    have e2 : nodesL (domS f) ≤ _ := setF_nodes _ ga1
    omega)
  rw [has_dom ff hm gx] at hD
  have hcases := only_cases ff hm x
  refine tSg ?_
  refine tSa ?_
  refine tS1 fun K Kp hK hKp => ?_; refine Gives.at (cS) ?_; apply hK; clear hK hKp K Kp
  refine tS ?_
  refine tS1 fun K Kp hK hKp => ?_; refine Gives.at (cV) ?_; apply hK; clear hK hKp K Kp
  refine tS ?_
  refine tS1 fun K Kp hK hKp => ?_; refine Gives.at (cD) ?_; apply hK; clear hK hKp K Kp
  refine tS ?_
  refine tS1 fun K Kp hK hKp => ?_; refine Gives.at (cT) ?_; apply hK; clear hK hKp K Kp
  refine tSa ?_
  refine tS ?_
  refine tS1 fun K Kp hK hKp => ?_; refine Gives.at (cP) ?_; apply hK; clear hK hKp K Kp
  refine tS ?_
  refine AW.gen fun mm hmm => ?_
  have g0 : mm.loc m.nloc = some f.cells := by rw [hmm]; simp [Nat.add_assoc]
  have g1 : mm.loc (m.nloc + 1) = some x.cells := by rw [hmm]; simp [Nat.add_assoc] <;> (intros; omega)
  have g2 : mm.loc (m.nloc + 2) = some y.cells := by rw [hmm]; simp [Nat.add_assoc] <;> (intros; omega)
  have g3 : mm.loc (m.nloc + 3) = some (setV (imgS f x)).cells := by rw [hmm]; simp [Nat.add_assoc] <;> (intros; omega)
  have g4 : mm.loc (m.nloc + 4) = some (onlyF (imgS f x)).cells := by rw [hmm]; simp [Nat.add_assoc] <;> (intros; omega)
  have g5 : mm.loc (m.nloc + 5) = some (setV (domS f)).cells := by rw [hmm]; simp [Nat.add_assoc] <;> (intros; omega)
  have g6 : mm.loc (m.nloc + 6) = some (setV (rngS f)).cells := by rw [hmm]; simp [Nat.add_assoc] <;> (intros; omega)
  have g7 : mm.loc (m.nloc + 7) = some (turnM f).cells := by rw [hmm]; simp [Nat.add_assoc] <;> (intros; omega)
  have g8 : mm.loc (m.nloc + 8) = some (fitV (tupV [x, y])).cells := by rw [hmm]; simp [Nat.add_assoc] <;> (intros; omega)
  have nn : mm.nloc = m.nloc + 9 := by rw [hmm]; simp [Nat.add_assoc]
  have sm : Same m mm := by rw [hmm]; exact Same.auto
  clear hmm
  have n0 : m.nloc < mm.nloc := by omega
  have n1 : m.nloc + 1 < mm.nloc := by omega
  have n2 : m.nloc + 2 < mm.nloc := by omega
  have n3 : m.nloc + 3 < mm.nloc := by omega
  have n4 : m.nloc + 4 < mm.nloc := by omega
  have n5 : m.nloc + 5 < mm.nloc := by omega
  have n6 : m.nloc + 6 < mm.nloc := by omega
  have n7 : m.nloc + 7 < mm.nloc := by omega
  have n8 : m.nloc + 8 < mm.nloc := by omega
  refine AW.step (fun τ m' => τ 138 = vB false ∧ τ 3 = .loc m.nloc 0 ∧ τ 11 = .loc (m.nloc + 5) 0 ∧ τ 12 = .loc (m.nloc + 6) 0 ∧ τ 14 = .loc (m.nloc + 7) 0 ∧ m' = mm) ?_ ?_
  · generalize onlyF (imgS f x) = V at *
    generalize imgS f x = S at *
    have sS : (setV S).els = S := rfl
    have hom : omV.kind = 0 := rfl
    rcases fit_cases (tupV [x, y]) with ⟨_, e2⟩ | ⟨_, e2⟩
    · rw [e2] at hS
      rw [decide_eq_true rfl, Bool.true_and] at hS
      rcases hcases with ⟨hl, y0, rfl, rfl, hk, hok⟩ | ⟨hl, rfl⟩
      · have hsm := ref_same V V hok hok
        rw [sameV_refl] at hsm
        have r0 : rowI (GV.rows [V]) 0 = V.cells := rows_getD [V] 0 (by simp)
        refine AW.draw [.R, .R, .R, .S, .S, .S, .R, .R, .R, .S, .S, .S, .R, .R, .R, .S, .R, .S, .S, .S, .S, .S, .S, .R, .S, .S, .R, .S, .S, .S, .S, .S, .S, .R, .S, .S, .S, .R, .S, .R, .S, .R, .R, .S, .S, .S] (by decide +kernel) ?_; have F := (aand @g0 (aand @g1 (aand @g2 (aand @g3 (aand @g4 (aand @g5 (aand @g8 (aand @n0 (aand @n1 (aand @n2 (aand @n3 (aand @n4 (aand @n5 (aand @n8 (aand @e2 (aand @sS (aand @hk @r0))))))))))))))))); refine dR 0 ?_; refine dR 1 ?_; refine dC ((hS)) 2 ?_; refine dS 3 ?_; refine dS 4 ?_; refine dS 5 ?_; refine dRG 6 ?_; refine dRG 7 ?_; refine dCG ((hfT)) 8 ?_; refine dS 9 ?_; refine dS 10 ?_; refine dS 11 ?_; refine dRG 12 ?_; refine dRG 13 ?_; refine dCG ((hD)) 14 ?_; refine dSG 15 ?_; refine dRG 16 ?_; refine dSG 17 ?_; refine dSG 18 ?_; refine dSG 19 ?_; refine dS 20 ?_; refine dS 21 ?_; refine dSG 22 ?_; refine dRG 23 ?_; refine dSG 24 ?_; refine dSG 25 ?_; refine dRG 26 ?_; refine dSG 27 ?_; refine dSG 28 ?_; refine dSG 29 ?_; refine dS 30 ?_; refine dS 31 ?_; refine dSG 32 ?_; refine dRG 33 ?_; refine dSG 34 ?_; refine dSG 35 ?_; refine dSG 36 ?_; refine dRG 37 ?_; refine dSG 38 ?_; refine dRG 39 ?_; refine dSG 40 ?_; refine dRG 41 ?_; refine dCG ((hsm)) 42 ?_; refine dSG 43 ?_; refine dSG 44 ?_; refine dS 45 ?_; (try clear F); first | refine dN ?_ | refine dB ?_ | refine DA.done (by decide +kernel) ?_
        exact ⟨rfl, by simp [upd_lit], by simp [upd_lit], by simp [upd_lit], by simp [upd_lit], by simp [upd_lit], rfl⟩
      · have hl' : ¬ (S.length : Int) = 1 := by omega
        refine AW.draw [.R, .R, .R, .S, .S, .S, .R, .R, .R, .S, .S, .S, .R, .R, .R, .S, .R, .S, .S, .S, .S, .S, .S, .R, .S, .S, .R, .S, .S, .S, .S, .S, .S, .R, .S, .S, .S, .R, .S, .R, .S, .R, .R, .S, .S, .S] (by decide +kernel) ?_; have F := (aand @g0 (aand @g1 (aand @g2 (aand @g3 (aand @g4 (aand @g5 (aand @g8 (aand @n0 (aand @n1 (aand @n2 (aand @n3 (aand @n4 (aand @n5 (aand @n8 (aand @e2 (aand @sS (aand @hl' @hom))))))))))))))))); refine dR 0 ?_; refine dR 1 ?_; refine dC ((hS)) 2 ?_; refine dS 3 ?_; refine dS 4 ?_; refine dS 5 ?_; refine dRG 6 ?_; refine dRG 7 ?_; refine dCG ((hfT)) 8 ?_; refine dS 9 ?_; refine dS 10 ?_; refine dS 11 ?_; refine dRG 12 ?_; refine dRG 13 ?_; refine dCG ((hD)) 14 ?_; refine dSG 15 ?_; refine dRG 16 ?_; refine dSG 17 ?_; refine dSG 18 ?_; refine dSG 19 ?_; refine dS 20 ?_; refine dS 21 ?_; refine dSG 22 ?_; refine dRG 23 ?_; refine dSG 24 ?_; refine dSG 25 ?_; refine dRG 26 ?_; refine dSG 27 ?_; refine dSG 28 ?_; refine dSG 29 ?_; refine dS 30 ?_; refine dS 31 ?_; refine dSG 32 ?_; refine dRG 33 ?_; refine dSG 34 ?_; refine dSG 35 ?_; refine dSG 36 ?_; refine dXX 37 ?_; refine dXx 38 ?_; refine dXX 39 ?_; refine dXx 40 ?_; refine dXX 41 ?_; refine dXX 42 ?_; refine dXx 43 ?_; refine dSG 44 ?_; refine dS 45 ?_; (try clear F); first | refine dN ?_ | refine dB ?_ | refine DA.done (by decide +kernel) ?_
        exact ⟨rfl, by simp [upd_lit], by simp [upd_lit], by simp [upd_lit], by simp [upd_lit], by simp [upd_lit], rfl⟩
    · rw [e2] at hS
      rw [decide_eq_false (by omega), Bool.false_and] at hS
      rcases hcases with ⟨hl, y0, rfl, rfl, hk, hok⟩ | ⟨hl, rfl⟩
      · have hsm := ref_same V V hok hok
        rw [sameV_refl] at hsm
        have r0 : rowI (GV.rows [V]) 0 = V.cells := rows_getD [V] 0 (by simp)
        refine AW.draw [.R, .R, .R, .S, .S, .S, .R, .R, .R, .S, .S, .S, .R, .R, .R, .S, .R, .S, .S, .S, .S, .S, .S, .R, .S, .S, .R, .S, .S, .S, .S, .S, .S, .R, .S, .S, .S, .R, .S, .R, .S, .R, .R, .S, .S, .S] (by decide +kernel) ?_; have F := (aand @g0 (aand @g1 (aand @g2 (aand @g3 (aand @g4 (aand @g5 (aand @g8 (aand @n0 (aand @n1 (aand @n2 (aand @n3 (aand @n4 (aand @n5 (aand @n8 (aand @e2 (aand @sS (aand @hk @r0))))))))))))))))); refine dR 0 ?_; refine dR 1 ?_; refine dC ((hS)) 2 ?_; refine dS 3 ?_; refine dS 4 ?_; refine dS 5 ?_; refine dXX 6 ?_; refine dXX 7 ?_; refine dXX 8 ?_; refine dS 9 ?_; refine dS 10 ?_; refine dS 11 ?_; refine dRG 12 ?_; refine dRG 13 ?_; refine dCG ((hD)) 14 ?_; refine dSG 15 ?_; refine dRG 16 ?_; refine dSG 17 ?_; refine dSG 18 ?_; refine dSG 19 ?_; refine dS 20 ?_; refine dS 21 ?_; refine dSG 22 ?_; refine dRG 23 ?_; refine dSG 24 ?_; refine dSG 25 ?_; refine dRG 26 ?_; refine dSG 27 ?_; refine dSG 28 ?_; refine dSG 29 ?_; refine dS 30 ?_; refine dS 31 ?_; refine dSG 32 ?_; refine dRG 33 ?_; refine dSG 34 ?_; refine dSG 35 ?_; refine dSG 36 ?_; refine dRG 37 ?_; refine dSG 38 ?_; refine dRG 39 ?_; refine dSG 40 ?_; refine dRG 41 ?_; refine dCG ((hsm)) 42 ?_; refine dSG 43 ?_; refine dSG 44 ?_; refine dS 45 ?_; (try clear F); first | refine dN ?_ | refine dB ?_ | refine DA.done (by decide +kernel) ?_
        exact ⟨rfl, by simp [upd_lit], by simp [upd_lit], by simp [upd_lit], by simp [upd_lit], by simp [upd_lit], rfl⟩
      · have hl' : ¬ (S.length : Int) = 1 := by omega
        refine AW.draw [.R, .R, .R, .S, .S, .S, .R, .R, .R, .S, .S, .S, .R, .R, .R, .S, .R, .S, .S, .S, .S, .S, .S, .R, .S, .S, .R, .S, .S, .S, .S, .S, .S, .R, .S, .S, .S, .R, .S, .R, .S, .R, .R, .S, .S, .S] (by decide +kernel) ?_; have F := (aand @g0 (aand @g1 (aand @g2 (aand @g3 (aand @g4 (aand @g5 (aand @g8 (aand @n0 (aand @n1 (aand @n2 (aand @n3 (aand @n4 (aand @n5 (aand @n8 (aand @e2 (aand @sS (aand @hl' @hom))))))))))))))))); refine dR 0 ?_; refine dR 1 ?_; refine dC ((hS)) 2 ?_; refine dS 3 ?_; refine dS 4 ?_; refine dS 5 ?_; refine dXX 6 ?_; refine dXX 7 ?_; refine dXX 8 ?_; refine dS 9 ?_; refine dS 10 ?_; refine dS 11 ?_; refine dRG 12 ?_; refine dRG 13 ?_; refine dCG ((hD)) 14 ?_; refine dSG 15 ?_; refine dRG 16 ?_; refine dSG 17 ?_; refine dSG 18 ?_; refine dSG 19 ?_; refine dS 20 ?_; refine dS 21 ?_; refine dSG 22 ?_; refine dRG 23 ?_; refine dSG 24 ?_; refine dSG 25 ?_; refine dRG 26 ?_; refine dSG 27 ?_; refine dSG 28 ?_; refine dSG 29 ?_; refine dS 30 ?_; refine dS 31 ?_; refine dSG 32 ?_; refine dRG 33 ?_; refine dSG 34 ?_; refine dSG 35 ?_; refine dSG 36 ?_; refine dXX 37 ?_; refine dXx 38 ?_; refine dXX 39 ?_; refine dXx 40 ?_; refine dXX 41 ?_; refine dXX 42 ?_; refine dXx 43 ?_; refine dSG 44 ?_; refine dS 45 ?_; (try clear F); first | refine dN ?_ | refine dB ?_ | refine DA.done (by decide +kernel) ?_
        exact ⟨rfl, by simp [upd_lit], by simp [upd_lit], by simp [upd_lit], by simp [upd_lit], by simp [upd_lit], rfl⟩
  rintro σ mm ⟨t138, t3, t11, t12, t14, rfl⟩
  have kk6 := g6
  have kk7 := g7
  clear cS cV cP hS hfT hD hcases g1 g2 g3 g4 g6 g7 g8 n1 n2 n3 n4 n8
  have F := @t138; refine tFa ?_; (try clear F)
  refine tS ?_
  refine AW.nilS (d := 18) (by simp [upd_lit]) ?_
  refine AW.frzL (n := m.nloc) (d := 3) (cs := f.cells) (by omega) g0 (by simp [upd_lit, t3]) ?_
  refine AW.frzL (n := m.nloc + 5) (d := 11) (cs := (setV (domS f)).cells) (by show _ < mm.nloc; omega) (by simp [g5]) (by simp [upd_lit, t11]) ?_
  refine AW.frzL (n := m.nloc + 6) (d := 12) (cs := (setV (rngS f)).cells) (by show _ < mm.nloc; omega) (by simp [kk6]) (by simp [upd_lit, t12]) ?_
  refine AW.frzL (n := m.nloc + 7) (d := 14) (cs := (turnM f).cells) (by show _ < mm.nloc; omega) (by simp [kk7]) (by simp [upd_lit, t14]) ?_
  refine AW.gen fun m1 hm1 => ?_
  have sm1 : Same m m1 := by rw [hm1]; exact (((sm.dropLoc (by omega)).dropLoc (by omega)).dropLoc (by omega)).dropLoc (by omega)
  clear hm1 g0 g5 n0 n5 n6 n7 sm
  have hpset := pr_set ff hm
  refine AW.loop (ι := Nat) (fun i σ m' => i ≤ (domS f).length ∧ σ 19 = vI i ∧ σ 3 = .ro f.cells ∧ σ 11 = .ro (setV (domS f)).cells ∧ σ 12 = .ro (setV (rngS f)).cells ∧ σ 14 = .ro (turnM f).cells ∧ (∃ o, σ 18 = .list o (GV.rows (((domS f).take i).flatMap (prP f))) ∧ Ow m1 m' o 6 (((domS f).take i).flatMap (prP f)).length)) (fun i => (domS f).length - i) 0 ?_ ?_
  · exact ⟨by simp, by simp [upd_lit], by simp [upd_lit], by simp [upd_lit], by simp [upd_lit], by simp [upd_lit], .full, by simp [upd_lit, GV.rows], .full (Same.refl _)⟩
  clear t138 t3 t11 t12 t14
  rintro i σ m' ⟨hi, t19, t3, t11, t12, t14, o, t18, ho⟩
  have sD : (setV (domS f)).els = domS f := rfl
  by_cases hlt : i < (domS f).length
  · obtain ⟨d, ed⟩ : ∃ d, d = (domS f)[i] := ⟨_, rfl⟩
    have rv : rowI (GV.rows (domS f)) i = d.cells := by rw [rows_getD _ i hlt, ← ed]
    have gd : good d := by rw [ed]; exact gD _ (List.getElem_mem hlt)
    have cI := val_imageM ff gd hm
    have et : ((domS f).take (i + 1)).flatMap (prP f) = ((domS f).take i).flatMap (prP f) ++ prP f d := by
      rw [List.take_succ_eq_append_getElem hlt, List.flatMap_append, ← ed]; simp
    have lS2 := (imgS_ok ff hm d).2.2
    have lP : (((domS f).take i).flatMap (prP f)).length ≤ 160000 := by
      refine Nat.le_trans (flat_len (n := 400) _ fun d _ => by rw [prP, List.length_map]; exact (imgS_ok ff hm d).2.2) ?_
      simp; omega
    have F := (aand @t19 (aand @t11 (aand @sD @hlt))); refine tFa ?_; (try clear F)
    repeat (first | refine AW.seq ?_ | refine AW.block ?_ | refine AW.skip ?_ | refine AExit.norT ?_ | refine AExit.norB ?_ | refine AList.nil ?_)
    refine AW.draw [.S, .S, .S, .S, .S, .S, .S, .S, .S, .S, .W, .W, .S] (by decide +kernel) ?_; have F := (aand @t3 (aand @t11 (aand @t19 (aand @sD (aand @hlt @rv))))); refine dST 0 ?_; refine dST 1 ?_; refine dST 2 ?_; refine dST 3 ?_; refine dST 4 ?_; refine dST 5 ?_; refine dGT ((cI)) 6 ?_; refine dST 7 ?_; refine dST 8 ?_; refine dST 9 ?_; refine dW 10 ?_; refine dW 11 ?_; refine dST 12 ?_; (try clear F); first | refine dN ?_ | refine dB ?_ | refine DA.done (by decide +kernel) ?_
    simp only [put]
    refine tSa ?_
    refine tS ?_
    obtain ⟨S, eS⟩ : ∃ S, S = imgS f d := ⟨_, rfl⟩
    have sS : (setV S).els = S := rfl
    rw [← eS]
    refine AW.frzL (n := m'.nloc) (d := 20) (cs := (setV S).cells) (by simp) (by simp) (by simp [upd_lit]) ?_
    refine AW.gen fun m2 hm2 => ?_
    have ow2 : Ow m1 m2 o 6 (((domS f).take i).flatMap (prP f)).length := by rw [hm2]; exact ⟨((ho.1.newLoc _).setLoc ho.1.lloc _).dropLoc ho.1.lloc, ho.2⟩
    clear hm2
    obtain ⟨B, eB⟩ : ∃ B, B = ((domS f).take i).flatMap (prP f) := ⟨_, rfl⟩
    rw [← eB] at et lP ow2 t18
    rw [prP, ← eS] at et
    rw [← eS] at lS2
    refine AW.loop (ι := Nat) (fun k σ m'' => k ≤ S.length ∧ σ 22 = vI k ∧ σ 19 = vI i ∧ σ 3 = .ro f.cells ∧ σ 11 = .ro (setV (domS f)).cells ∧ σ 12 = .ro (setV (rngS f)).cells ∧ σ 14 = .ro (turnM f).cells ∧ σ 20 = .ro (setV S).cells ∧ (∃ o, σ 18 = .list o (GV.rows (B ++ (S.take k).map fun v => tupV [d, v])) ∧ Ow m1 m'' o 6 (B ++ (S.take k).map fun v => tupV [d, v]).length)) (fun k => S.length - k) 0 ?_ ?_
    · exact ⟨by simp, by simp [upd_lit], by simp [upd_lit, t19], by simp [upd_lit, t3], by simp [upd_lit, t11], by simp [upd_lit, t12], by simp [upd_lit, t14], by simp [upd_lit], o, by simp [upd_lit, t18], by simpa using ow2⟩
    clear t3 t11 t12 t14 t18 t19 ow2 ho eB
    rintro k σ m'' ⟨hk, t22, t19, t3, t11, t12, t14, t20, o, t18, ho⟩
    by_cases hlk : k < S.length
    · obtain ⟨v, ev⟩ : ∃ v, v = S[k] := ⟨_, rfl⟩
      have rk : rowI (GV.rows S) k = v.cells := by rw [rows_getD _ k hlk, ← ev]
      have ek : (S.take (k + 1)).map (fun v => tupV [d, v]) = (S.take k).map (fun v => tupV [d, v]) ++ [tupV [d, v]] := by
        rw [List.take_succ_eq_append_getElem hlk, List.map_append, ← ev]; rfl
      have hll : Gives Tryz.prog 62 [vI 7, .list .no [d.cells, v.cells]] (tupV [d, v]).pv := law_list 7 [d, v]
      have lk : ((S.take k).map fun v => tupV [d, v]).length ≤ 400 := by simp; omega
      have F := (aand @t22 (aand @t20 (aand @sS @hlk))); refine tFa ?_; (try clear F)
      repeat (first | refine AW.seq ?_ | refine AW.block ?_ | refine AW.skip ?_ | refine AExit.norT ?_ | refine AExit.norB ?_ | refine AList.nil ?_)
      refine AW.draw [.S, .S, .S, .S, .S, .S, .S, .S, .S, .S, .S, .S, .S, .S, .W, .S] (by decide +kernel) ?_; have F := (aand @t18 (aand @t11 (aand @t19 (aand @t20 (aand @t22 (aand @sD (aand @sS (aand @hlt (aand @hlk (aand @rv @rk)))))))))); refine dST 0 ?_; refine dST 1 ?_; refine dST 2 ?_; refine dST 3 ?_; refine dST 4 ?_; refine dST 5 ?_; refine dST 6 ?_; refine dST 7 ?_; refine dST 8 ?_; refine dST 9 ?_; refine dST 10 ?_; refine dST 11 ?_; refine dGT ((hll)) 12 ?_; refine dST 13 ?_; (try clear F); refine DA.W (oi := ?oiw1) 14 ?aw1 ?bw1 ?cw1 ?dw1 ?ew1 ?fw1; (case aw1 => rfl); (case bw1 => decide +kernel); (case cw1 => rfl); (case dw1 => rfl); (case ew1 => decide); intro K Kp hK hKp; (simp [t18, upd_lit]; refine app25 (l' := [tupV [d, v]]) ho (by simp) (by simp; omega) fun o' m3 ho' hs => hK _ _ ?_; clear hK hKp K Kp); have F := (aand @t18 (aand @t11 (aand @t19 (aand @t20 (aand @t22 (aand @sD (aand @sS (aand @hlt (aand @hlk (aand @rv @rk)))))))))); refine dST 15 ?_; (try clear F); first | refine dN ?_ | refine dB ?_ | refine DA.done (by decide +kernel) ?_
      have F := @t22; refine tF ?_; (try clear F)
      exact ⟨k + 1, ⟨by omega, by simp [upd_lit], by simp [upd_lit, t19], by simp [upd_lit, t3], by simp [upd_lit, t11], by simp [upd_lit, t12], by simp [upd_lit, t14], by simp [upd_lit, t20], o', by simp [upd_lit, ek], by rw [ek, ← List.append_assoc]; simpa [Nat.add_assoc] using ho'⟩, by omega⟩
    · have e : k = S.length := by omega
      rw [e, List.take_length, ← et] at t18 ho
      have F := (aand @t22 (aand @t20 (aand @sS @hlk))); refine tFa ?_; (try clear F)
      have F := @t19; refine tF ?_; (try clear F)
      exact ⟨i + 1, ⟨by omega, by simp [upd_lit], by simp [upd_lit, t3], by simp [upd_lit, t11], by simp [upd_lit, t12], by simp [upd_lit, t14], o, by simp [upd_lit, t18], ho⟩, by omega⟩
  · have e : i = (domS f).length := by omega
    rw [e, List.take_length] at t18
    have sm2 := sm1.trans ho.same
    obtain ⟨fg, mg⟩ := turn_Fm ff hm
    have cG := val_sides fg
    rw [if_pos mg, turn_dom ff hm, turn_rng ff hm] at cG
    have cH := val_inverse fg
    rw [if_pos mg, show setV (setF (invL (turnM f).els)) = turnM (turnM f) from rfl, turn_turn ff hm] at cH
    obtain ⟨gb1, _, _⟩ := fit_all ff hm p2 fun p _ => .inr rfl
    have hff := ref_same f f hf hf
    rw [sameV_refl] at hff
    have okD : (setV (domS f)).ok := setV_ok (setF_spec _ ga1).2.1 (by have : (domS f).length ≤ 400 := lD; exact Nat.lt_of_le_of_lt lD (by omega))
    have okR : (setV (rngS f)).ok := setV_ok (setF_spec _ gb1).2.1 (by have : (rngS f).length ≤ _ := setF_len (f.els.map p2); simp at this; exact Nat.lt_of_le_of_lt this (by omega))
    have hDD := ref_same (setV (domS f)) (setV (domS f)) okD okD
    rw [sameV_refl] at hDD
    have hRR := ref_same (setV (rngS f)) (setV (rngS f)) okR okR
    rw [sameV_refl] at hRR
    have F := (aand @t19 (aand @t11 (aand @sD @hlt))); refine tFa ?_; (try clear F)
    have F := @t18; refine tF ?_; (try clear F)
    have F := @t18; refine tF1 fun K Kp hK hKp => ?_; (try clear F); refine Gives.at (hpset) ?_; apply hK; clear hK hKp K Kp
    have F := @t14; refine tF ?_; (try clear F)
    refine tS1 fun K Kp hK hKp => ?_; refine Gives.at (cG) ?_; apply hK; clear hK hKp K Kp
    refine tSa ?_
    have F := @t14; refine tF ?_; (try clear F)
    refine tS1 fun K Kp hK hKp => ?_; refine Gives.at (cH) ?_; apply hK; clear hK hKp K Kp
    refine tS ?_
    refine tS1 fun K Kp hK hKp => ?_; refine Gives.at (sanity) ?_; apply hK; clear hK hKp K Kp
    have F := @t3; refine tFg ?_; (try clear F)
    refine tSc (hff) ?_
    have F := @t3; refine tFg ?_; (try clear F)
    refine tSc (hff) ?_
    have F := @t12; refine tFg ?_; (try clear F)
    refine tSc (hRR) ?_
    have F := @t11; refine tFg ?_; (try clear F)
    refine tSc (hDD) ?_
    refine tSg ?_
    exact Fin.gives (sm2.trans Same.auto)
end Go.Proofs.YtgfadepkiejncaaGreat
