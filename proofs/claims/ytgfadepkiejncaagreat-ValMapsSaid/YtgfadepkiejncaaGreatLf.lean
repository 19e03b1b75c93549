/- Texts of the proof, part Lf: they prove nothing by themselves that is claimed. -/
import Derived.Test.YtgfadepkiejncaaGreatLc
import Derived.Test.YtgfadepkiejncaaGreatLe
set_option linter.unusedVariables false
set_option linter.unusedSimpArgs false
namespace Go.Proofs.YtgfadepkiejncaaGreat
open Go.Ab Go.Sort
set_option maxHeartbeats 0
set_option maxRecDepth 100000
attribute [local irreducible] AW AList ACall DA AExit.then AExit.inBlock YCall DCall

/-! Image, Apply, of maps of at most 400 nodes -/
def imgS (f x : GV) : List GV := setF (imgL f.els x)
theorem val_imageM {f x : GV} (hf : Fm f) (gx : good x) (hm : mapB f = true) : Gives Tryz.prog 46 [f.pv, x.pv] (outP (setV (imgS f x)) 0) := by
  have h := val_image f x hf.good gx (by have := hf.nodes; omega)
  have hb := img_fits hf hm x
  rw [if_pos hm, show fitV (setV (setF (imgL f.els x))) = setV (setF (imgL f.els x)) from by simp [fitV, hb], show fitE (setV (setF (imgL f.els x))) = 0 from by simp [fitE, hb]] at h
  exact h
theorem val_imageN {f x : GV} (hf : Fm f) (gx : good x) (hm : mapB f = false) : Gives Tryz.prog 46 [f.pv, x.pv] (outP omV 7) := by
  have h := val_image f x hf.good gx (by have := hf.nodes; omega)
  rwa [if_neg (by simp [hm])] at h
def onlyF (s : List GV) : GV := if (s.length : Int) = 1 then s[0]?.getD default else omV
theorem val_applyM {f x : GV} (hf : Fm f) (gx : good x) (hm : mapB f = true) : Gives Tryz.prog 47 [f.pv, x.pv] (outP (onlyF (imgS f x)) 0) := by
  have hi := val_imageM hf gx hm
  generalize imgS f x = S at *
  intro m
  refine ACall.of_aw Tryz.func47 Tryz.ntmps47 rfl rfl (by simp) ?_
  refine tS ?_
  refine tS1 fun K Kp hK hKp => ?_; refine Gives.at (hi) ?_; apply hK; clear hK hKp K Kp
  refine tS ?_
  by_cases h1 : (S.length : Int) = 1
  · obtain ⟨a, rfl⟩ : ∃ a, S = [a] := by
      match S, h1 with
      | [a], _ => exact ⟨a, rfl⟩
      | [], h => simp at h
      | a :: b :: l, h => simp at h; omega
    have e : onlyF [a] = a := rfl
    have r0 : rowI (GV.rows [a]) 0 = a.cells := rows_getD [a] 0 (by simp)
    have hs : (setV [a]).els = [a] := rfl
    rw [e]
    have F := (aand @r0 @hs); refine tFa ?_; (try clear F)
    refine Fin.ret (p := outP a 0) ?_ Same.auto (by simp) (by simp) ⟨rfl, rfl⟩
    simp [ResP, ResL, resV, upd_lit, show Tryz.f47.results.toList = [.cell 4 27, .tmp 5] from rfl]
  · have e : onlyF S = omV := by rw [onlyF, if_neg h1]
    have hs : (setV S).els = S := rfl
    rw [e]
    have F := (aand @h1 @hs); refine tFa ?_; (try clear F)
    refine Fin.ret (p := .tup [.agg [vI 0, vI 0, vB false, .list .full [], vS ⟨#[]⟩, .list .full []], vE 0]) ?_ Same.auto (by rfl) (by simp) ⟨rfl, rfl⟩
    simp [ResP, ResL, resV, upd_lit, show Tryz.f47.results.toList = [.cell 4 27, .tmp 5] from rfl]
theorem val_applyN {f x : GV} (hf : Fm f) (gx : good x) (hm : mapB f = false) : Gives Tryz.prog 47 [f.pv, x.pv] (outP omV 7) := by
  have hi := val_imageN hf gx hm
  intro m
  refine ACall.of_aw Tryz.func47 Tryz.ntmps47 rfl rfl (by simp) ?_
  refine tS ?_
  refine tS1 fun K Kp hK hKp => ?_; refine Gives.at (hi) ?_; apply hK; clear hK hKp K Kp
  refine tSa ?_
  refine Fin.ret (p := .tup [.agg [vI 0, vI 0, vB false, .list .full [], vS ⟨#[]⟩, .list .full []], vE 7]) ?_ Same.auto (by rfl) (by simp) ⟨rfl, rfl⟩
  simp [ResP, ResL, resV, upd_lit, show Tryz.f47.results.toList = [.cell 4 27, .tmp 5] from rfl]
theorem ref_only {f x : GV} (hf : Fm f) (gx : good x) (hm : mapB f = true) : Gives Tryz.prog 105 [f.pv, x.pv] (onlyF (imgS f x)).pv := by
  have hi := ref_images f x hf.good gx (by have := hf.nodes; omega) (by rw [mapB, Bool.and_eq_true] at hm; exact hm.2)
  rw [show setF (imgL f.els x) = imgS f x from rfl] at hi
  generalize imgS f x = S at *
  intro m
  refine ACall.of_aw Tryz.func105 Tryz.ntmps105 rfl rfl (by simp) ?_
  refine tS ?_
  refine tS1 fun K Kp hK hKp => ?_; refine Gives.at (hi) ?_; apply hK; clear hK hKp K Kp
  refine tS ?_
  by_cases h1 : (S.length : Int) = 1
  · obtain ⟨a, rfl⟩ : ∃ a, S = [a] := by
      match S, h1 with
      | [a], _ => exact ⟨a, rfl⟩
      | [], h => simp at h
      | a :: b :: l, h => simp at h; omega
    have e : onlyF [a] = a := rfl
    have r0 : rowI (GV.rows [a]) 0 = a.cells := rows_getD [a] 0 (by simp)
    have hs : (setV [a]).els = [a] := rfl
    rw [e]
    have F := (aand @r0 @hs); refine tFa ?_; (try clear F)
    exact Fin.givesC (p := a.pv) rfl (by simp [upd_lit]) Same.auto
  · have e : onlyF S = omV := by rw [onlyF, if_neg h1]
    have hs : (setV S).els = S := rfl
    rw [e]
    have F := (aand @h1 @hs); refine tFa ?_; (try clear F)
    exact Fin.givesC (p := .agg [vI 0, vI 0, vB false, .list .full [], vS ⟨#[]⟩, .list .full []]) rfl (by simp [upd_lit]) Same.auto (by rfl)
theorem ref_notMap1 {f : GV} (hf : Fm f) (hm : mapB f = false) : Gives Tryz.prog 53 [f.pv] (vB false) := by
  have h := ref_isMap f (by have := hf.len; omega)
  rwa [hm] at h
theorem ref_isMap1 {f : GV} (hf : Fm f) (hm : mapB f = true) : Gives Tryz.prog 53 [f.pv] (vB true) := by
  have h := ref_isMap f (by have := hf.len; omega)
  rwa [hm] at h
theorem ref_mappedM {f v : GV} (hf : Fm f) (hm : mapB f = true) (gv : smallV v) (hn : nodes v < 1099511627776) : Gives Tryz.prog 103 [f.pv, v.pv] (made v 0) := by
  have h := ref_mapped f v hf.good (by have := hf.nodes; omega) hn gv
  rwa [if_pos hm] at h
theorem imgS_ok {f : GV} (hf : Fm f) (hm : mapB f = true) (x : GV) : goods (imgS f x) ∧ nodesL (imgS f x) ≤ nodesL f.els ∧ (imgS f x).length ≤ 400 := by
  have hp : f.els.all pairB = true := by rw [mapB, Bool.and_eq_true] at hm; exact hm.2
  have gi := imgL_goods hf.good.els hp x
  have h1 := setF_nodes _ gi
  have h2 := imgL_nodes hp x
  have h3 := nodesL_len (setF (imgL f.els x))
  have h4 := hf.nodes
  rw [nodes_eq] at h4
  exact ⟨(setF_spec _ gi).2.1, Nat.le_trans h1 h2, by unfold imgS; omega⟩
theorem omV_small : smallV omV := fun x hx => by
  simp [walkV, walkL] at hx; subst hx; simp [GV.abs]
theorem onlyF_ok {s : List GV} (g : goods s) (hl : s.length ≤ 400) : (onlyF s).ok ∧ smallV (onlyF s) ∧ nodes (onlyF s) ≤ nodesL s + 1 := by
  unfold onlyF
  split
  · match s, g with
    | [], _ => simp at *
    | a :: l, g => exact ⟨(g a (by simp)).2, good_small (g a (by simp)), by simp [nodesL]; omega⟩
  · exact ⟨omV_ok, omV_small, by simp [nodes, nodesL]⟩
theorem ref_imageM {f x : GV} (hf : Fm f) (gx : good x) (hm : mapB f = true) : Gives Tryz.prog 54 [f.pv, x.pv] (made (setV (imgS f x)) 0) := by
  have hi := ref_images f x hf.good gx (by have := hf.nodes; omega) (by rw [mapB, Bool.and_eq_true] at hm; exact hm.2)
  obtain ⟨g1, g2, g3⟩ := imgS_ok hf hm x
  have hn := hf.nodes
  rw [nodes_eq] at hn
  have en : nodes (setV (imgS f x)) = 1 + nodesL (imgS f x) := nodes_eq _
  have h2 := ref_mappedM hf hm (v := setV (imgS f x)) (small_list g1) (by omega)
  intro m
  refine ACall.of_aw Tryz.func54 Tryz.ntmps54 rfl rfl (by simp) ?_
  refine tS ?_
  refine tS1 fun K Kp hK hKp => ?_; refine Gives.at (ref_isMap1 hf hm) ?_; apply hK; clear hK hKp K Kp
  refine tSa ?_
  refine AW.draw [.R, .R, .R, .R, .R, .W] (by decide +kernel) ?_; have F := True.intro; refine dRT 0 ?_; refine dRT 1 ?_; refine dRT 2 ?_; refine dCT ((hi)) 3 ?_; refine dCT ((h2)) 4 ?_; refine dW 5 ?_; (try clear F); first | refine dN ?_ | refine dB ?_ | refine DA.done (by decide +kernel) ?_
  simp only [put]
  refine tS ?_
  exact Fin.givesC (p := made (setV (imgS f x)) 0) rfl (by simp [upd_lit]) Same.auto
theorem ref_imageN {f x : GV} (hf : Fm f) (hm : mapB f = false) : Gives Tryz.prog 54 [f.pv, x.pv] (made omV 7) := by
  intro m
  refine ACall.of_aw Tryz.func54 Tryz.ntmps54 rfl rfl (by simp) ?_
  refine tS ?_
  refine tS1 fun K Kp hK hKp => ?_; refine Gives.at (ref_notMap1 hf hm) ?_; apply hK; clear hK hKp K Kp
  refine tSa ?_
  refine tS1 fun K Kp hK hKp => ?_; refine Gives.at (ref_bad 7) ?_; apply hK; clear hK hKp K Kp
  refine tS ?_
  exact Fin.givesC (p := made omV 7) rfl (by simp [upd_lit]) Same.auto (by rfl)
theorem ref_applyM {f x : GV} (hf : Fm f) (gx : good x) (hm : mapB f = true) : Gives Tryz.prog 55 [f.pv, x.pv] (made (onlyF (imgS f x)) 0) := by
  obtain ⟨g1, g2, g3⟩ := imgS_ok hf hm x
  obtain ⟨o1, o2, o3⟩ := onlyF_ok g1 g3
  have hn := hf.nodes
  rw [nodes_eq] at hn
  have h2 := ref_mappedM hf hm (v := onlyF (imgS f x)) o2 (by omega)
  intro m
  refine ACall.of_aw Tryz.func55 Tryz.ntmps55 rfl rfl (by simp) ?_
  refine tS ?_
  refine tS1 fun K Kp hK hKp => ?_; refine Gives.at (ref_isMap1 hf hm) ?_; apply hK; clear hK hKp K Kp
  refine tSa ?_
  refine AW.draw [.R, .R, .R, .R, .R, .W] (by decide +kernel) ?_; have F := True.intro; refine dRT 0 ?_; refine dRT 1 ?_; refine dRT 2 ?_; refine dCT ((ref_only hf gx hm)) 3 ?_; refine dCT ((h2)) 4 ?_; refine dW 5 ?_; (try clear F); first | refine dN ?_ | refine dB ?_ | refine DA.done (by decide +kernel) ?_
  simp only [put]
  refine tS ?_
  exact Fin.givesC (p := made (onlyF (imgS f x)) 0) rfl (by simp [upd_lit]) Same.auto
theorem ref_applyN {f x : GV} (hf : Fm f) (hm : mapB f = false) : Gives Tryz.prog 55 [f.pv, x.pv] (made omV 7) := by
  intro m
  refine ACall.of_aw Tryz.func55 Tryz.ntmps55 rfl rfl (by simp) ?_
  refine tS ?_
  refine tS1 fun K Kp hK hKp => ?_; refine Gives.at (ref_notMap1 hf hm) ?_; apply hK; clear hK hKp K Kp
  refine tSa ?_
  refine tS1 fun K Kp hK hKp => ?_; refine Gives.at (ref_bad 7) ?_; apply hK; clear hK hKp K Kp
  refine tS ?_
  exact Fin.givesC (p := made omV 7) rfl (by simp [upd_lit]) Same.auto (by rfl)
/-! Inverse -/
theorem invL_take (l : List GV) (i : Nat) (h : i < l.length) : invL (l.take (i + 1)) = invL (l.take i) ++ [turnP l[i]] := by
  rw [List.take_succ_eq_append_getElem h, invL, List.map_append]; rfl
theorem bs25_p (a b : GV) (m : St) (K : PV → St → Prop) : abuildSlice Tryz.prog 25 1 [(0, .agg [.v (.int .i64 7), .v (.int .i64 0), .v (.bool false), .list .full [], .v (.string ⟨#[]⟩), .list .no [b.cells, a.cells]])] m K ↔ K (.list .full [(tupV [b, a]).cells]) m := by
  rw [show [(0, PV.agg [.v (.int .i64 7), .v (.int .i64 0), .v (.bool false), .list .full [], .v (.string ⟨#[]⟩), .list .no [b.cells, a.cells]])] = partsFrom 0 [PV.agg [.v (.int .i64 7), .v (.int .i64 0), .v (.bool false), .list .full [], .v (.string ⟨#[]⟩), .list .no [b.cells, a.cells]]] from rfl]
  rw [show (1 : Nat) = [PV.agg [.v (.int .i64 7), .v (.int .i64 0), .v (.bool false), .list .full [], .v (.string ⟨#[]⟩), .list .no [b.cells, a.cells]]].length from rfl]
  rw [abuildSlice_all (s := 6) (e := 27) (z := .agg #[.int .i64 0, .int .i64 0, .bool false, .slice none 0 0, .string ⟨#[]⟩, .slice none 0 0]) (rs := [[.v (.int .i64 7), .v (.int .i64 0), .v (.bool false), .list .full [], .v (.string ⟨#[]⟩), .list .no [b.cells, a.cells]]]) (by simp) (by simp) (by simp) (by decide) (by decide) (by simp) (by simp) (.cons rfl rfl .nil)]
  have : [[PV.v (.int .i64 7), .v (.int .i64 0), .v (.bool false), .list .full [], .v (.string ⟨#[]⟩), .list .no [b.cells, a.cells]]].map PV.stripL = [(tupV [b, a]).cells] := by simp [GV.cells, GV.rows, limbs]
  rw [this]
theorem val_inverse {f : GV} (hf : Fm f) : Gives Tryz.prog 49 [f.pv] (if mapB f then outP (setV (setF (invL f.els))) 0 else outP omV 7) := by
  have lf := hf.len
  intro m
  refine ACall.of_aw Tryz.func49 Tryz.ntmps49 rfl rfl (by simp) ?_
  refine tS ?_
  refine tS1 fun K Kp hK hKp => ?_; refine Gives.at (val_isMap f (by omega)) ?_; apply hK; clear hK hKp K Kp
  cases hm : mapB f with
  | false =>
    rw [if_neg (by simp)]
    refine tSa ?_
    refine Fin.ret (p := .tup [.agg [vI 0, vI 0, vB false, .list .full [], vS ⟨#[]⟩, .list .full []], vE 7]) ?_ Same.auto (by rfl) (by simp) ⟨rfl, rfl⟩
    simp [ResP, ResL, resV, upd_lit, show Tryz.f49.results.toList = [.cell 2 27, .tmp 3] from rfl]
  | true =>
  rw [if_pos rfl]
  have hp : f.els.all pairB = true := by rw [mapB, Bool.and_eq_true] at hm; exact hm.2
  obtain ⟨g1, g2, g3⟩ := inv_all hf hm
  have hn := hf.nodes
  rw [nodes_eq] at hn
  have hset := val_set (invL f.els) g1 (by simp [invL]; omega) (by omega)
  rw [show fitV (setV (setF (invL f.els))) = setV (setF (invL f.els)) from by simp [fitV, g3], show fitE (setV (setF (invL f.els))) = 0 from by simp [fitE, g3]] at hset
  refine tSa ?_
  refine tSn ?_
  refine AW.nilS (d := 4) (by simp [upd_lit]) ?_
  refine tS ?_
  generalize hmm : (m.newLoc f.cells).newLoc _ = mm
  have sm : Same m mm := by rw [← hmm]; exact Same.auto
  have g1 : mm.loc (m.nloc + 1) = some zcV := by rw [← hmm]; simp
  have n1 : mm.nloc = m.nloc + 2 := by rw [← hmm]; simp
  clear hmm
  refine AW.loop (ι := Nat) (fun i σ m' => i ≤ f.els.length ∧ σ 14 = vI i ∧ σ 13 = vI f.els.length ∧ σ 12 = GV.pvs f.els ∧ σ 2 = .loc (m.nloc + 1) 0 ∧ (∃ o, σ 4 = .list o (GV.rows (invL (f.els.take i))) ∧ Ow mm m' o 6 (invL (f.els.take i)).length)) (fun i => f.els.length - i) 0 ?_ ?_
  · exact ⟨by simp, by simp [upd_lit], by simp [upd_lit], by simp [upd_lit], by simp [upd_lit], .full, by simp [upd_lit, invL, GV.rows], .full (Same.refl _)⟩
  rintro i σ m' ⟨hi, t14, t13, t12, t2, o, t4, ho⟩
  have q1 : m.nloc + 1 < m'.nloc := Nat.lt_of_lt_of_le (by omega) ho.same.lloc
  have k1 : m'.loc (m.nloc + 1) = some zcV := (ho.same.get (by omega)).trans g1
  by_cases hlt : i < f.els.length
  · have ht := invL_take f.els i hlt
    have hmem := List.getElem_mem hlt
    obtain ⟨p, ep⟩ : ∃ p, p = f.els[i] := ⟨_, rfl⟩
    have ep' := ep.symm
    rw [ep'] at hmem ht
    obtain ⟨_, a, b, e, _, _⟩ := pairB_iff.1 (List.all_eq_true.1 hp p hmem)
    have et : turnP p = tupV [b, a] := by simp [turnP, p1, p2, e]
    rw [et] at ht
    have r0 : rowI (GV.rows [a, b]) 0 = a.cells := rows_getD [a, b] 0 (by simp)
    have r1 : rowI (GV.rows [a, b]) 1 = b.cells := rows_getD [a, b] 1 (by simp)
    have ow2 : Ow mm ((m'.newLoc zcV).setLoc m'.nloc p.cells) o 6 (invL (f.els.take i)).length := ⟨(ho.1.newLoc _).setLoc (by omega) _, ho.2⟩
    have hl2 : (invL (f.els.take i)).length ≤ 400 := by simp [invL]; omega
    have F := (aand @t14 (aand @t13 @hlt)); refine tFa ?_; (try clear F)
    have F := (aand @t12 (aand @t14 (aand @hlt (aand @rows_getD @ep')))); refine tF ?_; (try clear F)
    repeat (first | refine AW.seq ?_ | refine AW.block ?_ | refine AW.skip ?_ | refine AExit.norT ?_ | refine AExit.norB ?_ | refine AList.nil ?_)
    have hne : m.nloc + 1 ≠ m'.nloc := by omega
    refine AW.draw [.S, .S, .R, .S, .R, .S, .R, .S, .R, .S, .S, .S, .W, .S] (by decide +kernel) ?_; have F := (aand @t4 (aand @e (aand @r0 (aand @r1 @bs25_p)))); refine dST 0 ?_; refine dST 1 ?_; refine dRT 2 ?_; refine dST 3 ?_; refine dRT 4 ?_; refine dST 5 ?_; refine dRT 6 ?_; refine dST 7 ?_; refine dRT 8 ?_; refine dST 9 ?_; refine dST 10 ?_; refine dST 11 ?_; (try clear F); refine DA.W (oi := ?oiw1) 12 ?aw1 ?bw1 ?cw1 ?dw1 ?ew1 ?fw1; (case aw1 => rfl); (case bw1 => decide +kernel); (case cw1 => rfl); (case dw1 => rfl); (case ew1 => decide); intro K Kp hK hKp; (simp [t4, upd_lit]; refine app25 (l' := [tupV [b, a]]) ow2 rfl (by simp; omega) fun o' m'' ho' hs => hK _ _ ?_; clear hK hKp K Kp); have F := (aand @t4 (aand @e (aand @r0 (aand @r1 @bs25_p)))); refine dST 13 ?_; (try clear F); first | refine dN ?_ | refine dB ?_ | refine DA.done (by decide +kernel) ?_
    have F := @t14; refine tF ?_; (try clear F)
    exact ⟨i + 1, ⟨by omega, by simp [upd_lit], by simp [upd_lit, t13], by simp [upd_lit, t12], by simp [upd_lit, t2], o', by simp [upd_lit, ht], by rw [ht]; simpa using ho'⟩, by omega⟩
  · have e : i = f.els.length := by omega
    rw [e, List.take_length] at t4
    have F := (aand @t14 (aand @t13 @hlt)); refine tFa ?_; (try clear F)
    have F := @t4; refine tF ?_; (try clear F)
    have F := @t4; refine tF1 fun K Kp hK hKp => ?_; (try clear F); refine Gives.at (hset) ?_; apply hK; clear hK hKp K Kp
    have F := (aand @t2 (aand @k1 @q1)); refine tF ?_; (try clear F)
    refine Fin.ret (p := outP (setV (setF (invL f.els))) 0) ?_ ((sm.trans ho.same).setLoc (by omega) _) (by simp) (by simp) ⟨rfl, rfl⟩
    simp [ResP, ResL, resV, upd_lit, t2, q1, show Tryz.f49.results.toList = [.cell 2 27, .tmp 3] from rfl]
end Go.Proofs.YtgfadepkiejncaaGreat
namespace Go.Ab
/-- Another list that grows goes on to be one. -/
theorem Ow.other {m0 m m' : St} {o o' oB : Own} {s n q sB nB : Nat} (h : Ow m0 m o s n) (hB : Ow m0 m oB sB nB) (hd : ∀ k, o = .tok k → oB ≠ .tok k) (a : AppRes s m o n q o' m') :
    Ow m0 m' oB sB nB ∧ ∀ k, o' = .tok k → oB ≠ .tok k := by
  obtain ⟨h1, h2, h3⟩ := h
  obtain ⟨b1, b2, b3⟩ := hB
  rcases a with ⟨rfl, rfl, rfl⟩ | ⟨_, rfl, rfl⟩ | ⟨_, k, rfl, rfl, rfl⟩
  · exact ⟨⟨b1, b2, b3⟩, hd⟩
  · refine ⟨⟨b1.newTok _ _, ?_, b3⟩, ?_⟩
    · cases oB with
      | no => exact b2
      | full => trivial
      | tok k =>
        obtain ⟨c1, c2, c3, c4⟩ := b2
        have : k ≠ m.ntok := by omega
        exact ⟨Nat.lt_succ_of_lt c1, by simp [St.newTok, upd, this, c2], by simp [St.newTok, upd, this, c3], by simp [St.newTok, upd, this, c4]⟩
    · intro k e e2
      cases e
      subst e2
      exact absurd b2.1 (Nat.lt_irrefl _)
  · refine ⟨⟨b1.growTok (h3 k rfl) _, ?_, b3⟩, hd⟩
    cases oB with
    | no => exact b2
    | full => trivial
    | tok j =>
      obtain ⟨c1, c2, c3, c4⟩ := b2
      have : j ≠ k := fun e => hd k rfl (by rw [e])
      exact ⟨c1, by simp [St.growTok, upd, this, c2], c3, c4⟩
section
variable {P : Program} {N : Nat} {l : List Oper} {cls : List Cls} {Q : APost} {σ : Nat → PV} {m : St} {listed : Array Bool} {fuel : Nat}
/-- A store that writes what is there. -/
theorem DA.RN {p : PV} {op : Op} {ty : TypeId} {pos : String} {after : Array Edge} (i : Nat) (hi : l[i]? = some ⟨none, op, ty, pos, after, none⟩) (hc : canTake false cls l.toArray listed i = true)
    (h1 : ∀ (K : PV → St → Prop), K p m → aop P op (opv σ) m K (fun _ _ => False)) (h : DA P N l cls Q fuel (listed.setIfInBounds i true) σ m) : DA P N l cls Q (fuel + 1) listed σ m :=
  DA.take (s := false) i hi (by simp [dstOK]) hc (.inr ⟨rfl, aop_soundO _ _ (h1 _ ⟨rfl, rfl⟩)⟩) h
end
end Go.Ab
namespace Go.Proofs.YtgfadepkiejncaaGreat
open Go.Ab Go.Sort
set_option maxHeartbeats 0
set_option maxRecDepth 100000
attribute [local irreducible] AW AList ACall DA AExit.then AExit.inBlock YCall DCall
theorem app25b {m0 m : St} {o o2 oB : Ab.Own} {l l' : List GV} {n nB : Nat} {K : PV → St → Prop} (ho : Ow m0 m o 6 n) (hB : Ow m0 m oB 6 nB) (hd : ∀ k, o = .tok k → oB ≠ .tok k) (hn : n = l.length) (hb : l.length + l'.length ≤ 1099511627776)
    (k : ∀ o' m', Ow m0 m' o' 6 (n + l'.length) → Ow m0 m' oB 6 nB → (∀ k, oB = .tok k → o' ≠ .tok k) → LocSame m m' → K (.list o' (GV.rows (l ++ l'))) m') :
    aappend Tryz.prog [25, 25] (.list o (GV.rows l)) (.list o2 (GV.rows l')) m K := by
  subst hn
  refine ⟨rfl, ?_⟩
  simp only [show telem Tryz.prog 25 = some 27 by simp]
  have hs : tsize Tryz.prog 27 = 6 := by simp
  refine ⟨by simp, by simp, by simp, by rw [hs]; exact rows_w l, by rw [hs]; exact rows_w l', by simp; omega, by simp; omega, by rw [hs]; simpa using ho.2.1, fun o' m' ha => ?_⟩
  rw [hs] at ha
  have ho' : Ow m0 m o 6 (GV.rows l).length := by simpa using ho
  obtain ⟨b1, b2⟩ := ho'.other hB hd ha
  have := k o' m' (by have := ho'.app ha; simpa using this) b1 (fun j e e2 => b2 j e2 e) ha.locs
  rw [rows_append] at this
  rw [rows_strip]; exact this
theorem ref_pair (a b : GV) : Gives Tryz.prog 149 [a.pv, b.pv] (tupV [a, b]).pv := by
  intro m
  refine ACall.of_aw Tryz.func149 Tryz.ntmps149 rfl rfl (by simp) ?_
  refine tS ?_
  exact Fin.givesC (p := .agg [vI 7, vI 0, vB false, .list .full [], vS ⟨#[]⟩, .list .no [a.cells, b.cells]]) rfl (by simp [upd_lit]) Same.auto (by simp [GV.cells, limbs, GV.rows])
theorem ref_turned {f : GV} (hf : Fm f) (hm : mapB f = true) : Gives Tryz.prog 107 [f.pv] (setV (setF (invL f.els))).pv := by
  have lf := hf.len
  have hp : f.els.all pairB = true := by rw [mapB, Bool.and_eq_true] at hm; exact hm.2
  obtain ⟨gi, _, _⟩ := inv_all hf hm
  have hset := ref_makeSet (invL f.els) gi (by simp [invL]; omega)
  intro m
  refine ACall.of_aw Tryz.func107 Tryz.ntmps107 rfl rfl (by simp) ?_
  refine tSn ?_
  refine AW.nilS (d := 3) (by simp [upd_lit]) ?_
  refine tS ?_
  generalize hmm : (m.newLoc f.cells).newLoc _ = mm
  have sm : Same m mm := by rw [← hmm]; exact Same.auto
  have g0 : mm.loc m.nloc = some f.cells := by rw [← hmm]; simp
  have g1 : mm.loc (m.nloc + 1) = some zcV := by rw [← hmm]; simp
  have n1 : mm.nloc = m.nloc + 2 := by rw [← hmm]; simp
  clear hmm
  refine AW.loop (ι := Nat) (fun i σ m' => i ≤ f.els.length ∧ σ 4 = vI i ∧ σ 1 = .loc m.nloc 0 ∧ σ 2 = .loc (m.nloc + 1) 0 ∧ (∃ o, σ 3 = .list o (GV.rows (invL (f.els.take i))) ∧ Ow mm m' o 6 (invL (f.els.take i)).length)) (fun i => f.els.length - i) 0 ?_ ?_
  · exact ⟨by simp, by simp [upd_lit], by simp [upd_lit], by simp [upd_lit], .full, by simp [upd_lit, invL, GV.rows], .full (Same.refl _)⟩
  rintro i σ m' ⟨hi, t4, t1, t2, o, t3, ho⟩
  have q0 : m.nloc < m'.nloc := Nat.lt_of_lt_of_le (by omega) ho.same.lloc
  have q1 : m.nloc + 1 < m'.nloc := Nat.lt_of_lt_of_le (by omega) ho.same.lloc
  have k0 : m'.loc m.nloc = some f.cells := (ho.same.get (by omega)).trans g0
  have k1 : m'.loc (m.nloc + 1) = some zcV := (ho.same.get (by omega)).trans g1
  by_cases hlt : i < f.els.length
  · have ht := invL_take f.els i hlt
    have hmem := List.getElem_mem hlt
    obtain ⟨p, ep⟩ : ∃ p, p = f.els[i] := ⟨_, rfl⟩
    have ep' := ep.symm
    rw [ep'] at hmem ht
    obtain ⟨_, a, b, e, _, _⟩ := pairB_iff.1 (List.all_eq_true.1 hp p hmem)
    have et : turnP p = tupV [b, a] := by simp [turnP, p1, p2, e]
    rw [et] at ht
    have r0 : rowI (GV.rows [a, b]) 0 = a.cells := rows_getD [a, b] 0 (by simp)
    have r1 : rowI (GV.rows [a, b]) 1 = b.cells := rows_getD [a, b] 1 (by simp)
    have hl2 : (invL (f.els.take i)).length ≤ 400 := by simp [invL]; omega
    have F := (aand @t4 (aand @t1 (aand @k0 (aand @q0 @hlt)))); refine tFa ?_; (try clear F)
    repeat (first | refine AW.seq ?_ | refine AW.block ?_ | refine AW.skip ?_ | refine AExit.norT ?_ | refine AExit.norB ?_ | refine AList.nil ?_)
    refine AW.draw [.S, .S, .R, .S, .S, .S, .R, .S, .R, .S, .R, .S, .S, .S, .R, .S, .R, .R, .S, .W, .S] (by decide +kernel) ?_; have F := (aand @t3 (aand @t1 (aand @t4 (aand @k0 (aand @q0 (aand @e (aand @r0 (aand @r1 (aand @hlt (aand @rows_getD @ep')))))))))); refine dST 0 ?_; refine dST 1 ?_; refine dRT 2 ?_; refine dST 3 ?_; refine dST 4 ?_; refine dST 5 ?_; refine dRT 6 ?_; refine dST 7 ?_; refine dRT 8 ?_; refine dST 9 ?_; refine dRT 10 ?_; refine dST 11 ?_; refine dST 12 ?_; refine dST 13 ?_; refine dRT 14 ?_; refine dST 15 ?_; refine dRT 16 ?_; refine dCT ((ref_pair b a)) 17 ?_; refine dST 18 ?_; (try clear F); refine DA.W (oi := ?oiw1) 19 ?aw1 ?bw1 ?cw1 ?dw1 ?ew1 ?fw1; (case aw1 => rfl); (case bw1 => decide +kernel); (case cw1 => rfl); (case dw1 => rfl); (case ew1 => decide); intro K Kp hK hKp; (simp [t3, upd_lit]; refine app25 (l' := [tupV [b, a]]) ho rfl (by simp; omega) fun o' m'' ho' hs => hK _ _ ?_; clear hK hKp K Kp); have F := (aand @t3 (aand @t1 (aand @t4 (aand @k0 (aand @q0 (aand @e (aand @r0 (aand @r1 (aand @hlt (aand @rows_getD @ep')))))))))); refine dST 20 ?_; (try clear F); first | refine dN ?_ | refine dB ?_ | refine DA.done (by decide +kernel) ?_
    have F := @t4; refine tF ?_; (try clear F)
    exact ⟨i + 1, ⟨by omega, by simp [upd_lit], by simp [upd_lit, t1], by simp [upd_lit, t2], o', by simp [upd_lit, ht], by rw [ht]; simpa using ho'⟩, by omega⟩
  · have e : i = f.els.length := by omega
    rw [e, List.take_length] at t3
    have F := (aand @t4 (aand @t1 (aand @k0 (aand @q0 @hlt)))); refine tFa ?_; (try clear F)
    have F := @t3; refine tF ?_; (try clear F)
    have F := @t3; refine tF1 fun K Kp hK hKp => ?_; (try clear F); refine Gives.at (hset) ?_; apply hK; clear hK hKp K Kp
    have F := (aand @t2 (aand @k1 @q1)); refine tF ?_; (try clear F)
    exact Fin.givesC (p := (setV (setF (invL f.els))).pv) rfl (by simp [upd_lit, t2, q1]) ((sm.trans ho.same).setLoc (by omega) _)
theorem ref_inverse {f : GV} (hf : Fm f) : Gives Tryz.prog 58 [f.pv] (if mapB f then made (setV (setF (invL f.els))) 0 else made omV 7) := by
  intro m
  refine ACall.of_aw Tryz.func58 Tryz.ntmps58 rfl rfl (by simp) ?_
  cases hm : mapB f with
  | false =>
    rw [if_neg (by simp)]
    refine tS ?_
    refine tS1 fun K Kp hK hKp => ?_; refine Gives.at (ref_notMap1 hf hm) ?_; apply hK; clear hK hKp K Kp
    refine tSa ?_
    refine tS1 fun K Kp hK hKp => ?_; refine Gives.at (ref_bad 7) ?_; apply hK; clear hK hKp K Kp
    refine tS ?_
    exact Fin.givesC (p := made omV 7) rfl (by simp [upd_lit]) Same.auto (by rfl)
  | true =>
    rw [if_pos rfl]
    obtain ⟨g1, g2, g3⟩ := inv_all hf hm
    have hn := hf.nodes
    rw [nodes_eq] at hn
    have en : nodes (setV (setF (invL f.els))) = 1 + nodesL (setF (invL f.els)) := nodes_eq _
    have h3 := setF_nodes _ g1
    have h2 := ref_mappedM hf hm (v := setV (setF (invL f.els))) (small_list (setF_spec _ g1).2.1) (by omega)
    refine tS ?_
    refine tS1 fun K Kp hK hKp => ?_; refine Gives.at (ref_isMap1 hf hm) ?_; apply hK; clear hK hKp K Kp
    refine tSa ?_
    refine AW.draw [.R, .R, .R, .R, .W] (by decide +kernel) ?_; have F := True.intro; refine dRT 0 ?_; refine dRT 1 ?_; refine dCT ((ref_turned hf hm)) 2 ?_; refine dCT ((h2)) 3 ?_; refine dW 4 ?_; (try clear F); first | refine dN ?_ | refine dB ?_ | refine DA.done (by decide +kernel) ?_
    simp only [put]
    refine tS ?_
    exact Fin.givesC (p := made (setV (setF (invL f.els))) 0) rfl (by simp [upd_lit]) Same.auto
/-! Sides -/
theorem ref_side {f : GV} (hf : Fm f) (hm : mapB f = true) (n : Nat) (q : GV → GV) (hn : n < 2) (hq : ∀ p a b, p.els = [a, b] → (q p = p1 p ∨ q p = p2 p) ∧ rowI (GV.rows [a, b]) n = (q p).cells) : Gives Tryz.prog 106 [f.pv, vI n] (setV (setF (f.els.map q))).pv := by
  have lf := hf.len
  have hp : f.els.all pairB = true := by rw [mapB, Bool.and_eq_true] at hm; exact hm.2
  obtain ⟨gi, _, _⟩ := fit_all hf hm q fun p h => by
    obtain ⟨_, a, b, e, _, _⟩ := pairB_iff.1 (List.all_eq_true.1 hp p h)
    exact (hq p a b e).1
  have hset := ref_makeSet (f.els.map q) gi (by simp; omega)
  have hn2 : (n : Int) < 2 := by omega
  intro m
  refine ACall.of_aw Tryz.func106 Tryz.ntmps106 rfl rfl (by simp) ?_
  refine tSn ?_
  refine AW.nilS (d := 5) (by simp [upd_lit]) ?_
  refine tS ?_
  generalize hmm : (m.newLoc f.cells).newLoc _ = mm
  have sm : Same m mm := by rw [← hmm]; exact Same.auto
  have g0 : mm.loc m.nloc = some f.cells := by rw [← hmm]; simp
  have g1 : mm.loc (m.nloc + 1) = some zcV := by rw [← hmm]; simp
  have n1 : mm.nloc = m.nloc + 2 := by rw [← hmm]; simp
  clear hmm
  refine AW.loop (ι := Nat) (fun i σ m' => i ≤ f.els.length ∧ σ 6 = vI i ∧ σ 1 = vI n ∧ σ 2 = .loc m.nloc 0 ∧ σ 4 = .loc (m.nloc + 1) 0 ∧ (∃ o, σ 5 = .list o (GV.rows ((f.els.take i).map q)) ∧ Ow mm m' o 6 ((f.els.take i).map q).length)) (fun i => f.els.length - i) 0 ?_ ?_
  · exact ⟨by simp, by simp [upd_lit], by simp [upd_lit], by simp [upd_lit], by simp [upd_lit], .full, by simp [upd_lit, GV.rows], .full (Same.refl _)⟩
  rintro i σ m' ⟨hi, t6, t1, t2, t4, o, t5, ho⟩
  have q0 : m.nloc < m'.nloc := Nat.lt_of_lt_of_le (by omega) ho.same.lloc
  have q1 : m.nloc + 1 < m'.nloc := Nat.lt_of_lt_of_le (by omega) ho.same.lloc
  have k0 : m'.loc m.nloc = some f.cells := (ho.same.get (by omega)).trans g0
  have k1 : m'.loc (m.nloc + 1) = some zcV := (ho.same.get (by omega)).trans g1
  by_cases hlt : i < f.els.length
  · have ht : (f.els.take (i + 1)).map q = (f.els.take i).map q ++ [q f.els[i]] := by rw [List.take_succ_eq_append_getElem hlt, List.map_append]; rfl
    have hmem := List.getElem_mem hlt
    obtain ⟨p, ep⟩ : ∃ p, p = f.els[i] := ⟨_, rfl⟩
    have ep' := ep.symm
    rw [ep'] at hmem ht
    obtain ⟨_, a, b, e, _, _⟩ := pairB_iff.1 (List.all_eq_true.1 hp p hmem)
    have rn := (hq p a b e).2
    have hl2 : ((f.els.take i).map q).length ≤ 400 := by simp; omega
    have F := (aand @t6 (aand @t2 (aand @k0 (aand @q0 @hlt)))); refine tFa ?_; (try clear F)
    have F := (aand @t5 (aand @t1 (aand @t2 (aand @t6 (aand @k0 (aand @q0 (aand @e (aand @rn (aand @hn2 (aand @hlt (aand @rows_getD @ep'))))))))))); refine tF ?_; (try clear F)
    refine AList.op (by decide) ?_; intro K Kp hK hKp; simp [t5, upd_lit]
    refine app25 (l' := [q p]) ho (by simp) (by simp; omega) fun o' m'' ho' hs' => hK _ _ ?_; clear hK hKp K Kp
    have F := @t6; refine tF ?_; (try clear F)
    exact ⟨i + 1, ⟨by omega, by simp [upd_lit], by simp [upd_lit, t1], by simp [upd_lit, t2], by simp [upd_lit, t4], o', by simp [upd_lit, ht], by rw [ht]; simpa using ho'⟩, by omega⟩
  · have e : i = f.els.length := by omega
    rw [e, List.take_length] at t5
    have F := (aand @t6 (aand @t2 (aand @k0 (aand @q0 @hlt)))); refine tFa ?_; (try clear F)
    have F := @t5; refine tF ?_; (try clear F)
    have F := @t5; refine tF1 fun K Kp hK hKp => ?_; (try clear F); refine Gives.at (hset) ?_; apply hK; clear hK hKp K Kp
    have F := (aand @t4 (aand @k1 @q1)); refine tF ?_; (try clear F)
    exact Fin.givesC (p := (setV (setF (f.els.map q))).pv) rfl (by simp [upd_lit, t4, q1]) ((sm.trans ho.same).setLoc (by omega) _)
theorem side0 (p a b : GV) (e : p.els = [a, b]) : (p1 p = p1 p ∨ p1 p = p2 p) ∧ rowI (GV.rows [a, b]) 0 = (p1 p).cells :=
  ⟨.inl rfl, by rw [rows_getD [a, b] 0 (by simp)]; simp [p1, e]⟩
theorem side1 (p a b : GV) (e : p.els = [a, b]) : (p2 p = p1 p ∨ p2 p = p2 p) ∧ rowI (GV.rows [a, b]) 1 = (p2 p).cells :=
  ⟨.inr rfl, by rw [rows_getD [a, b] 1 (by simp)]; simp [p2, e]⟩
def domS (f : GV) : List GV := setF (f.els.map p1)
def rngS (f : GV) : List GV := setF (f.els.map p2)
theorem ref_domain {f : GV} (hf : Fm f) : Gives Tryz.prog 56 [f.pv] (if mapB f then made (setV (domS f)) 0 else made omV 7) := by
  intro m
  refine ACall.of_aw Tryz.func56 Tryz.ntmps56 rfl rfl (by simp) ?_
  cases hm : mapB f with
  | false =>
    rw [if_neg (by simp)]
    refine tS ?_
    refine tS1 fun K Kp hK hKp => ?_; refine Gives.at (ref_notMap1 hf hm) ?_; apply hK; clear hK hKp K Kp
    refine tSa ?_
    refine tS1 fun K Kp hK hKp => ?_; refine Gives.at (ref_bad 7) ?_; apply hK; clear hK hKp K Kp
    refine tS ?_
    exact Fin.givesC (p := made omV 7) rfl (by simp [upd_lit]) Same.auto (by rfl)
  | true =>
    rw [if_pos rfl]
    have hn := hf.nodes
    rw [nodes_eq] at hn
    obtain ⟨g1, g2, _⟩ := fit_all hf hm p1 fun p _ => .inl rfl
    have en : nodes (setV (domS f)) = 1 + nodesL (domS f) := nodes_eq _
    have h3 : nodesL (domS f) ≤ nodesL (f.els.map p1) := setF_nodes _ g1
    have h2 := ref_mappedM hf hm (v := setV (domS f)) (small_list (setF_spec _ g1).2.1) (by omega)
    refine tS ?_
    refine tS1 fun K Kp hK hKp => ?_; refine Gives.at (ref_isMap1 hf hm) ?_; apply hK; clear hK hKp K Kp
    refine tSa ?_
    refine AW.draw [.R, .R, .R, .R, .W] (by decide +kernel) ?_; have F := True.intro; refine dRT 0 ?_; refine dRT 1 ?_; refine dCT ((ref_side hf hm 0 p1 (by omega) side0)) 2 ?_; refine dCT ((h2)) 3 ?_; refine dW 4 ?_; (try clear F); first | refine dN ?_ | refine dB ?_ | refine DA.done (by decide +kernel) ?_
    simp only [put]
    refine tS ?_
    exact Fin.givesC (p := made (setV (domS f)) 0) rfl (by simp [upd_lit]) Same.auto
theorem ref_values {f : GV} (hf : Fm f) : Gives Tryz.prog 57 [f.pv] (if mapB f then made (setV (rngS f)) 0 else made omV 7) := by
  intro m
  refine ACall.of_aw Tryz.func57 Tryz.ntmps57 rfl rfl (by simp) ?_
  cases hm : mapB f with
  | false =>
    rw [if_neg (by simp)]
    refine tS ?_
    refine tS1 fun K Kp hK hKp => ?_; refine Gives.at (ref_notMap1 hf hm) ?_; apply hK; clear hK hKp K Kp
    refine tSa ?_
    refine tS1 fun K Kp hK hKp => ?_; refine Gives.at (ref_bad 7) ?_; apply hK; clear hK hKp K Kp
    refine tS ?_
    exact Fin.givesC (p := made omV 7) rfl (by simp [upd_lit]) Same.auto (by rfl)
  | true =>
    rw [if_pos rfl]
    have hn := hf.nodes
    rw [nodes_eq] at hn
    obtain ⟨g1, g2, _⟩ := fit_all hf hm p2 fun p _ => .inr rfl
    have en : nodes (setV (rngS f)) = 1 + nodesL (rngS f) := nodes_eq _
    have h3 : nodesL (rngS f) ≤ nodesL (f.els.map p2) := setF_nodes _ g1
    have h2 := ref_mappedM hf hm (v := setV (rngS f)) (small_list (setF_spec _ g1).2.1) (by omega)
    refine tS ?_
    refine tS1 fun K Kp hK hKp => ?_; refine Gives.at (ref_isMap1 hf hm) ?_; apply hK; clear hK hKp K Kp
    refine tSa ?_
    refine AW.draw [.R, .R, .R, .R, .W] (by decide +kernel) ?_; have F := True.intro; refine dRT 0 ?_; refine dRT 1 ?_; refine dCT ((ref_side hf hm 1 p2 (by omega) side1)) 2 ?_; refine dCT ((h2)) 3 ?_; refine dW 4 ?_; (try clear F); first | refine dN ?_ | refine dB ?_ | refine DA.done (by decide +kernel) ?_
    simp only [put]
    refine tS ?_
    exact Fin.givesC (p := made (setV (rngS f)) 0) rfl (by simp [upd_lit]) Same.auto
theorem val_sides {f : GV} (hf : Fm f) : Gives Tryz.prog 48 [f.pv] (if mapB f then .tup [(setV (domS f)).pv, (setV (rngS f)).pv, vE 0] else .tup [omV.pv, omV.pv, vE 7]) := by
  have lf := hf.len
  intro m
  refine ACall.of_aw Tryz.func48 Tryz.ntmps48 rfl rfl (by simp) ?_
  refine tS ?_
  refine tS1 fun K Kp hK hKp => ?_; refine Gives.at (val_isMap f (by omega)) ?_; apply hK; clear hK hKp K Kp
  cases hm : mapB f with
  | false =>
    rw [if_neg (by simp)]
    refine tSa ?_
    refine Fin.ret (p := .tup [.agg [vI 0, vI 0, vB false, .list .full [], vS ⟨#[]⟩, .list .full []], .agg [vI 0, vI 0, vB false, .list .full [], vS ⟨#[]⟩, .list .full []], vE 7]) ?_ Same.auto (by rfl) (by simp) ⟨rfl, rfl⟩
    simp [ResP, ResL, resV, upd_lit, show Tryz.f48.results.toList = [.cell 2 27, .cell 3 27, .tmp 4] from rfl]
  | true =>
  rw [if_pos rfl]
  have hp : f.els.all pairB = true := by rw [mapB, Bool.and_eq_true] at hm; exact hm.2
  have hn := hf.nodes
  rw [nodes_eq] at hn
  obtain ⟨ga, na, fa⟩ := fit_all hf hm p1 fun p _ => .inl rfl
  obtain ⟨gb, nb, fb⟩ := fit_all hf hm p2 fun p _ => .inr rfl
  have seta := val_set (f.els.map p1) ga (by simp; omega) (by omega)
  rw [show fitV (setV (setF (f.els.map p1))) = setV (domS f) from by simp [fitV, fa, domS], show fitE (setV (setF (f.els.map p1))) = 0 from by simp [fitE, fa]] at seta
  have setb := val_set (f.els.map p2) gb (by simp; omega) (by omega)
  rw [show fitV (setV (setF (f.els.map p2))) = setV (rngS f) from by simp [fitV, fb, rngS], show fitE (setV (setF (f.els.map p2))) = 0 from by simp [fitE, fb]] at setb
  refine tSa ?_
  refine tSn ?_
  refine AW.nilS (d := 5) (by simp [upd_lit]) ?_
  refine AW.nilS (d := 6) (by simp [upd_lit]) ?_
  refine tS ?_
  generalize hmm : ((m.newLoc f.cells).newLoc _).newLoc _ = mm
  have sm : Same m mm := by rw [← hmm]; exact Same.auto
  have g1 : mm.loc (m.nloc + 1) = some zcV := by rw [← hmm]; simp
  have g2 : mm.loc (m.nloc + 2) = some zcV := by rw [← hmm]; simp
  have n1 : mm.nloc = m.nloc + 3 := by rw [← hmm]; simp
  clear hmm
  refine AW.loop (ι := Nat) (fun i σ m' => i ≤ f.els.length ∧ σ 17 = vI i ∧ σ 16 = vI f.els.length ∧ σ 15 = GV.pvs f.els ∧ σ 2 = .loc (m.nloc + 1) 0 ∧ σ 3 = .loc (m.nloc + 2) 0 ∧ (∃ o o', σ 5 = .list o (GV.rows ((f.els.take i).map p1)) ∧ σ 6 = .list o' (GV.rows ((f.els.take i).map p2)) ∧ Ow mm m' o 6 ((f.els.take i).map p1).length ∧ Ow mm m' o' 6 ((f.els.take i).map p2).length ∧ ∀ k, o = .tok k → o' ≠ .tok k)) (fun i => f.els.length - i) 0 ?_ ?_
  · exact ⟨by simp, by simp [upd_lit], by simp [upd_lit], by simp [upd_lit], by simp [upd_lit], by simp [upd_lit], .full, .full, by simp [upd_lit, GV.rows], by simp [upd_lit, GV.rows], .full (Same.refl _), .full (Same.refl _), fun k e => by cases e⟩
  rintro i σ m' ⟨hi, t17, t16, t15, t2, t3, o, oB, t5, t6, ho, hoB, hdis⟩
  have q1 : m.nloc + 1 < m'.nloc := Nat.lt_of_lt_of_le (by omega) ho.same.lloc
  have q2 : m.nloc + 2 < m'.nloc := Nat.lt_of_lt_of_le (by omega) ho.same.lloc
  have k1 : m'.loc (m.nloc + 1) = some zcV := (ho.same.get (by omega)).trans g1
  have k2 : m'.loc (m.nloc + 2) = some zcV := (ho.same.get (by omega)).trans g2
  by_cases hlt : i < f.els.length
  · have ht1 : (f.els.take (i + 1)).map p1 = (f.els.take i).map p1 ++ [p1 f.els[i]] := by rw [List.take_succ_eq_append_getElem hlt, List.map_append]; rfl
    have ht2 : (f.els.take (i + 1)).map p2 = (f.els.take i).map p2 ++ [p2 f.els[i]] := by rw [List.take_succ_eq_append_getElem hlt, List.map_append]; rfl
    have hmem := List.getElem_mem hlt
    obtain ⟨p, ep⟩ : ∃ p, p = f.els[i] := ⟨_, rfl⟩
    have ep' := ep.symm
    rw [ep'] at hmem ht1 ht2
    obtain ⟨_, a, b, e, _, _⟩ := pairB_iff.1 (List.all_eq_true.1 hp p hmem)
    have r0 := (side0 p a b e).2
    have r1 := (side1 p a b e).2
    have hl1 : ((f.els.take i).map p1).length ≤ 400 := by simp; omega
    have hl2 : ((f.els.take i).map p2).length ≤ 400 := by simp; omega
    obtain ⟨md, hmd⟩ : ∃ md, md = ((m'.newLoc zcV).setLoc m'.nloc p.cells).dropLoc m'.nloc := ⟨_, rfl⟩
    have ow1 : Ow mm md o 6 ((f.els.take i).map p1).length := by rw [hmd]; exact ⟨((ho.1.newLoc _).setLoc (by omega) _).dropLoc ho.1.lloc, ho.2⟩
    have ow2 : Ow mm md oB 6 ((f.els.take i).map p2).length := by rw [hmd]; exact ⟨((hoB.1.newLoc _).setLoc (by omega) _).dropLoc hoB.1.lloc, hoB.2⟩
    have F := (aand @t17 (aand @t16 @hlt)); refine tFa ?_; (try clear F)
    have F := (aand @t15 (aand @t17 (aand @hlt (aand @rows_getD @ep')))); refine tF ?_; (try clear F)
    repeat (first | refine AW.seq ?_ | refine AW.block ?_ | refine AW.skip ?_ | refine AExit.norT ?_ | refine AExit.norB ?_ | refine AList.nil ?_)
    refine AW.frzL (n := m'.nloc) (d := 8) (cs := p.cells) (by simp) (by simp) (by simp [upd_lit]) ?_
    rw [← hmd]
    clear hmd
    refine AW.draw [.S, .S, .S, .S, .S, .S, .W, .S, .S, .S, .S, .S, .S, .W, .S, .S] (by decide +kernel) ?_; have F := (aand @t5 (aand @t6 (aand @e (aand @r0 @r1)))); refine dST 0 ?_; refine dST 1 ?_; refine dST 2 ?_; refine dST 3 ?_; refine dST 4 ?_; refine dST 5 ?_; refine dST 7 ?_; refine dST 8 ?_; refine dST 9 ?_; refine dST 10 ?_; refine dST 11 ?_; refine dST 12 ?_; (try clear F); refine DA.W (oi := ?oiw2) 6 ?aw2 ?bw2 ?cw2 ?dw2 ?ew2 ?fw2; (case aw2 => rfl); (case bw2 => decide +kernel); (case cw2 => rfl); (case dw2 => rfl); (case ew2 => decide); intro K Kp hK hKp; (simp [t5, upd_lit]; refine app25b (l' := [p1 p]) ow1 ow2 hdis (by simp) (by simp; omega) fun o1 m1 ho1 hB1 hd1 hs1 => hK _ _ ?_; clear hK hKp K Kp); have F := (aand @t5 (aand @t6 (aand @e (aand @r0 @r1)))); (try clear F); refine DA.W (oi := ?oiw3) 13 ?aw3 ?bw3 ?cw3 ?dw3 ?ew3 ?fw3; (case aw3 => rfl); (case bw3 => decide +kernel); (case cw3 => rfl); (case dw3 => rfl); (case ew3 => decide); intro K Kp hK hKp; (simp [t6, upd_lit]; refine app25b (l' := [p2 p]) hB1 ho1 hd1 (by simp) (by simp; omega) fun o2 m2 hB2 ho2 hd2 hs2 => hK _ _ ?_; clear hK hKp K Kp); have F := (aand @t5 (aand @t6 (aand @e (aand @r0 @r1)))); refine dST 14 ?_; refine dST 15 ?_; (try clear F); first | refine dN ?_ | refine dB ?_ | refine DA.done (by decide +kernel) ?_
    have F := @t17; refine tF ?_; (try clear F)
    exact ⟨i + 1, ⟨by omega, by simp [upd_lit], by simp [upd_lit, t16], by simp [upd_lit, t15], by simp [upd_lit, t2], by simp [upd_lit, t3], o1, o2, by simp [upd_lit, ht1], by simp [upd_lit, ht2], by rw [ht1]; simpa using ho2, by rw [ht2]; simpa using hB2, fun k h1 h2 => hd2 k h1 h2⟩, by omega⟩
  · have e : i = f.els.length := by omega
    rw [e, List.take_length] at t5 t6
    have F := (aand @t17 (aand @t16 @hlt)); refine tFa ?_; (try clear F)
    have F := @t5; refine tF ?_; (try clear F)
    have F := @t5; refine tF1 fun K Kp hK hKp => ?_; (try clear F); refine Gives.at (seta) ?_; apply hK; clear hK hKp K Kp
    have F := (aand @t2 (aand @k1 (aand @q1 @t6))); refine tF ?_; (try clear F)
    have F := @t6; refine tF1 fun K Kp hK hKp => ?_; (try clear F); refine Gives.at (setb) ?_; apply hK; clear hK hKp K Kp
    have F := (aand @t3 (aand @k2 @q2)); refine tF ?_; (try clear F)
    repeat (first | refine AW.seq ?_ | refine AW.block ?_ | refine AW.skip ?_ | refine AExit.norT ?_ | refine AExit.norB ?_ | refine AList.nil ?_)
    generalize hm3 : (m'.setLoc (m.nloc + 1) (setV (domS f)).cells).setLoc (m.nloc + 2) (setV (rngS f)).cells = m3
    have d1 : m3.loc (m.nloc + 1) = some (setV (domS f)).cells := by rw [← hm3]; simp
    have d2 : m3.loc (m.nloc + 2) = some (setV (rngS f)).cells := by rw [← hm3]; simp
    have p1 : m.nloc + 1 < m3.nloc := by rw [← hm3]; exact q1
    have p2 : m.nloc + 2 < m3.nloc := by rw [← hm3]; exact q2
    have sm3 : Same m m3 := by rw [← hm3]; exact ((sm.trans ho.same).setLoc (by omega) _).setLoc (by omega) _
    clear hm3
    have sf1 := setLoc_self d1
    have sf2 := setLoc_self d2
    refine AW.draw [.R, .R, .S, .R, .R, .S] (by decide +kernel) ?_; have F := (aand @t2 (aand @t3 (aand @p1 (aand @p2 (aand @d1 @d2))))); refine dR 0 ?_; refine dR 1 ?_; refine dS 2 ?_; (try clear F)
    refine DA.RN 3 rfl (by decide +kernel) (by intro K hK; simp [upd_lit, t2, p1, d1, set0_cells, sf1]; exact hK) ?_
    refine DA.RN 4 rfl (by decide +kernel) (by intro K hK; simp [upd_lit, t3, p2, d2, set0_cells, sf2]; exact hK) ?_
    skip; have F := True.intro; refine dST 5 ?_; (try clear F); first | refine dN ?_ | refine dB ?_ | refine DA.done (by decide +kernel) ?_
    refine tS ?_
    refine Fin.ret (p := .tup [(setV (domS f)).pv, (setV (rngS f)).pv, vE 0]) ?_ sm3 (by simp) (by simp) ⟨rfl, rfl⟩
    simp [ResP, ResL, resV, upd_lit, t2, t3, p1, p2, d1, d2, show Tryz.f48.results.toList = [.cell 2 27, .cell 3 27, .tmp 4] from rfl]
end Go.Proofs.YtgfadepkiejncaaGreat
namespace Go.Ab
theorem AW.gen {P : Program} {N : Nat} {c : Code} {Q : APost} {σ : Nat → PV} {m : St} (h : ∀ mm, mm = m → AW P N c Q σ mm) : AW P N c Q σ m := h m rfl
end Go.Ab
namespace Go.Proofs.YtgfadepkiejncaaGreat
open Go.Ab Go.Sort
set_option maxHeartbeats 0
set_option maxRecDepth 100000
attribute [local irreducible] AW AList ACall DA AExit.then AExit.inBlock YCall DCall

/-! ValMaps -/
theorem setS_ok {l : List GV} (g : goods l) (hl : l.length ≤ 400) : (setV (setF l)).ok := setV_ok (setF_spec _ g).2.1 (by have := setF_len l; omega)
theorem image_both {f x : GV} (hf : Fm f) (gx : good x) : ∃ v e, v.ok ∧ Gives Tryz.prog 46 [f.pv, x.pv] (outP v e) ∧ Gives Tryz.prog 54 [f.pv, x.pv] (made v e) := by
  cases hm : mapB f with
  | false => exact ⟨_, _, omV_ok, val_imageN hf gx hm, ref_imageN hf hm⟩
  | true =>
    obtain ⟨g1, g2, g3⟩ := imgS_ok hf hm x
    exact ⟨_, _, setV_ok g1 (by omega), val_imageM hf gx hm, ref_imageM hf gx hm⟩
theorem apply_both {f x : GV} (hf : Fm f) (gx : good x) : ∃ v e, v.ok ∧ Gives Tryz.prog 47 [f.pv, x.pv] (outP v e) ∧ Gives Tryz.prog 55 [f.pv, x.pv] (made v e) := by
  cases hm : mapB f with
  | false => exact ⟨_, _, omV_ok, val_applyN hf gx hm, ref_applyN hf hm⟩
  | true =>
    obtain ⟨g1, g2, g3⟩ := imgS_ok hf hm x
    exact ⟨_, _, (onlyF_ok g1 g3).1, val_applyM hf gx hm, ref_applyM hf gx hm⟩
theorem sides_both {f : GV} (hf : Fm f) : ∃ v w e, v.ok ∧ w.ok ∧ Gives Tryz.prog 48 [f.pv] (.tup [v.pv, w.pv, vE e]) ∧ Gives Tryz.prog 56 [f.pv] (made v e) ∧ Gives Tryz.prog 57 [f.pv] (made w e) := by
  have h1 := val_sides hf
  have h2 := ref_domain hf
  have h3 := ref_values hf
  have hl := hf.len
  cases hm : mapB f with
  | false =>
    rw [if_neg (by simp [hm])] at h1 h2 h3
    exact ⟨_, _, _, omV_ok, omV_ok, h1, h2, h3⟩
  | true =>
    rw [if_pos hm] at h1 h2 h3
    exact ⟨_, _, _, setS_ok (fit_all hf hm p1 fun p _ => .inl rfl).1 (by simp; omega), setS_ok (fit_all hf hm p2 fun p _ => .inr rfl).1 (by simp; omega), h1, h2, h3⟩
theorem inverse_both {f : GV} (hf : Fm f) : ∃ v e, v.ok ∧ Gives Tryz.prog 49 [f.pv] (outP v e) ∧ Gives Tryz.prog 58 [f.pv] (made v e) := by
  have h1 := val_inverse hf
  have h2 := ref_inverse hf
  have hl := hf.len
  cases hm : mapB f with
  | false =>
    rw [if_neg (by simp [hm])] at h1 h2
    exact ⟨_, _, omV_ok, h1, h2⟩
  | true =>
    rw [if_pos hm] at h1 h2
    exact ⟨_, _, setS_ok (inv_all hf hm).1 (by simp [invL]; omega), h1, h2⟩
theorem om_isPair : Gives Tryz.prog 50 [.agg [vI 0, vI 0, vB false, .list .no [], vS ⟨#[]⟩, .list .no []]] (vB false) := val_isPair omV
theorem om_isMap : Gives Tryz.prog 52 [.agg [vI 0, vI 0, vB false, .list .no [], vS ⟨#[]⟩, .list .no []]] (vB false) := val_isMap omV (by decide)
theorem law8 (f x : GV) (hf : f.ok) (hx : x.ok) : Gives Tryz.prog 8 [f.pv, x.pv] (vB true) := by
  intro m
  refine ACall.of_aw Tryz.func8 Tryz.ntmps8 rfl rfl (by simp) ?_
  refine tS ?_
  refine tS1 fun K Kp hK hKp => ?_; refine Gives.at (law_some f hf) ?_; apply hK; clear hK hKp K Kp
  cases h1 : someF f with
  | false =>
    have F := @h1; refine tFa ?_; (try clear F)
    refine tS1 fun K Kp hK hKp => ?_; refine Gives.at (sanity) ?_; apply hK; clear hK hKp K Kp
    refine tS ?_
    exact Fin.gives Same.auto
  | true =>
  have F := @h1; refine tFg ?_; (try clear F)
  have F := @h1; refine tFc (law_some x hx) ?_; (try clear F)
  cases h2 : someF x with
  | false =>
    have F := (aand @h1 @h2); refine tFa ?_; (try clear F)
    refine tS1 fun K Kp hK hKp => ?_; refine Gives.at (sanity) ?_; apply hK; clear hK hKp K Kp
    refine tS ?_
    exact Fin.gives Same.auto
  | true =>
  simp only [someF, Bool.and_eq_true, Bool.not_eq_true', decide_eq_false_iff_not] at h1 h2
  have ff := formed_Fm hf h1.2
  have fx := formed_Fm hx h2.2
  have lf := ff.len
  obtain ⟨v1, e1, o1, a1, b1⟩ := image_both ff fx.good
  obtain ⟨v2, e2, o2, a2, b2⟩ := apply_both ff fx.good
  obtain ⟨v3, w3, e3, o3, u3, a3, b3, c3⟩ := sides_both ff
  obtain ⟨v4, e4, o4, a4, b4⟩ := inverse_both ff
  clear h1 h2
  refine tSa ?_
  refine tS1 fun K Kp hK hKp => ?_; refine Gives.at (a1) ?_; apply hK; clear hK hKp K Kp
  refine tS ?_
  refine tS1 fun K Kp hK hKp => ?_; refine Gives.at (a2) ?_; apply hK; clear hK hKp K Kp
  refine tS ?_
  refine tS1 fun K Kp hK hKp => ?_; refine Gives.at (a3) ?_; apply hK; clear hK hKp K Kp
  refine tS ?_
  refine tS1 fun K Kp hK hKp => ?_; refine Gives.at (a4) ?_; apply hK; clear hK hKp K Kp
  refine tS ?_
  refine AW.gen fun mm hmm => ?_
  have sm : Same m mm := by rw [hmm]; exact Same.auto
  have g0 : mm.loc (m.nloc) = some (f.cells) := by rw [hmm]; simp [Nat.add_assoc]
  have g1 : mm.loc (m.nloc + 1) = some (x.cells) := by rw [hmm]; simp <;> (intros; omega)
  have g2 : mm.loc (m.nloc + 2) = some (v1.cells) := by rw [hmm]; simp <;> (intros; omega)
  have g3 : mm.loc (m.nloc + 3) = some (v2.cells) := by rw [hmm]; simp <;> (intros; omega)
  have g4 : mm.loc (m.nloc + 4) = some (v3.cells) := by rw [hmm]; simp <;> (intros; omega)
  have g5 : mm.loc (m.nloc + 5) = some (w3.cells) := by rw [hmm]; simp <;> (intros; omega)
  have g6 : mm.loc (m.nloc + 6) = some (v4.cells) := by rw [hmm]; simp <;> (intros; omega)
  have n0 : m.nloc < mm.nloc := by rw [hmm]; simp <;> omega
  have n1 : m.nloc + 1 < mm.nloc := by rw [hmm]; simp <;> omega
  have n2 : m.nloc + 2 < mm.nloc := by rw [hmm]; simp <;> omega
  have n3 : m.nloc + 3 < mm.nloc := by rw [hmm]; simp <;> omega
  have n4 : m.nloc + 4 < mm.nloc := by rw [hmm]; simp <;> omega
  have n5 : m.nloc + 5 < mm.nloc := by rw [hmm]; simp <;> omega
  have n6 : m.nloc + 6 < mm.nloc := by rw [hmm]; simp <;> omega
  clear hmm
  refine AW.draw [.R, .R, .R, .R, .S, .S, .R, .R, .R, .R, .S, .S, .S, .S, .R, .S, .S, .S, .R, .S] (by decide +kernel) ?_; have F := (aand @g0 (aand @g1 (aand @n0 @n1))); refine dR 0 ?_; refine dC ((val_isPair x)) 1 ?_; refine dR 2 ?_; refine dC ((ref_isPair x)) 3 ?_; refine dS 4 ?_; refine dS 5 ?_; refine dRG 6 ?_; refine dCG ((val_isMap f (by omega))) 7 ?_; refine dRG 8 ?_; refine dCG ((ref_isMap f (by omega))) 9 ?_; refine dSG 10 ?_; refine dS 11 ?_; refine dS 12 ?_; refine dSG 13 ?_; refine dCG ((om_isPair)) 14 ?_; refine dS 15 ?_; refine dS 16 ?_; refine dSG 17 ?_; refine dCG ((om_isMap)) 18 ?_; refine dS 19 ?_; (try clear F); first | refine dN ?_ | refine dB ?_ | refine DA.done (by decide +kernel) ?_
  refine tSa ?_
  refine AW.draw [.R, .S, .R, .S, .R, .R, .R, .R, .S, .S, .R, .S, .R, .R, .R, .R, .S, .S, .R, .S, .R, .R, .R, .S, .S, .R, .S, .R, .R, .R, .S, .S, .R, .S, .R, .R, .R, .S, .S] (by decide +kernel) ?_; have F := (aand @g0 (aand @g1 (aand @g2 (aand @g3 (aand @g4 (aand @g5 (aand @g6 (aand @n0 (aand @n1 (aand @n2 (aand @n3 (aand @n4 (aand @n5 @n6))))))))))))); refine dC ((sanity)) 0 ?_; refine dS 1 ?_; refine dRG 2 ?_; refine dSG 3 ?_; refine dRG 4 ?_; refine dRG 5 ?_; refine dCG ((b1)) 6 ?_; refine dCG ((same_self v1 e1 o1)) 7 ?_; refine dS 8 ?_; refine dS 9 ?_; refine dRG 10 ?_; refine dSG 11 ?_; refine dRG 12 ?_; refine dRG 13 ?_; refine dCG ((b2)) 14 ?_; refine dCG ((same_self v2 e2 o2)) 15 ?_; refine dS 16 ?_; refine dS 17 ?_; refine dRG 18 ?_; refine dSG 19 ?_; refine dRG 20 ?_; refine dCG ((b3)) 21 ?_; refine dCG ((same_self v3 e3 o3)) 22 ?_; refine dS 23 ?_; refine dS 24 ?_; refine dRG 25 ?_; refine dSG 26 ?_; refine dRG 27 ?_; refine dCG ((c3)) 28 ?_; refine dCG ((same_self w3 e3 u3)) 29 ?_; refine dS 30 ?_; refine dS 31 ?_; refine dRG 32 ?_; refine dSG 33 ?_; refine dRG 34 ?_; refine dCG ((b4)) 35 ?_; refine dCG ((same_self v4 e4 o4)) 36 ?_; refine dS 37 ?_; refine dS 38 ?_; (try clear F); first | refine dN ?_ | refine dB ?_ | refine DA.done (by decide +kernel) ?_
  refine tS ?_
  exact Fin.gives sm
end Go.Proofs.YtgfadepkiejncaaGreat
