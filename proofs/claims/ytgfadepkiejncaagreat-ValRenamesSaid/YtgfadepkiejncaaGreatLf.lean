/- Texts of the proof, part Lf: they prove nothing by themselves that is claimed. -/
import Derived.Test.YtgfadepkiejncaaGreatLc
import Derived.Test.YtgfadepkiejncaaGreatLe
set_option linter.unusedVariables false
set_option linter.unusedSimpArgs false
namespace Go.Proofs.YtgfadepkiejncaaGreat
open Go.Ab Go.Sort
set_option maxHeartbeats 0
set_option maxRecDepth 100000
attribute [local irreducible] AW AList ACall DA AExit.then AExit.inBlock YCall DCall

/-! Image, Apply, of maps of at most 400 nodes -/
def imgS (f x : GV) : List GV := setF (imgL f.els x)
theorem val_imageM {f x : GV} (hf : Fm f) (gx : good x) (hm : mapB f = true) : Gives Tryz.prog 46 [f.pv, x.pv] (outP (setV (imgS f x)) 0) := by
  have h := val_image f x hf.good gx (by have := hf.nodes; omega)
  have hb := img_fits hf hm x
  rw [if_pos hm, show fitV (setV (setF (imgL f.els x))) = setV (setF (imgL f.els x)) from by simp [fitV, hb], show fitE (setV (setF (imgL f.els x))) = 0 from by simp [fitE, hb]] at h
  exact h
theorem val_imageN {f x : GV} (hf : Fm f) (gx : good x) (hm : mapB f = false) : Gives Tryz.prog 46 [f.pv, x.pv] (outP omV 7) := by
  have h := val_image f x hf.good gx (by have := hf.nodes; omega)
  rwa [if_neg (by simp [hm])] at h
def onlyF (s : List GV) : GV := if (s.length : Int) = 1 then s[0]?.getD default else omV
theorem val_applyM {f x : GV} (hf : Fm f) (gx : good x) (hm : mapB f = true) : Gives Tryz.prog 47 [f.pv, x.pv] (outP (onlyF (imgS f x)) 0) := by
  have hi := val_imageM hf gx hm
  generalize imgS f x = S at *
  intro m
  refine ACall.of_aw Tryz.func47 Tryz.ntmps47 rfl rfl (by simp) ?_
  refine tS ?_
  refine tS1 fun K Kp hK hKp => ?_; refine Gives.at (hi) ?_; apply hK; clear hK hKp K Kp
  refine tS ?_
  by_cases h1 : (S.length : Int) = 1
  · obtain ⟨a, rfl⟩ : ∃ a, S = [a] := by
      match S, h1 with
      | [a], _ => exact ⟨a, rfl⟩
      | [], h => simp at h
      | a :: b :: l, h => simp at h; omega
    have e : onlyF [a] = a := rfl
    have r0 : rowI (GV.rows [a]) 0 = a.cells := rows_getD [a] 0 (by simp)
    have hs : (setV [a]).els = [a] := rfl
    rw [e]
    have F := (aand @r0 @hs); refine tFa ?_; (try clear F)
    refine Fin.ret (p := outP a 0) ?_ Same.auto (by simp) (by simp) ⟨rfl, rfl⟩
    simp [ResP, ResL, resV, upd_lit, show Tryz.f47.results.toList = [.cell 4 27, .tmp 5] from rfl]
  · have e : onlyF S = omV := by rw [onlyF, if_neg h1]
    have hs : (setV S).els = S := rfl
    rw [e]
    have F := (aand @h1 @hs); refine tFa ?_; (try clear F)
    refine Fin.ret (p := .tup [.agg [vI 0, vI 0, vB false, .list .full [], vS ⟨#[]⟩, .list .full []], vE 0]) ?_ Same.auto (by rfl) (by simp) ⟨rfl, rfl⟩
    simp [ResP, ResL, resV, upd_lit, show Tryz.f47.results.toList = [.cell 4 27, .tmp 5] from rfl]
theorem val_applyN {f x : GV} (hf : Fm f) (gx : good x) (hm : mapB f = false) : Gives Tryz.prog 47 [f.pv, x.pv] (outP omV 7) := by
  have hi := val_imageN hf gx hm
  intro m
  refine ACall.of_aw Tryz.func47 Tryz.ntmps47 rfl rfl (by simp) ?_
  refine tS ?_
  refine tS1 fun K Kp hK hKp => ?_; refine Gives.at (hi) ?_; apply hK; clear hK hKp K Kp
  refine tSa ?_
  refine Fin.ret (p := .tup [.agg [vI 0, vI 0, vB false, .list .full [], vS ⟨#[]⟩, .list .full []], vE 7]) ?_ Same.auto (by rfl) (by simp) ⟨rfl, rfl⟩
  simp [ResP, ResL, resV, upd_lit, show Tryz.f47.results.toList = [.cell 4 27, .tmp 5] from rfl]
theorem ref_only {f x : GV} (hf : Fm f) (gx : good x) (hm : mapB f = true) : Gives Tryz.prog 105 [f.pv, x.pv] (onlyF (imgS f x)).pv := by
  have hi := ref_images f x hf.good gx (by have := hf.nodes; omega) (by rw [mapB, Bool.and_eq_true] at hm; exact hm.2)
  rw [show setF (imgL f.els x) = imgS f x from rfl] at hi
  generalize imgS f x = S at *
  intro m
  refine ACall.of_aw Tryz.func105 Tryz.ntmps105 rfl rfl (by simp) ?_
  refine tS ?_
  refine tS1 fun K Kp hK hKp => ?_; refine Gives.at (hi) ?_; apply hK; clear hK hKp K Kp
  refine tS ?_
  by_cases h1 : (S.length : Int) = 1
  · obtain ⟨a, rfl⟩ : ∃ a, S = [a] := by
      match S, h1 with
      | [a], _ => exact ⟨a, rfl⟩
      | [], h => simp at h
      | a :: b :: l, h => simp at h; omega
    have e : onlyF [a] = a := rfl
    have r0 : rowI (GV.rows [a]) 0 = a.cells := rows_getD [a] 0 (by simp)
    have hs : (setV [a]).els = [a] := rfl
    rw [e]
    have F := (aand @r0 @hs); refine tFa ?_; (try clear F)
    exact Fin.givesC (p := a.pv) rfl (by simp [upd_lit]) Same.auto
  · have e : onlyF S = omV := by rw [onlyF, if_neg h1]
    have hs : (setV S).els = S := rfl
    rw [e]
    have F := (aand @h1 @hs); refine tFa ?_; (try clear F)
    exact Fin.givesC (p := .agg [vI 0, vI 0, vB false, .list .full [], vS ⟨#[]⟩, .list .full []]) rfl (by simp [upd_lit]) Same.auto (by rfl)
theorem ref_notMap1 {f : GV} (hf : Fm f) (hm : mapB f = false) : Gives Tryz.prog 53 [f.pv] (vB false) := by
  have h := ref_isMap f (by have := hf.len; omega)
  rwa [hm] at h
theorem ref_isMap1 {f : GV} (hf : Fm f) (hm : mapB f = true) : Gives Tryz.prog 53 [f.pv] (vB true) := by
  have h := ref_isMap f (by have := hf.len; omega)
  rwa [hm] at h
theorem ref_mappedM {f v : GV} (hf : Fm f) (hm : mapB f = true) (gv : smallV v) (hn : nodes v < 1099511627776) : Gives Tryz.prog 103 [f.pv, v.pv] (made v 0) := by
  have h := ref_mapped f v hf.good (by have := hf.nodes; omega) hn gv
  rwa [if_pos hm] at h
theorem imgS_ok {f : GV} (hf : Fm f) (hm : mapB f = true) (x : GV) : goods (imgS f x) ∧ nodesL (imgS f x) ≤ nodesL f.els ∧ (imgS f x).length ≤ 400 := by
  have hp : f.els.all pairB = true := by rw [mapB, Bool.and_eq_true] at hm; exact hm.2
  have gi := imgL_goods hf.good.els hp x
  have h1 := setF_nodes _ gi
  have h2 := imgL_nodes hp x
  have h3 := nodesL_len (setF (imgL f.els x))
  have h4 := hf.nodes
  rw [nodes_eq] at h4
  exact ⟨(setF_spec _ gi).2.1, Nat.le_trans h1 h2, by unfold imgS; omega⟩
theorem omV_small : smallV omV := fun x hx => by
  simp [walkV, walkL] at hx; subst hx; simp [GV.abs]
theorem onlyF_ok {s : List GV} (g : goods s) (hl : s.length ≤ 400) : (onlyF s).ok ∧ smallV (onlyF s) ∧ nodes (onlyF s) ≤ nodesL s + 1 := by
  unfold onlyF
  split
  · match s, g with
    | [], _ => simp at *
    | a :: l, g => exact ⟨(g a (by simp)).2, good_small (g a (by simp)), by simp [nodesL]; omega⟩
  · exact ⟨omV_ok, omV_small, by simp [nodes, nodesL]⟩
theorem ref_imageM {f x : GV} (hf : Fm f) (gx : good x) (hm : mapB f = true) : Gives Tryz.prog 54 [f.pv, x.pv] (made (setV (imgS f x)) 0) := by
  have hi := ref_images f x hf.good gx (by have := hf.nodes; omega) (by rw [mapB, Bool.and_eq_true] at hm; exact hm.2)
  obtain ⟨g1, g2, g3⟩ := imgS_ok hf hm x
  have hn := hf.nodes
  rw [nodes_eq] at hn
  have en : nodes (setV (imgS f x)) = 1 + nodesL (imgS f x) := nodes_eq _
  have h2 := ref_mappedM hf hm (v := setV (imgS f x)) (small_list g1) (by omega)
  intro m
  refine ACall.of_aw Tryz.func54 Tryz.ntmps54 rfl rfl (by simp) ?_
  refine tS ?_
  refine tS1 fun K Kp hK hKp => ?_; refine Gives.at (ref_isMap1 hf hm) ?_; apply hK; clear hK hKp K Kp
  refine tSa ?_
  refine AW.draw [.R, .R, .R, .R, .R, .W] (by decide +kernel) ?_; have F := True.intro; refine dRT 0 ?_; refine dRT 1 ?_; refine dRT 2 ?_; refine dCT ((hi)) 3 ?_; refine dCT ((h2)) 4 ?_; refine dW 5 ?_; (try clear F); first | refine dN ?_ | refine dB ?_ | refine DA.done (by decide +kernel) ?_
  simp only [put]
  refine tS ?_
  exact Fin.givesC (p := made (setV (imgS f x)) 0) rfl (by simp [upd_lit]) Same.auto
theorem ref_imageN {f x : GV} (hf : Fm f) (hm : mapB f = false) : Gives Tryz.prog 54 [f.pv, x.pv] (made omV 7) := by
  intro m
  refine ACall.of_aw Tryz.func54 Tryz.ntmps54 rfl rfl (by simp) ?_
  refine tS ?_
  refine tS1 fun K Kp hK hKp => ?_; refine Gives.at (ref_notMap1 hf hm) ?_; apply hK; clear hK hKp K Kp
  refine tSa ?_
  refine tS1 fun K Kp hK hKp => ?_; refine Gives.at (ref_bad 7) ?_; apply hK; clear hK hKp K Kp
  refine tS ?_
  exact Fin.givesC (p := made omV 7) rfl (by simp [upd_lit]) Same.auto (by rfl)
theorem ref_applyM {f x : GV} (hf : Fm f) (gx : good x) (hm : mapB f = true) : Gives Tryz.prog 55 [f.pv, x.pv] (made (onlyF (imgS f x)) 0) := by
  obtain ⟨g1, g2, g3⟩ := imgS_ok hf hm x
  obtain ⟨o1, o2, o3⟩ := onlyF_ok g1 g3
  have hn := hf.nodes
  rw [nodes_eq] at hn
  have h2 := ref_mappedM hf hm (v := onlyF (imgS f x)) o2 (by omega)
  intro m
  refine ACall.of_aw Tryz.func55 Tryz.ntmps55 rfl rfl (by simp) ?_
  refine tS ?_
  refine tS1 fun K Kp hK hKp => ?_; refine Gives.at (ref_isMap1 hf hm) ?_; apply hK; clear hK hKp K Kp
  refine tSa ?_
  refine AW.draw [.R, .R, .R, .R, .R, .W] (by decide +kernel) ?_; have F := True.intro; refine dRT 0 ?_; refine dRT 1 ?_; refine dRT 2 ?_; refine dCT ((ref_only hf gx hm)) 3 ?_; refine dCT ((h2)) 4 ?_; refine dW 5 ?_; (try clear F); first | refine dN ?_ | refine dB ?_ | refine DA.done (by decide +kernel) ?_
  simp only [put]
  refine tS ?_
  exact Fin.givesC (p := made (onlyF (imgS f x)) 0) rfl (by simp [upd_lit]) Same.auto
theorem ref_applyN {f x : GV} (hf : Fm f) (hm : mapB f = false) : Gives Tryz.prog 55 [f.pv, x.pv] (made omV 7) := by
  intro m
  refine ACall.of_aw Tryz.func55 Tryz.ntmps55 rfl rfl (by simp) ?_
  refine tS ?_
  refine tS1 fun K Kp hK hKp => ?_; refine Gives.at (ref_notMap1 hf hm) ?_; apply hK; clear hK hKp K Kp
  refine tSa ?_
  refine tS1 fun K Kp hK hKp => ?_; refine Gives.at (ref_bad 7) ?_; apply hK; clear hK hKp K Kp
  refine tS ?_
  exact Fin.givesC (p := made omV 7) rfl (by simp [upd_lit]) Same.auto (by rfl)
/-! Inverse -/
theorem invL_take (l : List GV) (i : Nat) (h : i < l.length) : invL (l.take (i + 1)) = invL (l.take i) ++ [turnP l[i]] := by
  rw [List.take_succ_eq_append_getElem h, invL, List.map_append]; rfl
theorem bs25_p (a b : GV) (m : St) (K : PV → St → Prop) : abuildSlice Tryz.prog 25 1 [(0, .agg [.v (.int .i64 7), .v (.int .i64 0), .v (.bool false), .list .full [], .v (.string ⟨#[]⟩), .list .no [b.cells, a.cells]])] m K ↔ K (.list .full [(tupV [b, a]).cells]) m := by
  rw [show [(0, PV.agg [.v (.int .i64 7), .v (.int .i64 0), .v (.bool false), .list .full [], .v (.string ⟨#[]⟩), .list .no [b.cells, a.cells]])] = partsFrom 0 [PV.agg [.v (.int .i64 7), .v (.int .i64 0), .v (.bool false), .list .full [], .v (.string ⟨#[]⟩), .list .no [b.cells, a.cells]]] from rfl]
  rw [show (1 : Nat) = [PV.agg [.v (.int .i64 7), .v (.int .i64 0), .v (.bool false), .list .full [], .v (.string ⟨#[]⟩), .list .no [b.cells, a.cells]]].length from rfl]
  rw [abuildSlice_all (s := 6) (e := 27) (z := .agg #[.int .i64 0, .int .i64 0, .bool false, .slice none 0 0, .string ⟨#[]⟩, .slice none 0 0]) (rs := [[.v (.int .i64 7), .v (.int .i64 0), .v (.bool false), .list .full [], .v (.string ⟨#[]⟩), .list .no [b.cells, a.cells]]]) (by simp) (by simp) (by simp) (by decide) (by decide) (by simp) (by simp) (.cons rfl rfl .nil)]
  have : [[PV.v (.int .i64 7), .v (.int .i64 0), .v (.bool false), .list .full [], .v (.string ⟨#[]⟩), .list .no [b.cells, a.cells]]].map PV.stripL = [(tupV [b, a]).cells] := by simp [GV.cells, GV.rows, limbs]
  rw [this]
theorem val_inverse {f : GV} (hf : Fm f) : Gives Tryz.prog 49 [f.pv] (if mapB f then outP (setV (setF (invL f.els))) 0 else outP omV 7) := by
  have lf := hf.len
  intro m
  refine ACall.of_aw Tryz.func49 Tryz.ntmps49 rfl rfl (by simp) ?_
  refine tS ?_
  refine tS1 fun K Kp hK hKp => ?_; refine Gives.at (val_isMap f (by omega)) ?_; apply hK; clear hK hKp K Kp
  cases hm : mapB f with
  | false =>
    rw [if_neg (by simp)]
    refine tSa ?_
    refine Fin.ret (p := .tup [.agg [vI 0, vI 0, vB false, .list .full [], vS ⟨#[]⟩, .list .full []], vE 7]) ?_ Same.auto (by rfl) (by simp) ⟨rfl, rfl⟩
    simp [ResP, ResL, resV, upd_lit, show Tryz.f49.results.toList = [.cell 2 27, .tmp 3] from rfl]
  | true =>
  rw [if_pos rfl]
  have hp : f.els.all pairB = true := by rw [mapB, Bool.and_eq_true] at hm; exact hm.2
  obtain ⟨g1, g2, g3⟩ := inv_all hf hm
  have hn := hf.nodes
  rw [nodes_eq] at hn
  have hset := val_set (invL f.els) g1 (by simp [invL]; omega) (by omega)
  rw [show fitV (setV (setF (invL f.els))) = setV (setF (invL f.els)) from by simp [fitV, g3], show fitE (setV (setF (invL f.els))) = 0 from by simp [fitE, g3]] at hset
  refine tSa ?_
  refine tSn ?_
  refine AW.nilS (d := 4) (by simp [upd_lit]) ?_
  refine tS ?_
  generalize hmm : (m.newLoc f.cells).newLoc _ = mm
  have sm : Same m mm := by rw [← hmm]; exact Same.auto
  have g1 : mm.loc (m.nloc + 1) = some zcV := by rw [← hmm]; simp
  have n1 : mm.nloc = m.nloc + 2 := by rw [← hmm]; simp
  clear hmm
  refine AW.loop (ι := Nat) (fun i σ m' => i ≤ f.els.length ∧ σ 14 = vI i ∧ σ 13 = vI f.els.length ∧ σ 12 = GV.pvs f.els ∧ σ 2 = .loc (m.nloc + 1) 0 ∧ (∃ o, σ 4 = .list o (GV.rows (invL (f.els.take i))) ∧ Ow mm m' o 6 (invL (f.els.take i)).length)) (fun i => f.els.length - i) 0 ?_ ?_
  · exact ⟨by simp, by simp [upd_lit], by simp [upd_lit], by simp [upd_lit], by simp [upd_lit], .full, by simp [upd_lit, invL, GV.rows], .full (Same.refl _)⟩
  rintro i σ m' ⟨hi, t14, t13, t12, t2, o, t4, ho⟩
  have q1 : m.nloc + 1 < m'.nloc := Nat.lt_of_lt_of_le (by omega) ho.same.lloc
  have k1 : m'.loc (m.nloc + 1) = some zcV := (ho.same.get (by omega)).trans g1
  by_cases hlt : i < f.els.length
  · have ht := invL_take f.els i hlt
    have hmem := List.getElem_mem hlt
    obtain ⟨p, ep⟩ : ∃ p, p = f.els[i] := ⟨_, rfl⟩
    have ep' := ep.symm
    rw [ep'] at hmem ht
    obtain ⟨_, a, b, e, _, _⟩ := pairB_iff.1 (List.all_eq_true.1 hp p hmem)
    have et : turnP p = tupV [b, a] := by simp [turnP, p1, p2, e]
    rw [et] at ht
    have r0 : rowI (GV.rows [a, b]) 0 = a.cells := rows_getD [a, b] 0 (by simp)
    have r1 : rowI (GV.rows [a, b]) 1 = b.cells := rows_getD [a, b] 1 (by simp)
    have ow2 : Ow mm ((m'.newLoc zcV).setLoc m'.nloc p.cells) o 6 (invL (f.els.take i)).length := ⟨(ho.1.newLoc _).setLoc (by omega) _, ho.2⟩
    have hl2 : (invL (f.els.take i)).length ≤ 400 := by simp [invL]; omega
    have F := (aand @t14 (aand @t13 @hlt)); refine tFa ?_; (try clear F)
    have F := (aand @t12 (aand @t14 (aand @hlt (aand @rows_getD @ep')))); refine tF ?_; (try clear F)
    repeat (first | refine AW.seq ?_ | refine AW.block ?_ | refine AW.skip ?_ | refine AExit.norT ?_ | refine AExit.norB ?_ | refine AList.nil ?_)
    have hne : m.nloc + 1 ≠ m'.nloc := by omega
    refine AW.draw [.S, .S, .R, .S, .R, .S, .R, .S, .R, .S, .S, .S, .W, .S] (by decide +kernel) ?_; have F := (aand @t4 (aand @e (aand @r0 (aand @r1 @bs25_p)))); refine dST 0 ?_; refine dST 1 ?_; refine dRT 2 ?_; refine dST 3 ?_; refine dRT 4 ?_; refine dST 5 ?_; refine dRT 6 ?_; refine dST 7 ?_; refine dRT 8 ?_; refine dST 9 ?_; refine dST 10 ?_; refine dST 11 ?_; (try clear F); refine DA.W (oi := ?oiw1) 12 ?aw1 ?bw1 ?cw1 ?dw1 ?ew1 ?fw1; (case aw1 => rfl); (case bw1 => decide +kernel); (case cw1 => rfl); (case dw1 => rfl); (case ew1 => decide); intro K Kp hK hKp; (simp [t4, upd_lit]; refine app25 (l' := [tupV [b, a]]) ow2 rfl (by simp; omega) fun o' m'' ho' hs => hK _ _ ?_; clear hK hKp K Kp); have F := (aand @t4 (aand @e (aand @r0 (aand @r1 @bs25_p)))); refine dST 13 ?_; (try clear F); first | refine dN ?_ | refine dB ?_ | refine DA.done (by decide +kernel) ?_
    have F := @t14; refine tF ?_; (try clear F)
    exact ⟨i + 1, ⟨by omega, by simp [upd_lit], by simp [upd_lit, t13], by simp [upd_lit, t12], by simp [upd_lit, t2], o', by simp [upd_lit, ht], by rw [ht]; simpa using ho'⟩, by omega⟩
  · have e : i = f.els.length := by omega
    rw [e, List.take_length] at t4
    have F := (aand @t14 (aand @t13 @hlt)); refine tFa ?_; (try clear F)
    have F := @t4; refine tF ?_; (try clear F)
    have F := @t4; refine tF1 fun K Kp hK hKp => ?_; (try clear F); refine Gives.at (hset) ?_; apply hK; clear hK hKp K Kp
    have F := (aand @t2 (aand @k1 @q1)); refine tF ?_; (try clear F)
    refine Fin.ret (p := outP (setV (setF (invL f.els))) 0) ?_ ((sm.trans ho.same).setLoc (by omega) _) (by simp) (by simp) ⟨rfl, rfl⟩
    simp [ResP, ResL, resV, upd_lit, t2, q1, show Tryz.f49.results.toList = [.cell 2 27, .tmp 3] from rfl]
end Go.Proofs.YtgfadepkiejncaaGreat
namespace Go.Ab
/-- Another list that grows goes on to be one. -/
theorem Ow.other {m0 m m' : St} {o o' oB : Own} {s n q sB nB : Nat} (h : Ow m0 m o s n) (hB : Ow m0 m oB sB nB) (hd : ∀ k, o = .tok k → oB ≠ .tok k) (a : AppRes s m o n q o' m') :
    Ow m0 m' oB sB nB ∧ ∀ k, o' = .tok k → oB ≠ .tok k := by
  obtain ⟨h1, h2, h3⟩ := h
  obtain ⟨b1, b2, b3⟩ := hB
  rcases a with ⟨rfl, rfl, rfl⟩ | ⟨_, rfl, rfl⟩ | ⟨_, k, rfl, rfl, rfl⟩
  · exact ⟨⟨b1, b2, b3⟩, hd⟩
  · refine ⟨⟨b1.newTok _ _, ?_, b3⟩, ?_⟩
    · cases oB with
      | no => exact b2
      | full => trivial
      | tok k =>
        obtain ⟨c1, c2, c3, c4⟩ := b2
        have : k ≠ m.ntok := by omega
        exact ⟨Nat.lt_succ_of_lt c1, by simp [St.newTok, upd, this, c2], by simp [St.newTok, upd, this, c3], by simp [St.newTok, upd, this, c4]⟩
    · intro k e e2
      cases e
      subst e2
      exact absurd b2.1 (Nat.lt_irrefl _)
  · refine ⟨⟨b1.growTok (h3 k rfl) _, ?_, b3⟩, hd⟩
    cases oB with
    | no => exact b2
    | full => trivial
    | tok j =>
      obtain ⟨c1, c2, c3, c4⟩ := b2
      have : j ≠ k := fun e => hd k rfl (by rw [e])
      exact ⟨c1, by simp [St.growTok, upd, this, c2], c3, c4⟩
section
variable {P : Program} {N : Nat} {l : List Oper} {cls : List Cls} {Q : APost} {σ : Nat → PV} {m : St} {listed : Array Bool} {fuel : Nat}
/-- A store that writes what is there. -/
theorem DA.RN {p : PV} {op : Op} {ty : TypeId} {pos : String} {after : Array Edge} (i : Nat) (hi : l[i]? = some ⟨none, op, ty, pos, after, none⟩) (hc : canTake false cls l.toArray listed i = true)
    (h1 : ∀ (K : PV → St → Prop), K p m → aop P op (opv σ) m K (fun _ _ => False)) (h : DA P N l cls Q fuel (listed.setIfInBounds i true) σ m) : DA P N l cls Q (fuel + 1) listed σ m :=
  DA.take (s := false) i hi (by simp [dstOK]) hc (.inr ⟨rfl, aop_soundO _ _ (h1 _ ⟨rfl, rfl⟩)⟩) h
end
end Go.Ab
namespace Go.Proofs.YtgfadepkiejncaaGreat
open Go.Ab Go.Sort
set_option maxHeartbeats 0
set_option maxRecDepth 100000
attribute [local irreducible] AW AList ACall DA AExit.then AExit.inBlock YCall DCall
theorem app25b {m0 m : St} {o o2 oB : Ab.Own} {l l' : List GV} {n nB : Nat} {K : PV → St → Prop} (ho : Ow m0 m o 6 n) (hB : Ow m0 m oB 6 nB) (hd : ∀ k, o = .tok k → oB ≠ .tok k) (hn : n = l.length) (hb : l.length + l'.length ≤ 1099511627776)
    (k : ∀ o' m', Ow m0 m' o' 6 (n + l'.length) → Ow m0 m' oB 6 nB → (∀ k, oB = .tok k → o' ≠ .tok k) → LocSame m m' → K (.list o' (GV.rows (l ++ l'))) m') :
    aappend Tryz.prog [25, 25] (.list o (GV.rows l)) (.list o2 (GV.rows l')) m K := by
  subst hn
  refine ⟨rfl, ?_⟩
  simp only [show telem Tryz.prog 25 = some 27 by simp]
  have hs : tsize Tryz.prog 27 = 6 := by simp
  refine ⟨by simp, by simp, by simp, by rw [hs]; exact rows_w l, by rw [hs]; exact rows_w l', by simp; omega, by simp; omega, by rw [hs]; simpa using ho.2.1, fun o' m' ha => ?_⟩
  rw [hs] at ha
  have ho' : Ow m0 m o 6 (GV.rows l).length := by simpa using ho
  obtain ⟨b1, b2⟩ := ho'.other hB hd ha
  have := k o' m' (by have := ho'.app ha; simpa using this) b1 (fun j e e2 => b2 j e2 e) ha.locs
  rw [rows_append] at this
  rw [rows_strip]; exact this
theorem ref_pair (a b : GV) : Gives Tryz.prog 149 [a.pv, b.pv] (tupV [a, b]).pv := by
  intro m
  refine ACall.of_aw Tryz.func149 Tryz.ntmps149 rfl rfl (by simp) ?_
  refine tS ?_
  exact Fin.givesC (p := .agg [vI 7, vI 0, vB false, .list .full [], vS ⟨#[]⟩, .list .no [a.cells, b.cells]]) rfl (by simp [upd_lit]) Same.auto (by simp [GV.cells, limbs, GV.rows])
theorem ref_turned {f : GV} (hf : Fm f) (hm : mapB f = true) : Gives Tryz.prog 107 [f.pv] (setV (setF (invL f.els))).pv := by
  have lf := hf.len
  have hp : f.els.all pairB = true := by rw [mapB, Bool.and_eq_true] at hm; exact hm.2
  obtain ⟨gi, _, _⟩ := inv_all hf hm
  have hset := ref_makeSet (invL f.els) gi (by simp [invL]; omega)
  intro m
  refine ACall.of_aw Tryz.func107 Tryz.ntmps107 rfl rfl (by simp) ?_
  refine tSn ?_
  refine AW.nilS (d := 3) (by simp [upd_lit]) ?_
  refine tS ?_
  generalize hmm : (m.newLoc f.cells).newLoc _ = mm
  have sm : Same m mm := by rw [← hmm]; exact Same.auto
  have g0 : mm.loc m.nloc = some f.cells := by rw [← hmm]; simp
  have g1 : mm.loc (m.nloc + 1) = some zcV := by rw [← hmm]; simp
  have n1 : mm.nloc = m.nloc + 2 := by rw [← hmm]; simp
  clear hmm
  refine AW.loop (ι := Nat) (fun i σ m' => i ≤ f.els.length ∧ σ 4 = vI i ∧ σ 1 = .loc m.nloc 0 ∧ σ 2 = .loc (m.nloc + 1) 0 ∧ (∃ o, σ 3 = .list o (GV.rows (invL (f.els.take i))) ∧ Ow mm m' o 6 (invL (f.els.take i)).length)) (fun i => f.els.length - i) 0 ?_ ?_
  · exact ⟨by simp, by simp [upd_lit], by simp [upd_lit], by simp [upd_lit], .full, by simp [upd_lit, invL, GV.rows], .full (Same.refl _)⟩
  rintro i σ m' ⟨hi, t4, t1, t2, o, t3, ho⟩
  have q0 : m.nloc < m'.nloc := Nat.lt_of_lt_of_le (by omega) ho.same.lloc
  have q1 : m.nloc + 1 < m'.nloc := Nat.lt_of_lt_of_le (by omega) ho.same.lloc
  have k0 : m'.loc m.nloc = some f.cells := (ho.same.get (by omega)).trans g0
  have k1 : m'.loc (m.nloc + 1) = some zcV := (ho.same.get (by omega)).trans g1
  by_cases hlt : i < f.els.length
  · have ht := invL_take f.els i hlt
    have hmem := List.getElem_mem hlt
    obtain ⟨p, ep⟩ : ∃ p, p = f.els[i] := ⟨_, rfl⟩
    have ep' := ep.symm
    rw [ep'] at hmem ht
    obtain ⟨_, a, b, e, _, _⟩ := pairB_iff.1 (List.all_eq_true.1 hp p hmem)
    have et : turnP p = tupV [b, a] := by simp [turnP, p1, p2, e]
    rw [et] at ht
    have r0 : rowI (GV.rows [a, b]) 0 = a.cells := rows_getD [a, b] 0 (by simp)
    have r1 : rowI (GV.rows [a, b]) 1 = b.cells := rows_getD [a, b] 1 (by simp)
    have hl2 : (invL (f.els.take i)).length ≤ 400 := by simp [invL]; omega
    have F := (aand @t4 (aand @t1 (aand @k0 (aand @q0 @hlt)))); refine tFa ?_; (try clear F)
    repeat (first | refine AW.seq ?_ | refine AW.block ?_ | refine AW.skip ?_ | refine AExit.norT ?_ | refine AExit.norB ?_ | refine AList.nil ?_)
    refine AW.draw [.S, .S, .R, .S, .S, .S, .R, .S, .R, .S, .R, .S, .S, .S, .R, .S, .R, .R, .S, .W, .S] (by decide +kernel) ?_; have F := (aand @t3 (aand @t1 (aand @t4 (aand @k0 (aand @q0 (aand @e (aand @r0 (aand @r1 (aand @hlt (aand @rows_getD @ep')))))))))); refine dST 0 ?_; refine dST 1 ?_; refine dRT 2 ?_; refine dST 3 ?_; refine dST 4 ?_; refine dST 5 ?_; refine dRT 6 ?_; refine dST 7 ?_; refine dRT 8 ?_; refine dST 9 ?_; refine dRT 10 ?_; refine dST 11 ?_; refine dST 12 ?_; refine dST 13 ?_; refine dRT 14 ?_; refine dST 15 ?_; refine dRT 16 ?_; refine dCT ((ref_pair b a)) 17 ?_; refine dST 18 ?_; (try clear F); refine DA.W (oi := ?oiw1) 19 ?aw1 ?bw1 ?cw1 ?dw1 ?ew1 ?fw1; (case aw1 => rfl); (case bw1 => decide +kernel); (case cw1 => rfl); (case dw1 => rfl); (case ew1 => decide); intro K Kp hK hKp; (simp [t3, upd_lit]; refine app25 (l' := [tupV [b, a]]) ho rfl (by simp; omega) fun o' m'' ho' hs => hK _ _ ?_; clear hK hKp K Kp); have F := (aand @t3 (aand @t1 (aand @t4 (aand @k0 (aand @q0 (aand @e (aand @r0 (aand @r1 (aand @hlt (aand @rows_getD @ep')))))))))); refine dST 20 ?_; (try clear F); first | refine dN ?_ | refine dB ?_ | refine DA.done (by decide +kernel) ?_
    have F := @t4; refine tF ?_; (try clear F)
    exact ⟨i + 1, ⟨by omega, by simp [upd_lit], by simp [upd_lit, t1], by simp [upd_lit, t2], o', by simp [upd_lit, ht], by rw [ht]; simpa using ho'⟩, by omega⟩
  · have e : i = f.els.length := by omega
    rw [e, List.take_length] at t3
    have F := (aand @t4 (aand @t1 (aand @k0 (aand @q0 @hlt)))); refine tFa ?_; (try clear F)
    have F := @t3; refine tF ?_; (try clear F)
    have F := @t3; refine tF1 fun K Kp hK hKp => ?_; (try clear F); refine Gives.at (hset) ?_; apply hK; clear hK hKp K Kp
    have F := (aand @t2 (aand @k1 @q1)); refine tF ?_; (try clear F)
    exact Fin.givesC (p := (setV (setF (invL f.els))).pv) rfl (by simp [upd_lit, t2, q1]) ((sm.trans ho.same).setLoc (by omega) _)
theorem ref_inverse {f : GV} (hf : Fm f) : Gives Tryz.prog 58 [f.pv] (if mapB f then made (setV (setF (invL f.els))) 0 else made omV 7) := by
  intro m
  refine ACall.of_aw Tryz.func58 Tryz.ntmps58 rfl rfl (by simp) ?_
  cases hm : mapB f with
  | false =>
    rw [if_neg (by simp)]
    refine tS ?_
    refine tS1 fun K Kp hK hKp => ?_; refine Gives.at (ref_notMap1 hf hm) ?_; apply hK; clear hK hKp K Kp
    refine tSa ?_
    refine tS1 fun K Kp hK hKp => ?_; refine Gives.at (ref_bad 7) ?_; apply hK; clear hK hKp K Kp
    refine tS ?_
    exact Fin.givesC (p := made omV 7) rfl (by simp [upd_lit]) Same.auto (by rfl)
  | true =>
    rw [if_pos rfl]
    obtain ⟨g1, g2, g3⟩ := inv_all hf hm
    have hn := hf.nodes
    rw [nodes_eq] at hn
    have en : nodes (setV (setF (invL f.els))) = 1 + nodesL (setF (invL f.els)) := nodes_eq _
    have h3 := setF_nodes _ g1
    have h2 := ref_mappedM hf hm (v := setV (setF (invL f.els))) (small_list (setF_spec _ g1).2.1) (by omega)
    refine tS ?_
    refine tS1 fun K Kp hK hKp => ?_; refine Gives.at (ref_isMap1 hf hm) ?_; apply hK; clear hK hKp K Kp
    refine tSa ?_
    refine AW.draw [.R, .R, .R, .R, .W] (by decide +kernel) ?_; have F := True.intro; refine dRT 0 ?_; refine dRT 1 ?_; refine dCT ((ref_turned hf hm)) 2 ?_; refine dCT ((h2)) 3 ?_; refine dW 4 ?_; (try clear F); first | refine dN ?_ | refine dB ?_ | refine DA.done (by decide +kernel) ?_
    simp only [put]
    refine tS ?_
    exact Fin.givesC (p := made (setV (setF (invL f.els))) 0) rfl (by simp [upd_lit]) Same.auto
/-! Sides -/
theorem ref_side {f : GV} (hf : Fm f) (hm : mapB f = true) (n : Nat) (q : GV → GV) (hn : n < 2) (hq : ∀ p a b, p.els = [a, b] → (q p = p1 p ∨ q p = p2 p) ∧ rowI (GV.rows [a, b]) n = (q p).cells) : Gives Tryz.prog 106 [f.pv, vI n] (setV (setF (f.els.map q))).pv := by
  have lf := hf.len
  have hp : f.els.all pairB = true := by rw [mapB, Bool.and_eq_true] at hm; exact hm.2
  obtain ⟨gi, _, _⟩ := fit_all hf hm q fun p h => by
    obtain ⟨_, a, b, e, _, _⟩ := pairB_iff.1 (List.all_eq_true.1 hp p h)
    exact (hq p a b e).1
  have hset := ref_makeSet (f.els.map q) gi (by simp; omega)
  have hn2 : (n : Int) < 2 := by omega
  intro m
  refine ACall.of_aw Tryz.func106 Tryz.ntmps106 rfl rfl (by simp) ?_
  refine tSn ?_
  refine AW.nilS (d := 5) (by simp [upd_lit]) ?_
  refine tS ?_
  generalize hmm : (m.newLoc f.cells).newLoc _ = mm
  have sm : Same m mm := by rw [← hmm]; exact Same.auto
  have g0 : mm.loc m.nloc = some f.cells := by rw [← hmm]; simp
  have g1 : mm.loc (m.nloc + 1) = some zcV := by rw [← hmm]; simp
  have n1 : mm.nloc = m.nloc + 2 := by rw [← hmm]; simp
  clear hmm
  refine AW.loop (ι := Nat) (fun i σ m' => i ≤ f.els.length ∧ σ 6 = vI i ∧ σ 1 = vI n ∧ σ 2 = .loc m.nloc 0 ∧ σ 4 = .loc (m.nloc + 1) 0 ∧ (∃ o, σ 5 = .list o (GV.rows ((f.els.take i).map q)) ∧ Ow mm m' o 6 ((f.els.take i).map q).length)) (fun i => f.els.length - i) 0 ?_ ?_
  · exact ⟨by simp, by simp [upd_lit], by simp [upd_lit], by simp [upd_lit], by simp [upd_lit], .full, by simp [upd_lit, GV.rows], .full (Same.refl _)⟩
  rintro i σ m' ⟨hi, t6, t1, t2, t4, o, t5, ho⟩
  have q0 : m.nloc < m'.nloc := Nat.lt_of_lt_of_le (by omega) ho.same.lloc
  have q1 : m.nloc + 1 < m'.nloc := Nat.lt_of_lt_of_le (by omega) ho.same.lloc
  have k0 : m'.loc m.nloc = some f.cells := (ho.same.get (by omega)).trans g0
  have k1 : m'.loc (m.nloc + 1) = some zcV := (ho.same.get (by omega)).trans g1
  by_cases hlt : i < f.els.length
  · have ht : (f.els.take (i + 1)).map q = (f.els.take i).map q ++ [q f.els[i]] := by rw [List.take_succ_eq_append_getElem hlt, List.map_append]; rfl
    have hmem := List.getElem_mem hlt
    obtain ⟨p, ep⟩ : ∃ p, p = f.els[i] := ⟨_, rfl⟩
    have ep' := ep.symm
    rw [ep'] at hmem ht
    obtain ⟨_, a, b, e, _, _⟩ := pairB_iff.1 (List.all_eq_true.1 hp p hmem)
    have rn := (hq p a b e).2
    have hl2 : ((f.els.take i).map q).length ≤ 400 := by simp; omega
    have F := (aand @t6 (aand @t2 (aand @k0 (aand @q0 @hlt)))); refine tFa ?_; (try clear F)
    have F := (aand @t5 (aand @t1 (aand @t2 (aand @t6 (aand @k0 (aand @q0 (aand @e (aand @rn (aand @hn2 (aand @hlt (aand @rows_getD @ep'))))))))))); refine tF ?_; (try clear F)
    refine AList.op (by decide) ?_; intro K Kp hK hKp; simp [t5, upd_lit]
    refine app25 (l' := [q p]) ho (by simp) (by simp; omega) fun o' m'' ho' hs' => hK _ _ ?_; clear hK hKp K Kp
    have F := @t6; refine tF ?_; (try clear F)
    exact ⟨i + 1, ⟨by omega, by simp [upd_lit], by simp [upd_lit, t1], by simp [upd_lit, t2], by simp [upd_lit, t4], o', by simp [upd_lit, ht], by rw [ht]; simpa using ho'⟩, by omega⟩
  · have e : i = f.els.length := by omega
    rw [e, List.take_length] at t5
    have F := (aand @t6 (aand @t2 (aand @k0 (aand @q0 @hlt)))); refine tFa ?_; (try clear F)
    have F := @t5; refine tF ?_; (try clear F)
    have F := @t5; refine tF1 fun K Kp hK hKp => ?_; (try clear F); refine Gives.at (hset) ?_; apply hK; clear hK hKp K Kp
    have F := (aand @t4 (aand @k1 @q1)); refine tF ?_; (try clear F)
    exact Fin.givesC (p := (setV (setF (f.els.map q))).pv) rfl (by simp [upd_lit, t4, q1]) ((sm.trans ho.same).setLoc (by omega) _)
theorem side0 (p a b : GV) (e : p.els = [a, b]) : (p1 p = p1 p ∨ p1 p = p2 p) ∧ rowI (GV.rows [a, b]) 0 = (p1 p).cells :=
  ⟨.inl rfl, by rw [rows_getD [a, b] 0 (by simp)]; simp [p1, e]⟩
theorem side1 (p a b : GV) (e : p.els = [a, b]) : (p2 p = p1 p ∨ p2 p = p2 p) ∧ rowI (GV.rows [a, b]) 1 = (p2 p).cells :=
  ⟨.inr rfl, by rw [rows_getD [a, b] 1 (by simp)]; simp [p2, e]⟩
def domS (f : GV) : List GV := setF (f.els.map p1)
def rngS (f : GV) : List GV := setF (f.els.map p2)
theorem ref_domain {f : GV} (hf : Fm f) : Gives Tryz.prog 56 [f.pv] (if mapB f then made (setV (domS f)) 0 else made omV 7) := by
  intro m
  refine ACall.of_aw Tryz.func56 Tryz.ntmps56 rfl rfl (by simp) ?_
  cases hm : mapB f with
  | false =>
    rw [if_neg (by simp)]
    refine tS ?_
    refine tS1 fun K Kp hK hKp => ?_; refine Gives.at (ref_notMap1 hf hm) ?_; apply hK; clear hK hKp K Kp
    refine tSa ?_
    refine tS1 fun K Kp hK hKp => ?_; refine Gives.at (ref_bad 7) ?_; apply hK; clear hK hKp K Kp
    refine tS ?_
    exact Fin.givesC (p := made omV 7) rfl (by simp [upd_lit]) Same.auto (by rfl)
  | true =>
    rw [if_pos rfl]
    have hn := hf.nodes
    rw [nodes_eq] at hn
    obtain ⟨g1, g2, _⟩ := fit_all hf hm p1 fun p _ => .inl rfl
    have en : nodes (setV (domS f)) = 1 + nodesL (domS f) := nodes_eq _
    have h3 : nodesL (domS f) ≤ nodesL (f.els.map p1) := setF_nodes _ g1
    have h2 := ref_mappedM hf hm (v := setV (domS f)) (small_list (setF_spec _ g1).2.1) (by omega)
    refine tS ?_
    refine tS1 fun K Kp hK hKp => ?_; refine Gives.at (ref_isMap1 hf hm) ?_; apply hK; clear hK hKp K Kp
    refine tSa ?_
    refine AW.draw [.R, .R, .R, .R, .W] (by decide +kernel) ?_; have F := True.intro; refine dRT 0 ?_; refine dRT 1 ?_; refine dCT ((ref_side hf hm 0 p1 (by omega) side0)) 2 ?_; refine dCT ((h2)) 3 ?_; refine dW 4 ?_; (try clear F); first | refine dN ?_ | refine dB ?_ | refine DA.done (by decide +kernel) ?_
    simp only [put]
    refine tS ?_
    exact Fin.givesC (p := made (setV (domS f)) 0) rfl (by simp [upd_lit]) Same.auto
theorem ref_values {f : GV} (hf : Fm f) : Gives Tryz.prog 57 [f.pv] (if mapB f then made (setV (rngS f)) 0 else made omV 7) := by
  intro m
  refine ACall.of_aw Tryz.func57 Tryz.ntmps57 rfl rfl (by simp) ?_
  cases hm : mapB f with
  | false =>
    rw [if_neg (by simp)]
    refine tS ?_
    refine tS1 fun K Kp hK hKp => ?_; refine Gives.at (ref_notMap1 hf hm) ?_; apply hK; clear hK hKp K Kp
    refine tSa ?_
    refine tS1 fun K Kp hK hKp => ?_; refine Gives.at (ref_bad 7) ?_; apply hK; clear hK hKp K Kp
    refine tS ?_
    exact Fin.givesC (p := made omV 7) rfl (by simp [upd_lit]) Same.auto (by rfl)
  | true =>
    rw [if_pos rfl]
    have hn := hf.nodes
    rw [nodes_eq] at hn
    obtain ⟨g1, g2, _⟩ := fit_all hf hm p2 fun p _ => .inr rfl
    have en : nodes (setV (rngS f)) = 1 + nodesL (rngS f) := nodes_eq _
    have h3 : nodesL (rngS f) ≤ nodesL (f.els.map p2) := setF_nodes _ g1
    have h2 := ref_mappedM hf hm (v := setV (rngS f)) (small_list (setF_spec _ g1).2.1) (by omega)
    refine tS ?_
    refine tS1 fun K Kp hK hKp => ?_; refine Gives.at (ref_isMap1 hf hm) ?_; apply hK; clear hK hKp K Kp
    refine tSa ?_
    refine AW.draw [.R, .R, .R, .R, .W] (by decide +kernel) ?_; have F := True.intro; refine dRT 0 ?_; refine dRT 1 ?_; refine dCT ((ref_side hf hm 1 p2 (by omega) side1)) 2 ?_; refine dCT ((h2)) 3 ?_; refine dW 4 ?_; (try clear F); first | refine dN ?_ | refine dB ?_ | refine DA.done (by decide +kernel) ?_
    simp only [put]
    refine tS ?_
    exact Fin.givesC (p := made (setV (rngS f)) 0) rfl (by simp [upd_lit]) Same.auto
theorem val_sides {f : GV} (hf : Fm f) : Gives Tryz.prog 48 [f.pv] (if mapB f then .tup [(setV (domS f)).pv, (setV (rngS f)).pv, vE 0] else .tup [omV.pv, omV.pv, vE 7]) := by
  have lf := hf.len
  intro m
  refine ACall.of_aw Tryz.func48 Tryz.ntmps48 rfl rfl (by simp) ?_
  refine tS ?_
  refine tS1 fun K Kp hK hKp => ?_; refine Gives.at (val_isMap f (by omega)) ?_; apply hK; clear hK hKp K Kp
  cases hm : mapB f with
  | false =>
    rw [if_neg (by simp)]
    refine tSa ?_
    refine Fin.ret (p := .tup [.agg [vI 0, vI 0, vB false, .list .full [], vS ⟨#[]⟩, .list .full []], .agg [vI 0, vI 0, vB false, .list .full [], vS ⟨#[]⟩, .list .full []], vE 7]) ?_ Same.auto (by rfl) (by simp) ⟨rfl, rfl⟩
    simp [ResP, ResL, resV, upd_lit, show Tryz.f48.results.toList = [.cell 2 27, .cell 3 27, .tmp 4] from rfl]
  | true =>
  rw [if_pos rfl]
  have hp : f.els.all pairB = true := by rw [mapB, Bool.and_eq_true] at hm; exact hm.2
  have hn := hf.nodes
  rw [nodes_eq] at hn
  obtain ⟨ga, na, fa⟩ := fit_all hf hm p1 fun p _ => .inl rfl
  obtain ⟨gb, nb, fb⟩ := fit_all hf hm p2 fun p _ => .inr rfl
  have seta := val_set (f.els.map p1) ga (by simp; omega) (by omega)
  rw [show fitV (setV (setF (f.els.map p1))) = setV (domS f) from by simp [fitV, fa, domS], show fitE (setV (setF (f.els.map p1))) = 0 from by simp [fitE, fa]] at seta
  have setb := val_set (f.els.map p2) gb (by simp; omega) (by omega)
  rw [show fitV (setV (setF (f.els.map p2))) = setV (rngS f) from by simp [fitV, fb, rngS], show fitE (setV (setF (f.els.map p2))) = 0 from by simp [fitE, fb]] at setb
  refine tSa ?_
  refine tSn ?_
  refine AW.nilS (d := 5) (by simp [upd_lit]) ?_
  refine AW.nilS (d := 6) (by simp [upd_lit]) ?_
  refine tS ?_
  generalize hmm : ((m.newLoc f.cells).newLoc _).newLoc _ = mm
  have sm : Same m mm := by rw [← hmm]; exact Same.auto
  have g1 : mm.loc (m.nloc + 1) = some zcV := by rw [← hmm]; simp
  have g2 : mm.loc (m.nloc + 2) = some zcV := by rw [← hmm]; simp
  have n1 : mm.nloc = m.nloc + 3 := by rw [← hmm]; simp
  clear hmm
  refine AW.loop (ι := Nat) (fun i σ m' => i ≤ f.els.length ∧ σ 17 = vI i ∧ σ 16 = vI f.els.length ∧ σ 15 = GV.pvs f.els ∧ σ 2 = .loc (m.nloc + 1) 0 ∧ σ 3 = .loc (m.nloc + 2) 0 ∧ (∃ o o', σ 5 = .list o (GV.rows ((f.els.take i).map p1)) ∧ σ 6 = .list o' (GV.rows ((f.els.take i).map p2)) ∧ Ow mm m' o 6 ((f.els.take i).map p1).length ∧ Ow mm m' o' 6 ((f.els.take i).map p2).length ∧ ∀ k, o = .tok k → o' ≠ .tok k)) (fun i => f.els.length - i) 0 ?_ ?_
  · exact ⟨by simp, by simp [upd_lit], by simp [upd_lit], by simp [upd_lit], by simp [upd_lit], by simp [upd_lit], .full, .full, by simp [upd_lit, GV.rows], by simp [upd_lit, GV.rows], .full (Same.refl _), .full (Same.refl _), fun k e => by cases e⟩
  rintro i σ m' ⟨hi, t17, t16, t15, t2, t3, o, oB, t5, t6, ho, hoB, hdis⟩
  have q1 : m.nloc + 1 < m'.nloc := Nat.lt_of_lt_of_le (by omega) ho.same.lloc
  have q2 : m.nloc + 2 < m'.nloc := Nat.lt_of_lt_of_le (by omega) ho.same.lloc
  have k1 : m'.loc (m.nloc + 1) = some zcV := (ho.same.get (by omega)).trans g1
  have k2 : m'.loc (m.nloc + 2) = some zcV := (ho.same.get (by omega)).trans g2
  by_cases hlt : i < f.els.length
  · have ht1 : (f.els.take (i + 1)).map p1 = (f.els.take i).map p1 ++ [p1 f.els[i]] := by rw [List.take_succ_eq_append_getElem hlt, List.map_append]; rfl
    have ht2 : (f.els.take (i + 1)).map p2 = (f.els.take i).map p2 ++ [p2 f.els[i]] := by rw [List.take_succ_eq_append_getElem hlt, List.map_append]; rfl
    have hmem := List.getElem_mem hlt
    obtain ⟨p, ep⟩ : ∃ p, p = f.els[i] := ⟨_, rfl⟩
    have ep' := ep.symm
    rw [ep'] at hmem ht1 ht2
    obtain ⟨_, a, b, e, _, _⟩ := pairB_iff.1 (List.all_eq_true.1 hp p hmem)
    have r0 := (side0 p a b e).2
    have r1 := (side1 p a b e).2
    have hl1 : ((f.els.take i).map p1).length ≤ 400 := by simp; omega
    have hl2 : ((f.els.take i).map p2).length ≤ 400 := by simp; omega
    obtain ⟨md, hmd⟩ : ∃ md, md = ((m'.newLoc zcV).setLoc m'.nloc p.cells).dropLoc m'.nloc := ⟨_, rfl⟩
    have ow1 : Ow mm md o 6 ((f.els.take i).map p1).length := by rw [hmd]; exact ⟨((ho.1.newLoc _).setLoc (by omega) _).dropLoc ho.1.lloc, ho.2⟩
    have ow2 : Ow mm md oB 6 ((f.els.take i).map p2).length := by rw [hmd]; exact ⟨((hoB.1.newLoc _).setLoc (by omega) _).dropLoc hoB.1.lloc, hoB.2⟩
    have F := (aand @t17 (aand @t16 @hlt)); refine tFa ?_; (try clear F)
    have F := (aand @t15 (aand @t17 (aand @hlt (aand @rows_getD @ep')))); refine tF ?_; (try clear F)
    repeat (first | refine AW.seq ?_ | refine AW.block ?_ | refine AW.skip ?_ | refine AExit.norT ?_ | refine AExit.norB ?_ | refine AList.nil ?_)
    refine AW.frzL (n := m'.nloc) (d := 8) (cs := p.cells) (by simp) (by simp) (by simp [upd_lit]) ?_
    rw [← hmd]
    clear hmd
    refine AW.draw [.S, .S, .S, .S, .S, .S, .W, .S, .S, .S, .S, .S, .S, .W, .S, .S] (by decide +kernel) ?_; have F := (aand @t5 (aand @t6 (aand @e (aand @r0 @r1)))); refine dST 0 ?_; refine dST 1 ?_; refine dST 2 ?_; refine dST 3 ?_; refine dST 4 ?_; refine dST 5 ?_; refine dST 7 ?_; refine dST 8 ?_; refine dST 9 ?_; refine dST 10 ?_; refine dST 11 ?_; refine dST 12 ?_; (try clear F); refine DA.W (oi := ?oiw2) 6 ?aw2 ?bw2 ?cw2 ?dw2 ?ew2 ?fw2; (case aw2 => rfl); (case bw2 => decide +kernel); (case cw2 => rfl); (case dw2 => rfl); (case ew2 => decide); intro K Kp hK hKp; (simp [t5, upd_lit]; refine app25b (l' := [p1 p]) ow1 ow2 hdis (by simp) (by simp; omega) fun o1 m1 ho1 hB1 hd1 hs1 => hK _ _ ?_; clear hK hKp K Kp); have F := (aand @t5 (aand @t6 (aand @e (aand @r0 @r1)))); (try clear F); refine DA.W (oi := ?oiw3) 13 ?aw3 ?bw3 ?cw3 ?dw3 ?ew3 ?fw3; (case aw3 => rfl); (case bw3 => decide +kernel); (case cw3 => rfl); (case dw3 => rfl); (case ew3 => decide); intro K Kp hK hKp; (simp [t6, upd_lit]; refine app25b (l' := [p2 p]) hB1 ho1 hd1 (by simp) (by simp; omega) fun o2 m2 hB2 ho2 hd2 hs2 => hK _ _ ?_; clear hK hKp K Kp); have F := (aand @t5 (aand @t6 (aand @e (aand @r0 @r1)))); refine dST 14 ?_; refine dST 15 ?_; (try clear F); first | refine dN ?_ | refine dB ?_ | refine DA.done (by decide +kernel) ?_
    have F := @t17; refine tF ?_; (try clear F)
    exact ⟨i + 1, ⟨by omega, by simp [upd_lit], by simp [upd_lit, t16], by simp [upd_lit, t15], by simp [upd_lit, t2], by simp [upd_lit, t3], o1, o2, by simp [upd_lit, ht1], by simp [upd_lit, ht2], by rw [ht1]; simpa using ho2, by rw [ht2]; simpa using hB2, fun k h1 h2 => hd2 k h1 h2⟩, by omega⟩
  · have e : i = f.els.length := by omega
    rw [e, List.take_length] at t5 t6
    have F := (aand @t17 (aand @t16 @hlt)); refine tFa ?_; (try clear F)
    have F := @t5; refine tF ?_; (try clear F)
    have F := @t5; refine tF1 fun K Kp hK hKp => ?_; (try clear F); refine Gives.at (seta) ?_; apply hK; clear hK hKp K Kp
    have F := (aand @t2 (aand @k1 (aand @q1 @t6))); refine tF ?_; (try clear F)
    have F := @t6; refine tF1 fun K Kp hK hKp => ?_; (try clear F); refine Gives.at (setb) ?_; apply hK; clear hK hKp K Kp
    have F := (aand @t3 (aand @k2 @q2)); refine tF ?_; (try clear F)
    repeat (first | refine AW.seq ?_ | refine AW.block ?_ | refine AW.skip ?_ | refine AExit.norT ?_ | refine AExit.norB ?_ | refine AList.nil ?_)
    generalize hm3 : (m'.setLoc (m.nloc + 1) (setV (domS f)).cells).setLoc (m.nloc + 2) (setV (rngS f)).cells = m3
    have d1 : m3.loc (m.nloc + 1) = some (setV (domS f)).cells := by rw [← hm3]; simp
    have d2 : m3.loc (m.nloc + 2) = some (setV (rngS f)).cells := by rw [← hm3]; simp
    have p1 : m.nloc + 1 < m3.nloc := by rw [← hm3]; exact q1
    have p2 : m.nloc + 2 < m3.nloc := by rw [← hm3]; exact q2
    have sm3 : Same m m3 := by rw [← hm3]; exact ((sm.trans ho.same).setLoc (by omega) _).setLoc (by omega) _
    clear hm3
    have sf1 := setLoc_self d1
    have sf2 := setLoc_self d2
    refine AW.draw [.R, .R, .S, .R, .R, .S] (by decide +kernel) ?_; have F := (aand @t2 (aand @t3 (aand @p1 (aand @p2 (aand @d1 @d2))))); refine dR 0 ?_; refine dR 1 ?_; refine dS 2 ?_; (try clear F)
    refine DA.RN 3 rfl (by decide +kernel) (by intro K hK; simp [upd_lit, t2, p1, d1, set0_cells, sf1]; exact hK) ?_
    refine DA.RN 4 rfl (by decide +kernel) (by intro K hK; simp [upd_lit, t3, p2, d2, set0_cells, sf2]; exact hK) ?_
    skip; have F := True.intro; refine dST 5 ?_; (try clear F); first | refine dN ?_ | refine dB ?_ | refine DA.done (by decide +kernel) ?_
    refine tS ?_
    refine Fin.ret (p := .tup [(setV (domS f)).pv, (setV (rngS f)).pv, vE 0]) ?_ sm3 (by simp) (by simp) ⟨rfl, rfl⟩
    simp [ResP, ResL, resV, upd_lit, t2, t3, p1, p2, d1, d2, show Tryz.f48.results.toList = [.cell 2 27, .cell 3 27, .tmp 4] from rfl]
end Go.Proofs.YtgfadepkiejncaaGreat
namespace Go.Ab
theorem AW.gen {P : Program} {N : Nat} {c : Code} {Q : APost} {σ : Nat → PV} {m : St} (h : ∀ mm, mm = m → AW P N c Q σ mm) : AW P N c Q σ m := h m rfl
end Go.Ab
namespace Go.Proofs.YtgfadepkiejncaaGreat
open Go.Ab Go.Sort
set_option maxHeartbeats 0
set_option maxRecDepth 100000
attribute [local irreducible] AW AList ACall DA AExit.then AExit.inBlock YCall DCall

/-! ValMaps -/
theorem setS_ok {l : List GV} (g : goods l) (hl : l.length ≤ 400) : (setV (setF l)).ok := setV_ok (setF_spec _ g).2.1 (by have := setF_len l; omega)
theorem image_both {f x : GV} (hf : Fm f) (gx : good x) : ∃ v e, v.ok ∧ Gives Tryz.prog 46 [f.pv, x.pv] (outP v e) ∧ Gives Tryz.prog 54 [f.pv, x.pv] (made v e) := by
  cases hm : mapB f with
  | false => exact ⟨_, _, omV_ok, val_imageN hf gx hm, ref_imageN hf hm⟩
  | true =>
    obtain ⟨g1, g2, g3⟩ := imgS_ok hf hm x
    exact ⟨_, _, setV_ok g1 (by omega), val_imageM hf gx hm, ref_imageM hf gx hm⟩
theorem apply_both {f x : GV} (hf : Fm f) (gx : good x) : ∃ v e, v.ok ∧ Gives Tryz.prog 47 [f.pv, x.pv] (outP v e) ∧ Gives Tryz.prog 55 [f.pv, x.pv] (made v e) := by
  cases hm : mapB f with
  | false => exact ⟨_, _, omV_ok, val_applyN hf gx hm, ref_applyN hf hm⟩
  | true =>
    obtain ⟨g1, g2, g3⟩ := imgS_ok hf hm x
    exact ⟨_, _, (onlyF_ok g1 g3).1, val_applyM hf gx hm, ref_applyM hf gx hm⟩
theorem sides_both {f : GV} (hf : Fm f) : ∃ v w e, v.ok ∧ w.ok ∧ Gives Tryz.prog 48 [f.pv] (.tup [v.pv, w.pv, vE e]) ∧ Gives Tryz.prog 56 [f.pv] (made v e) ∧ Gives Tryz.prog 57 [f.pv] (made w e) := by
  have h1 := val_sides hf
  have h2 := ref_domain hf
  have h3 := ref_values hf
  have hl := hf.len
  cases hm : mapB f with
  | false =>
    rw [if_neg (by simp [hm])] at h1 h2 h3
    exact ⟨_, _, _, omV_ok, omV_ok, h1, h2, h3⟩
  | true =>
    rw [if_pos hm] at h1 h2 h3
    exact ⟨_, _, _, setS_ok (fit_all hf hm p1 fun p _ => .inl rfl).1 (by simp; omega), setS_ok (fit_all hf hm p2 fun p _ => .inr rfl).1 (by simp; omega), h1, h2, h3⟩
theorem inverse_both {f : GV} (hf : Fm f) : ∃ v e, v.ok ∧ Gives Tryz.prog 49 [f.pv] (outP v e) ∧ Gives Tryz.prog 58 [f.pv] (made v e) := by
  have h1 := val_inverse hf
  have h2 := ref_inverse hf
  have hl := hf.len
  cases hm : mapB f with
  | false =>
    rw [if_neg (by simp [hm])] at h1 h2
    exact ⟨_, _, omV_ok, h1, h2⟩
  | true =>
    rw [if_pos hm] at h1 h2
    exact ⟨_, _, setS_ok (inv_all hf hm).1 (by simp [invL]; omega), h1, h2⟩
theorem om_isPair : Gives Tryz.prog 50 [.agg [vI 0, vI 0, vB false, .list .no [], vS ⟨#[]⟩, .list .no []]] (vB false) := val_isPair omV
theorem om_isMap : Gives Tryz.prog 52 [.agg [vI 0, vI 0, vB false, .list .no [], vS ⟨#[]⟩, .list .no []]] (vB false) := val_isMap omV (by decide)
theorem law8 (f x : GV) (hf : f.ok) (hx : x.ok) : Gives Tryz.prog 8 [f.pv, x.pv] (vB true) := by
  intro m
  refine ACall.of_aw Tryz.func8 Tryz.ntmps8 rfl rfl (by simp) ?_
  refine tS ?_
  refine tS1 fun K Kp hK hKp => ?_; refine Gives.at (law_some f hf) ?_; apply hK; clear hK hKp K Kp
  cases h1 : someF f with
  | false =>
    have F := @h1; refine tFa ?_; (try clear F)
    refine tS1 fun K Kp hK hKp => ?_; refine Gives.at (sanity) ?_; apply hK; clear hK hKp K Kp
    refine tS ?_
    exact Fin.gives Same.auto
  | true =>
  have F := @h1; refine tFg ?_; (try clear F)
  have F := @h1; refine tFc (law_some x hx) ?_; (try clear F)
  cases h2 : someF x with
  | false =>
    have F := (aand @h1 @h2); refine tFa ?_; (try clear F)
    refine tS1 fun K Kp hK hKp => ?_; refine Gives.at (sanity) ?_; apply hK; clear hK hKp K Kp
    refine tS ?_
    exact Fin.gives Same.auto
  | true =>
  simp only [someF, Bool.and_eq_true, Bool.not_eq_true', decide_eq_false_iff_not] at h1 h2
  have ff := formed_Fm hf h1.2
  have fx := formed_Fm hx h2.2
  have lf := ff.len
  obtain ⟨v1, e1, o1, a1, b1⟩ := image_both ff fx.good
  obtain ⟨v2, e2, o2, a2, b2⟩ := apply_both ff fx.good
  obtain ⟨v3, w3, e3, o3, u3, a3, b3, c3⟩ := sides_both ff
  obtain ⟨v4, e4, o4, a4, b4⟩ := inverse_both ff
  clear h1 h2
  refine tSa ?_
  refine tS1 fun K Kp hK hKp => ?_; refine Gives.at (a1) ?_; apply hK; clear hK hKp K Kp
  refine tS ?_
  refine tS1 fun K Kp hK hKp => ?_; refine Gives.at (a2) ?_; apply hK; clear hK hKp K Kp
  refine tS ?_
  refine tS1 fun K Kp hK hKp => ?_; refine Gives.at (a3) ?_; apply hK; clear hK hKp K Kp
  refine tS ?_
  refine tS1 fun K Kp hK hKp => ?_; refine Gives.at (a4) ?_; apply hK; clear hK hKp K Kp
  refine tS ?_
  refine AW.gen fun mm hmm => ?_
  have sm : Same m mm := by rw [hmm]; exact Same.auto
  have g0 : mm.loc (m.nloc) = some (f.cells) := by rw [hmm]; simp [Nat.add_assoc]
  have g1 : mm.loc (m.nloc + 1) = some (x.cells) := by rw [hmm]; simp <;> (intros; omega)
  have g2 : mm.loc (m.nloc + 2) = some (v1.cells) := by rw [hmm]; simp <;> (intros; omega)
  have g3 : mm.loc (m.nloc + 3) = some (v2.cells) := by rw [hmm]; simp <;> (intros; omega)
  have g4 : mm.loc (m.nloc + 4) = some (v3.cells) := by rw [hmm]; simp <;> (intros; omega)
  have g5 : mm.loc (m.nloc + 5) = some (w3.cells) := by rw [hmm]; simp <;> (intros; omega)
  have g6 : mm.loc (m.nloc + 6) = some (v4.cells) := by rw [hmm]; simp <;> (intros; omega)
  have n0 : m.nloc < mm.nloc := by rw [hmm]; simp <;> omega
  have n1 : m.nloc + 1 < mm.nloc := by rw [hmm]; simp <;> omega
  have n2 : m.nloc + 2 < mm.nloc := by rw [hmm]; simp <;> omega
  have n3 : m.nloc + 3 < mm.nloc := by rw [hmm]; simp <;> omega
  have n4 : m.nloc + 4 < mm.nloc := by rw [hmm]; simp <;> omega
  have n5 : m.nloc + 5 < mm.nloc := by rw [hmm]; simp <;> omega
  have n6 : m.nloc + 6 < mm.nloc := by rw [hmm]; simp <;> omega
  clear hmm
  refine AW.draw [.R, .R, .R, .R, .S, .S, .R, .R, .R, .R, .S, .S, .S, .S, .R, .S, .S, .S, .R, .S] (by decide +kernel) ?_; have F := (aand @g0 (aand @g1 (aand @n0 @n1))); refine dR 0 ?_; refine dC ((val_isPair x)) 1 ?_; refine dR 2 ?_; refine dC ((ref_isPair x)) 3 ?_; refine dS 4 ?_; refine dS 5 ?_; refine dRG 6 ?_; refine dCG ((val_isMap f (by omega))) 7 ?_; refine dRG 8 ?_; refine dCG ((ref_isMap f (by omega))) 9 ?_; refine dSG 10 ?_; refine dS 11 ?_; refine dS 12 ?_; refine dSG 13 ?_; refine dCG ((om_isPair)) 14 ?_; refine dS 15 ?_; refine dS 16 ?_; refine dSG 17 ?_; refine dCG ((om_isMap)) 18 ?_; refine dS 19 ?_; (try clear F); first | refine dN ?_ | refine dB ?_ | refine DA.done (by decide +kernel) ?_
  refine tSa ?_
  refine AW.draw [.R, .S, .R, .S, .R, .R, .R, .R, .S, .S, .R, .S, .R, .R, .R, .R, .S, .S, .R, .S, .R, .R, .R, .S, .S, .R, .S, .R, .R, .R, .S, .S, .R, .S, .R, .R, .R, .S, .S] (by decide +kernel) ?_; have F := (aand @g0 (aand @g1 (aand @g2 (aand @g3 (aand @g4 (aand @g5 (aand @g6 (aand @n0 (aand @n1 (aand @n2 (aand @n3 (aand @n4 (aand @n5 @n6))))))))))))); refine dC ((sanity)) 0 ?_; refine dS 1 ?_; refine dRG 2 ?_; refine dSG 3 ?_; refine dRG 4 ?_; refine dRG 5 ?_; refine dCG ((b1)) 6 ?_; refine dCG ((same_self v1 e1 o1)) 7 ?_; refine dS 8 ?_; refine dS 9 ?_; refine dRG 10 ?_; refine dSG 11 ?_; refine dRG 12 ?_; refine dRG 13 ?_; refine dCG ((b2)) 14 ?_; refine dCG ((same_self v2 e2 o2)) 15 ?_; refine dS 16 ?_; refine dS 17 ?_; refine dRG 18 ?_; refine dSG 19 ?_; refine dRG 20 ?_; refine dCG ((b3)) 21 ?_; refine dCG ((same_self v3 e3 o3)) 22 ?_; refine dS 23 ?_; refine dS 24 ?_; refine dRG 25 ?_; refine dSG 26 ?_; refine dRG 27 ?_; refine dCG ((c3)) 28 ?_; refine dCG ((same_self w3 e3 u3)) 29 ?_; refine dS 30 ?_; refine dS 31 ?_; refine dRG 32 ?_; refine dSG 33 ?_; refine dRG 34 ?_; refine dCG ((b4)) 35 ?_; refine dCG ((same_self v4 e4 o4)) 36 ?_; refine dS 37 ?_; refine dS 38 ?_; (try clear F); first | refine dN ?_ | refine dB ?_ | refine DA.done (by decide +kernel) ?_
  refine tS ?_
  exact Fin.gives sm
end Go.Proofs.YtgfadepkiejncaaGreat
namespace Go.Proofs.YtgfadepkiejncaaGreat
open Go.Ab
set_option maxHeartbeats 0
set_option maxRecDepth 100000
attribute [local irreducible] AW AList ACall DA AExit.then AExit.inBlock YCall DCall

end Go.Proofs.YtgfadepkiejncaaGreat
namespace Go.Ab
theorem Post.imp {Γ : Ctx} {w : World} {N : Nat} {Q Q' : APost} (h : ∀ x σ m, Q x σ m → Q' x σ m) {e : Exit} {a : Act} {w' : World} (hp : Post Γ w N Q e a w') : Post Γ w N Q' e a w' := by
  obtain ⟨x, σ, m, Γ', h1, h2⟩ := hp
  exact ⟨x, σ, m, Γ', h x σ m h1, h2⟩
theorem AList.cut {P : Program} {N : Nat} {Q : APost} {ops : Array Oper} {l : List Oper} {σ : Nat → PV} {m : St} {I nx : (Nat → PV) → St → Prop} (h : AList P N ops (AExit.then I Q) l σ m) (h2 : ∀ σ m, I σ m → nx σ m) : AList P N ops (AExit.then nx Q) l σ m :=
  fun Γ a w hs => wpList_mono (fun _ _ _ => Post.imp fun x σ m h => by cases x <;> first | exact h2 σ m h | exact h) _ _ _ (h Γ a w hs)
end Go.Ab
namespace Go.Proofs.YtgfadepkiejncaaGreat
open Go.Ab
set_option maxHeartbeats 0
set_option maxRecDepth 100000
attribute [local irreducible] AW AList ACall DA AExit.then AExit.inBlock YCall DCall
/-! ValOrder -/
theorem law7 (a b c : GV) (ha : a.ok) (hb : b.ok) (hc : c.ok) : Gives Tryz.prog 7 [a.pv, b.pv, c.pv] (vB true) := by
  intro m
  refine ACall.of_aw Tryz.func7 Tryz.ntmps7 rfl rfl (by simp) ?_
  refine tS ?_
  refine tS1 fun K Kp hK hKp => ?_; refine Gives.at (law_formed a ha) ?_; apply hK; clear hK hKp K Kp
  by_cases h1 : formedF a = true
  rotate_left
  · have F := @h1; refine tFa ?_; (try clear F)
    refine tS1 fun K Kp hK hKp => ?_; refine Gives.at (sanity) ?_; apply hK; clear hK hKp K Kp
    refine tS ?_
    exact Fin.gives Same.auto
  have F := @h1; refine tFa ?_; (try clear F)
  have F := @h1; refine tFc (law_formed b hb) ?_; (try clear F)
  by_cases h2 : formedF b = true
  rotate_left
  · have F := (aand @h1 @h2); refine tFa ?_; (try clear F)
    refine tS1 fun K Kp hK hKp => ?_; refine Gives.at (sanity) ?_; apply hK; clear hK hKp K Kp
    refine tS ?_
    exact Fin.gives Same.auto
  have F := (aand @h1 @h2); refine tFa ?_; (try clear F)
  have F := (aand @h1 @h2); refine tFc (law_formed c hc) ?_; (try clear F)
  by_cases h3 : formedF c = true
  rotate_left
  · have F := (aand @h1 (aand @h2 @h3)); refine tFa ?_; (try clear F)
    refine tS1 fun K Kp hK hKp => ?_; refine Gives.at (sanity) ?_; apply hK; clear hK hKp K Kp
    refine tS ?_
    exact Fin.gives Same.auto
  have F := (aand @h1 (aand @h2 @h3)); refine tFa ?_; (try clear F)
  obtain ⟨ga, da⟩ := formedF_good ha h1
  obtain ⟨gb, db⟩ := formedF_good hb h2
  obtain ⟨gc, dc⟩ := formedF_good hc h3
  refine tS1 fun K Kp hK hKp => ?_; refine Gives.at (val_compare a b ga gb) ?_; apply hK; clear hK hKp K Kp
  refine tS ?_
  refine tS1 fun K Kp hK hKp => ?_; refine Gives.at (val_compare b c gb gc) ?_; apply hK; clear hK hKp K Kp
  refine tS ?_
  refine tS1 fun K Kp hK hKp => ?_; refine Gives.at (val_compare a c ga gc) ?_; apply hK; clear hK hKp K Kp
  refine tS ?_
  have hr := cmp_range a b
  have en := cmp_neg a b
  have ez : sameV a b = decide (cmpV a b = 0) := by
    rw [Bool.eq_iff_iff, sameV_iff, decide_eq_true_eq, cmp_zero_iff ga gb]
  have hxy : cmpV a b ≤ 0 → cmpV b c ≤ 0 → cmpV a c ≤ 0 ∧ (cmpV a c = 0 → cmpV a b = 0 ∧ cmpV b c = 0) := by
    intro p q
    rcases Int.lt_or_eq_of_le p with p | p
    · rcases Int.lt_or_eq_of_le q with q | q
      · have := cmp_trans a b c ga gb gc p q
        exact ⟨by omega, by omega⟩
      · have := cmp_zero b c gb gc q
        subst this
        exact ⟨by omega, by omega⟩
    · have := cmp_zero a b ga gb p
      subst this
      exact ⟨q, fun e => ⟨p, e⟩⟩
  have hcba := val_compare b a gb ga
  rw [en] at hcba
  have hsame := ref_same a b ha hb
  rw [ez] at hsame
  have hcaa := val_compare a a ga ga
  rw [cmp_self] at hcaa
  clear en ez
  obtain ⟨w1, w2⟩ := formedF_sizes h1
  have hwl : (walkV a).length ≤ 400 := by rw [walk_len]; exact w1
  have hwalk := val_walk a (by omega) (fun x hx => by have := (w2 x hx).1; omega)
  generalize cmpV a b = x at *
  generalize cmpV b c = y at *
  generalize cmpV a c = z at *
  have ew : IntKind.i64.wrap (-x) = -x := wrap_i64 _ (by omega) (by omega)
  have e1 : ¬ x < -1 := by omega
  have e2 : ¬ 1 < x := by omega
  refine tS1 fun K Kp hK hKp => ?_; refine Gives.at (hcba) ?_; apply hK; clear hK hKp K Kp
  have F := @ew; refine tFg ?_; (try clear F)
  have F := @ew; refine tFc (hsame) ?_; (try clear F)
  have F := @ew; refine tFg ?_; (try clear F)
  have F := @ew; refine tFc (hcaa) ?_; (try clear F)
  have F := (aand @ew (aand @e1 @e2)); refine tFg ?_; (try clear F)
  refine AW.condF (by simp [upd_lit]) ?_
  repeat (first | refine AW.skip ?_ | refine AExit.norT ?_ | refine AW.seq ?_ | refine AW.regionL ?_)
  refine AList.cut (I := fun σ' m' => σ' 85 = vB false ∧ σ' 3 = .loc m.nloc 0 ∧ m' = ((m.newLoc a.cells).newLoc b.cells).newLoc c.cells) ?_ ?_
  · by_cases x1 : x ≤ 0
    · by_cases y1 : y ≤ 0
      · obtain ⟨z1, z2⟩ := hxy x1 y1
        have z3 : ¬ 0 < z := by omega
        by_cases z4 : z = 0
        · obtain ⟨e3, e4⟩ := z2 z4
          subst e3 e4 z4
          refine tSg ?_
          exact ⟨by simp [upd_lit], by simp [upd_lit], rfl⟩
        · have F := (aand @x1 (aand @y1 (aand @z3 @z4))); refine tFg ?_; (try clear F)
          exact ⟨by simp [upd_lit], by simp [upd_lit], rfl⟩
      · have F := (aand @x1 @y1); refine tFg ?_; (try clear F)
        exact ⟨by simp [upd_lit], by simp [upd_lit], rfl⟩
    · have F := @x1; refine tFg ?_; (try clear F)
      exact ⟨by simp [upd_lit], by simp [upd_lit], rfl⟩
  rintro σ' m' ⟨h85, h3', rfl⟩
  refine AW.condF (by simp [h85]) ?_
  have F := @h3'; refine tF ?_; (try clear F)
  refine tS1 fun K Kp hK hKp => ?_; refine Gives.at (hwalk) ?_; apply hK; clear hK hKp K Kp
  refine tS ?_
  refine AW.loop (ι := Nat) (fun i σ m' => i ≤ (walkV a).length ∧ σ 11 = vI i ∧ σ 10 = GV.pvs (walkV a) ∧ m' = ((m.newLoc a.cells).newLoc b.cells).newLoc c.cells) (fun i => (walkV a).length - i) 0 ?_ ?_
  · exact ⟨by simp, by simp [upd_lit], by simp [upd_lit], rfl⟩
  rintro i σ m' ⟨hi, h11, h10, rfl⟩
  have F := (aand @h11 @h10); refine tF ?_; (try clear F)
  refine AW.condD (p := i < (walkV a).length) (by simp [upd_lit]) (fun hlt => ?_) (fun hge => ?_)
  · obtain ⟨w, ew⟩ : ∃ w, w = (walkV a)[i] := ⟨_, rfl⟩
    have gw : good w := by rw [ew]; exact walk_good ga _ (List.getElem_mem hlt)
    have lw := gw.2.len
    have ew' := ew.symm
    refine tS ?_
    refine AW.loop (ι := Nat) (fun k σ m' => 1 ≤ k ∧ (k ≤ w.els.length ∨ k = 1) ∧ σ 12 = vI k ∧ σ 11 = vI i ∧ σ 10 = GV.pvs (walkV a) ∧ m' = ((m.newLoc a.cells).newLoc b.cells).newLoc c.cells) (fun k => w.els.length - k) 1 ?_ ?_
    · exact ⟨by simp, by simp, by simp [upd_lit], by simp [upd_lit, h11], by simp [upd_lit, h10], rfl⟩
    rintro k τ m' ⟨hk1, hk, t12, t11, t10, rfl⟩
    by_cases hkl : k < w.els.length
    · by_cases h8 : w.kind = 8
      · obtain ⟨j, rfl⟩ : ∃ j, k = j + 1 := ⟨k - 1, by omega⟩
        have hf := gw.1
        rw [fmd_eq] at hf
        have hinc := incr_get none w.els j hkl (hf.2.1 h8).2
        have e7 : (0 : Int) ≤ (j : Int) + 1 := by omega
        have hrg := cmp_range w.els[j] w.els[j + 1]
        have hcmp := val_compare w.els[j] w.els[j + 1] (gw.els _ (List.getElem_mem _)) (gw.els _ (List.getElem_mem _))
        rw [show cmpV w.els[j] w.els[j + 1] = -1 from by omega] at hcmp
        have e5 : ((j + 1 : Nat) : Int) - 1 = (j : Int) := by omega
        have hj : j < w.els.length := by omega
        have e6 : (j : Int) + 1 < w.els.length := by omega
        have F := (aand @t12 (aand @t11 (aand @t10 (aand @hlt (aand @rows_getD (aand @ew' (aand @hkl (aand @h8 @e6)))))))); refine tFa ?_; (try clear F)
        refine AW.draw [.S, .S, .S, .S, .R, .S, .S, .S, .R, .S, .S, .S, .S, .R, .S, .S, .R, .R, .S] (by decide +kernel) ?_; have F := (aand @t12 (aand @t11 (aand @t10 (aand @hlt (aand @rows_getD (aand @ew' (aand @hkl (aand @hj (aand @e5 (aand @e6 @e7)))))))))); refine dS 0 ?_; refine dS 1 ?_; refine dS 2 ?_; refine dS 3 ?_; refine dR 4 ?_; refine dS 5 ?_; refine dS 6 ?_; refine dS 7 ?_; refine dR 8 ?_; refine dS 9 ?_; refine dS 10 ?_; refine dS 11 ?_; refine dS 12 ?_; refine dR 13 ?_; refine dS 14 ?_; refine dS 15 ?_; refine dR 16 ?_; refine dC ((hcmp)) 17 ?_; refine dS 18 ?_; (try clear F); first | refine dN ?_ | refine dB ?_ | refine DA.done (by decide +kernel) ?_
        refine tSa ?_
        have F := @t12; refine tF ?_; (try clear F)
        exact ⟨j + 1 + 1, ⟨by omega, by omega, by simp [upd_lit], by simp [upd_lit, t11], by simp [upd_lit, t10], rfl⟩, by omega⟩
      · have F := (aand @t12 (aand @t11 (aand @t10 (aand @hlt (aand @rows_getD (aand @ew' (aand @hkl @h8))))))); refine tFa ?_; (try clear F)
        have F := @t11; refine tF ?_; (try clear F)
        exact ⟨i + 1, ⟨by omega, by simp [upd_lit], by simp [upd_lit, t10], rfl⟩, by omega⟩
    · have F := (aand @t12 (aand @t11 (aand @t10 (aand @hlt (aand @rows_getD (aand @ew' @hkl)))))); refine tFa ?_; (try clear F)
      have F := @t11; refine tF ?_; (try clear F)
      exact ⟨i + 1, ⟨by omega, by simp [upd_lit], by simp [upd_lit, t10], rfl⟩, by omega⟩
  · refine tSa ?_
    refine tS1 fun K Kp hK hKp => ?_; refine Gives.at (sanity) ?_; apply hK; clear hK hKp K Kp
    refine tS ?_
    exact Fin.gives Same.auto
end Go.Proofs.YtgfadepkiejncaaGreat
namespace Go.Ab
/-- A call that ends by a panic, memory being as it was. -/
def Dies (P : Program) (f : FuncId) (args : List PV) (r : PV) : Prop := ∀ m, ACall P f args m (fun r' m' => r' = .pan r ∧ m' = m)
theorem Dies.at {P : Program} {f : FuncId} {args : List PV} {r : PV} {m : St} {K Kp : PV → St → Prop} (h : Dies P f args r) (k : Kp r m) :
    ACall P f args m (fun r' m' => match r' with | .ret p => K p m' | .pan p => Kp p m') := (h m).mono (by rintro _ _ ⟨rfl, rfl⟩; exact k)
/-- A call from this memory. -/
def GivesAt (P : Program) (f : FuncId) (args : List PV) (m : St) (r : PV) : Prop := ACall P f args m (fun r' m' => r' = .ret r ∧ m' = m)
theorem GivesAt.at {P : Program} {f : FuncId} {args : List PV} {r : PV} {m : St} {K Kp : PV → St → Prop} (h : GivesAt P f args m r) (k : K r m) :
    ACall P f args m (fun r' m' => match r' with | .ret p => K p m' | .pan p => Kp p m') := ACall.mono h (by rintro _ _ ⟨rfl, rfl⟩; exact k)
theorem Fin.dies {P : Program} {fn : Func} {m m' : St} {σ : Nat → PV} {p r : PV} (hm : Same m m') (hq : p.strip = r := by simp [upd_lit]) (hs : r.sc m.nloc m.ntok := by simp) : Fin P fn m (fun r' m' => r' = .pan r ∧ m' = m) (.pan p) σ m' :=
  Fin.pan hm hq hs ⟨rfl, rfl⟩
theorem Fin.done {P : Program} {fn : Func} {m m' : St} {σ : Nat → PV} (hm : Same m m') (hp : ResP P fn.results.toList σ m' (.tup []) := by exact ⟨[], rfl, rfl⟩) : Fin P fn m (fun r' m' => r' = .ret (.tup []) ∧ m' = m) .normal σ m' :=
  Fin.normal hp hm rfl trivial ⟨rfl, rfl⟩
end Go.Ab
namespace Go.Proofs.YtgfadepkiejncaaGreat
open Go.Ab
set_option maxHeartbeats 0
set_option maxRecDepth 100000
attribute [local irreducible] AW AList ACall DA AExit.then AExit.inBlock YCall DCall

/-! need -/
abbrev badE (e : Int) : PV := .iface 117 (.agg [vE e])
theorem need_ok (e : Int) : Gives Tryz.prog 125 [vB true, vE e] (.tup []) := by
  intro m
  refine ACall.of_aw Tryz.func125 Tryz.ntmps125 rfl rfl (by simp) ?_
  refine tSa ?_
  exact Fin.done Same.auto
theorem need_bad (e : Int) : Dies Tryz.prog 125 [vB false, vE e] (badE e) := by
  intro m
  refine ACall.of_aw Tryz.func125 Tryz.ntmps125 rfl rfl (by simp) ?_
  refine tSa ?_
  refine AList.op0 ?_; intro K Kp hK hKp; simp [↓aop, ↓Ab.opv, ↓upd_lit, ↓map_ta, ↓List.map_cons, ↓List.map_nil, Nat.add_assoc]; (try (simp (disch := omega) only [wrap_i64]; try simp [↓aop, ↓Ab.opv, ↓upd_lit, ↓map_ta, ↓List.map_cons, ↓List.map_nil, Nat.add_assoc])); apply hKp; clear hK hKp K Kp; repeat (first | refine AExit.panT ?_ | refine AExit.panB ?_)
  exact Fin.dies Same.auto

/-! slices.Index, slices.Contains of ints; the kinds that a field goes with -/
def idxF (x : Int) : List Int → Int → Int
  | [], _ => -1
  | y :: l, i => if x = y then i else idxF x l (i + 1)
theorem idxF_nn (x : Int) : ∀ (l : List Int) (i : Int), 0 ≤ i → (0 ≤ idxF x l i ↔ x ∈ l)
  | [], i, h => by simp [idxF]
  | y :: l, i, h => by
    simp only [idxF]
    by_cases e : x = y
    · rw [if_pos e]; simp [e, h]
    · rw [if_neg e, idxF_nn x l (i + 1) (by omega)]; simp [e]
theorem index_ints (l : List Int) (x : Int) (hl : l.length < 1152921504606846976) : Gives Tryz.prog 167 [.list .no (ints l), vI x] (vI (idxF x l 0)) := by
  intro m
  refine ACall.of_aw Tryz.func167 Tryz.ntmps167 rfl rfl (by simp) ?_
  refine tS ?_
  refine AW.loop (ι := Nat) (fun i σ m' => i ≤ l.length ∧ idxF x l 0 = idxF x (l.drop i) i ∧ σ 8 = vI i ∧ σ 7 = vI l.length ∧ σ 0 = .list .no (ints l) ∧ σ 1 = vI x ∧ m' = m) (fun i => l.length - i) 0 ?_ ?_
  · exact ⟨by simp, rfl, by simp [upd_lit], by simp [upd_lit], by simp [upd_lit], by simp [upd_lit], rfl⟩
  rintro i σ m' ⟨hi, hc, h8, h7, h0, h1, rfl⟩
  have F := (aand @h8 @h7); refine tF ?_; (try clear F)
  refine AW.condD (p := i < l.length) (by simp [upd_lit]) (fun hlt => ?_) (fun hge => ?_)
  · rw [List.drop_eq_getElem_cons hlt, idxF] at hc
    have F := (aand @h8 (aand @h0 (aand @h1 (aand @hlt @ints_getD)))); refine tF ?_; (try clear F)
    refine AW.condD (p := x = l[i]) (by simp [upd_lit]) (fun e => ?_) (fun e => ?_)
    · refine tS ?_
      rw [hc, if_pos e]
      exact Fin.gives Same.auto
    · have F := @h8; refine tF ?_; (try clear F)
      exact ⟨i + 1, ⟨by omega, by rw [hc, if_neg e]; rfl, by simp [upd_lit], by simp [upd_lit, h7], by simp [upd_lit, h0], by simp [upd_lit, h1], rfl⟩, by omega⟩
  · refine tS ?_
    rw [List.drop_eq_nil_of_le (by omega)] at hc
    rw [hc]
    exact Fin.gives Same.auto rfl (by simp [upd_lit, idxF])
theorem contains_ints (l : List Int) (x : Int) (hl : l.length < 1152921504606846976) : Gives Tryz.prog 154 [.list .no (ints l), vI x] (vB (decide (x ∈ l))) := by
  have e : decide (0 ≤ idxF x l 0) = decide (x ∈ l) := by rw [decide_eq_decide]; exact idxF_nn x l 0 (by omega)
  intro m
  refine ACall.of_aw Tryz.func154 Tryz.ntmps154 rfl rfl (by simp) ?_
  refine tS ?_
  refine tS1 fun K Kp hK hKp => ?_; refine Gives.at (index_ints l x hl) ?_; apply hK; clear hK hKp K Kp
  refine tS ?_
  exact Fin.gives Same.auto rfl (by simp [upd_lit, e])
theorem in_kinds (l : List Int) (v : GV) (hl : l.length < 1152921504606846976) (m : St) (n : Nat) (hn : n < m.nloc) (hm : m.loc n = some v.cells) : GivesAt Tryz.prog 153 [.list .no (ints l), .loc n 0] m (vB (decide (v.kind ∈ l))) := by
  refine ACall.of_aw Tryz.func153 Tryz.ntmps153 rfl rfl (by simp) ?_
  have F := (aand @hn @hm); refine tF ?_; (try clear F)
  refine tS1 fun K Kp hK hKp => ?_; refine Gives.at (contains_ints l v.kind hl) ?_; apply hK; clear hK hKp K Kp
  refine tS ?_
  exact Fin.gives Same.auto

/-! fields -/
@[simp] theorem bs57_1 (x : Int) (m : St) (K : PV → St → Prop) : abuildSlice Tryz.prog 57 1 [(0, vI x)] m K ↔ K (.list .full (ints [x])) m := by
  have h := abuildSlice_all (P := Tryz.prog) (t := 57) (s := 1) (e := 3) (z := .int .i64 0) (xs := [vI x]) (rs := ints [x]) (m := m) (K := K) (by simp) (by simp) (by simp) (by decide) (by decide) (by simp) (by simp) (cells1_ints [x])
  have e : (ints [x]).map PV.stripL = ints [x] := by simp [ints, PV.stripL, PV.strip]
  rw [e] at h
  exact h
@[simp] theorem bs57_4 (x y z w : Int) (m : St) (K : PV → St → Prop) : abuildSlice Tryz.prog 57 4 [(0, vI x), (1, vI y), (2, vI z), (3, vI w)] m K ↔ K (.list .full (ints [x, y, z, w])) m := by
  have h := abuildSlice_all (P := Tryz.prog) (t := 57) (s := 1) (e := 3) (z := .int .i64 0) (xs := [vI x, vI y, vI z, vI w]) (rs := ints [x, y, z, w]) (m := m) (K := K) (by simp) (by simp) (by simp) (by decide) (by decide) (by simp) (by simp) (cells1_ints [x, y, z, w])
  have e : (ints [x, y, z, w]).map PV.stripL = ints [x, y, z, w] := by simp [ints, PV.stripL, PV.strip]
  rw [e] at h
  exact h
/-- A call that fails with an error, or does not. -/
def resE (e : Int) : ARes := if e = 0 then .ret (.tup []) else .pan (badE e)
def GivesR (P : Program) (f : FuncId) (args : List PV) (e : Int) : Prop := ∀ m, ACall P f args m (fun r' m' => r' = resE e ∧ m' = m)
theorem GivesR.ok {P : Program} {f : FuncId} {args : List PV} {e : Int} (h : GivesR P f args e) (h0 : e = 0) : Gives P f args (.tup []) := fun m => (h m).mono (by rintro _ _ ⟨rfl, rfl⟩; subst h0; exact ⟨rfl, rfl⟩)
theorem GivesR.bad {P : Program} {f : FuncId} {args : List PV} {e : Int} (h : GivesR P f args e) (h0 : e ≠ 0) : Dies P f args (badE e) := fun m => (h m).mono (by rintro _ _ ⟨rfl, rfl⟩; exact ⟨by rw [resE, if_neg h0], rfl⟩)
theorem fieldsF_iff (v : GV) : fieldsF v = true ↔ (0 ≤ v.kind ∧ v.kind ≤ 8) ∧ (v.num = 0 ∨ v.kind ∈ ([1, 3, 5, 6] : List Int)) ∧ ((v.neg = false ∧ v.abs = []) ∨ v.kind ∈ ([2, 3] : List Int)) ∧ (v.str.toList = [] ∨ v.kind ∈ ([4] : List Int)) ∧ (v.els = [] ∨ v.kind ∈ ([7, 8] : List Int)) := by
  unfold fieldsF
  simp only [Bool.or_eq_true, decide_eq_true_eq, Bool.and_eq_true, Bool.not_eq_true', decide_eq_false_iff_not, List.isEmpty_iff, List.mem_cons, List.not_mem_nil, or_false, List.length_pos_iff, Int.natCast_pos]
  by_cases h0 : v.kind < 0 ∨ 8 < v.kind
  · rw [if_pos h0]
    simp only [Bool.false_eq_true, false_iff]
    rintro ⟨h, _⟩; omega
  rw [if_neg h0]
  have hk : 0 ≤ v.kind ∧ v.kind ≤ 8 := by omega
  by_cases h1 : (decide (v.kind = 2) || decide (v.kind = 3)) = false ∧ (v.neg = true ∨ v.abs ≠ [])
  · rw [if_pos h1]
    simp only [Bool.false_eq_true, false_iff]
    rintro ⟨_, _, h, _⟩
    obtain ⟨q1, q2⟩ := h1
    simp at q1
    rcases h with ⟨h, h'⟩ | h | h
    · rcases q2 with q2 | q2
      · rw [h] at q2; cases q2
      · exact q2 h'
    · exact q1.1 h
    · exact q1.2 h
  rw [if_neg h1]
  have c2 : (v.neg = false ∧ v.abs = []) ∨ v.kind = 2 ∨ v.kind = 3 := by
    by_cases e : v.kind = 2 ∨ v.kind = 3
    · exact .inr e
    · refine .inl ?_
      have : ¬ (v.neg = true ∨ v.abs ≠ []) := fun q => h1 ⟨by simp; omega, q⟩
      simp at this; exact this
  by_cases h2 : (¬v.kind = 4 ∧ (!v.str.toList.isEmpty) = true) ∨ (¬v.kind = 7 ∧ ¬v.kind = 8) ∧ v.els ≠ []
  · rw [if_pos (by simpa using h2)]
    simp only [Bool.false_eq_true, false_iff]
    rintro ⟨_, _, _, h3, h4⟩
    simp at h2
    rcases h2 with ⟨q1, q2⟩ | ⟨q1, q2⟩
    · rcases h3 with h3 | h3
      · exact q2 h3
      · exact q1 h3
    · rcases h4 with h4 | h4
      · exact q2 h4
      · omega
  rw [if_neg (by simpa using h2)]
  simp at h2
  constructor
  · intro h
    refine ⟨hk, by simpa [or_assoc] using h, c2, ?_, ?_⟩
    · by_cases e : v.kind = 4
      · exact .inr e
      · exact .inl (h2.1 e)
    · by_cases e : v.kind = 7 ∨ v.kind = 8
      · exact .inr e
      · exact .inl (h2.2 (by omega) (by omega))
  · rintro ⟨_, h, _⟩
    rcases h with h | h | h | h | h <;> simp [h]
theorem val_fields (v : GV) (hv : v.ok) : GivesR Tryz.prog 126 [v.pv] (if fieldsF v then 0 else 2) := by
  have la := hv.abs
  have ll := hv.len
  have hi := fieldsF_iff v
  intro m
  have hbad : fieldsF v = false → resE (if fieldsF v then 0 else 2) = .pan (badE 2) := fun h => by rw [h]; rfl
  have hF : ∀ {p : Prop}, ¬ p → (fieldsF v = true → p) → fieldsF v = false := fun hp h => Bool.eq_false_iff.2 fun q => hp (h q)
  refine ACall.of_aw Tryz.func126 Tryz.ntmps126 rfl rfl (by simp) ?_
  by_cases hk : 0 ≤ v.kind ∧ v.kind ≤ 8
  rotate_left
  · rw [hbad (hF hk fun q => (hi.1 q).1)]
    by_cases hk0 : 0 ≤ v.kind
    · have hk8 : ¬ v.kind ≤ 8 := fun q => hk ⟨hk0, q⟩
      have F := (aand @hk0 @hk8); refine tFg ?_; (try clear F)
      refine tS1 fun K Kp hK hKp => ?_; refine Dies.at (need_bad 2) ?_; apply hKp; clear hK hKp K Kp; repeat (first | refine AExit.panT ?_ | refine AExit.panB ?_)
      exact Fin.dies Same.auto
    · have F := @hk0; refine tFg ?_; (try clear F)
      refine tS1 fun K Kp hK hKp => ?_; refine Dies.at (need_bad 2) ?_; apply hKp; clear hK hKp K Kp; repeat (first | refine AExit.panT ?_ | refine AExit.panB ?_)
      exact Fin.dies Same.auto
  have F := @hk; refine tFg ?_; (try clear F)
  refine tS1 fun K Kp hK hKp => ?_; refine Gives.at (need_ok 2) ?_; apply hK; clear hK hKp K Kp
  refine AList.nil ?_
  refine AExit.norT ?_
  refine AW.seq ?_
  refine AW.regionL ?_
  refine AList.cut (I := fun σ' m' => σ' 1 = .loc m.nloc 0 ∧ σ' 2 = .clo 153 [] [.loc m.nloc 0] ∧ m' = m.newLoc v.cells) ?_ ?_
  · refine tS ?_
    exact ⟨by simp [upd_lit], by simp [upd_lit], rfl⟩
  have hin := fun l hl => in_kinds l v hl (m.newLoc v.cells) m.nloc (by simp) (by simp)
  rintro σ _ ⟨h1, h2, rfl⟩
  refine AW.seq ?_
  refine AW.regionL ?_
  refine AList.cut (I := fun σ' m' => (v.num = 0 ∨ v.kind ∈ ([1, 3, 5, 6] : List Int)) ∧ σ' 1 = .loc m.nloc 0 ∧ σ' 2 = .clo 153 [] [.loc m.nloc 0] ∧ m' = m.newLoc v.cells) ?_ ?_
  · by_cases c : v.num = 0
    · have F := (aand @h1 @c); refine tFg ?_; (try clear F)
      refine tS1 fun K Kp hK hKp => ?_; refine Gives.at (need_ok 2) ?_; apply hK; clear hK hKp K Kp
      refine tS ?_
      exact ⟨.inl c, by simp [upd_lit, h1], by simp [upd_lit, h2], rfl⟩
    · have F := (aand @h1 (aand @h2 @c)); refine tFg ?_; (try clear F)
      refine AList.opT rfl (by decide) (by decide) ?_ ?_; (focus (first | rfl | (simp [↓upd_lit, Nat.add_assoc, h1, h2, c]; done))); intro K Kp hK hKp; simp [↓aop, ↓Ab.opv, ↓upd_lit, ↓map_ta, ↓List.map_cons, ↓List.map_nil, Nat.add_assoc, h1, h2, c]; (try (simp (disch := omega) only [wrap_i64]; try simp [↓aop, ↓Ab.opv, ↓upd_lit, ↓map_ta, ↓List.map_cons, ↓List.map_nil, Nat.add_assoc, h1, h2, c])); refine GivesAt.at (hin [1, 3, 5, 6] (by simp)) ?_; apply hK; clear hK hKp K Kp
      by_cases d : v.kind ∈ ([1, 3, 5, 6] : List Int)
      · rw [decide_eq_true d]
        refine tSg ?_
        refine tS1 fun K Kp hK hKp => ?_; refine Gives.at (need_ok 2) ?_; apply hK; clear hK hKp K Kp
        refine tS ?_
        exact ⟨.inr d, by simp [upd_lit, h1], by simp [upd_lit, h2], rfl⟩
      · rw [hbad (hF (p := v.num = 0 ∨ v.kind ∈ ([1, 3, 5, 6] : List Int)) (by simp only [not_or]; exact ⟨c, d⟩) fun q => (hi.1 q).2.1), decide_eq_false d]
        refine tSg ?_
        refine tS1 fun K Kp hK hKp => ?_; refine Dies.at (need_bad 2) ?_; apply hKp; clear hK hKp K Kp; repeat (first | refine AExit.panT ?_ | refine AExit.panB ?_)
        exact Fin.dies Same.auto
  clear h1 h2 σ
  rintro σ _ ⟨q1, h1, h2, rfl⟩
  refine AW.seq ?_
  refine AW.regionL ?_
  refine AList.cut (I := fun σ' m' => ((v.neg = false ∧ v.abs = []) ∨ v.kind ∈ ([2, 3] : List Int)) ∧ σ' 1 = .loc m.nloc 0 ∧ σ' 2 = .clo 153 [] [.loc m.nloc 0] ∧ m' = m.newLoc v.cells) ?_ ?_
  · have key : (v.neg = false ∧ v.abs = []) ∨ (v.neg = true ∧ True) ∨ (v.neg = false ∧ v.abs ≠ []) := by cases v.neg <;> simp [Classical.em]
    have key2 : ¬ (v.neg = false ∧ v.abs = []) → ¬ v.kind ∈ ([2, 3] : List Int) → fieldsF v = false := fun c d => hF (p := (v.neg = false ∧ v.abs = []) ∨ v.kind ∈ ([2, 3] : List Int)) (by rw [not_or]; exact ⟨c, d⟩) fun q => (hi.1 q).2.2.1
    rcases key with ⟨c, c'⟩ | ⟨c, c'⟩ | ⟨c, c'⟩
    · have F := (aand @h1 (aand @c @c')); refine tFg ?_; (try clear F)
      refine tS1 fun K Kp hK hKp => ?_; refine Gives.at (need_ok 2) ?_; apply hK; clear hK hKp K Kp
      refine tS ?_
      exact ⟨.inl ⟨c, c'⟩, by simp [upd_lit, h1], by simp [upd_lit, h2], rfl⟩
    all_goals (
      have F := (aand @h1 (aand @h2 (aand @c @c'))); refine tFg ?_; (try clear F)
      refine AList.opT rfl (by decide) (by decide) ?_ ?_; (focus (first | rfl | (simp [↓upd_lit, Nat.add_assoc, h1, h2, c, c']; done))); intro K Kp hK hKp; simp [↓aop, ↓Ab.opv, ↓upd_lit, ↓map_ta, ↓List.map_cons, ↓List.map_nil, Nat.add_assoc, h1, h2, c, c']; (try (simp (disch := omega) only [wrap_i64]; try simp [↓aop, ↓Ab.opv, ↓upd_lit, ↓map_ta, ↓List.map_cons, ↓List.map_nil, Nat.add_assoc, h1, h2, c, c'])); refine GivesAt.at (hin [2, 3] (by simp)) ?_; apply hK; clear hK hKp K Kp
      by_cases d : v.kind ∈ ([2, 3] : List Int)
      · rw [decide_eq_true d]
        refine tSg ?_
        refine tS1 fun K Kp hK hKp => ?_; refine Gives.at (need_ok 2) ?_; apply hK; clear hK hKp K Kp
        refine tS ?_
        exact ⟨.inr d, by simp [upd_lit, h1], by simp [upd_lit, h2], rfl⟩
      · rw [hbad (key2 (by rintro ⟨q1, q2⟩; first | (rw [q1] at c; cases c; done) | exact c' q2) d), decide_eq_false d]
        refine tSg ?_
        refine tS1 fun K Kp hK hKp => ?_; refine Dies.at (need_bad 2) ?_; apply hKp; clear hK hKp K Kp; repeat (first | refine AExit.panT ?_ | refine AExit.panB ?_)
        exact Fin.dies Same.auto)
  clear h1 h2 σ
  rintro σ _ ⟨q2, h1, h2, rfl⟩
  refine AW.seq ?_
  refine AW.regionL ?_
  refine AList.cut (I := fun σ' m' => (v.str.toList = [] ∨ v.kind ∈ ([4] : List Int)) ∧ σ' 1 = .loc m.nloc 0 ∧ σ' 2 = .clo 153 [] [.loc m.nloc 0] ∧ m' = m.newLoc v.cells) ?_ ?_
  · by_cases c : v.str.toList = []
    · have F := (aand @h1 @c); refine tFg ?_; (try clear F)
      refine tS1 fun K Kp hK hKp => ?_; refine Gives.at (need_ok 2) ?_; apply hK; clear hK hKp K Kp
      refine tS ?_
      exact ⟨.inl c, by simp [upd_lit, h1], by simp [upd_lit, h2], rfl⟩
    · have F := (aand @h1 (aand @h2 @c)); refine tFg ?_; (try clear F)
      refine AList.opT rfl (by decide) (by decide) ?_ ?_; (focus (first | rfl | (simp [↓upd_lit, Nat.add_assoc, h1, h2, c]; done))); intro K Kp hK hKp; simp [↓aop, ↓Ab.opv, ↓upd_lit, ↓map_ta, ↓List.map_cons, ↓List.map_nil, Nat.add_assoc, h1, h2, c]; (try (simp (disch := omega) only [wrap_i64]; try simp [↓aop, ↓Ab.opv, ↓upd_lit, ↓map_ta, ↓List.map_cons, ↓List.map_nil, Nat.add_assoc, h1, h2, c])); refine GivesAt.at (hin [4] (by simp)) ?_; apply hK; clear hK hKp K Kp
      by_cases d : v.kind ∈ ([4] : List Int)
      · rw [decide_eq_true d]
        refine tSg ?_
        refine tS1 fun K Kp hK hKp => ?_; refine Gives.at (need_ok 2) ?_; apply hK; clear hK hKp K Kp
        refine tS ?_
        exact ⟨.inr d, by simp [upd_lit, h1], by simp [upd_lit, h2], rfl⟩
      · rw [hbad (hF (p := v.str.toList = [] ∨ v.kind ∈ ([4] : List Int)) (by rw [not_or]; exact ⟨c, d⟩) fun q => (hi.1 q).2.2.2.1), decide_eq_false d]
        have F := @c; refine tFg ?_; (try clear F)
        have F := @c; refine tF1 fun K Kp hK hKp => ?_; (try clear F); refine Dies.at (need_bad 2) ?_; apply hKp; clear hK hKp K Kp; repeat (first | refine AExit.panT ?_ | refine AExit.panB ?_)
        exact Fin.dies Same.auto
  clear h1 h2 σ
  rintro σ _ ⟨q3, h1, h2, rfl⟩
  refine AW.regionL ?_
  have hgood : (v.els = [] ∨ v.kind ∈ ([7, 8] : List Int)) → resE (if fieldsF v then 0 else 2) = .ret (.tup []) := fun q4 => by rw [hi.2 ⟨hk, q1, q2, q3, q4⟩]; rfl
  by_cases c : v.els = []
  · have F := (aand @h1 @c); refine tFg ?_; (try clear F)
    refine tS1 fun K Kp hK hKp => ?_; refine Gives.at (need_ok 2) ?_; apply hK; clear hK hKp K Kp
    refine tS ?_
    rw [hgood (.inl c)]
    exact Fin.done Same.auto
  · have F := (aand @h1 (aand @h2 @c)); refine tFg ?_; (try clear F)
    refine AList.opT rfl (by decide) (by decide) ?_ ?_; (focus (first | rfl | (simp [↓upd_lit, Nat.add_assoc, h1, h2, c]; done))); intro K Kp hK hKp; simp [↓aop, ↓Ab.opv, ↓upd_lit, ↓map_ta, ↓List.map_cons, ↓List.map_nil, Nat.add_assoc, h1, h2, c]; (try (simp (disch := omega) only [wrap_i64]; try simp [↓aop, ↓Ab.opv, ↓upd_lit, ↓map_ta, ↓List.map_cons, ↓List.map_nil, Nat.add_assoc, h1, h2, c])); refine GivesAt.at (hin [7, 8] (by simp)) ?_; apply hK; clear hK hKp K Kp
    by_cases d : v.kind ∈ ([7, 8] : List Int)
    · rw [decide_eq_true d]
      refine tSg ?_
      refine tS1 fun K Kp hK hKp => ?_; refine Gives.at (need_ok 2) ?_; apply hK; clear hK hKp K Kp
      refine tS ?_
      rw [hgood (.inr d)]
      exact Fin.done Same.auto
    · rw [hbad (hF (p := v.els = [] ∨ v.kind ∈ ([7, 8] : List Int)) (by rw [not_or]; exact ⟨c, d⟩) fun q => (hi.1 q).2.2.2.2), decide_eq_false d]
      refine tSg ?_
      refine tS1 fun K Kp hK hKp => ?_; refine Dies.at (need_bad 2) ?_; apply hKp; clear hK hKp K Kp; repeat (first | refine AExit.panT ?_ | refine AExit.panB ?_)
      exact Fin.dies Same.auto
end Go.Proofs.YtgfadepkiejncaaGreat
namespace Go.Proofs.YtgfadepkiejncaaGreat
open Go.Ab Go.Sort
set_option maxHeartbeats 0
set_option maxRecDepth 100000
attribute [local irreducible] AW AList ACall DA AExit.then AExit.inBlock YCall DCall

/-! renaming: the plain law -/
def renN (xs ys : List Int) (k n : Int) : Int := if k = 5 ∧ n ≤ xs.length then xs[(n - 1).toNat]?.getD 0 else if k = 6 ∧ n < ys.length then ys[n.toNat]?.getD 0 else n
mutual
def ren (xs ys : List Int) : GV → GV
  | .mk k n ng a s l => if k = 8 then setV (setF (renL xs ys l)) else .mk k (renN xs ys k n) ng a s (renL xs ys l)
def renL (xs ys : List Int) : List GV → List GV
  | [] => []
  | v :: l => ren xs ys v :: renL xs ys l
end
theorem renL_map (xs ys : List Int) : ∀ l, renL xs ys l = l.map (ren xs ys)
  | [] => rfl
  | v :: l => congrArg (ren xs ys v :: ·) (renL_map xs ys l)
def numsOK (l : List Int) (n : Int) : Prop := ∀ x ∈ l, n ≤ x ∧ x < 9223372036854775808
theorem ren_node {k n n' : Int} {ng : Bool} {a : List Int} {s : ByteArray} {l l' : List GV} (h : nodeOK (.mk k n ng a s l)) (hl : l'.map GV.kind = l.map GV.kind) (hn : n' = n ∨ (k = 5 ∧ 1 ≤ n') ∨ (k = 6 ∧ 0 ≤ n')) :
    nodeOK (.mk k n' ng a s l') := by
  obtain ⟨h1, h2, h3, h4⟩ := h
  have hlen : l'.length = l.length := by simpa using congrArg List.length hl
  refine ⟨?_, ?_, h3, h4⟩
  · rw [fieldsF_iff] at h1 ⊢
    simp only [GV.kind, GV.num, GV.neg, GV.abs, GV.str, GV.els] at h1 ⊢
    obtain ⟨f1, f2, f3, f4, f5⟩ := h1
    refine ⟨f1, ?_, f3, f4, ?_⟩
    · rcases hn with rfl | ⟨rfl, _⟩ | ⟨rfl, _⟩
      · exact f2
      · exact .inr (by simp)
      · exact .inr (by simp)
    · rcases f5 with rfl | f5
      · exact .inl (List.length_eq_zero_iff.1 (by simpa using hlen))
      · exact .inr f5
  · rcases hn with rfl | ⟨rfl, h5⟩ | ⟨rfl, h5⟩
    · by_cases h7 : k = 7
      · subst h7
        have e1 : formF (.mk 7 n' ng a s l) = (decide (l = []) || !decide ((l[l.length - 1]?.getD default).kind = 0)) := rfl
        have e2 : formF (.mk 7 n' ng a s l') = (decide (l' = []) || !decide ((l'[l'.length - 1]?.getD default).kind = 0)) := rfl
        rw [e1] at h2
        rw [e2]
        have hk : ∀ i : Nat, i < l.length → (l'[i]?.getD default).kind = (l[i]?.getD default).kind := fun i hi => by
          have hi' : i < l'.length := by omega
          have := congrArg (fun z => z[i]?) hl
          simp only [List.getElem?_map, List.getElem?_eq_getElem hi, List.getElem?_eq_getElem hi', Option.map_some, Option.some.injEq] at this
          rw [List.getElem?_eq_getElem hi, List.getElem?_eq_getElem hi']
          exact this
        by_cases h0 : l = []
        · have : l' = [] := List.length_eq_zero_iff.1 (by rw [hlen, h0]; rfl)
          simp [this]
        · have hp : 0 < l.length := List.length_pos_iff.2 h0
          rw [hlen, hk _ (by omega)]
          simp only [Bool.or_eq_true, decide_eq_true_eq] at h2 ⊢
          rcases h2 with h2 | h2
          · exact absurd h2 h0
          · exact .inr h2
      · have e : formF (.mk k n' ng a s l') = formF (.mk k n' ng a s l) := by
          unfold formF
          simp only [show (GV.mk k n' ng a s l').kind = k from rfl, show (GV.mk k n' ng a s l).kind = k from rfl, if_neg h7]
          rfl
        rw [e]; exact h2
    · simp [formF, GV.kind, GV.num, h5]
    · simp [formF, GV.kind, GV.num, h5]
theorem set_good {l : List GV} (g : goods l) (hi : Inc l) (h0 : ∀ x ∈ l, x.kind ≠ 0) (hlen : l.length < 1000000) : good (setV l) := by
  refine ⟨?_, setV_ok g hlen⟩
  rw [fmd_eq]
  refine ⟨⟨?_, by rfl, by simp [GV.abs], by show (0 : Nat) ≤ 1000; omega⟩, fun _ => ⟨h0, (incr_none g).2 hi⟩, (fmdL_iff _).2 fun x hx => (g x hx).1⟩
  simp [fieldsF, GV.kind, GV.neg, GV.abs, GV.str, GV.els, GV.num]
theorem setF_good {l : List GV} (g : goods l) (hlen : l.length < 1000000) : good (setV (setF l)) := by
  obtain ⟨s1, s2, s3⟩ := setF_spec _ g
  exact set_good s2 s1 (fun x hx => ((s3 x).1 hx).2) (Nat.lt_of_le_of_lt (setF_len l) hlen)
theorem renN_ok {xs ys : List Int} (hx : numsOK xs 1) (hy : numsOK ys 0) {k n : Int} (h5 : k = 5 → 1 ≤ n) (h6 : k = 6 → 0 ≤ n) (hn : -9223372036854775808 ≤ n ∧ n < 9223372036854775808) :
    (renN xs ys k n = n ∨ (k = 5 ∧ 1 ≤ renN xs ys k n) ∨ (k = 6 ∧ 0 ≤ renN xs ys k n)) ∧ (-9223372036854775808 ≤ renN xs ys k n ∧ renN xs ys k n < 9223372036854775808) := by
  unfold renN
  split
  · rename_i h
    have hlt : (n - 1).toNat < xs.length := by have := h5 h.1; omega
    have := hx _ (List.getElem_mem hlt)
    rw [List.getElem?_eq_getElem hlt, Option.getD_some]
    exact ⟨.inr (.inl ⟨h.1, this.1⟩), by omega⟩
  · split
    · rename_i h
      have hlt : n.toNat < ys.length := by have := h6 h.1; omega
      have := hy _ (List.getElem_mem hlt)
      rw [List.getElem?_eq_getElem hlt, Option.getD_some]
      exact ⟨.inr (.inr ⟨h.1, this.1⟩), by omega⟩
    · exact ⟨.inl rfl, hn⟩
theorem node_num {v : GV} (h : nodeOK v) : (v.kind = 5 → 1 ≤ v.num) ∧ (v.kind = 6 → 0 ≤ v.num) := by
  have h2 := h.2.1
  constructor
  · intro hk
    simpa [formF, hk] using h2
  · intro hk
    simpa [formF, hk] using h2
mutual
theorem ren_ok {xs ys : List Int} (hx : numsOK xs 1) (hy : numsOK ys 0) : ∀ v : GV, good v → nodes v < 1000000 → good (ren xs ys v) ∧ nodes (ren xs ys v) ≤ nodes v ∧ deep (ren xs ys v) ≤ deep v ∧ (ren xs ys v).kind = v.kind
  | .mk k n ng a s l, g, hn => by
    have gl : goods l := g.els
    have hnl : nodesL l < 1000000 := by simp only [nodes] at hn; omega
    have hll := nodesL_len l
    obtain ⟨i1, i2, i3, i4⟩ := renL_ok hx hy l gl hnl
    have il : (renL xs ys l).length = l.length := by simpa using congrArg List.length i4
    rw [ren]
    by_cases h8 : k = 8
    · rw [if_pos h8]
      refine ⟨setF_good i1 (by omega), ?_, ?_, by rw [h8]; rfl⟩
      · have := setF_nodes _ i1
        simp only [nodes]; omega
      · have := setF_deep _ i1
        simp only [deep]; omega
    · rw [if_neg h8]
      have hf := g.1
      rw [fmd_eq] at hf
      have hnum := node_num hf.1
      have hok := g.2
      obtain ⟨r1, r2⟩ := renN_ok hx hy (k := k) (n := n) hnum.1 hnum.2 hok.num
      refine ⟨⟨?_, ?_⟩, ?_, ?_, rfl⟩
      · rw [fmd_eq]
        exact ⟨ren_node hf.1 i4 r1, fun h => absurd h h8, (fmdL_iff _).2 fun x hx' => (i1 x hx').1⟩
      · obtain ⟨o1, o2, o3, o4, o5, o6, o7⟩ := hok
        exact ⟨o1, r2, o3, o4, by rw [il]; exact o5, o6, (okL_iff _).2 fun x hx' => (i1 x hx').2⟩
      · simp only [nodes]; omega
      · simp only [deep]; omega
theorem renL_ok {xs ys : List Int} (hx : numsOK xs 1) (hy : numsOK ys 0) : ∀ l : List GV, goods l → nodesL l < 1000000 → goods (renL xs ys l) ∧ nodesL (renL xs ys l) ≤ nodesL l ∧ deepL (renL xs ys l) ≤ deepL l ∧ (renL xs ys l).map GV.kind = l.map GV.kind
  | [], _, _ => ⟨fun x hx => by simp [renL] at hx, Nat.le_refl _, Nat.le_refl _, rfl⟩
  | v :: l, g, hn => by
    simp only [nodesL] at hn
    obtain ⟨a1, a2, a3, a4⟩ := ren_ok hx hy v (g v (by simp)) (by omega)
    obtain ⟨b1, b2, b3, b4⟩ := renL_ok hx hy l (fun x hx => g x (by simp [hx])) (by omega)
    refine ⟨fun x hx => ?_, ?_, ?_, ?_⟩
    · rw [renL, List.mem_cons] at hx
      rcases hx with rfl | hx
      · exact a1
      · exact b1 x hx
    · simp only [renL, nodesL]; omega
    · simp only [renL, deepL]; omega
    · simp only [renL, List.map_cons, a4, b4]
end
end Go.Proofs.YtgfadepkiejncaaGreat
namespace Go.Ab
theorem AW.cuts4 {P : Program} {N : Nat} {I : (Nat → PV) → St → Prop} {Q : APost} {σ : Nat → PV} {m : St} {c1 c2 c3 c4 R : Code} (h2 : ∀ σ m, I σ m → AW P N R Q σ m) (h : AWs P N I Q [c1, c2, c3, c4] σ m) :
    AW P N (.seq c1 (.seq c2 (.seq c3 (.seq c4 R)))) Q σ m := AW.cuts R h2 [c1, c2, c3, c4] σ m h
end Go.Ab
namespace Go.Proofs.YtgfadepkiejncaaGreat
open Go.Ab Go.Sort
set_option maxHeartbeats 0
set_option maxRecDepth 100000
attribute [local irreducible] AW AList ACall DA AExit.then AExit.inBlock YCall DCall

/-! val.renamed -/
abbrev intsP (l : List Int) : PV := .list .no (ints l)
theorem node_small {v : GV} (h : good v) : v.abs.length ≤ 1099511627776 := by have := h.1.node.2.2.1; omega
theorem ren_eq (xs ys : List Int) (v : GV) : ren xs ys v = if v.kind = 8 then setV (setF (renL xs ys v.els)) else .mk v.kind (renN xs ys v.kind v.num) v.neg v.abs v.str (renL xs ys v.els) := by cases v; rfl
theorem renL_take (xs ys : List Int) (l : List GV) (i : Nat) (h : i < l.length) : renL xs ys (l.take (i + 1)) = renL xs ys (l.take i) ++ [ren xs ys l[i]] := by
  rw [List.take_succ_eq_append_getElem h, renL_map, renL_map, List.map_append]; rfl
theorem renL_len (xs ys : List Int) (l : List GV) : (renL xs ys l).length = l.length := by rw [renL_map, List.length_map]
theorem node_set {v : GV} (h : good v) (h8 : v.kind = 8) : v.num = 0 ∧ v.neg = false ∧ v.abs = [] ∧ v.str = ⟨#[]⟩ := by
  have hf := node_fields h.1.node
  obtain ⟨f1, f2, f3, f4⟩ := hf
  refine ⟨f4 (by omega) (by omega) (by omega) (by omega), (f1 (by omega) (by omega)).1, (f1 (by omega) (by omega)).2, ?_⟩
  have h2 := f2 (by omega)
  have h3 : v.str.size = 0 := by
    rw [Lib.toList_data] at h2
    have := congrArg List.length h2
    simpa using this
  exact ByteArray.ext (Array.eq_empty_of_size_eq_zero h3)
theorem val_renamed1 (xs ys : List Int) (hx : numsOK xs 1) (hy : numsOK ys 0) (lx : xs.length < 1152921504606846976) (ly : ys.length < 1152921504606846976) (v : GV) (gv : good v) (hv : nodes v < 1000000) : Gives Tryz.prog 111 [v.pv, intsP xs, intsP ys] (ren xs ys v).pv := by
  induction hk : nodes v using Nat.strongRecOn generalizing v with
  | _ k ih =>
  subst hk
  have hn := nodes_eq v
  have hl := nodesL_len v.els
  obtain ⟨i1, i2, i3, i4⟩ := renL_ok hx hy v.els gv.els (by omega)
  have il := renL_len xs ys v.els
  have hnum := node_num gv.1.node
  intro m
  refine ACall.of_aw Tryz.func111 Tryz.ntmps111 rfl rfl (by simp) ?_
  refine AW.cuts4 (I := fun σ m' => σ 1 = intsP xs ∧ σ 2 = intsP ys ∧ σ 3 = .loc m.nloc 0 ∧ σ 6 = .loc (m.nloc + 1) 0 ∧ σ 7 = .loc (m.nloc + 2) 0 ∧ m'.loc m.nloc = some v.cells ∧ m'.loc (m.nloc + 1) = some zcV ∧
    m'.loc (m.nloc + 2) = some [vI v.kind, vI (renN xs ys v.kind v.num), vB v.neg, .list .no (limbs v.abs), vS v.str, .list .no (GV.rows v.els)] ∧ m'.nloc = m.nloc + 3 ∧ Same m m') ?_ ?_
  rotate_left
  · simp only [AWs]
    refine tS ?_
    refine tS1 fun K Kp hK hKp => ?_; refine Gives.at (clone22 v.abs (node_small gv)) ?_; apply hK; clear hK hKp K Kp
    have hc : ∀ n : Int, v.cells.set 1 (vI n) = [vI v.kind, vI n, vB v.neg, .list .no (limbs v.abs), vS v.str, .list .no (GV.rows v.els)] := fun n => by cases v; rfl
    have hc0 : v.cells.set 3 (.list .no (limbs v.abs)) = v.cells := by cases v; rfl
    have hcn : v.cells = [vI v.kind, vI v.num, vB v.neg, .list .no (limbs v.abs), vS v.str, .list .no (GV.rows v.els)] := cells_eq v
    by_cases h5 : v.kind = 5
    · have h1 := hnum.1 h5
      by_cases hle : v.num ≤ xs.length
      · obtain ⟨q, hq⟩ : ∃ q : Nat, v.num - 1 = q := ⟨(v.num - 1).toNat, by omega⟩
        have hlt : q < xs.length := by omega
        have hr : renN xs ys v.kind v.num = xs[q] := by
          rw [renN, if_pos ⟨h5, hle⟩, hq]; simp [hlt]
        have F := (aand @h5 @hc0); refine tFg ?_; (try clear F)
        have F := (aand @h5 (aand @hc0 @hle)); refine tFa ?_; (try clear F)
        have F := (aand @h5 (aand @hc0 (aand @hq (aand @hlt @ints_getD)))); refine tF ?_; (try clear F)
        exact ⟨by simp [upd_lit], by simp [upd_lit], by simp [upd_lit], by simp [upd_lit], by simp [upd_lit], by simp [Nat.add_assoc], by simp, by rw [hr]; simp [hc, h5], by simp, Same.auto⟩
      · have hr : renN xs ys v.kind v.num = v.num := by
          rw [renN, if_neg (fun h => hle h.2), if_neg (fun h => by omega)]
        have F := (aand @h5 @hc0); refine tFg ?_; (try clear F)
        have F := (aand @h5 (aand @hc0 @hle)); refine tFa ?_; (try clear F)
        have F := (aand @h5 @hc0); refine tFa ?_; (try clear F)
        exact ⟨by simp [upd_lit], by simp [upd_lit], by simp [upd_lit], by simp [upd_lit], by simp [upd_lit], by simp [Nat.add_assoc], by simp, by rw [hr]; simp [← hcn], by simp, Same.auto⟩
    by_cases h6 : v.kind = 6
    · have h1 := hnum.2 h6
      by_cases hle : v.num < ys.length
      · obtain ⟨q, hq⟩ : ∃ q : Nat, v.num = q := ⟨v.num.toNat, by omega⟩
        have hlt : q < ys.length := by omega
        have hr : renN xs ys v.kind v.num = ys[q] := by
          rw [renN, if_neg (fun h => h5 h.1), if_pos ⟨h6, hle⟩, hq]; simp [hlt]
        have F := (aand @h5 @hc0); refine tFg ?_; (try clear F)
        have F := (aand @h5 @hc0); refine tFa ?_; (try clear F)
        have F := (aand @h6 @hc0); refine tFg ?_; (try clear F)
        have F := (aand @h6 (aand @hc0 @hle)); refine tFa ?_; (try clear F)
        have F := (aand @h6 (aand @hc0 (aand @hq (aand @hlt @ints_getD)))); refine tF ?_; (try clear F)
        exact ⟨by simp [upd_lit], by simp [upd_lit], by simp [upd_lit], by simp [upd_lit], by simp [upd_lit], by simp [Nat.add_assoc], by simp, by rw [hr]; simp [hc, h6], by simp, Same.auto⟩
      · have hr : renN xs ys v.kind v.num = v.num := by
          rw [renN, if_neg (fun h => h5 h.1), if_neg (fun h => hle h.2)]
        have F := (aand @h5 @hc0); refine tFg ?_; (try clear F)
        have F := (aand @h5 @hc0); refine tFa ?_; (try clear F)
        have F := (aand @h6 @hc0); refine tFg ?_; (try clear F)
        have F := (aand @h6 (aand @hc0 @hle)); refine tFa ?_; (try clear F)
        exact ⟨by simp [upd_lit], by simp [upd_lit], by simp [upd_lit], by simp [upd_lit], by simp [upd_lit], by simp [Nat.add_assoc], by simp, by rw [hr]; simp [← hcn], by simp, Same.auto⟩
    · have hr : renN xs ys v.kind v.num = v.num := by
        rw [renN, if_neg (fun h => h5 h.1), if_neg (fun h => h6 h.1)]
      have F := (aand @h5 @hc0); refine tFg ?_; (try clear F)
      have F := (aand @h5 @hc0); refine tFa ?_; (try clear F)
      have F := (aand @h6 @hc0); refine tFg ?_; (try clear F)
      have F := (aand @h6 @hc0); refine tFa ?_; (try clear F)
      exact ⟨by simp [upd_lit], by simp [upd_lit], by simp [upd_lit], by simp [upd_lit], by simp [upd_lit], by simp [Nat.add_assoc], by simp, by rw [hr]; simp [← hcn], by simp, Same.auto⟩
  · rintro σ m' ⟨t1, t2, t3, t6, t7, g0, g1, g2, n1, sm⟩
    have q0 : m.nloc < m'.nloc := by omega
    have q1 : m.nloc + 1 < m'.nloc := by omega
    have q2 : m.nloc + 2 < m'.nloc := by omega
    obtain ⟨N, hN⟩ : ∃ N, N = renN xs ys v.kind v.num := ⟨_, rfl⟩
    rw [← hN] at g2
    have F := (aand @t7 (aand @g2 (aand @q2 (aand @t3 (aand @g0 @q0))))); refine tF ?_; (try clear F)
    refine AW.nilC (m := m'.setLoc (m.nloc + 2) ([vI v.kind, vI N, vB v.neg, .list .no (limbs v.abs), vS v.str, .v (.slice none 0 0)])) (n := m.nloc + 2) (i := 5) (cs := [vI v.kind, vI N, vB v.neg, .list .no (limbs v.abs), vS v.str, .v (.slice none 0 0)]) q2 (by rw [setLoc_loc, if_pos rfl]) (by rfl) ?_
    rw [setLoc_setLoc]
    simp only [List.set]
    refine AW.loop (ι := Nat) (fun i σ m'' => i ≤ v.els.length ∧ (∃ o, m''.loc (m.nloc + 2) = some ([vI v.kind, vI N, vB v.neg, .list .no (limbs v.abs), vS v.str, .list o (GV.rows (renL xs ys (v.els.take i)))]) ∧ Ow m m'' o 6 i) ∧ m''.loc m.nloc = some v.cells ∧ m''.loc (m.nloc + 1) = some zcV ∧ m.nloc + 3 ≤ m''.nloc ∧ σ 56 = vI i ∧ σ 55 = vI v.els.length ∧ σ 54 = GV.pvs v.els ∧ σ 1 = intsP xs ∧ σ 2 = intsP ys ∧ σ 3 = .loc m.nloc 0 ∧ σ 6 = .loc (m.nloc + 1) 0 ∧ σ 7 = .loc (m.nloc + 2) 0) (fun i => v.els.length - i) 0 ?_ ?_
    · exact ⟨by simp, ⟨.full, by simp [GV.rows, renL], .full (sm.setLoc (by omega) _)⟩, by simp [g0], by simp [g1], by simp; omega, by simp [upd_lit], by simp [upd_lit], by simp [upd_lit], by simp [upd_lit, t1], by simp [upd_lit, t2], by simp [upd_lit, t3], by simp [upd_lit, t6], by simp [upd_lit, t7]⟩
    clear t1 t2 t3 t6 t7 g0 g1 g2 q0 q1 q2 n1 sm
    rintro i σ m' ⟨hi, ⟨o, g2, ow⟩, g0, g1, hnl, t56, t55, t54, t1, t2, t3, t6, t7⟩
    have q0 : m.nloc < m'.nloc := by omega
    have q1 : m.nloc + 1 < m'.nloc := by omega
    have q2 : m.nloc + 2 < m'.nloc := by omega
    by_cases hlt : i < v.els.length
    · have ht := renL_take xs ys v.els i hlt
      have hlr := renL_len xs ys (v.els.take i)
      have hlt' : (v.els.take i).length = i := by simp; omega
      have hg := nodes_get v.els i hlt
      have gx := gv.els _ (List.getElem_mem hlt)
      have hne : m.nloc + 2 ≠ m'.nloc := by omega
      have hn0' : m.nloc + 2 < m'.nloc + 1 := by omega
      have ow2 : Ow m ((m'.newLoc zcV).setLoc m'.nloc v.els[i].cells) o 6 i := ⟨(ow.1.newLoc _).setLoc (by have := ow.1.lloc; omega) _, ow.2⟩
      have F := (aand @t56 (aand @t55 @hlt)); refine tFa ?_; (try clear F)
      have F := (aand @t54 (aand @t56 (aand @hlt @rows_getD))); refine tF ?_; (try clear F)
      repeat (first | refine AW.seq ?_ | refine AW.block ?_ | refine AW.skip ?_ | refine AExit.norT ?_ | refine AExit.norB ?_ | refine AList.nil ?_)
      refine AW.draw [.S, .R, .R, .S, .S, .R, .S, .W, .S, .W] (by decide +kernel) ?_; have F := (aand @t1 (aand @t2 (aand @t7 (aand @g2 (aand @hne (aand @hn0' @hlt)))))); refine dST 0 ?_; refine dRT 1 ?_; refine dRT 2 ?_; refine dST 3 ?_; refine dST 4 ?_; refine dCT ((ih _ (by omega) v.els[i] gx (by omega) rfl)) 5 ?_; refine dST 6 ?_; (try clear F); refine DA.W (oi := ?oiw1) 7 ?aw1 ?bw1 ?cw1 ?dw1 ?ew1 ?fw1; (case aw1 => rfl); (case bw1 => decide +kernel); (case cw1 => rfl); (case dw1 => rfl); (case ew1 => decide); intro K Kp hK hKp; (simp [t7, upd_lit]; refine app25 (l' := [ren xs ys v.els[i]]) ow2 (by rw [renL_len]; simp; omega) (by rw [renL_len]; simp; omega) fun o' m'' ho' hs => hK _ _ ?_; clear hK hKp K Kp); have F := (aand @t1 (aand @t2 (aand @t7 (aand @g2 (aand @hne (aand @hn0' @hlt)))))); (try clear F)
      have q2'' : m.nloc + 2 < m''.nloc := by rw [hs.nloc]; simp; omega
      have g2'' : m''.loc (m.nloc + 2) = some ([vI v.kind, vI N, vB v.neg, .list .no (limbs v.abs), vS v.str, .list o (GV.rows (renL xs ys (v.els.take i)))]) := by rw [hs.loc]; simp [hne, g2]
      skip; have F := (aand @t7 (aand @g2'' @q2'')); refine dST 8 ?_; refine dW 9 ?_; (try clear F); first | refine dN ?_ | refine dB ?_ | refine DA.done (by decide +kernel) ?_
      have F := @t56; refine tF ?_; (try clear F)
      refine ⟨i + 1, ⟨by omega, ⟨o', by simp [ht], ⟨ho'.1.setLoc (by omega) _, ho'.2⟩⟩, ?_, ?_, by simp [hs.nloc]; omega, by simp [upd_lit], by simp [upd_lit, t55], by simp [upd_lit, t54], by simp [upd_lit, t1], by simp [upd_lit, t2], by simp [upd_lit, t3], by simp [upd_lit, t6], by simp [upd_lit, t7]⟩, by omega⟩
      · simp [hs.loc, g0, show m.nloc ≠ m'.nloc from by omega]
      · simp [hs.loc, g1, show m.nloc + 1 ≠ m'.nloc from by omega]
    · have e : i = v.els.length := by omega
      rw [e, List.take_length] at g2
      have F := (aand @t56 (aand @t55 @hlt)); refine tFa ?_; (try clear F)
      by_cases h8 : v.kind = 8
      · rw [ren_eq, if_pos h8]
        obtain ⟨z1, z2, z3, z4⟩ := node_set gv h8
        have hz : N = 0 := by rw [hN, renN, if_neg (fun h => by omega), if_neg (fun h => by omega), z1]
        have he : (setV (setF (renL xs ys v.els))).els = setF (renL xs ys v.els) := rfl
        have F := (aand @t3 (aand @g0 @q0)); refine tF ?_; (try clear F)
        have F := @h8; refine tFa ?_; (try clear F)
        have F := (aand @t7 (aand @g2 @q2)); refine tF ?_; (try clear F)
        refine tS1 fun K Kp hK hKp => ?_; refine Gives.at (val_sorted (renL xs ys v.els) i1 (by omega)) ?_; apply hK; clear hK hKp K Kp
        have F := (aand @t7 (aand @g2 (aand @q2 (aand @t6 (aand @g1 (aand @q1 @he)))))); refine tF ?_; (try clear F)
        exact Fin.givesC (p := .agg [vI v.kind, vI N, vB v.neg, .list .no (limbs v.abs), vS v.str, GV.pvs (setF (renL xs ys v.els))]) rfl (by simp [upd_lit, t6, q1]) ((ow.1.setLoc (by omega) _).setLoc (by omega) _) (by simp [hz, h8, z2, z3, z4, GV.cells, limbs])
      · rw [ren_eq, if_neg h8]
        have F := (aand @t3 (aand @g0 @q0)); refine tF ?_; (try clear F)
        have F := @h8; refine tFa ?_; (try clear F)
        have F := (aand @t7 (aand @g2 (aand @q2 (aand @t6 (aand @g1 @q1))))); refine tF ?_; (try clear F)
        exact Fin.givesC (p := .agg [vI v.kind, vI N, vB v.neg, .list .no (limbs v.abs), vS v.str, .list o (GV.rows (renL xs ys v.els))]) rfl (by simp [upd_lit, t6, q1]) (ow.1.setLoc (by omega) _) (by simp [hN, GV.cells])
end Go.Proofs.YtgfadepkiejncaaGreat
namespace Go.Proofs.YtgfadepkiejncaaGreat
open Go.Ab Go.Sort
set_option maxHeartbeats 0
set_option maxRecDepth 100000
attribute [local irreducible] AW AList ACall DA AExit.then AExit.inBlock YCall DCall

/-! ref.renamed -/
theorem ref_renamed1 (xs ys : List Int) (hx : numsOK xs 1) (hy : numsOK ys 0) (lx : xs.length < 1152921504606846976) (ly : ys.length < 1152921504606846976) (v : GV) (gv : good v) (hv : nodes v < 1000000) : Gives Tryz.prog 113 [v.pv, intsP xs, intsP ys] (ren xs ys v).pv := by
  induction hk : nodes v using Nat.strongRecOn generalizing v with
  | _ k ih =>
  subst hk
  have hn := nodes_eq v
  have hl := nodesL_len v.els
  obtain ⟨i1, i2, i3, i4⟩ := renL_ok hx hy v.els gv.els (by omega)
  have il := renL_len xs ys v.els
  have hnum := node_num gv.1.node
  have la := node_small gv
  intro m
  refine ACall.of_aw Tryz.func113 Tryz.ntmps113 rfl rfl (by simp) ?_
  refine AW.cuts5 (I := fun σ m' => σ 1 = intsP xs ∧ σ 2 = intsP ys ∧ σ 3 = .loc m.nloc 0 ∧ σ 6 = .loc (m.nloc + 1) 0 ∧ σ 7 = .loc (m.nloc + 2) 0 ∧ m'.loc m.nloc = some v.cells ∧ m'.loc (m.nloc + 1) = some zcV ∧
    (∃ o, m'.loc (m.nloc + 2) = some [vI v.kind, vI (renN xs ys v.kind v.num), vB v.neg, .list o (limbs v.abs), vS v.str, .list .no (GV.rows v.els)]) ∧ m'.nloc = m.nloc + 3 ∧ Same m m') ?_ ?_
  rotate_left
  · simp only [AWs]
    refine tS ?_
    refine AList.opK (by decide) ?_; intro K Kp hK hKp
    refine op_appendS rfl (by simp) (by simp) ?_
    simp only [opv, upd_lit, cv]
    refine app22 (l := []) (m0 := m) (.full Same.auto) rfl (by simp; omega) fun oA m'' ho' hs => hK _ _ ?_; clear hK hKp K Kp
    have k0 : m''.loc m.nloc = some v.cells := by rw [hs.loc]; simp; intro h; omega
    have k1 : m''.loc (m.nloc + 1) = some zcV := by rw [hs.loc]; simp
    have k2 : m''.loc (m.nloc + 2) = some v.cells := by rw [hs.loc]; simp
    have kn : m''.nloc = m.nloc + 3 := by rw [hs.nloc]; simp
    have q0 : m.nloc < m''.nloc := by omega
    have q1 : m.nloc + 1 < m''.nloc := by omega
    have q2 : m.nloc + 2 < m''.nloc := by omega
    have sm := ho'.1
    clear ho' hs
    have hc0 : v.cells.set 3 (.list oA (limbs v.abs)) = [vI v.kind, vI v.num, vB v.neg, .list oA (limbs v.abs), vS v.str, .list .no (GV.rows v.els)] := by cases v; rfl
    by_cases h5 : v.kind = 5
    · have h1 := hnum.1 h5
      by_cases hle : v.num ≤ xs.length
      · obtain ⟨q, hq⟩ : ∃ q : Nat, v.num - 1 = q := ⟨(v.num - 1).toNat, by omega⟩
        have hlt : q < xs.length := by omega
        have hr : renN xs ys v.kind v.num = xs[q] := by
          rw [renN, if_pos ⟨h5, hle⟩, hq]; simp [hlt]
        have F := (aand @h5 (aand @hc0 (aand @k0 (aand @k2 (aand @q0 @q2))))); refine tFg ?_; (try clear F)
        have F := (aand @h5 (aand @hc0 @hle)); refine tFa ?_; (try clear F)
        have F := (aand @h5 (aand @hc0 (aand @hq (aand @hlt (aand @ints_getD (aand @k0 (aand @k2 (aand @q0 @q2)))))))); refine tF ?_; (try clear F)
        have F := (aand @h5 (aand @k0 (aand @k2 (aand @q0 @q2)))); refine tFg ?_; (try clear F)
        have F := @h5; refine tFa ?_; (try clear F)
        exact ⟨by simp [upd_lit], by simp [upd_lit], by simp [upd_lit], by simp [upd_lit], by simp [upd_lit], by simp [k0], by simp [k1], ⟨oA, by rw [hr]; simp [h5]⟩, by simp [kn], ((sm.setLoc (by omega) _).setLoc (by omega) _)⟩
      · have hr : renN xs ys v.kind v.num = v.num := by
          rw [renN, if_neg (fun h => hle h.2), if_neg (fun h => by omega)]
        have F := (aand @h5 (aand @hc0 (aand @k0 (aand @k2 (aand @q0 @q2))))); refine tFg ?_; (try clear F)
        have F := (aand @h5 (aand @hc0 @hle)); refine tFa ?_; (try clear F)
        have F := (aand @h5 (aand @hc0 (aand @k0 (aand @k2 (aand @q0 @q2))))); refine tFg ?_; (try clear F)
        have F := @h5; refine tFa ?_; (try clear F)
        exact ⟨by simp [upd_lit], by simp [upd_lit], by simp [upd_lit], by simp [upd_lit], by simp [upd_lit], by simp [k0], by simp [k1], ⟨oA, by rw [hr]; simp [h5]⟩, by simp [kn], (sm.setLoc (by omega) _)⟩
    by_cases h6 : v.kind = 6
    · have h1 := hnum.2 h6
      by_cases hle : v.num < ys.length
      · obtain ⟨q, hq⟩ : ∃ q : Nat, v.num = q := ⟨v.num.toNat, by omega⟩
        have hlt : q < ys.length := by omega
        have hr : renN xs ys v.kind v.num = ys[q] := by
          rw [renN, if_neg (fun h => h5 h.1), if_pos ⟨h6, hle⟩, hq]; simp [hlt]
        have F := (aand @h5 (aand @hc0 (aand @k0 (aand @k2 (aand @q0 @q2))))); refine tFg ?_; (try clear F)
        have F := @h5; refine tFa ?_; (try clear F)
        have F := (aand @h6 (aand @hc0 (aand @k0 (aand @k2 (aand @q0 @q2))))); refine tFg ?_; (try clear F)
        have F := (aand @h6 (aand @hc0 @hle)); refine tFa ?_; (try clear F)
        have F := (aand @h6 (aand @hc0 (aand @hq (aand @hlt (aand @ints_getD (aand @k0 (aand @k2 (aand @q0 @q2)))))))); refine tF ?_; (try clear F)
        exact ⟨by simp [upd_lit], by simp [upd_lit], by simp [upd_lit], by simp [upd_lit], by simp [upd_lit], by simp [k0], by simp [k1], ⟨oA, by rw [hr]; simp [h6]⟩, by simp [kn], ((sm.setLoc (by omega) _).setLoc (by omega) _)⟩
      · have hr : renN xs ys v.kind v.num = v.num := by
          rw [renN, if_neg (fun h => h5 h.1), if_neg (fun h => hle h.2)]
        have F := (aand @h5 (aand @hc0 (aand @k0 (aand @k2 (aand @q0 @q2))))); refine tFg ?_; (try clear F)
        have F := @h5; refine tFa ?_; (try clear F)
        have F := (aand @h6 (aand @hc0 (aand @k0 (aand @k2 (aand @q0 @q2))))); refine tFg ?_; (try clear F)
        have F := (aand @h6 (aand @hc0 @hle)); refine tFa ?_; (try clear F)
        exact ⟨by simp [upd_lit], by simp [upd_lit], by simp [upd_lit], by simp [upd_lit], by simp [upd_lit], by simp [k0], by simp [k1], ⟨oA, by rw [hr]; simp [h6]⟩, by simp [kn], (sm.setLoc (by omega) _)⟩
    · have hr : renN xs ys v.kind v.num = v.num := by
        rw [renN, if_neg (fun h => h5 h.1), if_neg (fun h => h6 h.1)]
      have F := (aand @h5 (aand @hc0 (aand @k0 (aand @k2 (aand @q0 @q2))))); refine tFg ?_; (try clear F)
      have F := @h5; refine tFa ?_; (try clear F)
      have F := (aand @h6 (aand @hc0 (aand @k0 (aand @k2 (aand @q0 @q2))))); refine tFg ?_; (try clear F)
      have F := (aand @h6 @hc0); refine tFa ?_; (try clear F)
      exact ⟨by simp [upd_lit], by simp [upd_lit], by simp [upd_lit], by simp [upd_lit], by simp [upd_lit], by simp [k0], by simp [k1], ⟨oA, by rw [hr]; simp⟩, by simp [kn], (sm.setLoc (by omega) _)⟩
  · rintro σ m' ⟨t1, t2, t3, t6, t7, g0, g1, ⟨oA, g2⟩, n1, sm⟩
    have q0 : m.nloc < m'.nloc := by omega
    have q1 : m.nloc + 1 < m'.nloc := by omega
    have q2 : m.nloc + 2 < m'.nloc := by omega
    obtain ⟨N, hN⟩ : ∃ N, N = renN xs ys v.kind v.num := ⟨_, rfl⟩
    rw [← hN] at g2
    have F := (aand @t7 (aand @g2 @q2)); refine tF ?_; (try clear F)
    refine AW.nilC (m := m'.setLoc (m.nloc + 2) ([vI v.kind, vI N, vB v.neg, .list oA (limbs v.abs), vS v.str, .v (.slice none 0 0)])) (n := m.nloc + 2) (i := 5) (cs := [vI v.kind, vI N, vB v.neg, .list oA (limbs v.abs), vS v.str, .v (.slice none 0 0)]) q2 (by rw [setLoc_loc, if_pos rfl]) (by rfl) ?_
    rw [setLoc_setLoc]
    simp only [List.set]
    refine AW.loop (ι := Nat) (fun i σ m'' => i ≤ v.els.length ∧ (∃ o, m''.loc (m.nloc + 2) = some ([vI v.kind, vI N, vB v.neg, .list oA (limbs v.abs), vS v.str, .list o (GV.rows (renL xs ys (v.els.take i)))]) ∧ Ow m m'' o 6 i) ∧ m''.loc m.nloc = some v.cells ∧ m''.loc (m.nloc + 1) = some zcV ∧ m.nloc + 3 ≤ m''.nloc ∧ σ 8 = vI i ∧ σ 1 = intsP xs ∧ σ 2 = intsP ys ∧ σ 3 = .loc m.nloc 0 ∧ σ 6 = .loc (m.nloc + 1) 0 ∧ σ 7 = .loc (m.nloc + 2) 0) (fun i => v.els.length - i) 0 ?_ ?_
    · exact ⟨by simp, ⟨.full, by simp [GV.rows, renL], .full (sm.setLoc (by omega) _)⟩, by simp [g0], by simp [g1], by simp; omega, by simp [upd_lit], by simp [upd_lit, t1], by simp [upd_lit, t2], by simp [upd_lit, t3], by simp [upd_lit, t6], by simp [upd_lit, t7]⟩
    clear t1 t2 t3 t6 t7 g0 g1 g2 q0 q1 q2 n1 sm
    rintro i σ m' ⟨hi, ⟨o, g2, ow⟩, g0, g1, hnl, t8, t1, t2, t3, t6, t7⟩
    have q0 : m.nloc < m'.nloc := by omega
    have q1 : m.nloc + 1 < m'.nloc := by omega
    have q2 : m.nloc + 2 < m'.nloc := by omega
    by_cases hlt : i < v.els.length
    · have ht := renL_take xs ys v.els i hlt
      have hlr := renL_len xs ys (v.els.take i)
      have hg := nodes_get v.els i hlt
      have gx := gv.els _ (List.getElem_mem hlt)
      have F := (aand @t8 (aand @t3 (aand @g0 (aand @q0 @hlt)))); refine tFa ?_; (try clear F)
      repeat (first | refine AW.seq ?_ | refine AW.block ?_ | refine AW.skip ?_ | refine AExit.norT ?_ | refine AExit.norB ?_ | refine AList.nil ?_)
      refine AW.draw [.S, .R, .S, .R, .S, .S, .R, .S, .S, .R, .S, .W, .S, .W] (by decide +kernel) ?_; have F := (aand @t1 (aand @t2 (aand @t3 (aand @t7 (aand @t8 (aand @g0 (aand @g2 (aand @q0 (aand @q2 (aand @hlt @rows_getD)))))))))); refine dST 0 ?_; refine dRT 1 ?_; refine dST 2 ?_; refine dRT 3 ?_; refine dST 4 ?_; refine dST 5 ?_; refine dRT 6 ?_; refine dST 7 ?_; refine dST 8 ?_; refine dCT ((ih _ (by omega) v.els[i] gx (by omega) rfl)) 9 ?_; refine dST 10 ?_; (try clear F); refine DA.W (oi := ?oiw1) 11 ?aw1 ?bw1 ?cw1 ?dw1 ?ew1 ?fw1; (case aw1 => rfl); (case bw1 => decide +kernel); (case cw1 => rfl); (case dw1 => rfl); (case ew1 => decide); intro K Kp hK hKp; (simp [t7, upd_lit]; refine app25 (l' := [ren xs ys v.els[i]]) ow (by rw [renL_len]; simp; omega) (by rw [renL_len]; simp; omega) fun o' m'' ho' hs => hK _ _ ?_; clear hK hKp K Kp); have F := (aand @t1 (aand @t2 (aand @t3 (aand @t7 (aand @t8 (aand @g0 (aand @g2 (aand @q0 (aand @q2 (aand @hlt @rows_getD)))))))))); (try clear F)
      have q2'' : m.nloc + 2 < m''.nloc := by rw [hs.nloc]; exact q2
      have g2'' : m''.loc (m.nloc + 2) = some ([vI v.kind, vI N, vB v.neg, .list oA (limbs v.abs), vS v.str, .list o (GV.rows (renL xs ys (v.els.take i)))]) := by rw [hs.loc]; exact g2
      skip; have F := (aand @t7 (aand @g2'' @q2'')); refine dST 12 ?_; refine dW 13 ?_; (try clear F); first | refine dN ?_ | refine dB ?_ | refine DA.done (by decide +kernel) ?_
      have F := @t8; refine tF ?_; (try clear F)
      refine ⟨i + 1, ⟨by omega, ⟨o', by simp [ht], ⟨ho'.1.setLoc (by omega) _, ho'.2⟩⟩, ?_, ?_, by simp [hs.nloc]; omega, by simp [upd_lit], by simp [upd_lit, t1], by simp [upd_lit, t2], by simp [upd_lit, t3], by simp [upd_lit, t6], by simp [upd_lit, t7]⟩, by omega⟩
      · simp [hs.loc, g0]
      · simp [hs.loc, g1]
    · have e : i = v.els.length := by omega
      rw [e, List.take_length] at g2
      have F := (aand @t8 (aand @t3 (aand @g0 (aand @q0 @hlt)))); refine tFa ?_; (try clear F)
      by_cases h8 : v.kind = 8
      · rw [ren_eq, if_pos h8]
        have F := (aand @t3 (aand @g0 @q0)); refine tF ?_; (try clear F)
        have F := @h8; refine tFa ?_; (try clear F)
        have F := (aand @t7 (aand @g2 @q2)); refine tF ?_; (try clear F)
        refine tS1 fun K Kp hK hKp => ?_; refine Gives.at (ref_makeSet (renL xs ys v.els) i1 (by omega)) ?_; apply hK; clear hK hKp K Kp
        have F := (aand @t6 (aand @g1 @q1)); refine tF ?_; (try clear F)
        exact Fin.givesC (p := (setV (setF (renL xs ys v.els))).pv) rfl (by simp [upd_lit, t6, q1]) (ow.1.setLoc (by omega) _)
      · rw [ren_eq, if_neg h8]
        have F := (aand @t3 (aand @g0 @q0)); refine tF ?_; (try clear F)
        have F := @h8; refine tFa ?_; (try clear F)
        have F := (aand @t7 (aand @g2 (aand @q2 (aand @t6 (aand @g1 @q1))))); refine tF ?_; (try clear F)
        exact Fin.givesC (p := .agg [vI v.kind, vI N, vB v.neg, .list oA (limbs v.abs), vS v.str, .list o (GV.rows (renL xs ys v.els))]) rfl (by simp [upd_lit, t6, q1]) (ow.1.setLoc (by omega) _) (by simp [hN, GV.cells])
end Go.Proofs.YtgfadepkiejncaaGreat
namespace Go.Proofs.YtgfadepkiejncaaGreat
open Go.Ab Go.Sort
set_option maxHeartbeats 0
set_option maxRecDepth 100000
attribute [local irreducible] AW AList ACall DA AExit.then AExit.inBlock YCall DCall

/-! Renamed -/
def fiF (p : Int → Bool) : List Int → Int → Int
  | [], _ => -1
  | x :: l, i => if p x then i else fiF p l (i + 1)
theorem fiF_nn (p : Int → Bool) : ∀ (l : List Int) (i : Int), 0 ≤ i → (0 ≤ fiF p l i ↔ l.any p = true)
  | [], i, _ => by simp [fiF]
  | x :: l, i, h => by
    have := fiF_nn p l (i + 1) (by omega)
    cases hx : p x <;> simp [fiF, hx, h] <;> simpa using this
theorem index_int (l : List Int) (p : Int → Bool) (f : FuncId) (hl : l.length < 1152921504606846976) (hf : ∀ x, Gives Tryz.prog f [vI x] (vB (p x))) : Gives Tryz.prog 150 [intsP l, .clo f [] []] (vI (fiF p l 0)) := by
  intro m
  refine ACall.of_aw Tryz.func150 Tryz.ntmps150 rfl rfl (by simp) ?_
  refine tS ?_
  refine AW.loop (ι := Nat) (fun i σ m' => i ≤ l.length ∧ fiF p (l.drop i) i = fiF p l 0 ∧ σ 8 = vI i ∧ σ 7 = vI l.length ∧ σ 0 = intsP l ∧ σ 1 = .clo f [] [] ∧ m' = m) (fun i => l.length - i) 0 ?_ ?_
  · exact ⟨by simp, rfl, by simp [upd_lit], by simp [upd_lit], by simp [upd_lit], by simp [upd_lit], rfl⟩
  rintro i σ m' ⟨hi, hF, t8, t7, t0, t1, rfl⟩
  by_cases hlt : i < l.length
  · rw [List.drop_eq_getElem_cons hlt, fiF] at hF
    have F := (aand @t8 (aand @t7 @hlt)); refine tFa ?_; (try clear F)
    have F := (aand @t0 (aand @t1 (aand @t8 (aand @hlt @ints_getD)))); refine tF ?_; (try clear F)
    have F := (aand @t0 (aand @t1 (aand @hlt @ints_getD))); refine tF1 fun K Kp hK hKp => ?_; (try clear F); refine Gives.at (hf l[i]) ?_; apply hK; clear hK hKp K Kp
    cases hp : p l[i] with
    | true =>
      rw [hp, if_pos rfl] at hF
      refine tSa ?_
      exact Fin.gives Same.auto rfl (by simp [upd_lit, ← hF])
    | false =>
      rw [hp, if_neg (by simp)] at hF
      refine tSa ?_
      have F := @t8; refine tF ?_; (try clear F)
      exact ⟨i + 1, ⟨by omega, hF, by simp [upd_lit], by simp [upd_lit, t7], by simp [upd_lit, t0], by simp [upd_lit, t1], rfl⟩, by omega⟩
  · have e : i = l.length := by omega
    rw [e, List.drop_length, fiF] at hF
    have F := (aand @t8 (aand @t7 @hlt)); refine tFa ?_; (try clear F)
    exact Fin.gives Same.auto rfl (by simp [upd_lit, ← hF])
theorem contains_int (l : List Int) (p : Int → Bool) (f : FuncId) (hl : l.length < 1152921504606846976) (hf : ∀ x, Gives Tryz.prog f [vI x] (vB (p x))) : Gives Tryz.prog 108 [intsP l, .clo f [] []] (vB (l.any p)) := by
  have e : decide (0 ≤ fiF p l 0) = l.any p := by rw [Bool.eq_iff_iff, decide_eq_true_eq]; exact fiF_nn p l 0 (by omega)
  intro m
  refine ACall.of_aw Tryz.func108 Tryz.ntmps108 rfl rfl (by simp) ?_
  refine tS ?_
  refine tS1 fun K Kp hK hKp => ?_; refine Gives.at (index_int l p f hl hf) ?_; apply hK; clear hK hKp K Kp
  refine tS ?_
  exact Fin.gives Same.auto rfl (by simp [upd_lit, ← e])
theorem clo109 (x : Int) : Gives Tryz.prog 109 [vI x] (vB (decide (x < 1))) := by
  intro m
  refine ACall.of_aw Tryz.func109 Tryz.ntmps109 rfl rfl (by simp) ?_
  refine tS ?_
  exact Fin.gives Same.auto
theorem clo110 (x : Int) : Gives Tryz.prog 110 [vI x] (vB (decide (x < 0))) := by
  intro m
  refine ACall.of_aw Tryz.func110 Tryz.ntmps110 rfl rfl (by simp) ?_
  refine tS ?_
  exact Fin.gives Same.auto
theorem ref_least (l : List Int) (n : Int) (hl : l.length < 1152921504606846976) : Gives Tryz.prog 112 [intsP l, vI n] (vB (!l.any fun x => decide (x < n))) := by
  intro m
  refine ACall.of_aw Tryz.func112 Tryz.ntmps112 rfl rfl (by simp) ?_
  refine tS ?_
  refine AW.loop (ι := Nat) (fun i σ m' => i ≤ l.length ∧ ((l.drop i).any fun x => decide (x < n)) = (l.any fun x => decide (x < n)) ∧ σ 5 = vI i ∧ σ 0 = intsP l ∧ σ 1 = vI n ∧ m' = m) (fun i => l.length - i) 0 ?_ ?_
  · exact ⟨by simp, rfl, by simp [upd_lit], by simp [upd_lit], by simp [upd_lit], rfl⟩
  rintro i σ m' ⟨hi, hF, t5, t0, t1, rfl⟩
  by_cases hlt : i < l.length
  · rw [List.drop_eq_getElem_cons hlt, List.any_cons] at hF
    have F := (aand @t5 (aand @t0 @hlt)); refine tFa ?_; (try clear F)
    have F := (aand @t0 (aand @t1 (aand @t5 (aand @hlt @ints_getD)))); refine tF ?_; (try clear F)
    by_cases hp : l[i] < n
    · rw [decide_eq_true hp, Bool.true_or] at hF
      have F := @hp; refine tFa ?_; (try clear F)
      exact Fin.gives Same.auto rfl (by simp only [upd_lit, ← hF]; rfl)
    · rw [decide_eq_false hp, Bool.false_or] at hF
      have F := @hp; refine tFa ?_; (try clear F)
      have F := @t5; refine tF ?_; (try clear F)
      exact ⟨i + 1, ⟨by omega, hF, by simp [upd_lit], by simp [upd_lit, t0], by simp [upd_lit, t1], rfl⟩, by omega⟩
  · have e : i = l.length := by omega
    rw [e, List.drop_length] at hF
    have F := (aand @t5 (aand @t0 @hlt)); refine tFa ?_; (try clear F)
    exact Fin.gives Same.auto rfl (by simp only [upd_lit, ← hF]; rfl)
def argB (xs ys : List Int) : Bool := (xs.any fun x => decide (x < 1)) || (ys.any fun x => decide (x < 0))
theorem argB_ok {xs ys : List Int} (h : argB xs ys = false) (hx : ∀ x ∈ xs, -9223372036854775808 ≤ x ∧ x < 9223372036854775808) (hy : ∀ x ∈ ys, -9223372036854775808 ≤ x ∧ x < 9223372036854775808) : numsOK xs 1 ∧ numsOK ys 0 := by
  rw [argB, Bool.or_eq_false_iff, List.any_eq_false, List.any_eq_false] at h
  exact ⟨fun x hm => ⟨by have := h.1 x hm; simp at this; omega, (hx x hm).2⟩, fun x hm => ⟨by have := h.2 x hm; simp at this; omega, (hy x hm).2⟩⟩
theorem val_renamed (xs ys : List Int) (hx : numsOK xs 1) (hy : numsOK ys 0) (hb : argB xs ys = false) (lx : xs.length < 1152921504606846976) (ly : ys.length < 1152921504606846976) (v : GV) (gv : good v) (hv : nodes v < 1000000) : Gives Tryz.prog 59 [v.pv, intsP xs, intsP ys] (outP (ren xs ys v) 0) := by
  have h1 := contains_int xs _ 109 lx clo109
  have h2 := contains_int ys _ 110 ly clo110
  rw [argB, Bool.or_eq_false_iff] at hb
  rw [hb.1] at h1
  rw [hb.2] at h2
  intro m
  refine ACall.of_aw Tryz.func59 Tryz.ntmps59 rfl rfl (by simp) ?_
  refine tS ?_
  refine tS1 fun K Kp hK hKp => ?_; refine Gives.at (h1) ?_; apply hK; clear hK hKp K Kp
  refine tSg ?_
  refine tSc (h2) ?_
  refine tSa ?_
  refine tS1 fun K Kp hK hKp => ?_; refine Gives.at (val_renamed1 xs ys hx hy lx ly v gv hv) ?_; apply hK; clear hK hKp K Kp
  refine tS ?_
  exact Fin.gives2 Same.auto (by simp [ResP, ResL, resV, upd_lit, show Tryz.f59.results.toList = [.cell 6 27, .tmp 7] from rfl])
theorem ref_renamed (xs ys : List Int) (hx : numsOK xs 1) (hy : numsOK ys 0) (hb : argB xs ys = false) (lx : xs.length < 1152921504606846976) (ly : ys.length < 1152921504606846976) (v : GV) (gv : good v) (hv : nodes v < 1000000) : Gives Tryz.prog 60 [v.pv, intsP xs, intsP ys] (made (ren xs ys v) 0) := by
  have h1 := ref_least xs 1 lx
  have h2 := ref_least ys 0 ly
  rw [argB, Bool.or_eq_false_iff] at hb
  rw [hb.1] at h1
  rw [hb.2] at h2
  intro m
  refine ACall.of_aw Tryz.func60 Tryz.ntmps60 rfl rfl (by simp) ?_
  refine tS ?_
  refine tS1 fun K Kp hK hKp => ?_; refine Gives.at (h1) ?_; apply hK; clear hK hKp K Kp
  refine tSg ?_
  refine tSc (h2) ?_
  refine tSa ?_
  refine tS1 fun K Kp hK hKp => ?_; refine Gives.at (ref_renamed1 xs ys hx hy lx ly v gv hv) ?_; apply hK; clear hK hKp K Kp
  have F := @cells_eq; refine tF ?_; (try clear F)
  exact Fin.givesC (p := made (ren xs ys v) 0) rfl (by simp [upd_lit]) Same.auto
theorem val_renamedE (xs ys : List Int) (hb : argB xs ys = true) (lx : xs.length < 1152921504606846976) (ly : ys.length < 1152921504606846976) (v : GV) : Gives Tryz.prog 59 [v.pv, intsP xs, intsP ys] (outP omV 1) := by
  have h1 := contains_int xs _ 109 lx clo109
  have h2 := contains_int ys _ 110 ly clo110
  intro m
  refine ACall.of_aw Tryz.func59 Tryz.ntmps59 rfl rfl (by simp) ?_
  refine tS ?_
  cases h3 : xs.any fun x => decide (x < 1) with
  | true =>
    rw [h3] at h1
    refine tS1 fun K Kp hK hKp => ?_; refine Gives.at (h1) ?_; apply hK; clear hK hKp K Kp
    refine tSa ?_
    refine Fin.ret (p := .tup [.agg [vI 0, vI 0, vB false, .list .full [], vS ⟨#[]⟩, .list .full []], vE 1]) ?_ Same.auto (by rfl) (by simp) ⟨rfl, rfl⟩
    simp [ResP, ResL, resV, upd_lit, show Tryz.f59.results.toList = [.cell 6 27, .tmp 7] from rfl]
  | false =>
    rw [h3] at h1
    rw [argB, h3, Bool.false_or] at hb
    rw [hb] at h2
    refine tS1 fun K Kp hK hKp => ?_; refine Gives.at (h1) ?_; apply hK; clear hK hKp K Kp
    refine tSg ?_
    refine tSc (h2) ?_
    refine tSa ?_
    refine Fin.ret (p := .tup [.agg [vI 0, vI 0, vB false, .list .full [], vS ⟨#[]⟩, .list .full []], vE 1]) ?_ Same.auto (by rfl) (by simp) ⟨rfl, rfl⟩
    simp [ResP, ResL, resV, upd_lit, show Tryz.f59.results.toList = [.cell 6 27, .tmp 7] from rfl]
theorem ref_renamedE (xs ys : List Int) (hb : argB xs ys = true) (lx : xs.length < 1152921504606846976) (ly : ys.length < 1152921504606846976) (v : GV) : Gives Tryz.prog 60 [v.pv, intsP xs, intsP ys] (made omV 1) := by
  have h1 := ref_least xs 1 lx
  have h2 := ref_least ys 0 ly
  intro m
  refine ACall.of_aw Tryz.func60 Tryz.ntmps60 rfl rfl (by simp) ?_
  refine tS ?_
  cases h3 : xs.any fun x => decide (x < 1) with
  | true =>
    rw [h3] at h1
    refine tS1 fun K Kp hK hKp => ?_; refine Gives.at (h1) ?_; apply hK; clear hK hKp K Kp
    refine tSa ?_
    refine tS1 fun K Kp hK hKp => ?_; refine Gives.at (ref_bad 1) ?_; apply hK; clear hK hKp K Kp
    refine tS ?_
    exact Fin.givesC (p := made omV 1) rfl (by simp [upd_lit]) Same.auto (by rfl)
  | false =>
    rw [h3] at h1
    rw [argB, h3, Bool.false_or] at hb
    rw [hb] at h2
    refine tS1 fun K Kp hK hKp => ?_; refine Gives.at (h1) ?_; apply hK; clear hK hKp K Kp
    refine tSg ?_
    refine tSc (h2) ?_
    refine tSa ?_
    refine tS1 fun K Kp hK hKp => ?_; refine Gives.at (ref_bad 1) ?_; apply hK; clear hK hKp K Kp
    refine tS ?_
    exact Fin.givesC (p := made omV 1) rfl (by simp [upd_lit]) Same.auto (by rfl)
end Go.Proofs.YtgfadepkiejncaaGreat
namespace Go.Proofs.YtgfadepkiejncaaGreat
open Go.Ab Go.Sort
set_option maxHeartbeats 0
set_option maxRecDepth 100000
attribute [local irreducible] AW AList ACall DA AExit.then AExit.inBlock YCall DCall

/-! ValRenames -/
abbrev rng64 (l : List Int) : Prop := ∀ x ∈ l, -9223372036854775808 ≤ x ∧ x < 9223372036854775808
theorem renamed_both {xs ys : List Int} (hx : rng64 xs) (hy : rng64 ys) (lx : xs.length < 1152921504606846976) (ly : ys.length < 1152921504606846976) {v : GV} (fv : Fm v) : ∃ w e, w.ok ∧ Gives Tryz.prog 59 [v.pv, intsP xs, intsP ys] (outP w e) ∧ Gives Tryz.prog 60 [v.pv, intsP xs, intsP ys] (made w e) := by
  have hn := fv.nodes
  cases hb : argB xs ys with
  | true => exact ⟨_, _, omV_ok, val_renamedE xs ys hb lx ly v, ref_renamedE xs ys hb lx ly v⟩
  | false =>
    obtain ⟨n1, n2⟩ := argB_ok hb hx hy
    exact ⟨_, _, (ren_ok n1 n2 v fv.good (by omega)).1.2, val_renamed xs ys n1 n2 hb lx ly v fv.good (by omega), ref_renamed xs ys n1 n2 hb lx ly v fv.good (by omega)⟩
theorem law9 (v : GV) (xs ys : List Int) (hv : v.ok) (hx : rng64 xs ∧ xs.length < 1152921504606846976) (hy : rng64 ys ∧ ys.length < 1152921504606846976) : Gives Tryz.prog 9 [v.pv, intsP xs, intsP ys] (vB true) := by
  intro m
  refine ACall.of_aw Tryz.func9 Tryz.ntmps9 rfl rfl (by simp) ?_
  refine tS ?_
  refine tS1 fun K Kp hK hKp => ?_; refine Gives.at (law_formed v hv) ?_; apply hK; clear hK hKp K Kp
  cases h1 : formedF v with
  | false =>
    have F := @h1; refine tFa ?_; (try clear F)
    refine tS1 fun K Kp hK hKp => ?_; refine Gives.at (sanity) ?_; apply hK; clear hK hKp K Kp
    refine tS ?_
    exact Fin.gives Same.auto
  | true =>
  by_cases h2 : 100 < (xs.length : Int)
  · have F := (aand @h1 @h2); refine tFg ?_; (try clear F)
    refine tSa ?_
    refine tS1 fun K Kp hK hKp => ?_; refine Gives.at (sanity) ?_; apply hK; clear hK hKp K Kp
    refine tS ?_
    exact Fin.gives Same.auto
  by_cases h3 : 100 < (ys.length : Int)
  · have F := (aand @h1 (aand @h2 @h3)); refine tFg ?_; (try clear F)
    refine tSa ?_
    refine tS1 fun K Kp hK hKp => ?_; refine Gives.at (sanity) ?_; apply hK; clear hK hKp K Kp
    refine tS ?_
    exact Fin.gives Same.auto
  have fv := formed_Fm hv h1
  obtain ⟨w, e, ow, a, b⟩ := renamed_both hx.1 hy.1 hx.2 hy.2 fv
  have F := (aand @h1 (aand @h2 @h3)); refine tFg ?_; (try clear F)
  refine tSa ?_
  refine tS1 fun K Kp hK hKp => ?_; refine Gives.at (a) ?_; apply hK; clear hK hKp K Kp
  refine tS ?_
  refine AW.draw [.R, .S, .R, .S, .R, .S, .S, .R, .R, .S, .S] (by decide +kernel) ?_; have F := True.intro; refine dC ((sanity)) 0 ?_; refine dS 1 ?_; refine dRG 2 ?_; refine dSG 3 ?_; refine dRG 4 ?_; refine dSG 5 ?_; refine dSG 6 ?_; refine dCG ((b)) 7 ?_; refine dCG ((same_self w e ow)) 8 ?_; refine dS 9 ?_; refine dS 10 ?_; (try clear F); first | refine dN ?_ | refine dB ?_ | refine DA.done (by decide +kernel) ?_
  refine tS ?_
  exact Fin.gives Same.auto
end Go.Proofs.YtgfadepkiejncaaGreat
