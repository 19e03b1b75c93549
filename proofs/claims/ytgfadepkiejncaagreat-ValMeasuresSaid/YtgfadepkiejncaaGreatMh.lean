/- Texts of the proof, part Mh: they prove nothing by themselves that is claimed. -/
import Derived.Test.YtgfadepkiejncaaGreatLd
import Derived.Test.YtgfadepkiejncaaGreatMa
import Derived.DataReads
import Derived.Carry
import Derived.ChangeShapes
import Derived.ProofKit
set_option linter.unusedVariables false
set_option linter.unusedSimpArgs false
/- Arguments, as the statements hand them in, seen as abstract values. -/
namespace Go.Ab
open Go.RowKit
section
variable {H : Type} {enc : TypeId × Value → H} {P : Program} {W : World}

/-- All that lies there never changes. -/
def argCtx (W : World) : Ctx := { x := ⟨fun _ => False, fun _ => False, W.heap.size, none, []⟩, base := W.heap.size, nloc := 0, loc := fun _ => 0, imm := fun b _ => b < W.heap.size, ntok := 0, tok := fun _ => 0, top := fun _ => 0, cp := fun _ => 0, wd := fun _ => 0 }
theorem argMem (W : World) : MemSim (argCtx W) St.empty W := by
  refine ⟨rfl, rfl, fun k hk => absurd hk (Nat.not_lt_zero _), fun n cs hn => absurd hn (Nat.not_lt_zero _), fun n cs hn => absurd hn (Nat.not_lt_zero _), fun n n' cs cs' hn => absurd hn (Nat.not_lt_zero _), fun b o h => h, Nat.le_refl _,
    fun k hk => absurd hk (Nat.not_lt_zero _), fun k hk => absurd hk (Nat.not_lt_zero _), fun k k' hk => absurd hk (Nat.not_lt_zero _), fun k n cs hk => absurd hk (Nat.not_lt_zero _), fun k cs hk => absurd hk (Nat.not_lt_zero _), ⟨fun n L hn => absurd hn (Nat.not_lt_zero _), fun n n' L L' hn => absurd hn (Nat.not_lt_zero _)⟩, ⟨fun n L hn => absurd hn (Nat.not_lt_zero _), fun n n' L L' hn => absurd hn (Nat.not_lt_zero _)⟩,
    ⟨fun D hD => hD.elim, fun l hl => hl.elim, (fun l hl => by cases hl), Nat.le_refl _⟩⟩

theorem cell_at {a : Addr} {n j : Nat} {u : Value} (h : W.cell? ((a.add n).add j) = some u) : cellAt W a.block (a.off + n + j) = some u ∧ a.block < W.heap.size := by
  have hs := World.cell?_spot h
  have hb : ((a.add n).add j).block = a.block ∧ ((a.add n).add j).off = a.off + n + j := by
    unfold Addr.add
    by_cases h1 : n = 0 <;> by_cases h2 : j = 0 <;> simp [h1, h2]
  have e : (a.add n).add j = ⟨a.block, a.off + n + j, none⟩ := by
    rw [← hb.1, ← hb.2, ← hs]
  rw [e] at h
  refine ⟨h, ?_⟩
  unfold World.cell? at h
  simp only at h
  rcases Nat.lt_or_ge a.block W.heap.size with q | q
  · exact q
  · rw [Array.getElem?_eq_none q] at h; cases h

/-- The rows of a slice, one behind the other. -/
theorem rows_build {T : Type} {rep : T → List PV} {ok : T → Prop} {s : Nat} {a : Addr} (hl : ∀ x, (rep x).length = s) : ∀ len : Nat,
    (∀ i, i < len → ∃ x us, ok x ∧ LRep (argCtx W) W (rep x) us ∧ (∀ u ∈ us, u.oneCell' = true) ∧ ∀ (j : Nat) (u : Value), us[j]? = some u → W.cell? ((a.add (i * s)).add j) = some u) →
    ∃ xs : List T, xs.length = len ∧ SRep (argCtx W) W (xs.map rep) a.block a.off ∧ ∀ x ∈ xs, ok x
  | 0, _ => ⟨[], rfl, trivial, fun x hx => by cases hx⟩
  | len + 1, h => by
    obtain ⟨xs, h1, h2, h3⟩ := rows_build hl len (fun i hi => h i (by omega))
    obtain ⟨x, us, h4, h5, h6, h7⟩ := h len (by omega)
    refine ⟨xs ++ [x], by simp [h1], ?_, fun y hy => ?_⟩
    · rw [List.map_append, List.map_cons, List.map_nil]
      refine (SRep.flat _ _ _).2 ?_
      rw [List.flatten_append]
      have hfl : (xs.map rep).flatten.length = len * s := by
        rw [RowsW.flat (s := s) (fun r hr => by obtain ⟨y, _, rfl⟩ := List.mem_map.1 hr; exact hl y), List.length_map, h1]
      refine CRep.append _ _ _ _ ((SRep.flat _ _ _).1 h2) ?_
      rw [hfl]
      simp only [List.flatten_cons, List.flatten_nil, List.append_nil]
      refine CRep.mk (rep x) us _ _ h5 fun i u hi => ?_
      have hc := h7 i u hi
      obtain ⟨k1, k2⟩ := cell_at hc
      exact ⟨k1, h6 u (List.mem_of_getElem? hi), k2⟩
    · rcases List.mem_append.1 hy with hy | hy
      · exact h3 y hy
      · simp at hy; subst hy; exact h4

theorem weightsAll_mem {e : TypeId} : ∀ (l : List (DataW H)) (d : DataW H), d ∈ l → ∀ n ∈ d.weights P e, n ∈ DataW.weightsAll P e l
  | x :: l, d, hd, n, hn => by
    simp only [DataW.weightsAll, List.mem_append]
    rcases List.mem_cons.1 hd with rfl | hd
    · exact .inl hn
    · exact .inr (weightsAll_mem l d hd n hn)
/-- A slice that is read as data. -/
theorem slice_build {T : Type} {rep : T → List PV} {ok : T → Prop} {s t e fuel : Nat} {cs : List Value} {d : DataW H} {ps : List MemPlace} (ht : P.underlying t = some (.slice e)) (hse : P.cellsOf e = s) (hl : ∀ x, (rep x).length = s) (hs0 : 0 < s)
    (elem : ∀ us d ps, us.length = s → DataW.trod enc P W 0 (fun _ => true) true fuel e us = some (d, ps) → (∀ n ∈ d.weights P e, n ≤ reachBytes) → ∃ x, ok x ∧ LRep (argCtx W) W (rep x) us ∧ ∀ u ∈ us, u.oneCell' = true)
    (h : DataW.trod enc P W 0 (fun _ => true) true (fuel + 1) t cs = some (d, ps)) (hw : ∀ n ∈ d.weights P t, n ≤ reachBytes) :
    ∃ (xs : List T) (u : Value), cs = [u] ∧ VRep (argCtx W) W (.list .no (xs.map rep)) u ∧ u.oneCell' = true ∧ (∀ x ∈ xs, ok x) ∧ xs.length * P.bytesOf e ≤ reachBytes := by
  simp only [DataW.trod, ht] at h
  split at h
  all_goals first | (cases h; done) | skip
  · rename_i hq; cases hq
  · rename_i hq; cases hq
  · rename_i hq; cases hq
  · rename_i hq; cases hq
  · rename_i hq; cases hq
  · rename_i hq; cases hq
  · exact ⟨[], _, rfl, ⟨none, 0, rfl, Nat.le_refl _, fun _ => rfl, (fun ad q => by cases q), trivial⟩, rfl, (fun x hx => by cases hx), by simp⟩
  · rename_i e' a len cap e1
    cases e1
    split at h
    · rename_i hq
      obtain ⟨_, hlc, hcm⟩ := hq
      cases hm : (List.range len).mapM (fun i => (W.cells? 0 (a.add (i * P.cellsOf e)) (P.cellsOf e)).bind (DataW.trod enc P W 0 (fun _ => true) true fuel e)) with
      | none => rw [hm] at h; simp at h
      | some elems =>
        rw [hm] at h
        simp only [Option.bind_some, if_true] at h
        cases hm2 : (List.range (cap - len)).mapM (fun j => (W.cells? 0 (a.add ((len + j) * P.cellsOf e)) (P.cellsOf e)).bind (DataW.trod enc P W 0 (fun _ => true) true fuel e)) with
        | none => rw [hm2] at h; simp at h
        | some rest =>
          rw [hm2] at h
          simp only [Option.map_some, Option.some.injEq, Prod.mk.injEq] at h
          obtain ⟨rfl, rfl⟩ := h
          have hlen : elems.length = len := by rw [mapM_some_length hm]; simp
          have hw' : (elems.length + rest.length) * P.bytesOf e ≤ reachBytes := by
            have := hw ((elems.length + rest.length) * P.bytesOf e) (by simp [DataW.weights, ht])
            exact this
          have cellsr : ∀ n us, W.cells? 0 (a.add n) (P.cellsOf e) = some us → us.length = s ∧ ∀ (j : Nat) (u : Value), us[j]? = some u → W.cell? ((a.add n).add j) = some u := by
            intro n us hc
            unfold World.cells? at hc
            simp only [Nat.zero_le, if_true] at hc
            have hl2 := mapM_some_length hc
            refine ⟨by rw [hl2]; simp [hse], fun j u hj => ?_⟩
            have hlt := (List.getElem?_eq_some_iff.1 hj).1
            have := mapM_some_get hc j j (by rw [List.getElem?_range (by rw [hl2] at hlt; simpa using hlt)])
            rw [this]; exact hj
          have key : ∀ i, i < len → ∃ x us, ok x ∧ LRep (argCtx W) W (rep x) us ∧ (∀ u ∈ us, u.oneCell' = true) ∧ ∀ (j : Nat) (u : Value), us[j]? = some u → W.cell? ((a.add (i * s)).add j) = some u := by
            intro i hi
            have hg := mapM_some_get hm i i (by rw [List.getElem?_range hi])
            cases hc : W.cells? 0 (a.add (i * P.cellsOf e)) (P.cellsOf e) with
            | none => rw [hc] at hg; simp at hg; omega
            | some us =>
              rw [hc] at hg
              simp only [Option.bind_some] at hg
              obtain ⟨k1, k2⟩ := cellsr _ _ hc
              rw [List.getElem?_eq_getElem (by omega)] at hg
              obtain ⟨x, x1, x2, x3⟩ := elem us _ _ k1 (hg.trans rfl) (fun n hn => hw n (by
                simp only [DataW.weights, ht, List.mem_cons, List.mem_append]
                refine .inr (.inl (weightsAll_mem _ _ ?_ n hn))
                exact List.mem_map.2 ⟨_, List.getElem_mem (by omega), rfl⟩))
              exact ⟨x, us, x1, x2, x3, by rw [hse] at k2; exact k2⟩
          obtain ⟨xs, x1, x2, x3⟩ := rows_build hl len key
          refine ⟨xs, _, rfl, ⟨some a, cap, by rw [List.length_map, x1], by rw [List.length_map, x1]; exact hlc, (fun q => by cases q), (fun ad q => ?_), trivial⟩, rfl, x3, ?_⟩
          · cases q
            refine ⟨?_, x2⟩
            by_cases hc0 : cap = 0
            · exact .inl hc0
            · right
              have : ∃ us, W.cells? 0 (a.add 0) (P.cellsOf e) = some us := by
                by_cases hl0 : 0 < len
                · have hg := mapM_some_get hm 0 0 (by rw [List.getElem?_range hl0])
                  cases hc : W.cells? 0 (a.add (0 * P.cellsOf e)) (P.cellsOf e) with
                  | none => rw [hc] at hg; simp at hg; subst hg; simp at hlen; omega
                  | some us => exact ⟨us, by simpa using hc⟩
                · have hl0 : len = 0 := by omega
                  subst hl0
                  have hg := mapM_some_get hm2 0 0 (by rw [List.getElem?_range (by omega)])
                  have hrl := mapM_some_length hm2
                  simp only [List.length_range] at hrl
                  cases hc : W.cells? 0 (a.add ((0 + 0) * P.cellsOf e)) (P.cellsOf e) with
                  | none => rw [hc] at hg; simp at hg; subst hg; simp at hrl; omega
                  | some us => exact ⟨us, by simpa using hc⟩
              obtain ⟨us, hus⟩ := this
              obtain ⟨k1, k2⟩ := cellsr _ _ hus
              have := k2 0 (us[0]'(by omega)) (by rw [List.getElem?_eq_getElem])
              have h3 := World.cell?_spot this
              simpa [Addr.add] using h3
          · rw [x1, ← hlen]
            exact Nat.le_trans (Nat.mul_le_mul_right _ (Nat.le_add_right _ _)) hw'
    · cases h
  all_goals (rename_i hq; cases hq)
end
end Go.Ab
/- api.Val arguments as trees. -/
namespace Go.Proofs.YtgfadepkiejncaaGreat
open Go.Ab
set_option maxHeartbeats 0
set_option maxRecDepth 100000
section
variable {H : Type} {enc : TypeId × Value → H} {W : World}
theorem und27 : Tryz.prog.underlying 27 = some (.struct #[{ name := "Kind", type := 3, offset := 0, embedded := false, tag := "", pkgPath := "", byteOffset := 0 }, { name := "N", type := 3, offset := 1, embedded := false, tag := "", pkgPath := "", byteOffset := 8 },
  { name := "Int", type := 24, offset := 2, embedded := false, tag := "", pkgPath := "", byteOffset := 16 }, { name := "Str", type := 9, offset := 4, embedded := false, tag := "", pkgPath := "", byteOffset := 48 }, { name := "L", type := 25, offset := 5, embedded := false, tag := "", pkgPath := "", byteOffset := 64 }]) := by kernel_rfl
theorem und24 : Tryz.prog.underlying 24 = some (.struct #[{ name := "Neg", type := 4, offset := 0, embedded := false, tag := "", pkgPath := "", byteOffset := 0 }, { name := "Abs", type := 22, offset := 1, embedded := false, tag := "", pkgPath := "", byteOffset := 8 }]) := by kernel_rfl
theorem und25 : Tryz.prog.underlying 25 = some (.slice 27) := by kernel_rfl
theorem und22 : Tryz.prog.underlying 22 = some (.slice 33) := by kernel_rfl
theorem und57 : Tryz.prog.underlying 57 = some (.slice 3) := by kernel_rfl
theorem und33 : Tryz.prog.underlying 33 = some (.int .u32) := by kernel_rfl
theorem und3 : Tryz.prog.underlying 3 = some (.int .i64) := by kernel_rfl
theorem und4 : Tryz.prog.underlying 4 = some .bool := by kernel_rfl
theorem und9 : Tryz.prog.underlying 9 = some .string := by kernel_rfl
theorem co27 : Tryz.prog.cellsOf 27 = 6 := by kernel_rfl
theorem co24 : Tryz.prog.cellsOf 24 = 2 := by kernel_rfl
theorem co25 : Tryz.prog.cellsOf 25 = 1 := by kernel_rfl
theorem co22 : Tryz.prog.cellsOf 22 = 1 := by kernel_rfl
theorem co33 : Tryz.prog.cellsOf 33 = 1 := by kernel_rfl
theorem co3 : Tryz.prog.cellsOf 3 = 1 := by kernel_rfl
theorem co4 : Tryz.prog.cellsOf 4 = 1 := by kernel_rfl
theorem co9 : Tryz.prog.cellsOf 9 = 1 := by kernel_rfl
theorem bo27 : Tryz.prog.bytesOf 27 = 88 := by kernel_rfl
theorem bo33 : Tryz.prog.bytesOf 33 = 4 := by kernel_rfl
theorem bo3 : Tryz.prog.bytesOf 3 = 8 := by kernel_rfl

theorem trod_int {P : Program} {t fuel : Nat} {k : IntKind} {cs : List Value} {d : DataW H} {ps : List MemPlace} (ht : P.underlying t = some (.int k)) (h : DataW.trod enc P W 0 (fun _ => true) true fuel t cs = some (d, ps)) : ∃ n, cs = [.int k n] ∧ (Lit.int k n).wf = true := by
  cases fuel with
  | zero => cases h
  | succ fuel =>
    simp only [DataW.trod, ht] at h
    split at h
    all_goals first | (cases h; done) | skip
    · rename_i hq; cases hq
    · rename_i k' k2 n hq
      cases hq
      split at h
      · rename_i hq; obtain ⟨rfl, hq⟩ := hq; exact ⟨n, rfl, hq⟩
      · cases h
    all_goals (rename_i hq; cases hq)
theorem trod_bool {P : Program} {t fuel : Nat} {cs : List Value} {d : DataW H} {ps : List MemPlace} (ht : P.underlying t = some .bool) (h : DataW.trod enc P W 0 (fun _ => true) true fuel t cs = some (d, ps)) : ∃ b, cs = [.bool b] := by
  cases fuel with
  | zero => cases h
  | succ fuel =>
    simp only [DataW.trod, ht] at h
    split at h
    all_goals first | (cases h; done) | skip
    · rename_i b hq; exact ⟨b, rfl⟩
    all_goals (rename_i hq; cases hq)
theorem trod_string {P : Program} {t fuel : Nat} {cs : List Value} {d : DataW H} {ps : List MemPlace} (ht : P.underlying t = some .string) (h : DataW.trod enc P W 0 (fun _ => true) true fuel t cs = some (d, ps)) (hw : ∀ n ∈ d.weights P t, n ≤ reachBytes) : ∃ s, cs = [.string s] ∧ s.size ≤ reachBytes := by
  cases fuel with
  | zero => cases h
  | succ fuel =>
    simp only [DataW.trod, ht] at h
    split at h
    all_goals first | (cases h; done) | skip
    · rename_i hq; cases hq
    · rename_i hq; cases hq
    · rename_i hq; cases hq
    · rename_i s hq
      split at h
      · cases h
        refine ⟨s, rfl, ?_⟩
        have := hw s.data.toList.length (by simp [DataW.weights])
        simpa using this
      · cases h
    all_goals (rename_i hq; cases hq)

theorem okL_of : ∀ (l : List GV), (∀ v ∈ l, v.ok) → GV.okL l
  | [], _ => trivial
  | v :: l, h => ⟨h v (by simp), okL_of l fun x hx => h x (by simp [hx])⟩

theorem trod_struct {P : Program} {t fuel : Nat} {fs : Array Field} {cs : List Value} {d : DataW H} {ps : List MemPlace} (ht : P.underlying t = some (.struct fs)) (h : DataW.trod enc P W 0 (fun _ => true) true (fuel + 1) t cs = some (d, ps)) :
    cs.length = P.cellsOf t ∧ ∃ xs, fs.toList.mapM (fun f => DataW.trod enc P W 0 (fun _ => true) true fuel f.type ((cs.drop f.offset).take (P.cellsOf f.type))) = some xs ∧ d = .agg (xs.map (·.1)) := by
  simp only [DataW.trod, ht] at h
  split at h
  · rename_i hl
    cases hm : fs.toList.mapM (fun f => DataW.trod enc P W 0 (fun _ => true) true fuel f.type ((cs.drop f.offset).take (P.cellsOf f.type))) with
    | none => rw [hm] at h; simp at h
    | some xs =>
      rw [hm] at h
      simp only [Option.map_some, Option.some.injEq, Prod.mk.injEq] at h
      exact ⟨hl, xs, rfl, h.1.symm⟩
  · cases h

theorem mapM_cons_some {α β : Type} {f : α → Option β} {x : α} {l : List α} {ys : List β} (h : (x :: l).mapM f = some ys) : ∃ y ys', ys = y :: ys' ∧ f x = some y ∧ l.mapM f = some ys' := by
  rw [List.mapM_cons] at h
  cases hx : f x with
  | none => simp [hx] at h
  | some y =>
    cases hl : l.mapM f with
    | none => simp [hx, hl] at h
    | some ys' => simp [hx, hl] at h; exact ⟨y, ys', h.symm, rfl, rfl⟩
theorem mapM_nil_some {α β : Type} {f : α → Option β} {ys : List β} (h : ([] : List α).mapM f = some ys) : ys = [] := by simpa using h.symm

theorem i64_rng {n : Int} (h : (Lit.int .i64 n).wf = true) : -9223372036854775808 ≤ n ∧ n < 9223372036854775808 := by
  simp only [Lit.wf, Bool.and_eq_true, decide_eq_true_eq] at h
  have h1 : IntKind.i64.min = -9223372036854775808 := rfl
  have h2 : IntKind.i64.max = 9223372036854775807 := rfl
  omega
theorem u32_rng {n : Int} (h : (Lit.int .u32 n).wf = true) : 0 ≤ n ∧ n < 4294967296 := by
  simp only [Lit.wf, Bool.and_eq_true, decide_eq_true_eq] at h
  have h1 : IntKind.u32.min = 0 := rfl
  have h2 : IntKind.u32.max = 4294967295 := rfl
  omega

theorem trod22 {fuel : Nat} {cs : List Value} {d : DataW H} {ps : List MemPlace} (h : DataW.trod enc Tryz.prog W 0 (fun _ => true) true fuel 22 cs = some (d, ps)) (hw : ∀ n ∈ d.weights Tryz.prog 22, n ≤ reachBytes) :
    ∃ (xs : List Int) (u : Value), cs = [u] ∧ VRep (argCtx W) W (.list .no (limbs xs)) u ∧ u.oneCell' = true ∧ (∀ x ∈ xs, 0 ≤ x ∧ x < 4294967296) ∧ xs.length < 1152921504606846976 := by
  cases fuel with
  | zero => cases h
  | succ fuel =>
    obtain ⟨xs, u, h1, h2, h3, h4, h5⟩ := slice_build (T := Int) (rep := fun x => [vW x]) (ok := fun x => 0 ≤ x ∧ x < 4294967296) und22 co33 (fun _ => rfl) (by decide) (fun us d ps hl he _ => by
      obtain ⟨n, rfl, hn⟩ := trod_int und33 he
      exact ⟨n, u32_rng hn, ⟨_, _, rfl, rfl, rfl⟩, fun u hu => by simp at hu; subst hu; rfl⟩) h hw
    refine ⟨xs, u, h1, h2, h3, h4, ?_⟩
    rw [bo33] at h5
    have : reachBytes = 140737488351232 := rfl
    omega

theorem trod27 : ∀ (fuel : Nat) (cs : List Value) (d : DataW H) (ps : List MemPlace), DataW.trod enc Tryz.prog W 0 (fun _ => true) true fuel 27 cs = some (d, ps) → (∀ n ∈ d.weights Tryz.prog 27, n ≤ reachBytes) →
    ∃ v : GV, v.ok ∧ LRep (argCtx W) W v.cells cs ∧ (∀ u ∈ cs, u.oneCell' = true)
  | 0, cs, d, ps, h, _ => by cases h
  | fuel + 1, cs, d, ps, h, hw => by
    obtain ⟨hl, xs, hm, rfl⟩ := trod_struct und27 h
    rw [co27] at hl
    obtain ⟨x0, xs, rfl, h0, hm⟩ := mapM_cons_some hm
    obtain ⟨x1, xs, rfl, h1, hm⟩ := mapM_cons_some hm
    obtain ⟨x2, xs, rfl, h2, hm⟩ := mapM_cons_some hm
    obtain ⟨x3, xs, rfl, h3, hm⟩ := mapM_cons_some hm
    obtain ⟨x4, xs, rfl, h4, hm⟩ := mapM_cons_some hm
    have := mapM_nil_some hm
    subst this
    have hw2 : (∀ n ∈ x2.1.weights Tryz.prog 24, n ≤ reachBytes) ∧ (∀ n ∈ x3.1.weights Tryz.prog 9, n ≤ reachBytes) ∧ (∀ n ∈ x4.1.weights Tryz.prog 25, n ≤ reachBytes) := by
      refine ⟨fun n hn => hw n ?_, fun n hn => hw n ?_, fun n hn => hw n ?_⟩ <;>
        (simp only [DataW.weights, und27, List.map_cons, List.map_nil, DataW.weightsEach, List.mem_append]; simp [hn])
    obtain ⟨w2, w3, w4⟩ := hw2
    obtain ⟨c0, c1, c2, c3, c4, c5, rfl⟩ : ∃ c0 c1 c2 c3 c4 c5, cs = [c0, c1, c2, c3, c4, c5] := by
      match cs, hl with
      | [c0, c1, c2, c3, c4, c5], _ => exact ⟨c0, c1, c2, c3, c4, c5, rfl⟩
    simp only [co3, co24, co9, co25, List.drop_zero, List.take_succ_cons, List.take_zero, List.drop_succ_cons] at h0 h1 h2 h3 h4
    obtain ⟨n0, e0, r0⟩ := trod_int und3 h0
    obtain ⟨n1, e1, r1⟩ := trod_int und3 h1
    obtain ⟨s, e3, r3⟩ := trod_string und9 h3 w3
    cases e0; cases e1; cases e3
    cases fuel with
    | zero => cases h0
    | succ fuel =>
    -- the integer
    obtain ⟨_, ys, hn, hx2⟩ := trod_struct und24 h2
    obtain ⟨y0, ys, rfl, g0, hn⟩ := mapM_cons_some hn
    obtain ⟨y1, ys, rfl, g1, hn⟩ := mapM_cons_some hn
    have := mapM_nil_some hn
    subst this
    simp only [co4, co22, List.drop_zero, List.take_succ_cons, List.take_zero, List.drop_succ_cons] at g0 g1
    have w22 : ∀ n ∈ y1.1.weights Tryz.prog 22, n ≤ reachBytes := fun n hn => w2 n (by
      rw [hx2]
      simp only [DataW.weights, und24, List.map_cons, List.map_nil, DataW.weightsEach, List.mem_append]; simp [hn])
    obtain ⟨b, e2⟩ := trod_bool und4 g0
    cases e2
    obtain ⟨ls, u, e2, l1, l2, l3, l4⟩ := trod22 g1 w22
    cases e2
    -- the elements
    obtain ⟨vs, u', e4, v1, v2, v3, v4⟩ := slice_build (T := GV) (rep := GV.cells) (ok := GV.ok) und25 co27 cells_len (by decide) (fun us d ps _ he hwe => trod27 fuel us d ps he hwe) h4 w4
    cases e4
    rw [← GV.rows_eq] at v1
    refine ⟨.mk n0 n1 b ls s vs, ⟨i64_rng r0, i64_rng r1, l4, ?_, ?_, l3, okL_of vs v3⟩, ?_, ?_⟩
    · have : reachBytes = 140737488351232 := rfl
      omega
    · rw [bo27] at v4
      have : reachBytes = 140737488351232 := rfl
      omega
    · exact ⟨_, _, rfl, rfl, _, _, rfl, rfl, _, _, rfl, rfl, _, _, rfl, l1, _, _, rfl, rfl, _, _, rfl, v1, rfl⟩
    · intro x hx
      simp only [List.mem_cons, List.not_mem_nil, or_false] at hx
      rcases hx with rfl | rfl | rfl | rfl | rfl | rfl
      · rfl
      · rfl
      · rfl
      · exact l2
      · rfl
      · exact v2
termination_by fuel => fuel
end
end Go.Proofs.YtgfadepkiejncaaGreat
/- A law's row out of its contract. -/
namespace Go.Proofs.YtgfadepkiejncaaGreat
open Go.Ab Go.ChangeShapes Go.WideShapes Go.ChangeAt Go.RowKit
set_option maxHeartbeats 0
set_option maxRecDepth 100000
theorem own : ownKnob Tryz.prog.godebug = none := by kernel_rfl
theorem laidOut : laidOutB Tryz.prog = true := by kernel_rfl
section
variable {H : Type} {enc : TypeId × Value → H}

theorem stays {W W' : World} (hb : Below W.heap.size W W') {sp : Nat → Bool} : ∀ (ts : List TypeId) (vs : List Value) (ds : List (DataW H)) (ps : List MemPlace), (∀ t ∈ ts, Tryz.prog.readableRec t = true ∧ t < Tryz.prog.types.size) →
    DataW.TrodAll enc Tryz.prog W 0 (fun _ => true) true ts vs ds ps → (∀ p ∈ ps, sp p.block = true) → (∀ p ∈ ps, p.block < W.heap.size) → DataW.TrodAll enc Tryz.prog W' 0 sp true ts vs ds ps
  | [], vs, ds, ps, _, h, _, _ => by
    cases vs <;> cases ds <;> simp [DataW.TrodAll] at h ⊢
    exact h
  | t :: ts, vs, ds, ps, ht, h, hs, hl => by
    obtain ⟨v, vs', d, ds', p, q, rfl, rfl, rfl, h1, h2⟩ := trodAll_cons h
    obtain ⟨r1, r2⟩ := ht t (by simp)
    refine ⟨p, q, ?_, ?_, rfl⟩
    · exact (WideElems.Trod_stays laidOut r1 r2 h1 (fun x hx => hb.same (hl x (by simp [hx]))) (fun x hx => hs x (by simp [hx])))
    · exact (stays hb ts vs' ds' q (fun t' ht' => ht t' (by simp [ht'])) h2 (fun x hx => hs x (by simp [hx])) (fun x hx => hl x (by simp [hx])))

theorem law_post {fn : Func} {s : ChangeSpec} {apart fresh handsOn again : Bool} {W W' : World} {args : Array Value} {ds gs : List (DataW H)} {before : List MemPlace}
    (hW : DataW.Whole enc Tryz.prog fn.params.toList s.vars apart W args.toList ds gs before) (hv : s.vars = []) (hres : fn.resultTypes = #[4]) (hts : ∀ t ∈ fn.params.toList, Tryz.prog.readableRec t = true ∧ t < Tryz.prog.types.size)
    (hs1 : ∀ ds : List (DataW H), ds.length = fn.params.toList.length → (s.fn H ds).results = [.lit (.bool true)] ∧ (s.fn H ds).args = ds ∧ (s.fn H ds).vars = []) (hb : Below W.heap.size W W') :
    s.post enc Tryz.prog fn apart fresh handsOn again W args (.bool true) W' := by
  have hW0 := hW
  have hlt := hW.lt
  obtain ⟨p, q, hA, hV, rfl, hz, hn⟩ := hW
  rw [hv] at hV
  obtain ⟨rfl, rfl⟩ := trodVars_none hV
  have hlen : ds.length = fn.params.toList.length := by
    have : ∀ (ts : List TypeId) (vs : List Value) (ds : List (DataW H)) (ps : List MemPlace), DataW.TrodAll enc Tryz.prog W 0 (fun _ => true) true ts vs ds ps → ds.length = ts.length := by
      intro ts
      induction ts with
      | nil => intro vs ds ps h; cases vs <;> cases ds <;> simp [DataW.TrodAll] at h ⊢
      | cons t ts ih =>
        intro vs ds ps h
        obtain ⟨v, vs', d, ds', p, q, rfl, rfl, rfl, h1, h2⟩ := trodAll_cons h
        simp [ih _ _ _ h2]
    exact this _ _ _ _ hA
  simp only [List.append_nil] at hW0 hlt hz hn
  obtain ⟨e1, e2, e3⟩ := hs1 ds hlen
  have e1' : (s.fn H (ds ++ [])).results = [.lit (.bool true)] := by rw [List.append_nil]; exact e1
  have e2' : (s.fn H (ds ++ [])).args = ds := by rw [List.append_nil]; exact e2
  have e3' : (s.fn H (ds ++ [])).vars = [] := by rw [List.append_nil]; exact e3
  have hold : ∀ x ∈ p, x.block < W.heap.size := fun x hx => hlt x hx
  have hA2 : ∀ sp : Nat → Bool, (∀ x ∈ p, sp x.block = true) → DataW.TrodAll enc Tryz.prog W' 0 sp true fn.params.toList args.toList ds p := fun sp hsp => stays hb _ _ _ _ hts hA hsp hold
  have hrl : (Value.bool true).resultList fn.resultTypes.size = [.bool true] := by rw [hres]; rfl
  have hR : ∀ (b : Nat) (sp : Nat → Bool) (hd : Bool), DataW.TrodAll enc Tryz.prog W' b sp hd fn.resultTypes.toList ((Value.bool true).resultList fn.resultTypes.size) [.lit (.bool true)] [] := by
    intro b sp hd
    rw [hrl, hres]
    exact trodAll_mk1 (shut_bool und4 true)
  have hk : W.keptBut W' (fun x => x ∈ p ∧ (x ∈ ([] : List MemPlace) ∨ x ∈ p ∨ x ∈ ([] : List MemPlace))) := by
    refine ⟨hb.os, hb.output, fun i hi => ?_⟩
    rw [hb.block i hi]
    generalize W.heap[i]? = o
    cases o with
    | none => rfl
    | some o => cases o <;> first | exact ⟨rfl, rfl, rfl, fun _ _ => rfl⟩ | exact .inr ⟨rfl, rfl⟩ | rfl
  refine ⟨ds, [], p, [], p, [], by simpa using hW0, by rw [e1']; exact hR _ _ _, by rw [e2']; exact hA2 _ (fun x hx => by simpa using hold x hx), by rw [hv, e3']; rfl, hk, fun _ => ⟨?_, ?_⟩⟩
  · exact ok_one (t := 4) hres rfl (okWide_bool_mk und4 true)
  · refine ⟨[.lit (.bool true)] ++ ds, [], ([] ++ p) ++ [], ⟨[] ++ p, [], ?_, by rw [hv]; rfl, rfl, ?_, ?_⟩, ?_⟩
    · exact trodAll_append (hA2 _ (fun _ _ => rfl)) (hR _ _ _)
    · intro b off hp
      have hp' : MemPlace.cell b off ∈ p := by simpa using hp
      have := hz b off hp'
      have hbl := hold _ hp'
      unfold World.frozen? at this ⊢
      rw [hb.block b hbl]; exact this
    · intro ha; simpa using hn ha
    · intro x hx _; simpa using hx

/-- What is read of the arguments, one behind the other. -/
theorem weights_cons {t : TypeId} {ts : List TypeId} {d : DataW H} {ds : List (DataW H)} (h : ∀ n ∈ DataW.weightsEach Tryz.prog (t :: ts) (d :: ds), n ≤ reachBytes) : (∀ n ∈ d.weights Tryz.prog t, n ≤ reachBytes) ∧ ∀ n ∈ DataW.weightsEach Tryz.prog ts ds, n ≤ reachBytes := by
  simp only [DataW.weightsEach, List.mem_append] at h
  exact ⟨fun n hn => h n (.inl hn), fun n hn => h n (.inr hn)⟩
theorem arg27 {W : World} {v : Value} {d : DataW H} {p : List MemPlace} (hv : Value.okWide Tryz.prog W .any 0 27 v ∨ True) (h : DataW.Trod enc Tryz.prog W 0 (fun _ => true) true 27 v d p) (hok : ∃ cs, v = .agg cs) (hw : ∀ n ∈ d.weights Tryz.prog 27, n ≤ reachBytes) :
    ∃ g : GV, g.ok ∧ VRep (argCtx W) W g.pv v := by
  obtain ⟨fuel, hf⟩ := h
  obtain ⟨cs, rfl⟩ := hok
  obtain ⟨g, h1, h2, _⟩ := trod27 fuel _ d p hf hw
  exact ⟨g, h1, cs, rfl, h2⟩
theorem okWide_agg27 {W : World} {base : Nat} {v : Value} (h : Value.okWide Tryz.prog W .any base 27 v) : ∃ cs, v = .agg cs := by
  unfold Value.okWide at h
  rw [und27] at h
  obtain ⟨cs, h1, _⟩ := h
  exact ⟨cs, h1⟩
/-- From the contract to the call. -/
theorem law_calls {f : FuncId} {args : List PV} (hc : ACall Tryz.prog f args St.empty (fun r _ => r = .ret (vB true))) {W : World} {us : Array Value} (h : LRep (argCtx W) W args us.toList) :
    Calls Tryz.prog f us W fun e W' => e = .returned (.bool true) ∧ Below W.heap.size W W' := by
  have := hc.2 (argCtx W) W us.toList (argMem W) h
  rw [Array.toArray_toList] at this
  refine this.mono ?_
  rintro e w' ⟨r, m', Γ', rfl, h2, _, h4, _⟩
  cases e <;> simp only [ERep] at h2
  exact ⟨by rw [h2], h4.below⟩
end
end Go.Proofs.YtgfadepkiejncaaGreat
