/- Texts of the proof, part Lb: they prove nothing by themselves that is claimed. -/
import Derived.Test.YtgfadepkiejncaaGreatLa
import Derived.Laws.Tables
import Derived.Laws.MakeOwn
import Derived.RangeFuncLeaves
set_option linter.unusedVariables false
set_option linter.unusedSimpArgs false
/- The abstract layer, 8: one operation's abstract step is sound (what makes or writes memory). Over any program. -/
namespace Go.Ab
open Go.RowKit

section
variable {P : Program} {m : St} {K Kp : PV → St → Prop} {Γ : Ctx} {w : World}

theorem newVar_run (t : TypeId) (v : Value) (w : World) : (newVar t v).run P w = .ok ⟨w.heap.size, 0, none⟩ (w.alloc (.cells v.cells t)) := rfl

theorem sound_box {e : TypeId} {x : PV} {u : Value} {cs : List PV} (hc : cells1 x = some cs) (h : K (.loc m.nloc 0) (m.newLoc cs)) (hm : MemSim Γ m w) (hx : VRep Γ w x u) :
    Then Γ w K (.pointer (some ⟨w.heap.size, 0, none⟩)) (w.alloc (.cells u.cells e)) := by
  obtain ⟨h1, h2⟩ := cells1_rep hc hx
  obtain ⟨h3, h4⟩ := hm.newLoc h1 h2 e
  refine ⟨_, _, _, h, ⟨by show m.nloc < Γ.nloc + 1; rw [hm.nloc]; omega, ?_⟩, Ctx.le_newLoc Γ _, h4, h3⟩
  show _ = Value.pointer (some ⟨upd Γ.loc Γ.nloc w.heap.size m.nloc, 0, none⟩)
  rw [hm.nloc, upd_same]

theorem zOK_spec {z : Value} (h : zOK z = true) : ∀ u ∈ z.cells.toList, u.oneCell' = true := by
  exact List.all_eq_true.1 h

theorem sound_alloc {e : TypeId} {z : Value} (hz : tzero P e = some z) (h1 : zOK z = true) (h : K (.loc m.nloc 0) (m.newLoc (zcells z))) (hm : MemSim Γ m w) :
    ∃ v w', (Instr.alloc e true (.tuple #[])).run P w = .ok v w' ∧ Then Γ w K v w' := by
  obtain ⟨h3, h4⟩ := hm.newLoc (us := z.cells) (ofVs_rep Γ w z.cells.toList) (zOK_spec h1) e
  refine ⟨.pointer (some ⟨w.heap.size, 0, none⟩), w.alloc (.cells z.cells e), ?_, ⟨_, _, _, h, ⟨by show m.nloc < Γ.nloc + 1; rw [hm.nloc]; omega, ?_⟩, Ctx.le_newLoc Γ _, h4, h3⟩⟩
  · simp only [Instr.alloc, Sem.run_bind, run_zero hz, Result.andThen_ok, newVar_run, Sem.run_pure]
  · show _ = Value.pointer (some ⟨upd Γ.loc Γ.nloc w.heap.size m.nloc, 0, none⟩)
    rw [hm.nloc, upd_same]

theorem sound_store {t : TypeId} {x y : PV} {u v : Value} (h : astore P t x y m K) (hm : MemSim Γ m w) (hx : VRep Γ w x u) (hy : VRep Γ w y v) :
    ∃ w', (Instr.storeAt t u v).run P w = .ok () w' ∧ Then Γ w K undef w' := by
  obtain ⟨ht, h⟩ := h
  split at h
  · rename_i n off xs hc
    obtain ⟨hn, rfl⟩ := hx
    cases hl : m.loc n with
    | none => simp [hl] at h
    | some cs =>
      simp only [hl] at h
      obtain ⟨hn', hlen, hfit, hk⟩ := h
      obtain ⟨h1, h2⟩ := cells1_rep hc hy
      obtain ⟨c, hb, hr, h3⟩ := hm.locs n cs hn' hl
      obtain ⟨h4, h5⟩ := hm.setLoc (off := off) hn' hl h1 h2 (by omega)
      have hvl : v.cells.toList.length = tsize P t := by rw [LRep.len _ _ h1, hlen]
      have hcl := LRep.len _ _ hr
      refine ⟨_, ?_, ⟨.any, _, Γ, hk, trivial, Ctx.le.refl _, h5, h4⟩⟩
      have hst := run_storeCells_cells (P := P) (Γ.loc n) off v.cells.toList 0 w (fun j hj => by
          show (cellAt w (Γ.loc n) (off + 0 + j)).isSome = true
          rw [cellAt_blk hb (by omega), List.getElem?_eq_getElem (by omega)]; rfl) (fun j hj => hb.frozen _) h2
      simp only [Instr.storeAt, Sem.run_bind, sureAddr_run, Result.andThen_ok, storeVar, run_size ht]
      have hvs : v.cells.size = tsize P t := by simpa using hvl
      simp only [hvs, ne_eq, not_true_eq_false, if_false]
      simpa using hst
  · exact h.elim

/-! struct and slice literals -/
theorem foldl_setL (off : Nat) : ∀ (us : List Value) (k : Nat) (cells : Array Value), ((us.zipIdx k).foldl (fun cs x => cs.setIfInBounds (off + x.2) x.1) cells).toList = setL cells.toList (off + k) us
  | [], k, cells => rfl
  | u :: us, k, cells => by
    rw [List.zipIdx_cons, List.foldl_cons, foldl_setL off us (k + 1)]
    simp [setL, Nat.add_assoc]

theorem LRep.stripL {cs : List PV} {us : List Value} (h : LRep Γ w cs us) : LRep Γ w (PV.stripL cs) us := LRep.strip cs us h

theorem LRep.set {cs : List PV} : ∀ {c : List Value} {i : Nat} {x : PV} {u : Value}, LRep Γ w cs c → VRep Γ w x u → LRep Γ w (cs.set i x) (c.set i u) := by
  induction cs with
  | nil => intro c i x u h1 _; rw [h1]; rfl
  | cons y cs ih =>
    intro c i x u h1 h2
    obtain ⟨v, c', rfl, h3, h4⟩ := h1
    cases i with
    | zero => exact ⟨u, c', rfl, h2, h4⟩
    | succ i => exact ⟨v, c'.set i u, rfl, h3, ih h4 h2⟩
theorem LRep.setL : ∀ {xs : List PV} {us : List Value} {cs : List PV} {c : List Value} {i : Nat}, LRep Γ w cs c → LRep Γ w xs us → LRep Γ w (Ab.setL cs i xs) (Ab.setL c i us)
  | [], us, cs, c, i, h1, h2 => by rw [h2]; exact h1
  | x :: xs, us, cs, c, i, h1, h2 => by
    obtain ⟨u, us', rfl, h3, h4⟩ := h2
    show LRep Γ w (Ab.setL (cs.set i x) (i + 1) xs) (Ab.setL (c.set i u) (i + 1) us')
    exact LRep.setL (LRep.set h1 h3) h4

theorem fill_sound {place place' : Nat → Option (Nat × Nat)} (hp : ∀ i q, place i = some q → place' i = some q) : ∀ (parts : List (Nat × PV)) (vparts : List (Nat × Value)) (cs cs' : List PV) (c : Array Value),
    parts.length = vparts.length → (∀ (k : Nat) (x : Nat × PV) (y : Nat × Value), parts[k]? = some x → vparts[k]? = some y → x.1 = y.1 ∧ VRep Γ w x.2 y.2) →
    LRep Γ w cs c.toList → (∀ u ∈ c.toList, u.oneCell' = true) → afill place parts cs = some cs' →
    ∃ c', Instr.fill place' c vparts = some c' ∧ LRep Γ w cs' c'.toList ∧ (∀ u ∈ c'.toList, u.oneCell' = true) ∧ c'.size = c.size
  | [], vparts, cs, cs', c, hl, hv, hr, h1, h => by
    cases vparts with
    | cons _ _ => simp at hl
    | nil => simp only [afill, Option.some.injEq] at h; subst h; exact ⟨c, rfl, hr, h1, rfl⟩
  | (i, x) :: rest, vparts, cs, cs', c, hl, hv, hr, h1, h => by
    cases vparts with
    | nil => simp at hl
    | cons y vrest =>
      obtain ⟨j, v⟩ := y
      obtain ⟨hij, hx⟩ := hv 0 (i, x) (j, v) rfl rfl
      simp only at hij hx
      subst hij
      simp only [afill] at h
      split at h
      · rename_i off size xs hpl hc
        split at h
        · rename_i hcond
          obtain ⟨hx1, hx2⟩ := cells1_rep hc hx
          have hlen : v.cells.toList.length = size := by rw [LRep.len _ _ hx1, hcond.1]
          have hcl : c.toList.length = cs.length := LRep.len _ _ hr
          have hvs : v.cells.size = size := by simpa using hlen
          have hcs : c.size = cs.length := by simpa using hcl
          have hfold : (v.cells.zipIdx.foldl (fun cs (x : Value × Nat) => cs.setIfInBounds (off + x.2) x.1) c).toList = Ab.setL c.toList off v.cells.toList := by
            rw [← Array.foldl_toList, Array.toList_zipIdx]
            exact foldl_setL off _ 0 c
          obtain ⟨c', h3, h4, h5, h6⟩ := fill_sound hp rest vrest _ cs' (v.cells.zipIdx.foldl (fun cs (x : Value × Nat) => cs.setIfInBounds (off + x.2) x.1) c) (by simpa using hl)
            (fun k x y a b => hv (k + 1) x y a b) (by rw [hfold]; exact LRep.setL hr (LRep.stripL hx1)) (by rw [hfold]; exact setL_all _ _ _ hx2 h1) h
          refine ⟨c', ?_, h4, h5, ?_⟩
          · simp only [Instr.fill, hp _ _ hpl]
            rw [if_neg]
            · exact h3
            · simp only [hvs, ne_eq, not_true_eq_false, decide_false, Bool.false_or, decide_eq_true_eq]
              omega
          · rw [h6]
            have := congrArg List.length hfold
            simpa [setL_length] using this
        · cases h
      · cases h

theorem mapM_places : ∀ (fs : List Field), fs.all (fun f => tinfo P f.type) = true → fs.mapM (fun f => (P.info? f.type).map fun i => (f.offset, i.size)) = some (fs.map fun f => (f.offset, tsize P f.type))
  | [], _ => rfl
  | f :: fs, h => by
    simp only [List.all_cons, Bool.and_eq_true] at h
    obtain ⟨i, hi⟩ := tinfo_info h.1
    simp [List.mapM_cons, hi, mapM_places fs h.2, tsize, Program.cellsOf]

theorem sound_build {t : TypeId} {parts : List (Nat × PV)} {vparts : Array (Nat × Value)} (h : abuild P t parts m K) (hm : MemSim Γ m w) (hl : parts.length = vparts.toList.length)
    (hv : ∀ (k : Nat) (x : Nat × PV) (y : Nat × Value), parts[k]? = some x → vparts.toList[k]? = some y → x.1 = y.1 ∧ VRep Γ w x.2 y.2) :
    ∃ v, (Instr.build t vparts).run P w = .ok v w ∧ Then Γ w K v w := by
  unfold abuild at h
  cases hz : tzero P t with
  | none => simp [hz] at h
  | some z =>
    simp only [hz] at h
    obtain ⟨ht, h1, h⟩ := h
    have hz1 := zOK_spec h1
    obtain ⟨i, hi⟩ := tinfo_info ht
    have hiz : i.zero = some z := by simpa [tzero, hi] using hz
    have hzr : LRep Γ w (zcells z) z.cells.toList := ofVs_rep Γ w _
    rcases h with ⟨hf, h⟩ | ⟨n, e, ha, he, h⟩
    · cases hfl : afill (tplace P t) parts (zcells z) with
      | none => simp [hfl] at h
      | some cs =>
        simp only [hfl] at h
        unfold tfok at hf
        split at hf
        · rename_i fs hd
          have hpl := mapM_places (P := P) fs.toList (by rw [Array.all_toList]; exact hf)
          obtain ⟨c', h3, h4, _, _⟩ := fill_sound (Γ := Γ) (w := w) (place := tplace P t) (place' := fun i => (fs.toList.map fun f => (f.offset, tsize P f.type)).toArray[i]?) (fun i q hq => by
              unfold tplace tfield at hq
              simp only [hd] at hq
              cases hg : fs[i]? with
              | none => simp [hg] at hq
              | some f =>
                simp only [hg, Option.map_some] at hq
                split at hq
                · cases hq; simp [hg]
                · cases hq) parts vparts.toList (zcells z) cs z.cells hl hv hzr hz1 hfl
          refine ⟨_, run_build w t vparts c' ?_, .same hm h ⟨_, rfl, h4⟩⟩
          simp only [Program.built, hi, hd, hiz, hpl]
          exact h3
        · cases hf
    · cases hfl : afill (aplace P t) parts (zcells z) with
      | none => simp [hfl] at h
      | some cs =>
        simp only [hfl] at h
        have hd := tarr_und ha
        obtain ⟨ie, hie⟩ := tinfo_info he
        have hsz : ie.size = tsize P e := by simp [tsize, Program.cellsOf, hie]
        obtain ⟨c', h3, h4, _, _⟩ := fill_sound (Γ := Γ) (w := w) (place := aplace P t) (place' := fun i => some (i * ie.size, ie.size)) (fun i q hq => by
            unfold aplace at hq
            simp only [ha] at hq
            rw [hsz]; exact hq) parts vparts.toList (zcells z) cs z.cells hl hv hzr hz1 hfl
        refine ⟨_, run_build w t vparts c' ?_, .same hm h ⟨_, rfl, h4⟩⟩
        simp only [Program.built, hi, hd, hiz, hie]
        exact h3

theorem zrow_rep {z : Value} (hpos : 0 < (zcells z).length) (n : Nat) : LRep Γ w (zrow (zcells z) n) ((Array.range n).map (z.cells[· % z.cells.size]!)).toList ∧ (zOK z = true → ∀ u ∈ ((Array.range n).map (z.cells[· % z.cells.size]!)).toList, u.oneCell' = true) := by
  have hlen : (zcells z).length = z.cells.size := by simp [zcells]
  have hp : 0 < z.cells.size := by omega
  have e : ((Array.range n).map (z.cells[· % z.cells.size]!)).toList = (List.range n).map (z.cells[· % z.cells.size]!) := by simp
  rw [e]
  constructor
  · unfold zrow
    generalize List.range n = l
    induction l with
    | nil => rfl
    | cons i l ih =>
      refine ⟨_, _, rfl, ?_, ih⟩
      have hlt : i % z.cells.size < z.cells.size := Nat.mod_lt _ hp
      have : (zcells z).getD (i % (zcells z).length) .any = ofV (z.cells[i % z.cells.size]!) := by
        rw [hlen]
        simp [zcells, List.getD, hlt]
      show VRep Γ w ((zcells z).getD (i % (zcells z).length) .any) (z.cells[i % z.cells.size]!)
      rw [this]
      exact ofV_rep Γ w _
  · intro hz u hu
    obtain ⟨i, _, rfl⟩ := List.mem_map.1 hu
    have hlt : i % z.cells.size < z.cells.size := Nat.mod_lt _ hp
    refine zOK_spec hz _ ?_
    simp [hlt]

theorem afill_length : ∀ (place : Nat → Option (Nat × Nat)) (parts : List (Nat × PV)) (cs cs' : List PV), afill place parts cs = some cs' → cs'.length = cs.length
  | _, [], cs, cs', h => by simp only [afill, Option.some.injEq] at h; rw [h]
  | place, (i, x) :: rest, cs, cs', h => by
    simp only [afill] at h
    split at h
    · split at h
      · rw [afill_length place rest _ _ h, setL_length]
      · cases h
    · cases h

theorem sound_buildSlice {t : TypeId} {len : Nat} {parts : List (Nat × PV)} {vparts : Array (Nat × Value)} (h : abuildSlice P t len parts m K) (hm : MemSim Γ m w) (hl : parts.length = vparts.toList.length)
    (hv : ∀ (k : Nat) (x : Nat × PV) (y : Nat × Value), parts[k]? = some x → vparts.toList[k]? = some y → x.1 = y.1 ∧ VRep Γ w x.2 y.2) :
    ∃ v w', (Instr.buildSlice t len vparts).run P w = .ok v w' ∧ Then Γ w K v w' := by
  unfold abuildSlice at h
  cases he : telem P t with
  | none => simp [he] at h
  | some e =>
    simp only [he] at h
    obtain ⟨ht, hfit, h⟩ := h
    have hd := telem_und he
    cases hz : tzero P e with
    | none => simp [hz] at h
    | some z =>
      simp only [hz] at h
      obtain ⟨hz1, hpos, h⟩ := h
      cases hfl : afill (fun i => some (i * tsize P e, tsize P e)) parts (zrow (zcells z) (len * tsize P e)) with
      | none => simp [hfl] at h
      | some cs =>
        simp only [hfl] at h
        obtain ⟨hr, h1⟩ := zrow_rep (Γ := Γ) (w := w) hpos (len * tsize P e)
        obtain ⟨c', h3, h4, h5, h6⟩ := fill_sound (Γ := Γ) (w := w) (place := fun i => some (i * tsize P e, tsize P e)) (place' := fun i => some (i * tsize P e, tsize P e)) (fun _ _ h => h) parts vparts.toList _ cs _ hl hv hr (h1 hz1) hfl
        have hcl : cs.length = len * tsize P e := by rw [afill_length _ _ _ _ hfl]; simp [zrow]
        obtain ⟨h7, h8, h9⟩ := hm.newImm h4 h5 e
        refine ⟨.slice (some ⟨w.heap.size, 0, none⟩) len len, w.alloc (.cells c' e), ?_, ⟨_, m, _, h, ?_, Ctx.le_newImm Γ _ _ hm.base, h8, h7⟩⟩
        · simp only [Instr.buildSlice, Sem.run_bind, run_underlying hd, Result.andThen_ok, run_size ht]
          rw [if_neg (by omega)]
          by_cases h0 : len * tsize P e = 0
          · have hz0 : (Array.range (len * tsize P e)).map ((#[] : Array Value)[· % (#[] : Array Value).size]!) = (Array.range (len * tsize P e)).map (z.cells[· % z.cells.size]!) := by rw [h0]; simp
            rw [if_pos h0]
            simp only [Sem.run_bind, Sem.run_pure, Result.andThen_ok, hz0, h3, newRow, newObj, Sem.run]
            rfl
          · rw [if_neg h0]
            simp only [Sem.run_bind, run_zero hz, Sem.run_pure, Result.andThen_ok, h3, newRow, newObj, Sem.run]
            rfl
        · refine ⟨some ⟨w.heap.size, 0, none⟩, len, by rw [chunk_length], by rw [chunk_length]; exact Nat.le_refl _, (fun q => by cases q), ?_, by rw [chunk_length]⟩
          intro ad hq
          cases hq
          exact ⟨.inr rfl, (SRep.flat _ _ _).2 (by rw [chunk_flatten _ _ _ hcl]; exact h9)⟩
end
end Go.Ab
/- The abstract layer, 9: append, slices, calls; one operation's abstract step is sound. Over any program. -/
namespace Go.Ab
open Go.RowKit

section
variable {P : Program} {m : St} {K Kp : PV → St → Prop} {Γ : Ctx} {w : World}

theorem RowsW.flat {s : Nat} : ∀ {rows : List (List PV)}, RowsW s rows → rows.flatten.length = rows.length * s
  | [], _ => by simp
  | r :: rs, h => by
    have h1 : r.length = s := h r (by simp)
    have h2 := RowsW.flat (rows := rs) (fun x hx => h x (by simp [hx]))
    simp only [List.flatten_cons, List.length_append, h1, h2, List.length_cons, Nat.add_mul]; omega

/-- The cells of a slice, read. -/
theorem rows_read {rows : List (List PV)} {s : Nat} {b off : Nat} (hw : RowsW s rows) (h : SRep Γ w rows b off) :
    ∃ us : List Value, us.length = rows.length * s ∧ LRep Γ w rows.flatten us ∧ (∀ u ∈ us, u.oneCell' = true) ∧ (∀ (i : Nat) (u : Value), us[i]? = some u → w.cell? ((⟨b, off, none⟩ : Addr).add i) = some u) := by
  obtain ⟨us, h1, h2, h3⟩ := cells_of_read ((SRep.flat rows b off).1 h)
  refine ⟨us, by rw [h1, hw.flat], h2, fun u hu => ?_, fun i u hu => by rw [add_addr]; exact (h3 i u hu).1⟩
  obtain ⟨i, hi, e⟩ := List.getElem_of_mem hu
  exact (h3 i u (by rw [List.getElem?_eq_getElem hi, e])).2.1

theorem rows_read' {rows : List (List PV)} {s : Nat} {ad : Addr} (hw : RowsW s rows) (hs : rows.length = 0 ∨ ad.spot = none) (h : SRep Γ w rows ad.block ad.off) :
    ∃ us : List Value, us.length = rows.length * s ∧ LRep Γ w rows.flatten us ∧ (∀ u ∈ us, u.oneCell' = true) ∧ (∀ (i : Nat) (u : Value), us[i]? = some u → w.cell? (ad.add i) = some u) := by
  obtain ⟨b, off, sp⟩ := ad
  rcases hs with h0 | hs
  · have : rows = [] := List.eq_nil_of_length_eq_zero h0
    subst this
    exact ⟨[], by simp, rfl, by simp, fun i u hu => by simp at hu⟩
  · simp only at hs h
    subst hs
    exact rows_read hw h

theorem stripR_flatten : ∀ rows : List (List PV), (PV.stripR rows).flatten = PV.stripL rows.flatten
  | [] => rfl
  | r :: rs => by
    have : ∀ (a b : List PV), PV.stripL (a ++ b) = PV.stripL a ++ PV.stripL b := by
      intro a b; induction a with
      | nil => rfl
      | cons x a ih => simp [PV.stripL, ih]
    simp [PV.stripR, this, stripR_flatten rs]

theorem grownCap_ge (w : World) (need old : Nat) (e : TypeId) : need ≤ grownCap w need old e := by
  show need ≤ need + _ % (2 ^ 63 - need)
  exact Nat.le_add_right _ _

theorem zeroCells_size (z : Array Value) (n : Nat) : (Builtin.zeroCells z n).size = n * z.size := by simp [Builtin.zeroCells]

/-- The array has been made anew: what lies in it, whoever it was. -/
theorem append_new {e : TypeId} {o : Own} {rows news : List (List PV)} {s cap' : Nat} {olds nws : List Value} {rest : Array Value} (hm : MemSim Γ m w)
    (h1 : RowsW s rows) (h2 : RowsW s news) (ho : LRep Γ w rows.flatten olds) (hn : LRep Γ w news.flatten nws) (ho1 : ∀ u ∈ olds, u.oneCell' = true) (hn1 : ∀ u ∈ nws, u.oneCell' = true)
    (hcap : rows.length + news.length ≤ cap') (hrest : rest.size = (cap' - (rows.length + news.length)) * s) (hq : 0 < news.length)
    (h : ∀ o' m', AppRes s m o rows.length news.length o' m' → K (.list o' (rows ++ PV.stripR news)) m') :
    Then Γ w K (.slice (some ⟨w.heap.size, 0, none⟩) (rows.length + news.length) cap') (w.drew.alloc (.cells (olds.toArray ++ nws.toArray ++ rest) e)) := by
  obtain ⟨hmd, hkd⟩ := hm.drew
  have ho' := LRep.mono (Ctx.le.refl Γ) hkd _ _ ho
  have hn' := LRep.mono (Ctx.le.refl Γ) hkd _ _ (LRep.strip _ _ hn)
  have hol : olds.length = rows.length * s := by rw [LRep.len _ _ ho, h1.flat]
  have hnl : nws.length = news.length * s := by rw [LRep.len _ _ hn, h2.flat]
  have htl : (olds.toArray ++ nws.toArray ++ rest).toList = olds ++ nws ++ rest.toList := by simp
  have htake : (olds.toArray ++ nws.toArray ++ rest).toList.take ((rows.length + news.length) * s) = olds ++ nws := by
    rw [htl, List.take_left' (by simp [hol, hnl, Nat.add_mul])]
  have hsz : (olds.toArray ++ nws.toArray ++ rest).size = cap' * s := by
    simp only [Array.size_append, List.size_toArray, hol, hnl, hrest]
    rw [← Nat.add_mul, ← Nat.add_mul]; congr 1; omega
  have hall : LRep Γ w.drew (rows.flatten ++ PV.stripL news.flatten) (olds ++ nws) := LRep.append _ _ _ _ ho' hn'
  obtain ⟨h3, h4, h5⟩ := hmd.newTok (us := olds.toArray ++ nws.toArray ++ rest) (n := rows.length + news.length) (cap := cap') (width := s) (cs := rows.flatten ++ PV.stripL news.flatten) (by rw [htake]; exact hall)
    (by rw [htake]; intro u hu; rcases List.mem_append.1 hu with hu | hu; exact ho1 u hu; exact hn1 u hu) hsz hcap e
  refine ⟨.list (.tok m.ntok) (rows ++ PV.stripR news), m.newTok (rows.length + news.length) s, _, h _ _ (.inr (.inl ⟨hq, rfl, rfl⟩)), ?_, Ctx.le_newTok Γ w.heap.size _ cap' s hm.base, hkd.trans (Ctx.le.refl _) h4, h3⟩
  have hll : (rows ++ PV.stripR news).length = rows.length + news.length := by simp [PV.stripR_length]
  refine ⟨some ⟨w.heap.size, 0, none⟩, cap', by rw [hll], by rw [hll]; exact hcap, (fun q => by cases q), ?_, ?_⟩
  · intro ad hq
    cases hq
    refine ⟨.inr rfl, (SRep.flat _ _ _).2 ?_⟩
    rw [List.flatten_append, stripR_flatten]
    exact h5
  · refine ⟨by show m.ntok < Γ.ntok + 1; rw [hm.ntok]; omega, ?_, ?_⟩
    · show _ ≤ upd Γ.top Γ.ntok (rows.length + news.length) m.ntok
      rw [hm.ntok, upd_same, hll]; exact Nat.le_refl _
    · intro _
      show some (⟨w.heap.size, 0, none⟩ : Addr) = some ⟨upd Γ.tok Γ.ntok w.heap.size m.ntok, 0, none⟩ ∧ cap' = upd Γ.cp Γ.ntok cap' m.ntok
      rw [hm.ntok, upd_same, upd_same]; exact ⟨rfl, rfl⟩

theorem sound_append {ts : Array TypeId} {ty : TypeId} {x y : PV} {u v : Value} (h : aappend P ts.toList x y m K) (hm : MemSim Γ m w) (hx : VRep Γ w x u) (hy : VRep Γ w y v) :
    ∃ r w', (Builtin.append_ ts ty #[u, v]).run P w = .ok r w' ∧ Then Γ w K r w' := by
  unfold aappend at h
  split at h
  · rename_i t t' o rows o2 news h0
    obtain ⟨rfl, h⟩ := h
    have hte : ts = #[t, t] := by
      rw [← Array.toArray_toList (xs := ts), h0]
    subst hte
    cases he : telem P t with
    | none => simp [he] at h
    | some e =>
      simp only [he] at h
      obtain ⟨ht, hz, hs, hw1, hw2, hby, h62, hok, h⟩ := h
      have hd := telem_und he
      obtain ⟨i, hi⟩ := tinfo_info ht
      have hsz : i.size = tsize P e := by simp [tsize, Program.cellsOf, hi]
      have hbt : i.bytes = tbytes P e := by simp [tbytes, Program.bytesOf, hi]
      obtain ⟨z, hz1, hz2⟩ : ∃ z, tzero P e = some z ∧ z.cells.size = tsize P e := by
        cases hq : tzero P e with
        | none => simp [hq] at hz
        | some z => simp [hq] at hz; exact ⟨z, rfl, hz⟩
      have hiz : i.zero = some z := by simpa [tzero, hi] using hz1
      obtain ⟨a, cap, rfl, a1, a2, a3, a4⟩ := hx
      obtain ⟨b, cap2, rfl, b1, b2, b3, b4⟩ := hy
      by_cases hq : news.length = 0
      · -- nothing is appended
        have hn : news = [] := List.eq_nil_of_length_eq_zero hq
        subst hn
        have hk := h o m (.inl ⟨rfl, rfl, rfl⟩)
        simp only [PV.stripR, List.append_nil] at hk
        refine ⟨.slice a rows.length cap, w, ?_, .same hm hk ⟨a, cap, rfl, a1, a2, a3, a4⟩⟩
        have hfc : (Builtin.firstCells i.size 0 (.slice b 0 cap2)).run P w = .ok #[] w := by
          cases b <;> simp [Builtin.firstCells, loadCells, loadCellsFrom]
        cases a <;> simp [Builtin.append_, run_underlying hd, sizeOf, typeInfo, hi, Builtin.lenOf, a1, hfc, storeCells]
      · have hpos : 0 < news.length := by omega
        cases b with
        | none => have := b2 rfl; omega
        | some bd =>
          obtain ⟨hsb, hsr⟩ := b3 bd rfl
          replace hsb := hsb.resolve_left (by omega)
          obtain ⟨bb, boff, bs⟩ := bd
          simp only at hsb hsr
          subst hsb
          obtain ⟨nws, n1, n2, n3, n4⟩ := rows_read hw2 hsr
          by_cases hroom : rows.length + news.length ≤ cap
          · -- there is room
            cases a with
            | none => have := a2 rfl; omega
            | some ad =>
              cases o with
              | no => exact hok.elim
              | full => have : cap = rows.length := a4; omega
              | tok k =>
                obtain ⟨k1, k2, k3, k4⟩ := hok
                obtain ⟨_, _, a6⟩ := a4
                have htop := hm.top k k1
                obtain ⟨hada, hcp⟩ := a6 (by rw [htop.1, k2])
                obtain ⟨hsa, hra⟩ := a3 ad rfl
                cases hada
                have hwd : Γ.wd k = tsize P e := by rw [htop.2, k3]
                have htp : Γ.top k = rows.length := by rw [htop.1, k2]
                have hlv : m.top k < DEAD := by rw [k2]; show rows.length < 4611686018427387904; omega
                obtain ⟨c, hblk, hcl⟩ := hm.toks k k1 hlv
                obtain ⟨g1, g2, g3, g4⟩ := hm.growTok (k := k) (q := news.length) (cs := rows.flatten) (xs := PV.stripL news.flatten) (us := nws) k1 hlv k4 ((SRep.flat _ _ _).1 hra) (by rw [hw1.flat, htp, hwd])
                  (LRep.strip _ _ n2) n3 (by rw [n1, hwd]) (by rw [htp, ← hcp]; exact hroom) hpos
                have hrun := run_append_room_cells (P := P) (w := w) t ty e i hd hi (Γ.tok k) 0 rows.length cap ⟨bb, boff, none⟩ news.length cap2 nws (by rw [n1, hsz]) n4 n3 hroom
                  (fun j hj => by
                    show (cellAt w (Γ.tok k) (0 + rows.length * i.size + j)).isSome = true
                    have hlt : 0 + rows.length * i.size + j < c.length := by
                      rw [hcl, hwd, hsz, ← hcp]
                      have : (rows.length + news.length) * tsize P e ≤ cap * tsize P e := Nat.mul_le_mul_right _ hroom
                      rw [Nat.add_mul] at this; rw [n1] at hj; omega
                    rw [cellAt_blk hblk hlt, List.getElem?_eq_getElem hlt]; rfl)
                  (fun j hj => hblk.frozen _)
                refine ⟨_, _, hrun, ⟨.list (.tok k) (rows ++ PV.stripR news), m.growTok k news.length, _, h _ _ (.inr (.inr ⟨hpos, k, rfl, rfl, rfl⟩)), ?_, g1, ?_, ?_⟩⟩
                · have hll : (rows ++ PV.stripR news).length = rows.length + news.length := by simp [PV.stripR_length]
                  refine ⟨some ⟨Γ.tok k, 0, none⟩, cap, by rw [hll], by rw [hll]; exact hroom, (fun q => by cases q), ?_, ?_⟩
                  · intro ad hq
                    cases hq
                    refine ⟨.inr rfl, (SRep.flat _ _ _).2 ?_⟩
                    rw [List.flatten_append, stripR_flatten]
                    rw [htp, hwd, ← hsz] at g4
                    simpa using g4
                  · refine ⟨by show k < Γ.ntok; rw [hm.ntok]; exact k1, ?_, fun _ => ⟨rfl, hcp⟩⟩
                    show _ ≤ upd Γ.top k (Γ.top k + news.length) k
                    rw [upd_same, hll, htp]; exact Nat.le_refl _
                · rw [htp, hwd, ← hsz] at g3; simpa using g3
                · rw [htp, hwd, ← hsz] at g2; simpa using g2
          · -- the array is made anew
            have hfit : Builtin.nextslicecap (rows.length + news.length) cap * i.bytes ≤ 281474976710656 := by
              have h1 := nextslicecap_le (need := rows.length + news.length) (old := cap) (by omega)
              have h2 : Builtin.nextslicecap (rows.length + news.length) cap * i.bytes ≤ 2 * (rows.length + news.length) * i.bytes := Nat.mul_le_mul_right _ h1
              rw [hbt] at h2 ⊢
              rw [Nat.mul_assoc] at h2
              omega
            have hrest : ∀ k, (Builtin.zeroCells z.cells k).size = k * tsize P e := fun k => by rw [zeroCells_size, hz2]
            cases a with
            | none =>
              have hc0 := a2 rfl
              subst hc0
              have hr0 : rows = [] := List.eq_nil_of_length_eq_zero (by omega)
              subst hr0
              have hrun := run_append_nil w t ty e i z hd hi hiz ⟨bb, boff, none⟩ news.length cap2 nws (by rw [n1, hsz]) n4 hpos (by omega) (by rw [hbt]; simp at hby; omega)
              have happ := append_new (e := e) (o := o) (rows := []) (news := news) (s := tsize P e) (cap' := grownCap w news.length 0 e) (olds := []) (nws := nws) (rest := Builtin.zeroCells z.cells (grownCap w news.length 0 e - news.length)) hm hw1 hw2 rfl n2 (by simp) n3
                (by have := grownCap_ge w news.length 0 e; simpa using this) (by simpa using hrest _) hpos h
              refine ⟨_, _, hrun, ?_⟩
              simpa using happ
            | some ad =>
              obtain ⟨hsa, hra⟩ := a3 ad rfl
              obtain ⟨olds, o1, o2', o3, o4⟩ := rows_read' hw1 (hsa.imp (fun q => by omega) id) hra
              have hrun := run_append_grow w t ty e i z hd hi hiz ad rows.length cap olds (by rw [o1, hsz]) o4 ⟨bb, boff, none⟩ news.length cap2 nws (by rw [n1, hsz]) n4 (by omega) (by omega) hfit
              refine ⟨_, _, hrun, ?_⟩
              exact append_new (e := e) hm hw1 hw2 o2' n2 o3 n3 (grownCap_ge _ _ _ _) (hrest _) hpos h
  · exact h.elim
end
end Go.Ab
/- The abstract layer, 10: slice expressions, lengths, calls; every operation's abstract step is sound. Over any program. -/
namespace Go.Ab
open Go.RowKit

section
variable {P : Program} {m : St} {K Kp : PV → St → Prop} {Γ : Ctx} {w : World}

theorem SRep.drop {s : Nat} : ∀ (l : Nat) (rows : List (List PV)) (b off : Nat), RowsW s rows → l ≤ rows.length → SRep Γ w rows b off → SRep Γ w (rows.drop l) b (off + l * s)
  | 0, rows, b, off, _, _, h => by simpa using h
  | l + 1, [], b, off, _, hl, h => by simp at hl
  | l + 1, r :: rs, b, off, hw, hl, h => by
    have hr : r.length = s := hw r (by simp)
    have := SRep.drop l rs b (off + r.length) (fun x hx => hw x (by simp [hx])) (by simpa using hl) h.2
    rwa [hr, show off + s + l * s = off + (l + 1) * s from by rw [Nat.add_mul]; omega] at this
theorem SRep.take : ∀ (l : Nat) (rows : List (List PV)) (b off : Nat), SRep Γ w rows b off → SRep Γ w (rows.take l) b off
  | 0, rows, b, off, _ => by simp [SRep]
  | l + 1, [], b, off, h => by simpa using h
  | l + 1, r :: rs, b, off, h => ⟨h.1, SRep.take l rs b _ h.2⟩

theorem run_bound {k : IntKind} {n : Int} {y : Nat} {code : BoundsCode} (h0 : 0 ≤ n) (h1 : n ≤ y) : (Instr.sliceBound (.int k n) y code).run P w = .ok n.toNat w := by
  simp [Instr.sliceBound, asIntOf, h0, h1]

theorem bnd_spec {x : Option PV} {u : Option Value} {d r : Int} (h : abnd x d = some r) (hx : ∀ p, x = some p → ∃ v, u = some v ∧ VRep Γ w p v) (hn : x = none → u = none) :
    (x = none ∧ u = none ∧ r = d) ∨ ∃ k, u = some (.int k r) := by
  unfold abnd at h
  split at h
  · cases h; exact .inl ⟨rfl, hn rfl, rfl⟩
  · rename_i k n
    cases h
    obtain ⟨v, h1, h2⟩ := hx _ rfl
    exact .inr ⟨k, by rw [h1]; exact congrArg some h2⟩
  · cases h

theorem run_bounds {isS : Bool} {len cap : Nat} {lo hi : Option Value} {l h : Int} (hl : lo = none ∧ l = 0 ∨ ∃ k, lo = some (.int k l)) (hh : hi = none ∧ h = len ∨ ∃ k, hi = some (.int k h))
    (h0 : 0 ≤ l) (h1 : l ≤ h) (h2 : h ≤ cap) : (Instr.sliceBounds isS len cap lo hi none).run P w = .ok (l.toNat, h.toNat, cap) w := by
  have e1 : (h.toNat : Int) = h := Int.toNat_of_nonneg (by omega)
  rcases hh with ⟨rfl, rfl⟩ | ⟨k, rfl⟩ <;> rcases hl with ⟨rfl, rfl⟩ | ⟨k', rfl⟩
  · simp [Instr.sliceBounds]
  · simp [Instr.sliceBounds, run_bound (P := P) (w := w) (k := k') (n := l) (y := len) h0 h1]
  · simp [Instr.sliceBounds, run_bound (P := P) (w := w) (k := k) (n := h) (y := cap) (by omega) h2]
  · simp [Instr.sliceBounds, run_bound (P := P) (w := w) (k := k) (n := h) (y := cap) (by omega) h2, run_bound (P := P) (w := w) (k := k') (n := l) (y := h.toNat) h0 (by omega)]

theorem run_bounds3 {len cap : Nat} {lo hi : Option Value} {l h : Int} {kq : IntKind} (hl : lo = none ∧ l = 0 ∨ ∃ k, lo = some (.int k l)) (hh : ∃ k, hi = some (.int k h))
    (h0 : 0 ≤ l) (h1 : l ≤ h) (h2 : h ≤ cap) : (Instr.sliceBounds true len cap lo hi (some (.int kq h))).run P w = .ok (l.toNat, h.toNat, h.toNat) w := by
  have e1 : (h.toNat : Int) = h := Int.toNat_of_nonneg (by omega)
  obtain ⟨k, rfl⟩ := hh
  rcases hl with ⟨rfl, rfl⟩ | ⟨k', rfl⟩
  · simp [Instr.sliceBounds, run_bound (P := P) (w := w) (k := kq) (n := h) (y := cap) (by omega) h2, run_bound (P := P) (w := w) (k := k) (n := h) (y := h.toNat) (by omega) (by omega)]
  · simp [Instr.sliceBounds, run_bound (P := P) (w := w) (k := kq) (n := h) (y := cap) (by omega) h2, run_bound (P := P) (w := w) (k := k) (n := h) (y := h.toNat) (by omega) (by omega), run_bound (P := P) (w := w) (k := k') (n := l) (y := h.toNat) h0 (by omega)]

/-- A part of a slice. -/
theorem slice_rep {o o' : Own} {rows : List (List PV)} {s l h m' cap : Nat} {a : Option Addr} (hw : RowsW s rows) (h1 : l ≤ h) (h2 : h ≤ rows.length) (h3 : h ≤ m') (h4 : m' ≤ cap) (hrep : VRep Γ w (.list o rows) (.slice a rows.length cap))
    (ho : (o' = o ∧ l = 0 ∧ h = rows.length ∧ m' = cap) ∨ (o' = .full ∧ m' = h) ∨ (o' = .no)) :
    VRep Γ w (.list o' ((rows.take h).drop l)) (.slice (if m' = l then a else a.map (·.add (l * s))) (h - l) (m' - l)) := by
  obtain ⟨a', cap', e, a1, a2, a3, a4⟩ := hrep
  cases e
  have hlen : ((rows.take h).drop l).length = h - l := by simp; omega
  refine ⟨_, m' - l, by rw [hlen], by rw [hlen]; omega, ?_, ?_, ?_⟩
  · intro ha
    split at ha
    · omega
    · have : a = none := by simpa using ha
      have := a2 this; omega
  · intro ad had
    split at had
    · rename_i hml
      subst had
      refine ⟨.inl (by omega), ?_⟩
      have : (rows.take h).drop l = [] := List.eq_nil_of_length_eq_zero (by omega)
      rw [this]; trivial
    · cases a with
      | none => cases had
      | some ad0 =>
        obtain ⟨hs, hr⟩ := a3 ad0 rfl
        replace hs := hs.resolve_left (by omega)
        obtain ⟨b, off, sp⟩ := ad0
        simp only at hs hr
        subst hs
        simp only [Option.map_some, Option.some.injEq, add_addr] at had
        subst had
        exact ⟨.inr rfl, SRep.drop l _ b off (fun x hx => hw x (List.mem_of_mem_take hx)) (by simp; omega) (SRep.take h rows b off hr)⟩
  · rcases ho with ⟨rfl, rfl, rfl, rfl⟩ | ⟨rfl, rfl⟩ | rfl
    · have hrr : (rows.take rows.length).drop 0 = rows := by simp
      rw [hrr]
      cases o' with
      | no => trivial
      | full => simpa using a4
      | tok k =>
        refine ⟨a4.1, a4.2.1, fun q => ?_⟩
        obtain ⟨h5, h6⟩ := a4.2.2 q
        subst h5
        refine ⟨?_, by simpa using h6⟩
        split
        · rfl
        · simp [add_addr]
    · show m' - l = _; rw [hlen]
    · trivial

theorem sound_slice {t : TypeId} {x : PV} {lo hi mx : Option PV} {u : Value} {ulo uhi umx : Option Value} (h : aslice P t x lo hi mx m K) (hm : MemSim Γ m w) (hx : VRep Γ w x u)
    (hlo : ∀ p, lo = some p → ∃ v, ulo = some v ∧ VRep Γ w p v) (nlo : lo = none → ulo = none) (hhi : ∀ p, hi = some p → ∃ v, uhi = some v ∧ VRep Γ w p v) (nhi : hi = none → uhi = none)
    (hmx : ∀ p, mx = some p → ∃ v, umx = some v ∧ VRep Γ w p v) (nmx : mx = none → umx = none) :
    ∃ r, (Instr.sliceAt t u ulo uhi umx).run P w = .ok r w ∧ Then Γ w K r w := by
  unfold aslice at h
  split at h
  · rename_i o rows
    split at h
    · rename_i e l hh he hl hhe
      obtain ⟨ht, hw, h0, h1, h2, hk⟩ := h
      have hd := telem_und he
      obtain ⟨a, cap, rfl, a1, a2, a3, a4⟩ := hx
      have hl' : ulo = none ∧ l = 0 ∨ ∃ k, ulo = some (.int k l) := by
        rcases bnd_spec (Γ := Γ) (w := w) hl hlo nlo with ⟨_, q, r⟩ | q
        · exact .inl ⟨q, r⟩
        · exact .inr q
      have hh' : uhi = none ∧ hh = rows.length ∨ ∃ k, uhi = some (.int k hh) := by
        rcases bnd_spec (Γ := Γ) (w := w) hhe hhi nhi with ⟨_, q, r⟩ | q
        · exact .inl ⟨q, r⟩
        · exact .inr q
      rw [nmx rfl]
      have hb := run_bounds (P := P) (w := w) (isS := true) (len := rows.length) (cap := cap) hl' hh' h0 h1 (by omega)
      refine ⟨.slice (if cap = l.toNat then a else a.map (·.add (l.toNat * tsize P e))) (hh.toNat - l.toNat) (cap - l.toNat), ?_, .same hm hk ?_⟩
      · simp only [Instr.sliceAt, Sem.run_bind, run_underlying hd, Result.andThen_ok, Instr.slice, hb, run_size ht, Sem.run_pure]
      · refine slice_rep (o := o) hw (by omega) (by omega) (by omega) (Nat.le_refl _) ⟨a, cap, rfl, a1, a2, a3, a4⟩ ?_
        split
        · rename_i hc; exact .inl ⟨rfl, by omega, by omega, rfl⟩
        · split
          · rename_i hc
            obtain ⟨hc1, rfl⟩ := hc
            replace a4 : cap = rows.length := a4
            exact .inr (.inl ⟨rfl, by omega⟩)
          · exact .inr (.inr rfl)
    · rename_i e l hh k q he hl hhe
      obtain ⟨ht, hw, h0, h1, hq, hsome, h2, hk⟩ := h
      subst hq
      have hd := telem_und he
      obtain ⟨a, cap, rfl, a1, a2, a3, a4⟩ := hx
      have hl' : ulo = none ∧ l = 0 ∨ ∃ k, ulo = some (.int k l) := by
        rcases bnd_spec (Γ := Γ) (w := w) hl hlo nlo with ⟨_, q, r⟩ | q
        · exact .inl ⟨q, r⟩
        · exact .inr q
      obtain ⟨v, hv1, hv2⟩ := hmx _ rfl
      replace hv2 : v = .int k hh := hv2
      subst hv2
      rw [hv1]
      rcases bnd_spec (Γ := Γ) (w := w) hhe hhi nhi with ⟨q, _, _⟩ | hh'
      · rw [q] at hsome; cases hsome
      · have hb := run_bounds3 (P := P) (w := w) (len := rows.length) (cap := cap) (kq := k) hl' hh' h0 h1 (by omega)
        refine ⟨.slice (if hh.toNat = l.toNat then a else a.map (·.add (l.toNat * tsize P e))) (hh.toNat - l.toNat) (hh.toNat - l.toNat), ?_, .same hm hk ?_⟩
        · simp only [Instr.sliceAt, Sem.run_bind, run_underlying hd, Result.andThen_ok, Instr.slice, hb, run_size ht, Sem.run_pure]
        · exact slice_rep (o := o) hw (by omega) (by omega) (Nat.le_refl _) (by omega) ⟨a, cap, rfl, a1, a2, a3, a4⟩ (.inr (.inl ⟨rfl, rfl⟩))
    · exact h.elim
  · rename_i n off len cap
    split at h
    · rename_i e l hh he hl hhe
      obtain ⟨ht, h0, h1, h2, h3, h4, hk⟩ := h
      have hd := telem_und he
      obtain ⟨hn, cap', hcap, rfl⟩ := hx
      have hl' : ulo = none ∧ l = 0 ∨ ∃ k, ulo = some (.int k l) := by
        rcases bnd_spec (Γ := Γ) (w := w) hl hlo nlo with ⟨_, q, r⟩ | q
        · exact .inl ⟨q, r⟩
        · exact .inr q
      have hh' : uhi = none ∧ hh = len ∨ ∃ k, uhi = some (.int k hh) := by
        rcases bnd_spec (Γ := Γ) (w := w) hhe hhi nhi with ⟨_, q, r⟩ | q
        · exact .inl ⟨q, r⟩
        · exact .inr q
      rw [nmx rfl]
      have hb := run_bounds (P := P) (w := w) (isS := true) (len := len) (cap := cap') hl' hh' h0 h1 (by omega)
      refine ⟨.slice (some ⟨Γ.loc n, off + l.toNat * tsize P e, none⟩) (hh.toNat - l.toNat) (cap' - l.toNat), ?_, .same hm hk ⟨hn, cap' - l.toNat, by omega, ?_⟩⟩
      · simp only [Instr.sliceAt, Sem.run_bind, run_underlying hd, Result.andThen_ok, Instr.slice, hb, run_size ht, Sem.run_pure]
        rw [if_neg (by omega)]
        simp [add_addr]
      · rw [show (hh - l).toNat = hh.toNat - l.toNat from by omega]
    · exact h.elim
  · rename_i s
    split at h
    · rename_i l hh hl hhe
      obtain ⟨hs, h0, h1, h2, hk⟩ := h
      have hd := tstr_und hs
      replace hx : u = .string s := hx
      subst hx
      have hl' : ulo = none ∧ l = 0 ∨ ∃ k, ulo = some (.int k l) := by
        rcases bnd_spec (Γ := Γ) (w := w) hl hlo nlo with ⟨_, q, r⟩ | q
        · exact .inl ⟨q, r⟩
        · exact .inr q
      have hh' : uhi = none ∧ hh = s.size ∨ ∃ k, uhi = some (.int k hh) := by
        rcases bnd_spec (Γ := Γ) (w := w) hhe hhi nhi with ⟨_, q, r⟩ | q
        · exact .inl ⟨q, r⟩
        · exact .inr q
      rw [nmx rfl]
      have hb := run_bounds (P := P) (w := w) (isS := false) (len := s.size) (cap := s.size) hl' hh' h0 h1 (by omega)
      refine ⟨.string (s.extract l.toNat hh.toNat), ?_, .same hm hk rfl⟩
      simp [Instr.sliceAt, run_underlying hd, Instr.slice, hb]
    · exact h.elim
  · exact h.elim

theorem sound_len {ts : Array TypeId} {ty : TypeId} {x : PV} {u : Value} (h : alen P ts.toList x m K) (hm : MemSim Γ m w) (hx : VRep Γ w x u) : ∃ r, (Builtin.len_ ts ty #[u]).run P w = .ok r w ∧ Then Γ w K r w := by
  unfold alen at h
  split at h
  all_goals first | exact h.elim | skip
  · rename_i t o rows hts
    obtain ⟨ht, hk⟩ := h
    obtain ⟨e, he⟩ := Option.isSome_iff_exists.1 ht
    have hd := telem_und he
    obtain ⟨a, cap, rfl, _⟩ := hx
    have : ts = #[t] := by rw [← Array.toArray_toList (xs := ts), hts]
    subst this
    exact ⟨_, by simp [Builtin.len_, run_underlying hd]; rfl, .same hm hk rfl⟩
  · rename_i t _ _ len _ hts
    obtain ⟨ht, hk⟩ := h
    obtain ⟨e, he⟩ := Option.isSome_iff_exists.1 ht
    have hd := telem_und he
    obtain ⟨_, _, _, rfl⟩ := hx
    have : ts = #[t] := by rw [← Array.toArray_toList (xs := ts), hts]
    subst this
    exact ⟨_, by simp [Builtin.len_, run_underlying hd]; rfl, .same hm hk rfl⟩
  · rename_i t s hts
    obtain ⟨ht, hk⟩ := h
    have hd := tstr_und ht
    replace hx : u = .string s := hx
    subst hx
    have : ts = #[t] := by rw [← Array.toArray_toList (xs := ts), hts]
    subst this
    exact ⟨_, by simp [Builtin.len_, run_underlying hd]; rfl, .same hm hk rfl⟩

theorem sound_makeSlice {t : TypeId} {l c : PV} {ul uc : Value} (h : amakeSlice P t l c m K) (hm : MemSim Γ m w) (hl : VRep Γ w l ul) (hc : VRep Γ w c uc) :
    ∃ r w', (Instr.makeSlice t ul uc).run P w = .ok r w' ∧ Then Γ w K r w' := by
  unfold amakeSlice at h
  split at h
  · rename_i k n k' n' e he
    replace hl : ul = .int k n := hl
    replace hc : uc = .int k' n' := hc
    subst hl hc
    obtain ⟨rfl, h0, h62, ht, hby, h⟩ := h
    have hd := telem_und he
    obtain ⟨i, hi⟩ := tinfo_info ht
    have hbt : i.bytes = tbytes P e := by simp [tbytes, Program.bytesOf, hi]
    have hst : i.size = tsize P e := by simp [tsize, Program.cellsOf, hi]
    cases hz : tzero P e with
    | none => simp [hz] at h
    | some z =>
      simp only [hz] at h
      obtain ⟨hz1, hpos, hk⟩ := h
      have hiz : i.zero = some z := by simpa [tzero, hi] using hz
      have hrun := run_make w t e i z hd hi hiz k k' n n h0 (Int.le_refl _) (by rw [hbt]; omega) (by omega)
      rw [hst] at hrun
      obtain ⟨hr, h1⟩ := zrow_rep (Γ := Γ) (w := w) hpos (n.toNat * tsize P e)
      obtain ⟨h3, h4⟩ := hm.newLoc (us := madeCells z.cells (n.toNat * tsize P e)) hr (h1 hz1) e
      refine ⟨_, _, hrun, ⟨_, _, _, hk, ⟨by show m.nloc < Γ.nloc + 1; rw [hm.nloc]; omega, _, Nat.le_refl _, ?_⟩, Ctx.le_newLoc Γ _, h4, h3⟩⟩
      show _ = Value.slice (some ⟨upd Γ.loc Γ.nloc w.heap.size m.nloc, 0, none⟩) _ _
      rw [hm.nloc, upd_same]
  · exact h.elim

theorem mapRep {ρ : Operand → PV} {ev : Operand → Value} (hv : ∀ x, VRep Γ w (ρ x) (ev x)) : ∀ l : List Operand, LRep Γ w (l.map ρ) (l.map ev)
  | [] => rfl
  | x :: l => ⟨_, _, rfl, hv x, mapRep hv l⟩
theorem mapRepS {ρ : Operand → PV} {ev : Operand → Value} (hv : ∀ x, VRep Γ w (ρ x) (ev x)) : ∀ l : List Operand, LRep Γ w (l.map (fun x => (ρ x).strip)) (l.map ev)
  | [] => rfl
  | x :: l => ⟨_, _, rfl, VRep.strip _ _ (hv x), mapRepS hv l⟩

theorem run_callFunc {f : FuncId} (h : HasBody P f) (args : Array Value) : (callFunc f args).run P w = .ok (.enter f args) w := by
  obtain ⟨fn, c, h1, h2, h3⟩ := h
  simp only [callFunc, Sem.run_bind, program, Sem.run, Result.andThen_ok, h1]
  rw [if_neg (by rw [h3]; simp), if_neg (by rw [h2]; simp)]
  rfl

theorem sound_call {o : Oper} {c : Call} {ρ : Operand → PV} {ev : Operand → Value} (ho : o.op = .call c) (h : acall P c ρ m K Kp) (hm : MemSim Γ m w) (hv : ∀ x, VRep Γ w (ρ x) (ev x)) :
    Up P (Then Γ w K) (Then Γ w Kp) ((execOp ev o).run P w) := by
  obtain ⟨callee, args, argTypes⟩ := c
  unfold acall at h
  simp only at h
  split at h
  · rename_i f
    split at h
    · rename_i g first caps hf
      have hvf := hv f
      rw [hf] at hvf
      obtain ⟨fs, us, hef, h1, h2⟩ := hvf
      obtain ⟨hb, hcall⟩ := h
      have hrun : (execOp ev o).run P w = .ok (.enter g (fs ++ args.map ev ++ us)) w := by
        simp only [execOp, ho, resolve, Deferred.ofValue, hef, Sem.run_bind, Sem.run_pure, Result.andThen_ok, invoke]
        exact run_callFunc hb _
      rw [hrun]
      simp only [Up]
      have hl : LRep Γ w (first ++ args.toList.map (fun x => (ρ x).strip) ++ caps) (fs ++ args.map ev ++ us).toList := by
        simp only [Array.toList_append, Array.toList_map]
        exact LRep.append _ _ _ _ (LRep.append _ _ _ _ h1 (mapRepS hv _)) h2
      refine (hcall Γ w _ hm hl).mono ?_
      rintro e w' ⟨r, m', Γ', hr, he, hle, hk, hms⟩
      cases r <;> cases e <;> simp only [ERep] at he
      · exact ⟨_, m', Γ', hr, he, hle, hk, hms⟩
      · obtain ⟨v, rfl, he⟩ := he
        exact ⟨v, rfl, _, m', Γ', hr, he, hle, hk, hms⟩
    · rename_i n hf
      have hvf := hv f
      rw [hf] at hvf
      obtain ⟨_, hef⟩ := hvf
      have hl : LRep Γ w (args.toList.map (fun x => (ρ x).strip)) (args.map ev).toList := by rw [Array.toList_map]; exact mapRepS hv _
      obtain ⟨r, h1, h2, h3⟩ := h Γ w _ hm hl
      have hrun : (execOp ev o).run P w = (Instr.yield (Γ.loc n) (args.map ev)).run P w := by
        simp only [execOp, ho, resolve, Deferred.ofValue, hef, Sem.run_bind, Sem.run_pure, Result.andThen_ok, invoke]
        simp
      rw [hrun, run_yield h1 (by simpa using h2)]
      simp only [Up]
      simp only [Array.toArray_toList] at h3
      refine h3.mono ?_
      rintro e w' ⟨r, m', Γ', hr, he, hle, hk, hms⟩
      cases r <;> cases e <;> simp only [ERep] at he
      · exact ⟨_, m', Γ', hr, he, hle, hk, hms⟩
      · obtain ⟨v, rfl, he⟩ := he
        exact ⟨v, rfl, _, m', Γ', hr, he, hle, hk, hms⟩
    · exact h.elim
  · split at h
    · rename_i x y hxy
      obtain ⟨r, w', h1, h2⟩ := sound_append (ty := o.type) h hm (hv x) (hv y)
      have ha : args.map ev = #[ev x, ev y] := by rw [← Array.toArray_toList (xs := args), hxy]; simp
      simp only [execOp, ho, resolve, Sem.run_bind, Sem.run_pure, Result.andThen_ok, invoke, builtin, ha, h1, Up]
      exact h2
    · exact h.elim
  · split at h
    · rename_i x hxy
      obtain ⟨r, h1, h2⟩ := sound_len (ty := o.type) h hm (hv x)
      have ha : args.map ev = #[ev x] := by rw [← Array.toArray_toList (xs := args), hxy]; simp
      simp only [execOp, ho, resolve, Sem.run_bind, Sem.run_pure, Result.andThen_ok, invoke, builtin, ha, h1, Up]
      exact h2
    · exact h.elim
  · split at h
    · rename_i k a k' b hxy
      have hl := mapRep hv args.toList
      rw [hxy] at hl
      obtain ⟨u, _, e1, h1, v, _, e2, h2, e3⟩ := hl
      subst e3 e2
      replace h1 : u = .int k a := h1
      replace h2 : v = .int k' b := h2
      subst h1 h2
      have ha : args.map ev = #[.int k a, .int k' b] := by rw [← Array.toArray_toList (xs := args.map ev), Array.toList_map, e1]
      have hrun : (Builtin.max_ argTypes o.type #[.int k a, .int k' b]).run P w = .ok (.int k (if a < b then b else a)) w := by
        simp [Builtin.max_, Builtin.max2]
      simp only [execOp, ho, resolve, Sem.run_bind, Sem.run_pure, Result.andThen_ok, invoke, builtin, ha, hrun, Up]
      exact .same hm h rfl
    · exact h.elim
  · split at h
    · rename_i k a k' b hxy
      have hl := mapRep hv args.toList
      rw [hxy] at hl
      obtain ⟨u, _, e1, h1, v, _, e2, h2, e3⟩ := hl
      subst e3 e2
      replace h1 : u = .int k a := h1
      replace h2 : v = .int k' b := h2
      subst h1 h2
      have ha : args.map ev = #[.int k a, .int k' b] := by rw [← Array.toArray_toList (xs := args.map ev), Array.toList_map, e1]
      have hrun : (Builtin.min_ argTypes o.type #[.int k a, .int k' b]).run P w = .ok (.int k (if b < a then b else a)) w := by
        simp [Builtin.min_, Builtin.min2]
      simp only [execOp, ho, resolve, Sem.run_bind, Sem.run_pure, Result.andThen_ok, invoke, builtin, ha, hrun, Up]
      exact .same hm h rfl
    · exact h.elim
  · exact h.elim

theorem partsRep {ρ : Operand → PV} {ev : Operand → Value} (hv : ∀ x, VRep Γ w (ρ x) (ev x)) (parts : Array (Nat × Operand)) :
    (parts.toList.map (fun x => (x.1, ρ x.2))).length = (parts.map (fun x => (x.1, ev x.2))).toList.length ∧
    ∀ (k : Nat) (x : Nat × PV) (y : Nat × Value), (parts.toList.map (fun x => (x.1, ρ x.2)))[k]? = some x → (parts.map (fun x => (x.1, ev x.2))).toList[k]? = some y → x.1 = y.1 ∧ VRep Γ w x.2 y.2 := by
  refine ⟨by simp, fun k x y hx hy => ?_⟩
  rw [Array.toList_map] at hy
  rw [List.getElem?_map] at hx hy
  cases hk : parts.toList[k]? with
  | none => rw [hk] at hx; cases hx
  | some p =>
    rw [hk] at hx hy
    cases hx; cases hy
    exact ⟨rfl, hv p.2⟩

theorem optRep {ρ : Operand → PV} {ev : Operand → Value} (hv : ∀ x, VRep Γ w (ρ x) (ev x)) (o : Option Operand) :
    (∀ p, o.map ρ = some p → ∃ v, o.map ev = some v ∧ VRep Γ w p v) ∧ (o.map ρ = none → o.map ev = none) := by
  cases o with
  | none => exact ⟨(fun p h => by cases h), fun _ => rfl⟩
  | some x => exact ⟨(fun p h => by cases h; exact ⟨_, rfl, hv x⟩), (fun h => by cases h)⟩

/-- Every operation's abstract step is sound. -/
theorem aop_sound (o : Oper) (ρ : Operand → PV) (h : aop P o.op ρ m K Kp) : OpOK P o ρ m K Kp := by
  intro Γ ev w hm hv
  cases ho : o.op <;> rw [ho] at h <;> simp only [aop] at h
  case move x => simp only [execOp, ho, Sem.run_pure, Up]; exact .same hm h (hv x)
  case assign x => simp only [execOp, ho, Sem.run_pure, Up]; exact .same hm h (hv x)
  case pick c a b =>
    obtain ⟨v, h1, h2⟩ := sound_pick (P := P) h hm (hv c) (hv a) (hv b)
    have hrun : (execOp ev o).run P w = .ok (.value v) w := by simp only [execOp, ho]; exact h1
    rw [hrun]; exact h2
  case alloc e =>
    cases hz : tzero P e with
    | none => simp [hz] at h
    | some z =>
      simp only [hz] at h
      obtain ⟨v, w', h1, h2⟩ := sound_alloc hz h.1 h.2 hm
      simp only [execOp, ho, Sem.run_bind, h1, Result.andThen_ok, Sem.run_pure, Up]; exact h2
  case box e x =>
    cases hc : cells1 (ρ x) with
    | none => simp [hc] at h
    | some cs =>
      simp only [hc] at h
      simp only [execOp, ho, Instr.box, Sem.run_bind, newVar_run, Result.andThen_ok, Sem.run_pure, Up]
      exact sound_box hc h hm (hv x)
  case build t parts =>
    obtain ⟨h1, h2⟩ := partsRep hv parts
    obtain ⟨v, h3, h4⟩ := sound_build h hm h1 h2
    simp only [execOp, ho, Sem.run_bind, h3, Result.andThen_ok, Sem.run_pure, Up]; exact h4
  case buildSlice t len parts =>
    obtain ⟨h1, h2⟩ := partsRep hv parts
    obtain ⟨v, w', h3, h4⟩ := sound_buildSlice h hm h1 h2
    simp only [execOp, ho, Sem.run_bind, h3, Result.andThen_ok, Sem.run_pure, Up]; exact h4
  case load t x =>
    obtain ⟨v, h1, h2⟩ := sound_load h hm (hv x)
    simp only [execOp, ho, Sem.run_bind, h1, Result.andThen_ok, Sem.run_pure, Up]; exact h2
  case store t x y =>
    obtain ⟨w', h1, h2⟩ := sound_store h hm (hv x) (hv y)
    simp only [execOp, ho, Sem.run_bind, h1, Result.andThen_ok, Sem.run_pure, Up]; exact h2
  case nilCheck x =>
    have hx := hv x
    generalize ρ x = p at h hx
    cases p <;> simp only [anil] at h
    · obtain ⟨b, off, e, hr⟩ := hx
      simp only [execOp, ho, e, Sem.run_pure, Up]; exact .same hm h ⟨b, off, rfl, hr⟩
    · obtain ⟨hn, e⟩ := hx
      simp only [execOp, ho, e, Sem.run_pure, Up]; exact .same hm h ⟨hn, rfl⟩
    · obtain ⟨fs, us, e, hr⟩ := hx
      simp only [execOp, ho, e, Sem.run_pure, Up]; exact .same hm h ⟨fs, us, rfl, hr⟩
  case binOp op t x y yt =>
    obtain ⟨v, h1, h2⟩ := sound_binop (ox := x) (oy := y) h hm (hv x) (hv y)
    rw [Sem.run_bind] at h1
    simp only [execOp, ho, Sem.run_bind]
    rw [h1]
    exact h2
  case unOp op t x =>
    obtain ⟨v, h1, h2⟩ := sound_unop (P := P) h hm (hv x)
    simp only [execOp, ho, Sem.run_bind, h1, Result.andThen_ok, Sem.run_pure, Up]; exact h2
  case convert s d x =>
    obtain ⟨v, h1, h2⟩ := sound_convert h hm (hv x)
    simp only [execOp, ho, Sem.run_bind, h1, Result.andThen_ok, Sem.run_pure, Up]; exact h2
  case makeInterface t x =>
    obtain ⟨hc, h⟩ := h
    have hrun : (Instr.makeInterface t (ev x)).run P w = .ok (.iface t (ev x)) w := by
      unfold tconc at hc
      split at hc
      · cases hc
      · rename_i d hne hd
        simp only [Instr.makeInterface, Sem.run_bind, run_underlying hd, Result.andThen_ok]
        first
        | rfl
        | (split
           · exact (hne _ rfl).elim
           · rfl)
      · cases hc
    simp only [execOp, ho, Sem.run_bind, hrun, Result.andThen_ok, Sem.run_pure, Up]
    exact .same hm h ⟨_, rfl, hv x⟩
  case makeFunc fn first caps =>
    cases fn <;> simp only at h
    case func f =>
      simp only [execOp, ho, Instr.makeFunc, Sem.run_bind, Sem.run_pure, Result.andThen_ok, Up]
      refine .same hm h ⟨_, _, rfl, ?_, ?_⟩
      · rw [Array.toList_map]; exact mapRep hv _
      · rw [Array.toList_map]; exact mapRep hv _
  case makeSlice t l c =>
    obtain ⟨v, w', h1, h2⟩ := sound_makeSlice h hm (hv l) (hv c)
    simp only [execOp, ho, Sem.run_bind, h1, Result.andThen_ok, Sem.run_pure, Up]; exact h2
  case slice t x lo hi mx =>
    obtain ⟨v, h1, h2⟩ := sound_slice h hm (hv x) (optRep hv lo).1 (optRep hv lo).2 (optRep hv hi).1 (optRep hv hi).2 (optRep hv mx).1 (optRep hv mx).2
    simp only [execOp, ho, Sem.run_bind, h1, Result.andThen_ok, Sem.run_pure, Up]; exact h2
  case fieldAddr s x f =>
    obtain ⟨v, h1, h2⟩ := sound_fieldAddr h hm (hv x)
    simp only [execOp, ho, Sem.run_bind, h1, Result.andThen_ok, Sem.run_pure, Up]; exact h2
  case field s x f =>
    obtain ⟨v, h1, h2⟩ := sound_field h hm (hv x)
    simp only [execOp, ho, Sem.run_bind, h1, Result.andThen_ok, Sem.run_pure, Up]; exact h2
  case indexAddr t x i =>
    obtain ⟨v, h1, h2⟩ := sound_indexAddr h hm (hv x) (hv i)
    simp only [execOp, ho, Sem.run_bind, h1, Result.andThen_ok, Sem.run_pure, Up]; exact h2
  case index t x i =>
    obtain ⟨v, h1, h2⟩ := sound_index h hm (hv x) (hv i)
    simp only [execOp, ho, Sem.run_bind, h1, Result.andThen_ok, Sem.run_pure, Up]; exact h2
  case extract x i =>
    obtain ⟨v, h1, h2⟩ := sound_extract (P := P) h hm (hv x)
    simp only [execOp, ho, Sem.run_bind, h1, Result.andThen_ok, Sem.run_pure, Up]; exact h2
  case call c => exact sound_call ho h hm hv
  case panic x =>
    have hx := hv x
    generalize ρ x = p at h hx
    cases p <;> simp only at h
    case iface t y =>
      obtain ⟨u, e, hr⟩ := hx
      have hrun : (execOp ev o).run P w = .halt (.panic (.iface t u)) w := by
        simp [execOp, ho, e, Instr.panic, goPanic, Sem.run]
      rw [hrun]
      exact .same hm h ⟨u, rfl, hr⟩
end
end Go.Ab
/- The abstract layer, 11: a function's contract out of what its body does to the abstract state; guarded operations. Over any program. -/
namespace Go.Ab
open Go.RowKit

mutual
theorem VRep.sc {Γ : Ctx} {w : World} : ∀ (p : PV) (u : Value), VRep Γ w p u → p.sc Γ.nloc Γ.ntok
  | .any, _, _ => trivial
  | .v _, _, _ => trivial
  | .agg cs, u, h => by
    obtain ⟨us, e, h⟩ := h
    exact LRep.sc cs _ h
  | .list o rows, u, h => by
    obtain ⟨a, cap, e, h1, h2, h3, h4⟩ := h
    refine ⟨?_, ?_⟩
    · cases a with
      | none =>
        have := h2 rfl
        have : rows = [] := List.eq_nil_of_length_eq_zero (by omega)
        rw [this]; trivial
      | some ad => exact SRep.sc rows _ _ (h3 ad rfl).2
    · cases o with
      | no => trivial
      | full => trivial
      | tok k => exact h4.1
  | .ro cs, u, h => by
    obtain ⟨b, off, e, h⟩ := h
    exact CRep.sc cs _ _ h
  | .loc n off, u, h => h.1
  | .marr n off len cap, u, h => h.1
  | .clo f first caps, u, h => by
    obtain ⟨fs, us, e, h1, h2⟩ := h
    exact ⟨LRep.sc first _ h1, LRep.sc caps _ h2⟩
  | .iface t y, u, h => by
    obtain ⟨x, e, h⟩ := h
    exact VRep.sc y _ h
  | .tup xs, u, h => by
    obtain ⟨us, e, h⟩ := h
    exact LRep.sc xs _ h
  | .yld n, u, h => h.1
  | .mtok k _, u, h => h.1
  | .mptr k _ _, u, h => h.1
theorem LRep.sc {Γ : Ctx} {w : World} : ∀ (xs : List PV) (us : List Value), LRep Γ w xs us → PV.scL Γ.nloc Γ.ntok xs
  | [], _, _ => trivial
  | x :: xs, us, h => by
    obtain ⟨u, us', e, h1, h2⟩ := h
    exact ⟨VRep.sc x _ h1, LRep.sc xs _ h2⟩
theorem CRep.sc {Γ : Ctx} {w : World} : ∀ (xs : List PV) (b off : Nat), CRep Γ w xs b off → PV.scL Γ.nloc Γ.ntok xs
  | [], _, _, _ => trivial
  | x :: xs, b, off, h => by
    obtain ⟨⟨_, u, _, _, h1⟩, h2⟩ := h
    exact ⟨VRep.sc x _ h1, CRep.sc xs _ _ h2⟩
theorem SRep.sc {Γ : Ctx} {w : World} : ∀ (rs : List (List PV)) (b off : Nat), SRep Γ w rs b off → PV.scR Γ.nloc Γ.ntok rs
  | [], _, _, _ => trivial
  | r :: rs, b, off, h => ⟨CRep.sc r _ _ h.1, SRep.sc rs _ _ h.2⟩
end

mutual
theorem PV.sc_mono {nl nl' nt nt' : Nat} (h1 : nl ≤ nl') (h2 : nt ≤ nt') : ∀ p : PV, p.sc nl nt → p.sc nl' nt'
  | .any, _ => trivial
  | .v _, _ => trivial
  | .agg cs, h => PV.scL_mono h1 h2 cs h
  | .list o rows, h => ⟨PV.scR_mono h1 h2 rows h.1, by
    cases o with
    | no => trivial
    | full => trivial
    | tok k => exact Nat.lt_of_lt_of_le h.2 h2⟩
  | .ro cs, h => PV.scL_mono h1 h2 cs h
  | .loc n off, h => Nat.lt_of_lt_of_le h h1
  | .marr n off len cap, h => Nat.lt_of_lt_of_le h h1
  | .clo f first caps, h => ⟨PV.scL_mono h1 h2 first h.1, PV.scL_mono h1 h2 caps h.2⟩
  | .iface t y, h => PV.sc_mono h1 h2 y h
  | .tup xs, h => PV.scL_mono h1 h2 xs h
  | .yld n, h => Nat.lt_of_lt_of_le h h1
  | .mtok k _, h => Nat.lt_of_lt_of_le h h2
  | .mptr k _ _, h => Nat.lt_of_lt_of_le h h2
theorem PV.scL_mono {nl nl' nt nt' : Nat} (h1 : nl ≤ nl') (h2 : nt ≤ nt') : ∀ xs : List PV, PV.scL nl nt xs → PV.scL nl' nt' xs
  | [], _ => trivial
  | x :: xs, h => ⟨PV.sc_mono h1 h2 x h.1, PV.scL_mono h1 h2 xs h.2⟩
theorem PV.scR_mono {nl nl' nt nt' : Nat} (h1 : nl ≤ nl') (h2 : nt ≤ nt') : ∀ rs : List (List PV), PV.scR nl nt rs → PV.scR nl' nt' rs
  | [], _ => trivial
  | r :: rs, h => ⟨PV.scL_mono h1 h2 r h.1, PV.scR_mono h1 h2 rs h.2⟩
end

/-- The memory behind a call: m'' is what the callee leaves of m, m' being the memory at its end. -/
structure Leaves (m m' m'' : St) : Prop where
  nloc : m''.nloc = m.nloc
  ntok : m.ntok ≤ m''.ntok
  lloc : m.nloc ≤ m'.nloc
  ltok : m''.ntok ≤ m'.ntok
  loc : ∀ n, n < m.nloc → m''.loc n = m'.loc n ∧ (m'.loc n = m.loc n ∨ ∀ cs, m'.loc n = some cs → PV.scL m.nloc m''.ntok cs)
  top : ∀ k, k < m''.ntok → m''.top k = m'.top k ∧ m''.wd k = m'.wd k
  lp : ∀ n, n < m.nloc → m''.lp n = m'.lp n ∧ m'.lp n = m.lp n
  it : ∀ n, n < m.nloc → m''.it n = m'.it n
  arr : ∀ k cs, k < m''.ntok → m''.top k < DEAD → m''.arr k = some cs → m'.arr k = some cs ∧ ((k < m.ntok ∧ m.arr k = some cs) ∨ PV.scL m.nloc m''.ntok cs)

/-- What a callee leaves, its own variables perhaps among it. -/
structure Lv (m m' m'' : St) : Prop where
  nloc : m.nloc ≤ m''.nloc
  ntok : m.ntok ≤ m''.ntok
  lloc : m''.nloc ≤ m'.nloc
  ltok : m''.ntok ≤ m'.ntok
  loc : ∀ n cs, n < m''.nloc → m''.loc n = some cs → m'.loc n = some cs ∧ ((n < m.nloc ∧ m.loc n = some cs) ∨ PV.scL m''.nloc m''.ntok cs)
  top : ∀ k, k < m''.ntok → m''.top k = m'.top k ∧ m''.wd k = m'.wd k
  lp : ∀ n L, n < m''.nloc → m''.lp n = some L → n < m.nloc ∧ m'.lp n = some L ∧ m.lp n = some L
  it : ∀ n x, n < m''.nloc → m''.it n = some x → m'.it n = some x
  arr : ∀ k cs, k < m''.ntok → m''.top k < DEAD → m''.arr k = some cs → m'.arr k = some cs ∧ ((k < m.ntok ∧ m.arr k = some cs) ∨ PV.scL m''.nloc m''.ntok cs)
theorem Leaves.lv {m m' m'' : St} (h : Leaves m m' m'') : Lv m m' m'' := by
  refine ⟨Nat.le_of_eq h.nloc.symm, h.ntok, by rw [h.nloc]; exact h.lloc, h.ltok, fun n cs hn hc => ?_, h.top, fun n L hn hl => ?_, fun n x hn hx => ?_, by rw [h.nloc]; exact h.arr⟩
  · rw [h.nloc] at hn
    obtain ⟨h1, h2⟩ := h.loc n hn
    rw [h1] at hc
    refine ⟨hc, ?_⟩
    rcases h2 with h2 | h2
    · exact .inl ⟨hn, h2 ▸ hc⟩
    · exact .inr (h.nloc ▸ h2 cs hc)
  · rw [h.nloc] at hn
    obtain ⟨h1, h2⟩ := h.lp n hn
    rw [h1] at hl
    exact ⟨hn, hl, h2 ▸ hl⟩
  · rw [h.nloc] at hn
    rw [← h.it n hn]; exact hx

/-- What a result is, as the call ends. -/
def resV (P : Program) (σ : Nat → PV) (m : St) : ResultVar → PV → Prop
  | .tmp t, p => p = σ t
  | .cell a t, p => aload P t (σ a) m (fun q m' => q = p ∧ m' = m)
def ResL (P : Program) (σ : Nat → PV) (m : St) : List ResultVar → List PV → Prop
  | [], ps => ps = []
  | r :: rs, ps => ∃ p ps', ps = p :: ps' ∧ resV P σ m r p ∧ ResL P σ m rs ps'
def ResP (P : Program) (rs : List ResultVar) (σ : Nat → PV) (m : St) (p : PV) : Prop :=
  match rs with
  | [r] => resV P σ m r p
  | rs => ∃ ps, p = .tup ps ∧ ResL P σ m rs ps

/-- What a callee leaves: all of its memory, or a part. -/
def LvS (m m' m'' : St) (p : PV) : Prop := m'' = m' ∨ (Lv m m' m'' ∧ p.sc m''.nloc m''.ntok)

def Fin (P : Program) (fn : Func) (m : St) (R : ARes → St → Prop) : APost
  | .normal, σ, m' => ∃ p m'', ResP P fn.results.toList σ m' p ∧ LvS m m' m'' p.strip ∧ R (.ret p.strip) m''
  | .ret, σ, m' => ∃ p m'', ResP P fn.results.toList σ m' p ∧ LvS m m' m'' p.strip ∧ R (.ret p.strip) m''
  | .pan p, _, m' => ∃ m'', LvS m m' m'' p.strip ∧ R (.pan p.strip) m''
  | _, _, _ => False

section
variable {P : Program} {m m' m'' : St} {Γ Γ' : Ctx} {w w' : World}

def Ctx.withX (Γ : Ctx) (x : CtxX) : Ctx := { Γ with x := x }
theorem MemSim.withX (h : MemSim Γ m w) (x : CtxX) (hx : XSim (Γ.withX x) w) : MemSim (Γ.withX x) m w := by
  have h1 := h.nloc
  have h2 := h.ntok
  have hx' : XSim (Γ.cut x m.nloc m.ntok) w := ⟨hx.mark, hx.lps, hx.rnd, hx.dlo⟩
  have := h.cut (m := m) hx' (Nat.le_refl _) (Nat.le_refl _)
    (fun k cs hn hc => by obtain ⟨c, _, q, _⟩ := h.locs k cs hn hc; have := LRep.sc _ _ q; rw [h1, h2] at this; exact ⟨hc, this⟩) (fun k hk => ⟨rfl, rfl⟩)
    (fun k L hk hL => ⟨hL, fun t => by obtain ⟨_, tmps, D, _, _, q⟩ := h.lps.at_ k L hk hL; have := VRep.sc _ _ (q t); rw [h1, h2] at this; exact this⟩) (fun _ _ _ q => q)
    (fun k cs hk hd hc => ⟨hc, by obtain ⟨_, _, c, _, q, _⟩ := h.arrs k cs hk hd hc; have := LRep.sc _ _ q; rw [h1, h2] at this; exact this⟩)
  rw [← h1, ← h2] at this
  exact this
theorem VRep.withX {p : PV} {u : Value} (h : VRep Γ w p u) (x : CtxX) : VRep (Γ.withX x) w p u := VRep.cut p u (VRep.sc p u h) h
/-- What a call has beside its memory as it begins. -/
def CtxX.into (x : CtxX) (n : Nat) : CtxX := ⟨x.mark, x.lps, n, none, []⟩
theorem XSim.into (h : XSim Γ w) : XSim (Γ.withX (Γ.x.into w.heap.size)) w := ⟨h.mark, h.lps, fun l hl => by simp [Ctx.withX, CtxX.into] at hl, Nat.le_refl _⟩

/-- Back in the caller's context. -/
theorem XSim.back (h0 : XSim Γ w) (hb : Γ'.base = Γ.base) (h1 : ∀ D, Γ.x.mark D → Γ'.x.mark D) (h2 : ∀ D, Γ.x.lps D → Γ'.x.lps D) (hs : w.heap.size ≤ w'.heap.size) (hx : XSim Γ' w') (nl nt : Nat) : XSim (Γ'.cut Γ.x nl nt) w' :=
  ⟨fun D hD => hx.mark D (h1 D hD), fun k hk => hx.lps k (h2 k hk), fun k hk => h0.rnd k hk, Nat.le_trans h0.dlo hs⟩

theorem Lv.sim (h : Lv m m' m'') {x : CtxX} (h0 : MemSim Γ m w) (l : (Γ.withX x).le Γ') (hx : XSim (Γ'.cut Γ.x m''.nloc m''.ntok) w') (hm : MemSim Γ' m' w') : MemSim (Γ'.cut Γ.x m''.nloc m''.ntok) m'' w' ∧ Γ.le (Γ'.cut Γ.x m''.nloc m''.ntok) := by
  have hnl : Γ.nloc = m.nloc := h0.nloc
  have hnt : Γ.ntok = m.ntok := h0.ntok
  refine ⟨hm.cut hx h.lloc h.ltok ?_ ?_ ?_ h.it (fun k cs hk hd hc => ?_), ?_⟩
  · intro n cs hn hc
    obtain ⟨h1, h2⟩ := h.loc n cs hn hc
    refine ⟨h1, ?_⟩
    rcases h2 with ⟨h2, h3⟩ | h2
    · obtain ⟨c, _, h4, _⟩ := h0.locs n cs h2 h3
      have := LRep.sc _ _ h4
      rw [hnl, hnt] at this
      exact PV.scL_mono h.nloc h.ntok cs this
    · exact h2
  · intro k hk
    exact ⟨(h.top k hk).1.symm, (h.top k hk).2.symm⟩
  · intro n L hn hL
    obtain ⟨h1, h2, h3⟩ := h.lp n L hn hL
    refine ⟨h2, fun t => ?_⟩
    obtain ⟨_, tmps, D, _, _, h8⟩ := h0.lps.at_ n L h1 h3
    have := VRep.sc _ _ (h8 t)
    rw [hnl, hnt] at this
    exact PV.sc_mono h.nloc h.ntok _ this
  · obtain ⟨h1, h2⟩ := h.arr k cs hk hd hc
    refine ⟨h1, ?_⟩
    rcases h2 with ⟨h2, h3⟩ | h2
    · by_cases hd0 : m.top k < DEAD
      · obtain ⟨_, _, c, _, h4, _⟩ := h0.arrs k cs h2 hd0 h3
        have := LRep.sc _ _ h4
        rw [hnl, hnt] at this
        exact PV.scL_mono h.nloc h.ntok cs this
      · have e1 := (h.top k hk).1
        have e2 := hm.top k (by have := h.ltok; omega)
        have e3 := h0.top k h2
        have e4 := l.tok k (by show k < Γ.ntok; omega)
        have e5 : (Γ.withX x).top k = Γ.top k := rfl
        rcases e4 with ⟨e4, _⟩ | e4 <;> omega
    · exact h2
  · refine ⟨l.base, ?_, fun n hn => l.loc n hn, l.imm, ?_, fun k hk => l.tok k hk, fun k hk => l.wd k hk, CtxX.le.refl _, l.immb⟩
    · show Γ.nloc ≤ m''.nloc; rw [hnl]; exact h.nloc
    · show Γ.ntok ≤ m''.ntok; rw [hnt]; exact h.ntok

theorem LvS.sim {p : PV} (h : LvS m m' m'' p) {x : CtxX} (h0 : MemSim Γ m w) (l : (Γ.withX x).le Γ') (hx : XSim (Γ'.cut Γ.x m''.nloc m''.ntok) w') (hm : MemSim Γ' m' w') : MemSim (Γ'.cut Γ.x m''.nloc m''.ntok) m'' w' ∧ Γ.le (Γ'.cut Γ.x m''.nloc m''.ntok) := by
  rcases h with rfl | h
  · have h1 := hm.nloc
    have h2 := hm.ntok
    refine ⟨hm.cut hx (Nat.le_refl _) (Nat.le_refl _)
      (fun k cs hn hc => by obtain ⟨c, _, q, _⟩ := hm.locs k cs hn hc; have := LRep.sc _ _ q; rw [h1, h2] at this; exact ⟨hc, this⟩) (fun k hk => ⟨rfl, rfl⟩)
      (fun k L hk hL => ⟨hL, fun t => by obtain ⟨_, tmps, D, _, _, q⟩ := hm.lps.at_ k L hk hL; have := VRep.sc _ _ (q t); rw [h1, h2] at this; exact this⟩) (fun _ _ _ q => q)
      (fun k cs hk hd hc => ⟨hc, by obtain ⟨_, _, c, _, q, _⟩ := hm.arrs k cs hk hd hc; have := LRep.sc _ _ q; rw [h1, h2] at this; exact this⟩), ?_⟩
    refine ⟨l.base, ?_, fun n hn => l.loc n hn, l.imm, ?_, fun k hk => l.tok k hk, fun k hk => l.wd k hk, CtxX.le.refl _, l.immb⟩
    · show Γ.nloc ≤ m''.nloc; rw [← h1]; exact l.nloc
    · show Γ.ntok ≤ m''.ntok; rw [← h2]; exact l.ntok
  · exact h.1.sim h0 l hx hm
theorem LvS.sc {p : PV} (h : LvS m m' m'' p) (hm : MemSim Γ' m' w') {u : Value} (hv : VRep Γ' w' p u) : p.sc m''.nloc m''.ntok := by
  rcases h with rfl | h
  · have := VRep.sc _ _ hv
    rwa [hm.nloc, hm.ntok] at this
  · exact h.2

/-- A frame on its way out takes its marks. -/
theorem leavesM {F : Fence} {n : Nat} {fn : Func} {tmps : Array Value} {R : Ending → World → Prop} {ds : List Deferred} {u : FrameMode} (hu : u ≠ .run) : ∀ (ms : List Nat) (w : World), ms.Nodup →
    (∀ D ∈ ms, w.heap[D]? = some (.deferred (some [])) ∧ Γ.base ≤ D ∧ ¬ Γ.x.mark D) → MemSim Γ m w → (∀ w', MemSim Γ m w' → Keeps Γ w w' → LeavesInM F n P fn tmps R ds u w') →
    LeavesInM F n P fn tmps R (ms.map (fun D => { target := .collected D, args := #[] }) ++ ds) u w
  | [], w, _, _, hm, k => k w hm (Keeps.refl _ _)
  | D :: ms, w, hd, hD, hm, k => by
    obtain ⟨h1, h2, h3⟩ := hD D (by simp)
    have hx : XSim Γ (w.putObj D (.deferred none)) := by
      refine ⟨fun D' hD' => ?_, fun l hl => ?_, hm.xs.rnd, by simp; exact hm.xs.dlo⟩
      · obtain ⟨a, b⟩ := hm.xs.mark D' hD'
        exact ⟨a, (World.putObj_heap_other (fun e : D' = D => h3 (by rw [← e]; exact hD'))).trans b⟩
      · obtain ⟨a, L, b⟩ := hm.xs.lps l hl
        refine ⟨a, L, (World.putObj_heap_other (fun e => ?_)).trans b⟩
        subst e; rw [b] at h1; cases h1
    obtain ⟨hm', hk'⟩ := hm.putObj (o' := .deferred none) h1 rfl rfl h2 (fun n L hn hL e => by
      obtain ⟨_, tmps, D', q, _⟩ := hm.lps.at_ n L hn hL
      rw [e, h1] at q; cases q) hx (fun n x a b e => by have := (hm.its.at_ n x a b).2; rw [e, h1] at this; cases this)
    refine ⟨hu, .inl ⟨D, _, rfl, run_takeDeferred h1, leavesM hu ms _ (List.nodup_cons.1 hd).2 (fun D' hD' => ?_) hm' fun w' a b => k w' a (hk'.trans (Ctx.le.refl _) b)⟩⟩
    obtain ⟨a, b, c⟩ := hD D' (by simp [hD'])
    exact ⟨(World.putObj_heap_other (fun e : D' = D => (List.nodup_cons.1 hd).1 (by rw [← e]; exact hD'))).trans a, b, c⟩

def resF (tmps : Array Value) : ResultVar → Sem Value
  | .tmp t => pure (tmps.getD t undef)
  | .cell a t => do loadVar t (← asAddr (tmps.getD a undef))
theorem resV_run {σ : Nat → PV} {tmps : Array Value} (hs : ∀ t, VRep Γ w (σ t) (tmps.getD t undef)) (hm : MemSim Γ m w) {r : ResultVar} {p : PV} (h : resV P σ m r p) : ∃ v, (resF tmps r).run P w = .ok v w ∧ VRep Γ w p v := by
  cases r with
  | tmp t => exact ⟨_, rfl, by rw [show p = σ t from h]; exact hs t⟩
  | cell a t =>
    have h : aload P t (σ a) m (fun q m' => q = p ∧ m' = m) := h
    obtain ⟨ad, v, p', h1, h2, ⟨rfl, _⟩, h4⟩ := sound_load0 h hm (hs a)
    exact ⟨v, by simp only [resF, Sem.run_bind, h1, asAddr, Sem.run_pure, Result.andThen_ok, h2], h4⟩
theorem resL_run {σ : Nat → PV} {tmps : Array Value} (hs : ∀ t, VRep Γ w (σ t) (tmps.getD t undef)) (hm : MemSim Γ m w) : ∀ (rs : List ResultVar) (ps : List PV), ResL P σ m rs ps → ∃ vs, (rs.mapM (resF tmps)).run P w = .ok vs w ∧ LRep Γ w ps vs ∧ vs.length = rs.length
  | [], ps, h => ⟨[], rfl, by rw [show ps = [] from h]; rfl, rfl⟩
  | r :: rs, ps, h => by
    obtain ⟨p, ps', rfl, h1, h2⟩ := h
    obtain ⟨v, k1, k2⟩ := resV_run hs hm h1
    obtain ⟨vs, k3, k4, k5⟩ := resL_run hs hm rs ps' h2
    refine ⟨v :: vs, ?_, ⟨v, vs, rfl, k2, k4⟩, by simp [k5]⟩
    rw [List.mapM_cons]
    simp only [Sem.run_bind, k1, Result.andThen_ok, k3, Sem.run_pure]
theorem results_eq (fn : Func) (tmps : Array Value) : results fn tmps = (do let vs ← fn.results.toList.mapM (resF tmps); pure (if h : vs.toArray.size = 1 then vs.toArray[0] else .tuple vs.toArray)) := by
  have e : results fn tmps = (do let vs ← fn.results.mapM (resF tmps); pure (if h : vs.size = 1 then vs[0] else Value.tuple vs)) := by
    unfold results
    refine congrArg (fun f => (do let vs ← fn.results.mapM f; pure (if h : vs.size = 1 then vs[0] else Value.tuple vs) : Sem Value)) ?_
    funext r; cases r <;> rfl
  rw [e]
  conv => lhs; rw [← Array.toArray_toList (xs := fn.results), List.mapM_toArray, map_eq_pure_bind]
  simp only [bind_assoc, pure_bind]
theorem ResP_run {σ : Nat → PV} {tmps : Array Value} {fn : Func} {p : PV} (hs : ∀ t, VRep Γ w (σ t) (tmps.getD t undef)) (hm : MemSim Γ m w) (h : ResP P fn.results.toList σ m p) : ∃ v, (results fn tmps).run P w = .ok v w ∧ VRep Γ w p v := by
  rw [results_eq]
  generalize fn.results.toList = rs at h
  have key : ∀ ps, rs.length ≠ 1 → p = .tup ps → ResL P σ m rs ps → ∃ v, (do let vs ← rs.mapM (resF tmps); pure (if h : vs.toArray.size = 1 then vs.toArray[0] else .tuple vs.toArray) : Sem Value).run P w = .ok v w ∧ VRep Γ w p v := by
    rintro ps hne rfl hl
    obtain ⟨vs, k1, k2, k3⟩ := resL_run hs hm rs ps hl
    refine ⟨.tuple vs.toArray, ?_, ⟨vs.toArray, rfl, by simpa using k2⟩⟩
    simp only [Sem.run_bind, k1, Result.andThen_ok, Sem.run_pure]
    rw [dif_neg (by simp [k3, hne])]
  match rs, h, key with
  | [r], h, _ =>
    obtain ⟨v, k1, k2⟩ := resV_run hs hm h
    refine ⟨v, ?_, k2⟩
    simp only [List.mapM_cons, List.mapM_nil, Sem.run_bind, k1, Result.andThen_ok, Sem.run_pure]
    rfl
  | [], h, key => obtain ⟨ps, e, hl⟩ := h; exact key ps (by simp) e hl
  | _ :: _ :: _, h, key => obtain ⟨ps, e, hl⟩ := h; exact key ps (by simp) e hl

/-- The slots as a call begins. -/
def slots0 (args : List PV) : Nat → PV := fun t => args.getD t .any

/-- A function's contract. -/
theorem ACall.of_aw {f : FuncId} {fn : Func} {N : Nat} {c : Code} {args : List PV} {R : ARes → St → Prop} (hf : P.funcs[f]? = some fn) (hN : fn.ntmps = N) (hb : fn.body = some c) (hn : (fn.name == "runtime.NumGoroutine") = false)
    (ha : args.length ≤ N) (h : AW P N c (Fin P fn m R) (slots0 args) m) : ACall P f args m R := by
  subst hN
  refine ⟨⟨fn, c, hf, hb, hn⟩, fun Γ w us hm hr => ?_⟩
  have hl : us.length = args.length := LRep.len _ _ hr
  have hsz := hm.xs.mark
  refine callsIn_wide.1 (callsIn_of_wp_marks (F := Fence.wide) (n := 0) hf hb trivial ?_)
  refine wpIn_mono (h (Γ.withX (Γ.x.into w.heap.size)) { tmps := us.toArray ++ Array.replicate (fn.ntmps - us.toArray.size) undef, defers := [] } w ⟨?_, ⟨[], rfl, List.nodup_nil, fun _ h => by cases h⟩, hm.withX _ hm.xs.into, fun t => ?_⟩) ?_
  · simp; omega
  · refine VRep.withX ?_ _
    unfold slots0
    by_cases ht : t < args.length
    · rw [List.getD_eq_getElem?_getD, List.getElem?_eq_getElem ht]
      obtain ⟨u, h1, h2⟩ := LRep.get _ _ hr t _ (List.getElem?_eq_getElem ht)
      have : (us.toArray ++ Array.replicate (fn.ntmps - us.toArray.size) undef).getD t undef = u := by
        rw [Array.getD_eq_getD_getElem?, Array.getElem?_append_left (by simp; omega)]
        simp [h1]
      rw [this]
      exact h2
    · rw [List.getD_eq_getElem?_getD, List.getElem?_eq_none (by omega)]
      trivial
  · rintro e a' w' ⟨x, σ', m', Γ', h1, h2, h3, h4, h5⟩
    obtain ⟨ms, hd1, hd2, hd3⟩ := h3.defers
    have hfd : Γ'.x.fd = [] := h4.x.fd
    have hdlo : Γ'.x.dlo = w.heap.size := h4.x.dlo
    have hms : ∀ D ∈ ms, w'.heap[D]? = some (.deferred (some [])) ∧ Γ'.base ≤ D ∧ ¬ Γ.x.mark D := fun D hD => by
      obtain ⟨a, b⟩ := h3.mem.xs.mark D (hd3 D hD).1
      refine ⟨b, a, fun q => ?_⟩
      have h6 := (Array.getElem?_eq_some_iff.1 (hsz D q).2).1
      have h7 := (hd3 D hD).2
      omega
    rw [hfd] at hd1
    -- in the callee's memory, with the caller's marks alone
    have hx₂ : XSim (Γ'.withX Γ.x) w' := by
      have := hm.xs.back h4.base h4.x.mark h4.x.lps h5.below.size h3.mem.xs Γ'.nloc Γ'.ntok
      exact ⟨this.mark, this.lps, this.rnd, this.dlo⟩
    have hm₂ := h3.mem.withX Γ.x hx₂
    have l₂ : (Γ.withX Γ.x).le (Γ'.withX Γ.x) := ⟨h4.base, h4.nloc, h4.loc, h4.imm, h4.ntok, h4.tok, h4.wd, CtxX.le.refl _, h4.immb⟩
    have fin : ∀ (u : FrameMode) (r : ARes) (m'' : St), u ≠ .run → ∀ pp : PV, LvS m m' m'' pp → R r m'' →
        (∀ w₂, MemSim (Γ'.withX Γ.x) m' w₂ → (∀ t, VRep (Γ'.withX Γ.x) w₂ (σ' t) (a'.tmps.getD t undef)) → Keeps (Γ'.withX Γ.x) w' w₂ → (∃ v, ERep (Γ'.cut Γ.x m''.nloc m''.ntok) w₂ r (.returned v) ∧ u = .returning ∧ (results fn a'.tmps).run P w₂ = .ok v w₂) ∨ (∃ ch, ERep (Γ'.cut Γ.x m''.nloc m''.ntok) w₂ r (.panicked ch) ∧ u = .panicking ch)) →
        LeavesInM Fence.wide 0 P fn a'.tmps (fun e w' => ∃ r m' Γ', R r m' ∧ ERep Γ' w' r e ∧ Γ.le Γ' ∧ Keeps Γ w w' ∧ MemSim Γ' m' w') a'.defers u w' := by
      intro u r m'' hu pp hlv hR hres
      rw [hd1]
      refine leavesM hu ms w' hd2 hms hm₂ fun w₂ hm₃ hk₂ => ?_
      have hk₃ : Keeps Γ w w₂ := Keeps.trans (A := Γ) (B := Γ'.withX Γ.x) ⟨h5.below, h5.imm⟩ l₂ hk₂
      have hx₃ : XSim ((Γ'.withX Γ.x).cut Γ.x m''.nloc m''.ntok) w₂ := ⟨hm₃.xs.mark, hm₃.xs.lps, hm₃.xs.rnd, hm₃.xs.dlo⟩
      obtain ⟨h6, h7⟩ := hlv.sim hm l₂ hx₃ hm₃
      rcases hres w₂ hm₃ (fun t => VRep.mono (Ctx.le.refl _) hk₂ _ _ (VRep.withX (h3.slots t) Γ.x)) hk₂ with ⟨v, a, b, c⟩ | ⟨ch, a, b⟩
      · subst b; exact ⟨v, c, r, m'', _, hR, a, h7, hk₃, h6⟩
      · subst b; exact ⟨r, m'', _, hR, a, h7, hk₃, h6⟩
    cases x <;> cases e <;> simp only [XRep] at h2 <;> simp only [Fin] at h1
    case normal.normal =>
      obtain ⟨p, m'', hp, hlv, hR⟩ := h1
      refine fin .returning _ _ (by simp) _ hlv hR fun w₂ hm₃ hs₃ _ => .inl ?_
      obtain ⟨v, hv, hrep⟩ := ResP_run (P := P) hs₃ hm₃ hp
      exact ⟨v, VRep.cut (Γ := Γ'.withX Γ.x) _ _ (hlv.sc hm₃ (VRep.strip _ _ hrep)) (VRep.strip _ _ hrep), rfl, hv⟩
    case ret.ret =>
      obtain ⟨p, m'', hp, hlv, hR⟩ := h1
      refine fin .returning _ _ (by simp) _ hlv hR fun w₂ hm₃ hs₃ _ => .inl ?_
      obtain ⟨v, hv, hrep⟩ := ResP_run (P := P) hs₃ hm₃ hp
      exact ⟨v, VRep.cut (Γ := Γ'.withX Γ.x) _ _ (hlv.sc hm₃ (VRep.strip _ _ hrep)) (VRep.strip _ _ hrep), rfl, hv⟩
    case pan.panic =>
      obtain ⟨m'', hlv, hR⟩ := h1
      obtain ⟨v, rfl, hrep⟩ := h2
      refine fin (.panicking _) (.pan _) _ (by simp) _ hlv hR fun w₂ hm₃ hs₃ hk₂ => .inr ⟨_, ?_, rfl⟩
      have hr2 := VRep.strip _ _ (VRep.mono (Ctx.le.refl _) hk₂ _ _ (VRep.withX hrep Γ.x))
      exact ⟨v, rfl, VRep.cut (Γ := Γ'.withX Γ.x) _ _ (hlv.sc hm₃ hr2) hr2⟩
end

section
variable {P : Program} {N : Nat} {Q : APost} {σ : Nat → PV} {m : St} {ops : Array Oper} {o : Oper} {rest l : List Oper}

/-- A slot's truth, learnt. -/
theorem AList.learn {d : Nat} {b : Bool} (hd : σ d = .v (.bool b)) (h1 : b = true → AList P N ops Q l (upd σ d (.v (.bool true))) m) (h2 : b = false → AList P N ops Q l (upd σ d (.v (.bool false))) m) :
    AList P N ops Q l σ m := by
  have e : upd σ d (.v (.bool b)) = σ := by
    funext i
    by_cases h : i = d
    · subst h; rw [upd_same, hd]
    · rw [upd_ne _ _ _ _ h]
  cases b with
  | true => have := h1 rfl; rwa [e] at this
  | false => have := h2 rfl; rwa [e] at this

def opDst (ops : Array Oper) (j : Nat) : Option Tmp := (ops[j]?).bind (·.dst)

theorem yield_at {Γ : Ctx} {a : Act} {w : World} (hs : Sim Γ N σ m a w) {j d : Nat} (hd : opDst ops j = some d) (hlt : d < N) : yielded ops a.tmps j = match a.tmps.getD d undef with | .bool b => some b | _ => none := by
  unfold yielded
  unfold opDst at hd
  rw [hd]
  have : a.tmps[d]? = some (a.tmps.getD d undef) := by
    have hlt' : d < a.tmps.size := by rw [hs.size]; exact hlt
    rw [Array.getD_eq_getD_getElem?, Array.getElem?_eq_getElem hlt']; rfl
  simp only [Option.bind_some, this]
  cases a.tmps.getD d undef <;> rfl

theorem AList.go (hg : o.guard = none) (hd : dstOK N o.dst = true)
    (h : aop P o.op (Ab.opv σ) m (fun p m' => AList P N ops Q rest (put σ o.dst p) m') (fun p m' => Q (.pan p) σ m')) : AList P N ops Q (o :: rest) σ m := AList.step hg hd (aop_sound o _ h)

/-- One operation, what follows behind a variable. -/
theorem AList.op {d : Tmp} {op : Op} {ty : TypeId} {pos : String} {after : Array Edge} (hd : d < N)
    (h : ∀ K Kp : PV → St → Prop, (∀ p m', AList P N ops Q rest (upd σ d p) m' → K p m') → (∀ p m', Q (.pan p) σ m' → Kp p m') → aop P op (Ab.opv σ) m K Kp) :
    AList P N ops Q (⟨some d, op, ty, pos, after, none⟩ :: rest) σ m :=
  AList.go rfl (by simpa [dstOK] using hd) (h _ _ (fun _ _ h => h) (fun _ _ h => h))
theorem AList.op0 {op : Op} {ty : TypeId} {pos : String} {after : Array Edge}
    (h : ∀ K Kp : PV → St → Prop, (∀ p m', AList P N ops Q rest σ m' → K p m') → (∀ p m', Q (.pan p) σ m' → Kp p m') → aop P op (Ab.opv σ) m K Kp) :
    AList P N ops Q (⟨none, op, ty, pos, after, none⟩ :: rest) σ m :=
  AList.go rfl rfl (h _ _ (fun _ _ h => h) (fun _ _ h => h))

/-- A guarded operation that is carried out. -/
theorem AList.take {j d : Nat} {want : Bool} (hg : o.guard = some (j, want)) (hj : opDst ops j = some d) (hlt : d < N) (hw : σ d = .v (.bool want)) (hd : dstOK N o.dst = true)
    (h : OpOK P o (Ab.opv σ) m (fun p m' => AList P N ops Q rest (put σ o.dst p) m') (fun p m' => Q (.pan p) σ m')) : AList P N ops Q (o :: rest) σ m := by
  intro Γ a w hs
  have hv := hs.slots d
  rw [hw] at hv
  replace hv : a.tmps.getD d undef = .bool want := hv
  have hy : Region.wanted o (yielded ops a.tmps) = true := by
    simp only [Region.wanted, hg, yield_at hs hj hlt, hv]
    simp
  have := AList.step (P := P) (N := N) (Q := Q) (ops := ops) (o := { o with guard := none }) (rest := rest) (σ := σ) (m := m) rfl hd h Γ a w hs
  simp only [wpListIn, Region.wanted, if_true] at this
  unfold wpListIn
  rw [if_pos hy]
  exact this

/-- A guarded operation that is passed over. -/
theorem AList.pass {j d : Nat} {want : Bool} {u : Value} (hg : o.guard = some (j, want)) (hj : opDst ops j = some d) (hlt : d < N) (hw : σ d = .v u) (hu : (match u with | .bool b => b == want | _ => false) = false) (hd : dstOK N o.dst = true)
    (h : AList P N ops Q rest (put σ o.dst (.v undef)) m) : AList P N ops Q (o :: rest) σ m := by
  intro Γ a w hs
  have hv := hs.slots d
  rw [hw] at hv
  replace hv : a.tmps.getD d undef = u := hv
  have hy : Region.wanted o (yielded ops a.tmps) = false := by
    simp only [Region.wanted, hg, yield_at hs hj hlt, hv]
    cases u <;> simp_all
  unfold wpListIn
  rw [if_neg (by rw [hy]; simp)]
  exact ⟨fun _ _ => trivial, h Γ _ w (hs.put hd rfl)⟩
/-- A guarded operation, by the truth in the slot that guards it. -/
theorem AList.guard {d g j : Nat} {b want : Bool} {op : Op} {ty : TypeId} {pos : String} {after : Array Edge} (hj : opDst ops j = some g) (hg : g < N) (hd : d < N) (hb : σ g = .v (.bool b))
    (h1 : b = want → ∀ K Kp : PV → St → Prop, (∀ p m', AList P N ops Q rest (upd (upd σ g (.v (.bool want))) d p) m' → K p m') → (∀ p m', Q (.pan p) (upd σ g (.v (.bool want))) m' → Kp p m') → aop P op (Ab.opv (upd σ g (.v (.bool want)))) m K Kp)
    (h2 : b = !want → AList P N ops Q rest (upd (upd σ g (.v (.bool !want))) d (.v undef)) m) : AList P N ops Q (⟨some d, op, ty, pos, after, some (j, want)⟩ :: rest) σ m := by
  have e : ∀ c, b = c → upd σ g (.v (.bool c)) = σ := by
    intro c hc
    subst hc
    funext i
    by_cases h : i = g
    · subst h; rw [upd_same, hb]
    · rw [upd_ne _ _ _ _ h]
  have hd' : dstOK N (some d) = true := by simpa [dstOK] using hd
  by_cases hc : b = want
  · have h1' := h1 hc
    rw [e want hc] at h1'
    subst hc
    exact AList.take rfl hj hg hb hd' (aop_sound _ _ (h1' _ _ (fun _ _ h => h) (fun _ _ h => h)))
  · have hn : b = !want := by cases b <;> cases want <;> simp_all
    have h2' := h2 hn
    rw [e (!want) hn] at h2'
    exact AList.pass rfl hj hg hb (by subst hn; cases want <;> rfl) hd' h2'
/-- A guarded operation whose guard was passed over itself. -/
theorem AList.guardU {d g j : Nat} {want : Bool} {op : Op} {ty : TypeId} {pos : String} {after : Array Edge} (hj : opDst ops j = some g) (hg : g < N) (hd : d < N) (hb : σ g = .v undef)
    (h2 : AList P N ops Q rest (upd σ d (.v undef)) m) : AList P N ops Q (⟨some d, op, ty, pos, after, some (j, want)⟩ :: rest) σ m :=
  AList.pass rfl hj hg hb rfl (by simpa [dstOK] using hd) h2
end
end Go.Ab
/- The abstract layer, its simp set. -/
namespace Go.Ab
open Go.RowKit
theorem upd_lit {α : Type} (f : Nat → α) (n : Nat) (x : α) (i : Nat) : upd f n x i = if i = n then x else f i := rfl

@[simp] theorem newLoc_nloc (m : St) (cs : List PV) : (m.newLoc cs).nloc = m.nloc + 1 := rfl
@[simp] theorem newLoc_loc (m : St) (cs : List PV) (i : Nat) : (m.newLoc cs).loc i = if i = m.nloc then some cs else m.loc i := rfl
@[simp] theorem newLoc_lp (m : St) (cs : List PV) (i : Nat) : (m.newLoc cs).lp i = if i = m.nloc then none else m.lp i := rfl
@[simp] theorem newLoc_it (m : St) (cs : List PV) (i : Nat) : (m.newLoc cs).it i = if i = m.nloc then none else m.it i := rfl
@[simp] theorem setLoc_it (m : St) (n : Nat) (cs : List PV) : (m.setLoc n cs).it = m.it := rfl
@[simp] theorem setLoc_lp (m : St) (n : Nat) (cs : List PV) : (m.setLoc n cs).lp = m.lp := rfl
@[simp] theorem newLoc_top (m : St) (cs : List PV) : (m.newLoc cs).top = m.top := rfl
@[simp] theorem newLoc_wd (m : St) (cs : List PV) : (m.newLoc cs).wd = m.wd := rfl
@[simp] theorem newLoc_ntok (m : St) (cs : List PV) : (m.newLoc cs).ntok = m.ntok := rfl
@[simp] theorem setLoc_nloc (m : St) (n : Nat) (cs : List PV) : (m.setLoc n cs).nloc = m.nloc := rfl
@[simp] theorem setLoc_loc (m : St) (n : Nat) (cs : List PV) (i : Nat) : (m.setLoc n cs).loc i = if i = n then some cs else m.loc i := rfl
@[simp] theorem setLoc_top (m : St) (n : Nat) (cs : List PV) : (m.setLoc n cs).top = m.top := rfl
@[simp] theorem setLoc_wd (m : St) (n : Nat) (cs : List PV) : (m.setLoc n cs).wd = m.wd := rfl
@[simp] theorem setLoc_ntok (m : St) (n : Nat) (cs : List PV) : (m.setLoc n cs).ntok = m.ntok := rfl

@[simp] theorem cells1_v (u : Value) : cells1 (.v u) = if u.oneCell' then some [.v u] else none := rfl
@[simp] theorem cells1_list (o : Own) (r : List (List PV)) : cells1 (.list o r) = some [.list o r] := rfl
@[simp] theorem cells1_ro (cs : List PV) : cells1 (.ro cs) = some [.ro cs] := rfl
@[simp] theorem cells1_loc (n o : Nat) : cells1 (.loc n o) = some [.loc n o] := rfl
@[simp] theorem cells1_marr (n o l c : Nat) : cells1 (.marr n o l c) = some [.marr n o l c] := rfl
@[simp] theorem cells1_clo (f : FuncId) (a b : List PV) : cells1 (.clo f a b) = some [.clo f a b] := rfl
@[simp] theorem cells1_mtok (k n : Nat) : cells1 (.mtok k n) = some [.mtok k n] := rfl
@[simp] theorem cells1_mptr (k o g : Nat) : cells1 (.mptr k o g) = some [.mptr k o g] := rfl
@[simp] theorem cells1_yld (n : Nat) : cells1 (.yld n) = some [.yld n] := rfl
@[simp] theorem cells1_iface (t : TypeId) (x : PV) : cells1 (.iface t x) = some [.iface t x] := rfl
@[simp] theorem cells1_agg (cs : List PV) : cells1 (.agg cs) = if cs.all cell1 then some cs else none := rfl
@[simp] theorem one_int (k : IntKind) (n : Int) : (Value.int k n).oneCell' = true := rfl
@[simp] theorem one_bool (b : Bool) : (Value.bool b).oneCell' = true := rfl
@[simp] theorem one_string (s : ByteArray) : (Value.string s).oneCell' = true := rfl
@[simp] theorem one_nilFunc : Value.nilFunc.oneCell' = true := rfl
@[simp] theorem one_nilIface : Value.nilIface.oneCell' = true := rfl
@[simp] theorem one_ptr (a : Option Addr) : (Value.pointer a).oneCell' = true := rfl
attribute [simp] PV.strip PV.stripL PV.stripR PV.sc PV.scL PV.scR
attribute [simp] aop Ab.opv slots0 aload astore afieldAddr afield apart aindexAddr aindex aextract alen acall abinop abin aunop aconvert apick anil Ab.put
attribute [simp] zOK zcells ofV Value.cells afill tplace setL cell1
@[simp] theorem one_slice (a : Option Addr) (n c : Nat) : (Value.slice a n c).oneCell' = true := rfl
@[simp] theorem abuild_iff {P : Program} {t : TypeId} {parts : List (Nat × PV)} {m : St} {K : PV → St → Prop} (hf : tfok P t = true) :
    abuild P t parts m K ↔ (match tzero P t with | some z => tinfo P t = true ∧ zOK z = true ∧ (match afill (tplace P t) parts (zcells z) with | some cs => K (.agg cs) m | none => False) | none => False) := by
  have hn : tarr P t = none := by
    unfold tfok at hf; unfold tarr
    cases h : P.underlying t with
    | none => rfl
    | some d => cases d <;> simp_all
  unfold abuild
  cases tzero P t with
  | none => simp
  | some z => simp only [hf, hn, true_and, reduceCtorEq, false_and, exists_false, or_false]; exact Iff.rfl
theorem wrap_i64 (n : Int) (h0 : -9223372036854775808 ≤ n) (h1 : n < 9223372036854775808) : IntKind.i64.wrap n = n := by
  rw [IntKind.wrap_i64]; omega

/-- What a call leaves as it was: all that was there. -/
abbrev Same (m m' : St) : Prop := Leaves m m' m
theorem Same.mk {m m' : St} (h1 : m.nloc ≤ m'.nloc) (h2 : m.ntok ≤ m'.ntok) (h3 : ∀ n, n < m.nloc → m'.loc n = m.loc n) (h4 : ∀ k, k < m.ntok → m'.top k = m.top k ∧ m'.wd k = m.wd k) (h5 : ∀ n, n < m.nloc → m'.lp n = m.lp n) (h6 : ∀ n, n < m.nloc → m'.it n = m.it n) (h7 : ∀ k cs, k < m.ntok → m.top k < DEAD → m.arr k = some cs → m'.arr k = some cs) : Same m m' :=
  ⟨rfl, Nat.le_refl _, h1, h2, fun n hn => ⟨(h3 n hn).symm, .inl (h3 n hn)⟩, fun k hk => ⟨(h4 k hk).1.symm, (h4 k hk).2.symm⟩, fun n hn => ⟨(h5 n hn).symm, h5 n hn⟩, fun n hn => (h6 n hn).symm, fun k cs hk hd hc => ⟨h7 k cs hk hd hc, .inl ⟨hk, hc⟩⟩⟩
theorem Same.refl (m : St) : Same m m := Same.mk (Nat.le_refl _) (Nat.le_refl _) (fun _ _ => rfl) (fun _ _ => ⟨rfl, rfl⟩) (fun _ _ => rfl) (fun _ _ => rfl) (fun _ _ _ _ h => h)
theorem Same.getL {m m' : St} (h : Same m m') {n : Nat} (hn : n < m.nloc) : m'.lp n = m.lp n := (h.lp n hn).2
theorem Same.getI {m m' : St} (h : Same m m') {n : Nat} (hn : n < m.nloc) : m'.it n = m.it n := (h.it n hn).symm
theorem Same.getA {m m' : St} (h : Same m m') {k : Nat} {cs : List PV} (hk : k < m.ntok) (hd : m.top k < DEAD) (hc : m.arr k = some cs) : m'.arr k = some cs := (h.arr k cs hk hd hc).1
theorem Same.get {m m' : St} (h : Same m m') {n : Nat} (hn : n < m.nloc) : m'.loc n = m.loc n := (h.loc n hn).1.symm
theorem Same.trans {m m' m'' : St} (h : Same m m') (k : Same m' m'') : Same m m'' :=
  Same.mk (Nat.le_trans h.lloc k.lloc) (Nat.le_trans h.ltok k.ltok) (fun n hn => (k.get (Nat.lt_of_lt_of_le hn h.lloc)).trans (h.get hn))
    (fun i hi => ⟨(k.top i (Nat.lt_of_lt_of_le hi h.ltok)).1.symm.trans (h.top i hi).1.symm, (k.top i (Nat.lt_of_lt_of_le hi h.ltok)).2.symm.trans (h.top i hi).2.symm⟩) (fun n hn => (k.getL (Nat.lt_of_lt_of_le hn h.lloc)).trans (h.getL hn)) (fun n hn => (k.getI (Nat.lt_of_lt_of_le hn h.lloc)).trans (h.getI hn))
    (fun i cs hi hd hc => k.getA (Nat.lt_of_lt_of_le hi h.ltok) (by rw [← (h.top i hi).1]; exact hd) (h.getA hi hd hc))
theorem Same.newLoc {m m' : St} (h : Same m m') (cs : List PV) : Same m (m'.newLoc cs) :=
  Same.trans h (Same.mk (Nat.le_succ _) (Nat.le_refl _) (fun n hn => by simp; omega) (fun _ _ => ⟨rfl, rfl⟩) (fun n hn => by simp; omega) (fun n hn => by simp; omega) (fun _ _ _ _ h => h))
theorem Same.setLoc {m m' : St} (h : Same m m') {n : Nat} (hn : m.nloc ≤ n) (cs : List PV) : Same m (m'.setLoc n cs) :=
  Same.mk h.lloc h.ltok (fun i hi => by rw [setLoc_loc, if_neg (by omega)]; exact h.get hi) (fun k hk => ⟨(h.top k hk).1.symm, (h.top k hk).2.symm⟩) (fun n hn => h.getL hn) (fun n hn => h.getI hn) (fun k cs hk hd hc => h.getA hk hd hc)
theorem Same.dropLoc {m m' : St} (h : Same m m') {n : Nat} (hn : m.nloc ≤ n) : Same m (m'.dropLoc n) :=
  Same.mk h.lloc h.ltok (fun i hi => by show upd m'.loc n none i = _; rw [upd_ne _ _ _ _ (by omega)]; exact h.get hi) (fun k hk => ⟨(h.top k hk).1.symm, (h.top k hk).2.symm⟩) (fun n hn => h.getL hn) (fun n hn => h.getI hn) (fun k cs hk hd hc => h.getA hk hd hc)
theorem Same.newTok {m m' : St} (h : Same m m') (n s : Nat) : Same m (m'.newTok n s) :=
  Same.trans h (Same.mk (Nat.le_refl _) (Nat.le_succ _) (fun n hn => rfl) (fun k hk => ⟨upd_ne _ _ _ _ (by omega), upd_ne _ _ _ _ (by omega)⟩) (fun _ _ => rfl) (fun _ _ => rfl) (fun k cs hk _ hc => (upd_ne _ _ _ _ (by omega)).trans hc))
theorem Same.growTok {m m' : St} (h : Same m m') {k : Nat} (hk : m.ntok ≤ k) (q : Nat) : Same m (m'.growTok k q) :=
  Same.mk h.lloc h.ltok (fun i hi => h.get hi) (fun i hi => ⟨by show upd m'.top k _ i = _; rw [upd_ne _ _ _ _ (by omega)]; exact (h.top i hi).1.symm, (h.top i hi).2.symm⟩) (fun n hn => h.getL hn) (fun n hn => h.getI hn) (fun k cs hk hd hc => h.getA hk hd hc)

theorem Fin.ret {P : Program} {fn : Func} {m m' : St} {R : ARes → St → Prop} {σ : Nat → PV} {p q : PV} (hp : ResP P fn.results.toList σ m' p) (hm : Same m m') (hq : p.strip = q) (hs : q.sc m.nloc m.ntok) (h : R (.ret q) m) : Fin P fn m R .ret σ m' :=
  ⟨p, m, hp, .inr ⟨hm.lv, hq ▸ hs⟩, hq ▸ h⟩
theorem Fin.normal {P : Program} {fn : Func} {m m' : St} {R : ARes → St → Prop} {σ : Nat → PV} {p q : PV} (hp : ResP P fn.results.toList σ m' p) (hm : Same m m') (hq : p.strip = q) (hs : q.sc m.nloc m.ntok) (h : R (.ret q) m) : Fin P fn m R .normal σ m' :=
  ⟨p, m, hp, .inr ⟨hm.lv, hq ▸ hs⟩, hq ▸ h⟩
theorem Fin.pan {P : Program} {fn : Func} {m m' : St} {R : ARes → St → Prop} {σ : Nat → PV} {p q : PV} (hm : Same m m') (hq : p.strip = q) (hs : q.sc m.nloc m.ntok) (h : R (.pan q) m) : Fin P fn m R (.pan p) σ m' :=
  ⟨m, .inr ⟨hm.lv, hq ▸ hs⟩, hq ▸ h⟩

/-- A guarded operation carried out, a guarded operation passed over. -/
theorem AList.opT {P : Program} {N : Nat} {Q : APost} {σ : Nat → PV} {m : St} {ops : Array Oper} {rest : List Oper} {d g j : Nat} {want : Bool} {op : Op} {ty : TypeId} {pos : String} {after : Array Edge} (hj : opDst ops j = some g) (hg : g < N) (hd : d < N) (hb : σ g = .v (.bool want))
    (h : ∀ K Kp : PV → St → Prop, (∀ p m', AList P N ops Q rest (upd σ d p) m' → K p m') → (∀ p m', Q (.pan p) σ m' → Kp p m') → aop P op (Ab.opv σ) m K Kp) :
    AList P N ops Q (⟨some d, op, ty, pos, after, some (j, want)⟩ :: rest) σ m :=
  AList.take rfl hj hg hb (by simpa [dstOK] using hd) (aop_sound _ _ (h _ _ (fun _ _ h => h) (fun _ _ h => h)))
theorem AList.opF {P : Program} {N : Nat} {Q : APost} {σ : Nat → PV} {m : St} {ops : Array Oper} {rest : List Oper} {d g j : Nat} {want : Bool} {op : Op} {ty : TypeId} {pos : String} {after : Array Edge} (hj : opDst ops j = some g) (hg : g < N) (hd : d < N) (hb : σ g = .v (.bool !want) ∨ σ g = .v undef)
    (h : AList P N ops Q rest (upd σ d (.v undef)) m) : AList P N ops Q (⟨some d, op, ty, pos, after, some (j, want)⟩ :: rest) σ m := by
  rcases hb with hb | hb
  · exact AList.pass rfl hj hg hb (by cases want <;> rfl) (by simpa [dstOK] using hd) h
  · exact AList.pass rfl hj hg hb rfl (by simpa [dstOK] using hd) h
theorem map_ta {α β : Type} (f : α → β) (l : List α) : List.map f (List.toArray l).toList = List.map f l := by simp
@[simp] theorem bne_dec (a b : Int) : (a != b) = !decide (a = b) := by
  by_cases h : a = b <;> simp [h]
@[simp] theorem beq_dec (a b : Int) : (a == b) = decide (a = b) := by
  by_cases h : a = b <;> simp [h]
theorem AExit.norT {nx : (Nat → PV) → St → Prop} {Q : APost} {σ : Nat → PV} {m : St} (h : nx σ m) : AExit.then nx Q .normal σ m := h
theorem AExit.retT {nx : (Nat → PV) → St → Prop} {Q : APost} {σ : Nat → PV} {m : St} (h : Q .ret σ m) : AExit.then nx Q .ret σ m := h
theorem AExit.exiT {nx : (Nat → PV) → St → Prop} {Q : APost} {σ : Nat → PV} {m : St} {i : Nat} (h : Q (.exit i) σ m) : AExit.then nx Q (.exit i) σ m := h
theorem AExit.panT {nx : (Nat → PV) → St → Prop} {Q : APost} {σ : Nat → PV} {m : St} {p : PV} (h : Q (.pan p) σ m) : AExit.then nx Q (.pan p) σ m := h
theorem AExit.norB {Q : APost} {σ : Nat → PV} {m : St} {i : Nat} (h : Q .normal σ m) : AExit.inBlock i Q .normal σ m := h
theorem AExit.retB {Q : APost} {σ : Nat → PV} {m : St} {i : Nat} (h : Q .ret σ m) : AExit.inBlock i Q .ret σ m := h
theorem AExit.panB {Q : APost} {σ : Nat → PV} {m : St} {i : Nat} {p : PV} (h : Q (.pan p) σ m) : AExit.inBlock i Q (.pan p) σ m := h
theorem AExit.exiB {Q : APost} {σ : Nat → PV} {m : St} {i : Nat} (h : Q .normal σ m) : AExit.inBlock i Q (.exit i) σ m := by simp only [AExit.inBlock, if_true]; exact h
theorem AExit.exiN {Q : APost} {σ : Nat → PV} {m : St} {i j : Nat} (hn : j ≠ i) (h : Q (.exit j) σ m) : AExit.inBlock i Q (.exit j) σ m := by simp only [AExit.inBlock, if_neg hn]; exact h
theorem AW.condD {P : Program} {N : Nat} {Q : APost} {σ : Nat → PV} {m : St} {c : Operand} {x y : Code} {p : Prop} [Decidable p] (hc : opv σ c = .v (.bool (decide p))) (h1 : p → AW P N x Q σ m) (h2 : ¬p → AW P N y Q σ m) : AW P N (.cond c x y) Q σ m :=
  AW.cond hc (fun h => h1 (of_decide_eq_true h)) (fun h => h2 (of_decide_eq_false h))

/-- A value that is there when b is true. -/
def gd (b : Bool) (p : PV) : PV := if b then p else .v undef
@[simp] theorem gd_true (p : PV) : gd true p = p := rfl
@[simp] theorem gd_false (p : PV) : gd false p = .v undef := rfl
theorem apick_or {t e x : Bool} {m : St} {K : PV → St → Prop} (h : e = !t) : apick (.v (.bool t)) (.v (.bool true)) (gd e (.v (.bool x))) m K ↔ K (.v (.bool (t || x))) m := by
  subst h; cases t <;> simp [apick, undef]
theorem apick_and {t e x : Bool} {m : St} {K : PV → St → Prop} (h : e = t) : apick (.v (.bool t)) (gd e (.v (.bool x))) (.v (.bool false)) m K ↔ K (.v (.bool (t && x))) m := by
  subst h; cases e <;> simp [apick, undef]
/-- A guarded operation that may well be carried out. -/
theorem AList.opP {P : Program} {N : Nat} {Q : APost} {σ : Nat → PV} {m : St} {ops : Array Oper} {rest : List Oper} {d g j : Nat} {want b c : Bool} {p : PV} {op : Op} {ty : TypeId} {pos : String} {after : Array Edge} (hj : opDst ops j = some g) (hg : g < N) (hd : d < N) (hb : σ g = gd b (.v (.bool c)))
    (h1 : (b && (c == want)) = true → ∀ K Kp : PV → St → Prop, K p m → aop P op (Ab.opv σ) m K Kp) (h : AList P N ops Q rest (upd σ d (gd (b && (c == want)) p)) m) :
    AList P N ops Q (⟨some d, op, ty, pos, after, some (j, want)⟩ :: rest) σ m := by
  cases b with
  | false => exact AList.opF hj hg hd (.inr hb) h
  | true =>
    by_cases hc : c = want
    · subst hc
      have e : (true && (c == c)) = true := by cases c <;> rfl
      rw [e] at h
      exact AList.opT hj hg hd hb fun K Kp hK hKp => h1 e K Kp (hK _ _ h)
    · have hc' : c = !want := by clear h1 h; revert hc; cases c <;> cases want <;> simp
      subst hc'
      refine AList.opF hj hg hd (.inl hb) ?_
      have : (true && ((!want) == want)) = false := by cases want <;> rfl
      rwa [this] at h
theorem AList.opP' {P : Program} {N : Nat} {Q : APost} {σ : Nat → PV} {m : St} {ops : Array Oper} {rest : List Oper} {d g j : Nat} {want c : Bool} {p : PV} {op : Op} {ty : TypeId} {pos : String} {after : Array Edge} (hj : opDst ops j = some g) (hg : g < N) (hd : d < N) (hb : σ g = .v (.bool c))
    (h1 : (c == want) = true → ∀ K Kp : PV → St → Prop, K p m → aop P op (Ab.opv σ) m K Kp) (h : AList P N ops Q rest (upd σ d (gd (c == want) p)) m) :
    AList P N ops Q (⟨some d, op, ty, pos, after, some (j, want)⟩ :: rest) σ m :=
  AList.opP (b := true) hj hg hd hb (fun e => h1 (by rwa [Bool.true_and] at e)) (by rwa [Bool.true_and])

def partsFrom : Nat → List PV → List (Nat × PV)
  | _, [] => []
  | k, x :: xs => (k, x) :: partsFrom (k + 1) xs
/-- Values and the rows of cells that they are. -/
inductive Cells1 (s : Nat) : List PV → List (List PV) → Prop
  | nil : Cells1 s [] []
  | cons {x : PV} {r : List PV} {xs : List PV} {rs : List (List PV)} (h : cells1 x = some r) (hl : r.length = s) (t : Cells1 s xs rs) : Cells1 s (x :: xs) (r :: rs)
theorem Cells1.len {s : Nat} {xs : List PV} {rs : List (List PV)} (h : Cells1 s xs rs) : rs.length = xs.length := by
  induction h with
  | nil => rfl
  | cons _ _ _ ih => simp [ih]
theorem Cells1.flat {s : Nat} {xs : List PV} {rs : List (List PV)} (h : Cells1 s xs rs) : (rs.map PV.stripL).flatten.length = xs.length * s := by
  induction h with
  | nil => simp
  | cons _ hl _ ih => rw [List.map_cons, List.flatten_cons, List.length_append, ih, PV.stripL_length, hl, List.length_cons, Nat.add_mul]; omega
theorem Cells1.each {s : Nat} {xs : List PV} {rs : List (List PV)} (h : Cells1 s xs rs) : ∀ r ∈ rs, r.length = s := by
  induction h with
  | nil => intro r h; cases h
  | cons _ hl _ ih => intro r h; rcases List.mem_cons.1 h with rfl | h
                      · exact hl
                      · exact ih r h
theorem afill_from {s : Nat} {xs : List PV} {rs : List (List PV)} (h : Cells1 s xs rs) : ∀ (k : Nat) (cs : List PV), (k + xs.length) * s ≤ cs.length →
    afill (fun i => some (i * s, s)) (partsFrom k xs) cs = some (cs.take (k * s) ++ (rs.map PV.stripL).flatten ++ cs.drop ((k + xs.length) * s)) := by
  induction h with
  | nil => intro k cs _; simp [partsFrom, afill]
  | @cons x r xs rs h1 hl t ih =>
    intro k cs hk
    have hk' : (k + 1) * s ≤ cs.length := Nat.le_trans (Nat.mul_le_mul_right s (by simp)) hk
    have e1 : k * s + s = (k + 1) * s := by rw [Nat.add_mul]; omega
    have hsl : (PV.stripL r).length = s := by rw [PV.stripL_length, hl]
    have hset : setL cs (k * s) (PV.stripL r) = cs.take (k * s) ++ PV.stripL r ++ cs.drop ((k + 1) * s) := by rw [setL_eq _ _ _ (by rw [hsl, e1]; exact hk'), hsl, e1]
    have hks : k * s ≤ cs.length := by omega
    simp only [partsFrom, afill, h1, hl, List.length_cons]
    rw [if_pos ⟨trivial, by omega⟩, ih (k + 1) _ (by rw [setL_length]; rw [List.length_cons] at hk; rw [show k + 1 + xs.length = k + (xs.length + 1) from by omega]; exact hk), hset]
    congr 1
    have l1 : (cs.take (k * s) ++ PV.stripL r).length = (k + 1) * s := by rw [List.length_append, List.length_take, hsl, Nat.min_eq_left hks]; exact e1
    rw [List.take_append_of_le_length (by omega), List.take_of_length_le (by omega), List.map_cons, List.flatten_cons, show k + (xs.length + 1) = k + 1 + xs.length from by omega]
    rw [List.drop_append, l1, List.drop_eq_nil_of_le (by rw [l1]; exact Nat.mul_le_mul_right s (by omega)), List.nil_append, List.drop_drop]
    rw [show (k + 1) * s + ((k + 1 + xs.length) * s - (k + 1) * s) = (k + 1 + xs.length) * s from by have : (k + 1) * s ≤ (k + 1 + xs.length) * s := Nat.mul_le_mul_right s (by omega); omega]
    simp only [List.append_assoc]
theorem chunk_flat {s : Nat} : ∀ (rs : List (List PV)), (∀ r ∈ rs, r.length = s) → chunk s rs.length rs.flatten = rs
  | [], _ => rfl
  | r :: rs, h => by
    have hr : r.length = s := h r (by simp)
    rw [List.length_cons, chunk, List.flatten_cons, List.take_append_of_le_length (by omega), List.take_of_length_le (by omega), List.drop_append_of_le_length (by omega), List.drop_of_length_le (by omega), List.nil_append, chunk_flat rs fun x hx => h x (by simp [hx])]
theorem zrow_len (zc : List PV) (n : Nat) : (zrow zc n).length = n := by simp [zrow]
/-- A slice literal, all its elements given. -/
theorem abuildSlice_all {P : Program} {t e : TypeId} {z : Value} {s : Nat} {xs : List PV} {rs : List (List PV)} {m : St} {K : PV → St → Prop} (he : telem P t = some e) (h1 : tinfo P e = true) (hz : tzero P e = some z) (hzo : zOK z = true)
    (hz0 : 0 < (zcells z).length) (hs : tsize P e = s) (hn : xs.length * s ≤ 16777216) (hc : Cells1 s xs rs) : abuildSlice P t xs.length (partsFrom 0 xs) m K ↔ K (.list .full (rs.map PV.stripL)) m := by
  subst hs
  have hf := afill_from hc 0 (zrow (zcells z) (xs.length * tsize P e)) (by rw [zrow_len, Nat.zero_add]; exact Nat.le_refl _)
  have hd : (zrow (zcells z) (xs.length * tsize P e)).drop ((0 + xs.length) * tsize P e) = [] := List.drop_eq_nil_of_le (by rw [zrow_len, Nat.zero_add]; exact Nat.le_refl _)
  rw [hd] at hf
  simp only [Nat.zero_mul, List.take_zero, List.nil_append, List.append_nil] at hf
  have hch : chunk (tsize P e) xs.length (rs.map PV.stripL).flatten = rs.map PV.stripL := by
    have := chunk_flat (s := tsize P e) (rs.map PV.stripL) (fun r hr => by
      obtain ⟨r', h1, rfl⟩ := List.mem_map.1 hr
      rw [PV.stripL_length]
      exact hc.each r' h1)
    rwa [List.length_map, hc.len] at this
  unfold abuildSlice
  simp only [he, h1, hz, hzo, hz0, hn, hf, hch, true_and]

/-- The variables are as they were. -/
structure LocSame (m m' : St) : Prop where
  loc : m'.loc = m.loc
  nloc : m'.nloc = m.nloc
  lp : m'.lp = m.lp
  it : m'.it = m.it
theorem AppRes.locs {m m' : St} {o o' : Own} {s n q : Nat} (a : AppRes s m o n q o' m') : LocSame m m' := by
  rcases a with ⟨_, _, rfl⟩ | ⟨_, _, rfl⟩ | ⟨_, k, _, _, rfl⟩ <;> exact ⟨rfl, rfl, rfl, rfl⟩
/-- A list that grows at its end, from m0 on. -/
def Ow (m0 m : St) (o : Own) (s n : Nat) : Prop := Same m0 m ∧ appOK s m o n ∧ ∀ k, o = .tok k → m0.ntok ≤ k
theorem Ow.full {m0 m : St} {s n : Nat} (h : Same m0 m) : Ow m0 m .full s n := ⟨h, trivial, fun k e => by cases e⟩
theorem Ow.app {m0 m m' : St} {o o' : Own} {s n q : Nat} (h : Ow m0 m o s n) (a : AppRes s m o n q o' m') : Ow m0 m' o' s (n + q) := by
  obtain ⟨h1, h2, h3⟩ := h
  rcases a with ⟨rfl, rfl, rfl⟩ | ⟨_, rfl, rfl⟩ | ⟨_, k, rfl, rfl, rfl⟩
  · exact ⟨h1, h2, h3⟩
  · refine ⟨h1.newTok _ _, ⟨Nat.lt_succ_self _, by simp [St.newTok, upd], by simp [St.newTok, upd]⟩, fun k e => ?_⟩
    cases e; exact Nat.le_trans (Nat.le_refl _) h1.ltok
  · obtain ⟨a1, a2, a3⟩ := h2
    exact ⟨h1.growTok (h3 k rfl) _, ⟨a1, by simp [St.growTok, upd, a2], a3⟩, h3⟩
theorem Ow.same {m0 m : St} {o : Own} {s n : Nat} (h : Ow m0 m o s n) : Same m0 m := h.1
/-- An append to a list that grows at its end. -/
theorem aappend_ow {P : Program} {t e : TypeId} {m0 m : St} {o o2 : Own} {rows news : List (List PV)} {s : Nat} {K : PV → St → Prop} (he : telem P t = some e) (h1 : tinfo P e = true) (h2 : (tzero P e).map (fun z => z.cells.size) = some (tsize P e))
    (hs : tsize P e = s) (h3 : 0 < s) (h4 : RowsW s rows) (h5 : RowsW s news) (h6 : (rows.length + news.length) * tbytes P e ≤ 140737488355328) (h8 : rows.length + news.length ≤ 4611686018427387904) (ho : Ow m0 m o s rows.length)
    (k : ∀ o' m', Ow m0 m' o' s (rows.length + news.length) → LocSame m m' → K (.list o' (rows ++ PV.stripR news)) m') : aappend P [t, t] (.list o rows) (.list o2 news) m K := by
  subst hs
  refine ⟨rfl, ?_⟩
  simp only [he]
  exact ⟨h1, h2, h3, h4, h5, h6, h8, ho.2.1, fun o' m' ha => k o' m' (ho.app ha) ha.locs⟩

theorem Fin.retC {P : Program} {fn : Func} {m m' : St} {R : ARes → St → Prop} {σ : Nat → PV} {p q : PV} {a : Tmp} {t : TypeId} (hr : fn.results.toList = [.cell a t]) (hp : aload P t (σ a) m' (fun q m'' => q = p ∧ m'' = m')) (hm : Same m m') (hq : p.strip = q) (hs : q.sc m.nloc m.ntok) (h : R (.ret q) m) : Fin P fn m R .ret σ m' :=
  Fin.ret (by rw [hr]; exact hp) hm hq hs h
theorem wrap_u64 (n : Int) (h0 : 0 ≤ n) (h1 : n < 18446744073709551616) : IntKind.u64.wrap n = n := by
  have : IntKind.u64.wrap n = n % 18446744073709551616 := by simp [IntKind.wrap, IntKind.bits, IntKind.signed]
  rw [this]; omega
theorem wrap_u32 (n : Int) : IntKind.u32.wrap n = n % 4294967296 := by simp [IntKind.wrap, IntKind.bits, IntKind.signed]

@[simp] theorem bits_u64 : IntKind.u64.bits = 64 := rfl
@[simp] theorem bits_u32 : IntKind.u32.bits = 32 := rfl
@[simp] theorem fdiv_lit (x : Int) (n : Nat) [NeZero n] : x.fdiv (no_index (OfNat.ofNat n : Int)) = x / (OfNat.ofNat n : Int) := Int.fdiv_eq_ediv_of_nonneg x (by exact Int.natCast_nonneg n)

/-- A contract that says what is returned, the memory being as it was. -/
def Gives (P : Program) (f : FuncId) (args : List PV) (r : PV) : Prop := ∀ m, ACall P f args m (fun r' m' => r' = .ret r ∧ m' = m)
theorem Gives.at {P : Program} {f : FuncId} {args : List PV} {r : PV} {m : St} {K Kp : PV → St → Prop} (h : Gives P f args r) (k : K r m) :
    ACall P f args m (fun r m' => match r with | .ret p => K p m' | .pan p => Kp p m') :=
  (h m).mono (by rintro _ _ ⟨rfl, rfl⟩; exact k)
end Go.Ab
