/- Texts of the proof, part La: they prove nothing by themselves that is claimed. -/
import Derived.Below
import Derived.WalkKit
import Derived.Laws.IdiomCopy
import Derived.Laws.Append
import Derived.Laws.Cells
import Derived.RangeFuncOwn
import Derived.Tactics
import Derived.TacticsIn
import Derived.OrdersIn
import Derived.Laws.AppendOwn
import Derived.ArgAppend
import Derived.Laws.Cover3
import Derived.Laws.Small
import Derived.WalkSpells
import Derived.Laws.Tables
import Derived.Laws.MakeOwn
import Derived.RangeFuncLeaves
import Derived.RangeFuncNested
set_option linter.unusedVariables false
set_option linter.unusedSimpArgs false
namespace Go.Ab
open Go.RowKit
inductive Own where
  | no | full | tok (k : Nat)
  deriving DecidableEq, Inhabited
inductive PV where
  | any
  | v (u : Value)
  | agg (cs : List PV)
  | list (o : Own) (rows : List (List PV))
  | ro (cs : List PV)
  | loc (n off : Nat)
  | marr (n off len cap : Nat)
  | clo (f : FuncId) (first caps : List PV)
  | iface (t : TypeId) (x : PV)
  | tup (xs : List PV)
  | yld (n : Nat)
  | mtok (k len : Nat)
  | mptr (k off gen : Nat)
  deriving Inhabited
structure CtxX where
  mark : Nat → Prop
  lps : Nat → Prop
  dlo : Nat
  rnd : Option Nat
  fd : List Deferred
structure CtxX.le (x x' : CtxX) : Prop where
  mark : ∀ D, x.mark D → x'.mark D
  lps : ∀ l, x.lps l → x'.lps l
  dlo : x'.dlo = x.dlo
  rnd : x'.rnd = x.rnd
  fd : x'.fd = x.fd
theorem CtxX.le.refl (x : CtxX) : x.le x := ⟨fun _ h => h, fun _ h => h, rfl, rfl, rfl⟩
theorem CtxX.le.trans {a b c : CtxX} (h : a.le b) (k : b.le c) : a.le c := ⟨fun D q => k.mark D (h.mark D q), fun D q => k.lps D (h.lps D q), k.dlo.trans h.dlo, k.rnd.trans h.rnd, k.fd.trans h.fd⟩
structure Ctx where
  x : CtxX
  base : Nat
  nloc : Nat
  loc : Nat → Nat
  imm : Nat → Nat → Prop
  ntok : Nat
  tok : Nat → Nat
  top : Nat → Nat
  cp : Nat → Nat
  wd : Nat → Nat
def cellAt (w : World) (b o : Nat) : Option Value := w.cell? ⟨b, o, none⟩
mutual
def VRep (Γ : Ctx) (w : World) : PV → Value → Prop
  | .any, _ => True
  | .v u, x => x = u
  | .agg cs, x => ∃ us, x = .agg us ∧ LRep Γ w cs us.toList
  | .list o rows, x => ∃ a cap, x = .slice a rows.length cap ∧ rows.length ≤ cap ∧ (a = none → cap = 0) ∧
      (∀ ad, a = some ad → (cap = 0 ∨ ad.spot = none) ∧ SRep Γ w rows ad.block ad.off) ∧
      (match o with
       | .no => True
       | .full => cap = rows.length
       | .tok k => k < Γ.ntok ∧ rows.length ≤ Γ.top k ∧ (rows.length = Γ.top k → a = some ⟨Γ.tok k, 0, none⟩ ∧ cap = Γ.cp k))
  | .ro cs, x => ∃ b off, x = .pointer (some ⟨b, off, none⟩) ∧ CRep Γ w cs b off
  | .loc n off, x => n < Γ.nloc ∧ x = .pointer (some ⟨Γ.loc n, off, none⟩)
  | .marr n off len cap, x => n < Γ.nloc ∧ ∃ cap', cap ≤ cap' ∧ x = .slice (some ⟨Γ.loc n, off, none⟩) len cap'
  | .clo f first caps, x => ∃ fs us, x = .func (.func f) fs us ∧ LRep Γ w first fs.toList ∧ LRep Γ w caps us.toList
  | .iface t y, x => ∃ u, x = .iface t u ∧ VRep Γ w y u
  | .tup xs, x => ∃ us, x = .tuple us ∧ LRep Γ w xs us.toList
  | .yld n, x => n < Γ.nloc ∧ x = .func (.yield (Γ.loc n)) #[] #[]
  | .mtok k len, x => k < Γ.ntok ∧ len ≤ Γ.top k ∧ ∃ a cap, x = .slice (some a) len cap ∧ (len = Γ.top k → a = ⟨Γ.tok k, 0, none⟩ ∧ cap = Γ.cp k ∧ len ≤ cap)
  | .mptr k off gen, x => k < Γ.ntok ∧ gen ≤ Γ.top k ∧ ∃ a, x = .pointer (some a) ∧ (gen = Γ.top k → a = ⟨Γ.tok k, off, none⟩)
def LRep (Γ : Ctx) (w : World) : List PV → List Value → Prop
  | [], us => us = []
  | x :: xs, us => ∃ u us', us = u :: us' ∧ VRep Γ w x u ∧ LRep Γ w xs us'
def CRep (Γ : Ctx) (w : World) : List PV → Nat → Nat → Prop
  | [], _, _ => True
  | x :: xs, b, off => (Γ.imm b off ∧ ∃ u, cellAt w b off = some u ∧ u.oneCell' = true ∧ VRep Γ w x u) ∧ CRep Γ w xs b (off + 1)
def SRep (Γ : Ctx) (w : World) : List (List PV) → Nat → Nat → Prop
  | [], _, _ => True
  | r :: rs, b, off => CRep Γ w r b off ∧ SRep Γ w rs b (off + r.length)
end
structure Ctx.le (Γ Γ' : Ctx) : Prop where
  base : Γ'.base = Γ.base
  nloc : Γ.nloc ≤ Γ'.nloc
  loc : ∀ n, n < Γ.nloc → Γ'.loc n = Γ.loc n
  imm : ∀ b o, Γ.imm b o → Γ'.imm b o
  ntok : Γ.ntok ≤ Γ'.ntok
  tok : ∀ k, k < Γ.ntok → (Γ'.top k = Γ.top k ∧ Γ'.tok k = Γ.tok k ∧ Γ'.cp k = Γ.cp k) ∨ Γ.top k < Γ'.top k
  wd : ∀ k, k < Γ.ntok → Γ'.wd k = Γ.wd k
  x : Γ.x.le Γ'.x
  immb : ∀ b o, Γ'.imm b o → Γ.imm b o ∨ Γ.base ≤ b
theorem Ctx.le.refl (Γ : Ctx) : Γ.le Γ := ⟨rfl, Nat.le_refl _, fun _ _ => rfl, fun _ _ h => h, Nat.le_refl _, fun _ _ => .inl ⟨rfl, rfl, rfl⟩, fun _ _ => rfl, CtxX.le.refl _, fun _ _ h => .inl h⟩
theorem Ctx.le.trans {A B C : Ctx} (h : A.le B) (k : B.le C) : A.le C := by
  refine ⟨k.base.trans h.base, Nat.le_trans h.nloc k.nloc, fun n hn => (k.loc n (Nat.lt_of_lt_of_le hn h.nloc)).trans (h.loc n hn), fun b o x => k.imm b o (h.imm b o x), Nat.le_trans h.ntok k.ntok, fun i hi => ?_, fun i hi => (k.wd i (Nat.lt_of_lt_of_le hi h.ntok)).trans (h.wd i hi), h.x.trans k.x, fun b o q => (k.immb b o q).elim (h.immb b o) (fun r => .inr (h.base ▸ r))⟩
  rcases h.tok i hi with ⟨h1, h2, h3⟩ | h1 <;> rcases k.tok i (Nat.lt_of_lt_of_le hi h.ntok) with ⟨k1, k2, k3⟩ | k1
  · exact .inl ⟨k1.trans h1, k2.trans h2, k3.trans h3⟩
  · exact .inr (by omega)
  · exact .inr (by omega)
  · exact .inr (by omega)
structure Keeps (Γ : Ctx) (w w' : World) : Prop where
  below : Below Γ.base w w'
  imm : ∀ b o, Γ.imm b o → cellAt w' b o = cellAt w b o
theorem Keeps.refl (Γ : Ctx) (w : World) : Keeps Γ w w := ⟨Below.refl _ _, fun _ _ _ => rfl⟩
theorem Keeps.trans {A B : Ctx} {w w' w'' : World} (h : Keeps A w w') (l : A.le B) (k : Keeps B w' w'') : Keeps A w w'' :=
  ⟨h.below.trans (l.base ▸ k.below), fun b o x => (k.imm b o (l.imm b o x)).trans (h.imm b o x)⟩
mutual
theorem VRep.mono {Γ Γ' : Ctx} {w w' : World} (l : Γ.le Γ') (k : Keeps Γ w w') : ∀ (p : PV) (u : Value), VRep Γ w p u → VRep Γ' w' p u
  | .any, _, h => trivial
  | .v _, _, h => h
  | .agg cs, u, h => by
    obtain ⟨us, e, h⟩ := h
    exact ⟨us, e, LRep.mono l k cs _ h⟩
  | .list o rows, u, h => by
    obtain ⟨a, cap, e, h1, h2, h3, h4⟩ := h
    refine ⟨a, cap, e, h1, h2, fun ad hd => ⟨(h3 ad hd).1, SRep.mono l k rows _ _ (h3 ad hd).2⟩, ?_⟩
    cases o with
    | no => trivial
    | full => exact h4
    | tok i =>
      obtain ⟨a1, a2, a3⟩ := h4
      rcases l.tok i a1 with ⟨t1, t2, t3⟩ | t1
      · exact ⟨Nat.lt_of_lt_of_le a1 l.ntok, t1 ▸ a2, fun q => by rw [t2, t3]; exact a3 (t1 ▸ q)⟩
      · exact ⟨Nat.lt_of_lt_of_le a1 l.ntok, by omega, fun q => by omega⟩
  | .ro cs, u, h => by
    obtain ⟨b, off, e, h⟩ := h
    exact ⟨b, off, e, CRep.mono l k cs _ _ h⟩
  | .loc n off, u, h => ⟨Nat.lt_of_lt_of_le h.1 l.nloc, by rw [l.loc n h.1]; exact h.2⟩
  | .marr n off len cap, u, h => ⟨Nat.lt_of_lt_of_le h.1 l.nloc, by rw [l.loc n h.1]; exact h.2⟩
  | .clo f first caps, u, h => by
    obtain ⟨fs, us, e, h1, h2⟩ := h
    exact ⟨fs, us, e, LRep.mono l k first _ h1, LRep.mono l k caps _ h2⟩
  | .iface t y, u, h => by
    obtain ⟨x, e, h⟩ := h
    exact ⟨x, e, VRep.mono l k y _ h⟩
  | .tup xs, u, h => by
    obtain ⟨us, e, h⟩ := h
    exact ⟨us, e, LRep.mono l k xs _ h⟩
  | .yld n, u, h => ⟨Nat.lt_of_lt_of_le h.1 l.nloc, by rw [l.loc n h.1]; exact h.2⟩
  | .mtok i len, u, h => by
    obtain ⟨h1, h2, a, cap, h3, h4⟩ := h
    rcases l.tok i h1 with ⟨t1, t2, t3⟩ | t1
    · exact ⟨Nat.lt_of_lt_of_le h1 l.ntok, t1 ▸ h2, a, cap, h3, fun q => by rw [t2, t3]; exact h4 (t1 ▸ q)⟩
    · exact ⟨Nat.lt_of_lt_of_le h1 l.ntok, by omega, a, cap, h3, fun q => by omega⟩
  | .mptr i off gen, u, h => by
    obtain ⟨h1, h2, a, h3, h4⟩ := h
    rcases l.tok i h1 with ⟨t1, t2, t3⟩ | t1
    · exact ⟨Nat.lt_of_lt_of_le h1 l.ntok, t1 ▸ h2, a, h3, fun q => by rw [t2]; exact h4 (t1 ▸ q)⟩
    · exact ⟨Nat.lt_of_lt_of_le h1 l.ntok, by omega, a, h3, fun q => by omega⟩
theorem LRep.mono {Γ Γ' : Ctx} {w w' : World} (l : Γ.le Γ') (k : Keeps Γ w w') : ∀ (xs : List PV) (us : List Value), LRep Γ w xs us → LRep Γ' w' xs us
  | [], _, h => h
  | x :: xs, us, h => by
    obtain ⟨u, us', e, h1, h2⟩ := h
    exact ⟨u, us', e, VRep.mono l k x _ h1, LRep.mono l k xs _ h2⟩
theorem CRep.mono {Γ Γ' : Ctx} {w w' : World} (l : Γ.le Γ') (k : Keeps Γ w w') : ∀ (xs : List PV) (b off : Nat), CRep Γ w xs b off → CRep Γ' w' xs b off
  | [], _, _, h => trivial
  | x :: xs, b, off, h => by
    obtain ⟨⟨h0, u, e, hu, h1⟩, h2⟩ := h
    exact ⟨⟨l.imm _ _ h0, u, (k.imm _ _ h0).trans e, hu, VRep.mono l k x _ h1⟩, CRep.mono l k xs _ _ h2⟩
theorem SRep.mono {Γ Γ' : Ctx} {w w' : World} (l : Γ.le Γ') (k : Keeps Γ w w') : ∀ (rs : List (List PV)) (b off : Nat), SRep Γ w rs b off → SRep Γ' w' rs b off
  | [], _, _, h => trivial
  | r :: rs, b, off, h => ⟨CRep.mono l k r _ _ h.1, SRep.mono l k rs _ _ h.2⟩
end
mutual
def PV.sc (nl nt : Nat) : PV → Prop
  | .any | .v _ => True
  | .agg cs => PV.scL nl nt cs
  | .list o rows => PV.scR nl nt rows ∧ (match o with | .tok k => k < nt | _ => True)
  | .ro cs => PV.scL nl nt cs
  | .loc n _ => n < nl
  | .marr n _ _ _ => n < nl
  | .clo _ first caps => PV.scL nl nt first ∧ PV.scL nl nt caps
  | .iface _ y => y.sc nl nt
  | .tup xs => PV.scL nl nt xs
  | .yld n => n < nl
  | .mtok k _ => k < nt
  | .mptr k _ _ => k < nt
def PV.scL (nl nt : Nat) : List PV → Prop
  | [] => True
  | x :: xs => x.sc nl nt ∧ PV.scL nl nt xs
def PV.scR (nl nt : Nat) : List (List PV) → Prop
  | [] => True
  | r :: rs => PV.scL nl nt r ∧ PV.scR nl nt rs
end
def Ctx.cut (Γ : Ctx) (x : CtxX) (nl nt : Nat) : Ctx := { Γ with x := x, nloc := nl, ntok := nt }
mutual
theorem VRep.cut {Γ : Ctx} {w : World} {x₀ : CtxX} {nl nt : Nat} : ∀ (p : PV) (u : Value), p.sc nl nt → VRep Γ w p u → VRep (Γ.cut x₀ nl nt) w p u
  | .any, _, _, h => trivial
  | .v _, _, _, h => h
  | .agg cs, u, s, h => by
    obtain ⟨us, e, h⟩ := h
    exact ⟨us, e, LRep.cut cs _ s h⟩
  | .list o rows, u, s, h => by
    obtain ⟨a, cap, e, h1, h2, h3, h4⟩ := h
    refine ⟨a, cap, e, h1, h2, fun ad hd => ⟨(h3 ad hd).1, SRep.cut rows _ _ s.1 (h3 ad hd).2⟩, ?_⟩
    cases o with
    | no => trivial
    | full => exact h4
    | tok i => exact ⟨s.2, h4.2⟩
  | .ro cs, u, s, h => by
    obtain ⟨b, off, e, h⟩ := h
    exact ⟨b, off, e, CRep.cut cs _ _ s h⟩
  | .loc n off, u, s, h => ⟨s, h.2⟩
  | .marr n off len cap, u, s, h => ⟨s, h.2⟩
  | .clo f first caps, u, s, h => by
    obtain ⟨fs, us, e, h1, h2⟩ := h
    exact ⟨fs, us, e, LRep.cut first _ s.1 h1, LRep.cut caps _ s.2 h2⟩
  | .iface t y, u, s, h => by
    obtain ⟨x, e, h⟩ := h
    exact ⟨x, e, VRep.cut y _ s h⟩
  | .tup xs, u, s, h => by
    obtain ⟨us, e, h⟩ := h
    exact ⟨us, e, LRep.cut xs _ s h⟩
  | .yld n, u, s, h => ⟨s, h.2⟩
  | .mtok k _, u, s, h => ⟨s, h.2⟩
  | .mptr k _ _, u, s, h => ⟨s, h.2⟩
theorem LRep.cut {Γ : Ctx} {w : World} {x₀ : CtxX} {nl nt : Nat} : ∀ (xs : List PV) (us : List Value), PV.scL nl nt xs → LRep Γ w xs us → LRep (Γ.cut x₀ nl nt) w xs us
  | [], _, _, h => h
  | x :: xs, us, s, h => by
    obtain ⟨u, us', e, h1, h2⟩ := h
    exact ⟨u, us', e, VRep.cut x _ s.1 h1, LRep.cut xs _ s.2 h2⟩
theorem CRep.cut {Γ : Ctx} {w : World} {x₀ : CtxX} {nl nt : Nat} : ∀ (xs : List PV) (b off : Nat), PV.scL nl nt xs → CRep Γ w xs b off → CRep (Γ.cut x₀ nl nt) w xs b off
  | [], _, _, _, h => trivial
  | x :: xs, b, off, s, h => by
    obtain ⟨⟨h0, u, e, hu, h1⟩, h2⟩ := h
    exact ⟨⟨h0, u, e, hu, VRep.cut x _ s.1 h1⟩, CRep.cut xs _ _ s.2 h2⟩
theorem SRep.cut {Γ : Ctx} {w : World} {x₀ : CtxX} {nl nt : Nat} : ∀ (rs : List (List PV)) (b off : Nat), PV.scR nl nt rs → SRep Γ w rs b off → SRep (Γ.cut x₀ nl nt) w rs b off
  | [], _, _, _, h => trivial
  | r :: rs, b, off, s, h => ⟨CRep.cut r _ _ s.1 h.1, SRep.cut rs _ _ s.2 h.2⟩
end
mutual
def PV.strip : PV → PV
  | .any => .any
  | .v u => .v u
  | .agg cs => .agg (PV.stripL cs)
  | .list _ rows => .list .no (PV.stripR rows)
  | .ro cs => .ro (PV.stripL cs)
  | .loc n off => .loc n off
  | .marr n off len cap => .marr n off len cap
  | .clo f first caps => .clo f (PV.stripL first) (PV.stripL caps)
  | .iface t y => .iface t y.strip
  | .tup xs => .tup (PV.stripL xs)
  | .yld n => .yld n
  | .mtok k len => .mtok k len
  | .mptr k off gen => .mptr k off gen
def PV.stripL : List PV → List PV
  | [] => []
  | x :: xs => x.strip :: PV.stripL xs
def PV.stripR : List (List PV) → List (List PV)
  | [] => []
  | r :: rs => PV.stripL r :: PV.stripR rs
end
theorem PV.stripL_length : ∀ xs : List PV, (PV.stripL xs).length = xs.length
  | [] => rfl
  | _ :: xs => by simp [PV.stripL, PV.stripL_length xs]
theorem PV.stripR_length : ∀ xs : List (List PV), (PV.stripR xs).length = xs.length
  | [] => rfl
  | _ :: xs => by simp [PV.stripR, PV.stripR_length xs]
mutual
theorem VRep.strip {Γ : Ctx} {w : World} : ∀ (p : PV) (u : Value), VRep Γ w p u → VRep Γ w p.strip u
  | .any, _, h => trivial
  | .v _, _, h => h
  | .agg cs, u, h => by
    obtain ⟨us, e, h⟩ := h
    exact ⟨us, e, LRep.strip cs _ h⟩
  | .list o rows, u, h => by
    obtain ⟨a, cap, e, h1, h2, h3, h4⟩ := h
    have hl := PV.stripR_length rows
    exact ⟨a, cap, hl.symm ▸ e, hl.symm ▸ h1, h2, fun ad hd => ⟨(h3 ad hd).1, SRep.strip rows _ _ (h3 ad hd).2⟩, trivial⟩
  | .ro cs, u, h => by
    obtain ⟨b, off, e, h⟩ := h
    exact ⟨b, off, e, CRep.strip cs _ _ h⟩
  | .loc n off, u, h => h
  | .marr n off len cap, u, h => h
  | .clo f first caps, u, h => by
    obtain ⟨fs, us, e, h1, h2⟩ := h
    exact ⟨fs, us, e, LRep.strip first _ h1, LRep.strip caps _ h2⟩
  | .iface t y, u, h => by
    obtain ⟨x, e, h⟩ := h
    exact ⟨x, e, VRep.strip y _ h⟩
  | .tup xs, u, h => by
    obtain ⟨us, e, h⟩ := h
    exact ⟨us, e, LRep.strip xs _ h⟩
  | .yld n, u, h => h
  | .mtok k _, u, h => h
  | .mptr k _ _, u, h => h
theorem LRep.strip {Γ : Ctx} {w : World} : ∀ (xs : List PV) (us : List Value), LRep Γ w xs us → LRep Γ w (PV.stripL xs) us
  | [], _, h => h
  | x :: xs, us, h => by
    obtain ⟨u, us', e, h1, h2⟩ := h
    exact ⟨u, us', e, VRep.strip x _ h1, LRep.strip xs _ h2⟩
theorem CRep.strip {Γ : Ctx} {w : World} : ∀ (xs : List PV) (b off : Nat), CRep Γ w xs b off → CRep Γ w (PV.stripL xs) b off
  | [], _, _, h => trivial
  | x :: xs, b, off, h => by
    obtain ⟨⟨h0, u, e, hu, h1⟩, h2⟩ := h
    exact ⟨⟨h0, u, e, hu, VRep.strip x _ h1⟩, CRep.strip xs _ _ h2⟩
theorem SRep.strip {Γ : Ctx} {w : World} : ∀ (rs : List (List PV)) (b off : Nat), SRep Γ w rs b off → SRep Γ w (PV.stripR rs) b off
  | [], _, _, h => trivial
  | r :: rs, b, off, h => ⟨CRep.strip r _ _ h.1, (PV.stripL_length r).symm ▸ SRep.strip rs _ _ h.2⟩
end
theorem LRep.len {Γ : Ctx} {w : World} : ∀ (xs : List PV) (us : List Value), LRep Γ w xs us → us.length = xs.length
  | [], _, h => by rw [h]; rfl
  | x :: xs, us, h => by
    obtain ⟨u, us', e, h1, h2⟩ := h
    simp [e, LRep.len xs us' h2]
theorem LRep.get {Γ : Ctx} {w : World} : ∀ (xs : List PV) (us : List Value), LRep Γ w xs us → ∀ (i : Nat) (x : PV), xs[i]? = some x → ∃ u, us[i]? = some u ∧ VRep Γ w x u
  | [], _, h, i, x, hx => by simp at hx
  | y :: xs, us, h, i, x, hx => by
    obtain ⟨u, us', e, h1, h2⟩ := h
    subst e
    cases i with
    | zero => simp at hx; subst hx; exact ⟨u, by simp, h1⟩
    | succ i => simp at hx; obtain ⟨u', e, h⟩ := LRep.get xs us' h2 i x hx; exact ⟨u', by simpa using e, h⟩
theorem LRep.append {Γ : Ctx} {w : World} : ∀ (xs ys : List PV) (us vs : List Value), LRep Γ w xs us → LRep Γ w ys vs → LRep Γ w (xs ++ ys) (us ++ vs)
  | [], ys, us, vs, h, k => by rw [h]; exact k
  | x :: xs, ys, us, vs, h, k => by
    obtain ⟨u, us', e, h1, h2⟩ := h
    subst e
    exact ⟨u, us' ++ vs, rfl, h1, LRep.append xs ys us' vs h2 k⟩
theorem LRep.drop {Γ : Ctx} {w : World} : ∀ (n : Nat) (xs : List PV) (us : List Value), LRep Γ w xs us → LRep Γ w (xs.drop n) (us.drop n)
  | 0, xs, us, h => h
  | n + 1, [], us, h => by rw [h]; rfl
  | n + 1, x :: xs, us, h => by
    obtain ⟨u, us', e, h1, h2⟩ := h
    subst e
    exact LRep.drop n xs us' h2
theorem LRep.take {Γ : Ctx} {w : World} : ∀ (n : Nat) (xs : List PV) (us : List Value), LRep Γ w xs us → LRep Γ w (xs.take n) (us.take n)
  | 0, xs, us, h => rfl
  | n + 1, [], us, h => by rw [h]; rfl
  | n + 1, x :: xs, us, h => by
    obtain ⟨u, us', e, h1, h2⟩ := h
    subst e
    exact ⟨u, us'.take n, rfl, h1, LRep.take n xs us' h2⟩
theorem CRep.drop {Γ : Ctx} {w : World} : ∀ (n : Nat) (xs : List PV) (b off : Nat), CRep Γ w xs b off → CRep Γ w (xs.drop n) b (off + n)
  | 0, xs, b, off, h => h
  | n + 1, [], b, off, h => trivial
  | n + 1, x :: xs, b, off, h => by
    have := CRep.drop n xs b (off + 1) h.2
    rwa [show off + 1 + n = off + (n + 1) by omega] at this
theorem CRep.take {Γ : Ctx} {w : World} : ∀ (n : Nat) (xs : List PV) (b off : Nat), CRep Γ w xs b off → CRep Γ w (xs.take n) b off
  | 0, xs, b, off, h => trivial
  | n + 1, [], b, off, h => trivial
  | n + 1, x :: xs, b, off, h => ⟨h.1, CRep.take n xs b (off + 1) h.2⟩
theorem CRep.append {Γ : Ctx} {w : World} : ∀ (xs ys : List PV) (b off : Nat), CRep Γ w xs b off → CRep Γ w ys b (off + xs.length) → CRep Γ w (xs ++ ys) b off
  | [], ys, b, off, _, k => k
  | x :: xs, ys, b, off, h, k => ⟨h.1, CRep.append xs ys b (off + 1) h.2 (by simpa [Nat.add_assoc, Nat.add_comm 1] using k)⟩
theorem CRep.read {Γ : Ctx} {w : World} : ∀ (xs : List PV) (b off : Nat), CRep Γ w xs b off → ∃ us : List Value, us.length = xs.length ∧ (∀ (i : Nat) (u : Value), us[i]? = some u → cellAt w b (off + i) = some u ∧ u.oneCell' = true ∧ Γ.imm b (off + i)) ∧ LRep Γ w xs us
  | [], b, off, h => ⟨[], rfl, fun i u e => by simp at e, rfl⟩
  | x :: xs, b, off, h => by
    obtain ⟨⟨h0, u, e, hu, h1⟩, h2⟩ := h
    obtain ⟨us, l, hus, hr⟩ := CRep.read xs b (off + 1) h2
    refine ⟨u :: us, by simp [l], fun i u' e' => ?_, u, us, rfl, h1, hr⟩
    cases i with
    | zero => simp at e'; subst e'; exact ⟨e, hu, h0⟩
    | succ i => simp at e'; have := hus i u' e'; rwa [show off + 1 + i = off + (i + 1) by omega] at this
theorem CRep.mk {Γ : Ctx} {w : World} : ∀ (xs : List PV) (us : List Value) (b off : Nat), LRep Γ w xs us → (∀ (i : Nat) (u : Value), us[i]? = some u → cellAt w b (off + i) = some u ∧ u.oneCell' = true ∧ Γ.imm b (off + i)) → CRep Γ w xs b off
  | [], _, _, _, _, _ => trivial
  | x :: xs, us, b, off, h, k => by
    obtain ⟨u, us', e, h1, h2⟩ := h
    subst e
    refine ⟨⟨(k 0 u (by simp)).2.2, u, (k 0 u (by simp)).1, (k 0 u (by simp)).2.1, h1⟩, CRep.mk xs us' b (off + 1) h2 fun i u' e' => ?_⟩
    have := k (i + 1) u' (by simpa using e')
    rwa [show off + 1 + i = off + (i + 1) by omega]
theorem SRep.flat {Γ : Ctx} {w : World} : ∀ (rows : List (List PV)) (b off : Nat), SRep Γ w rows b off ↔ CRep Γ w rows.flatten b off
  | [], b, off => Iff.rfl
  | r :: rs, b, off => by
    rw [List.flatten_cons]
    constructor
    · intro h; exact CRep.append _ _ _ _ h.1 ((SRep.flat rs _ _).1 h.2)
    · intro h
      refine ⟨by simpa using CRep.take r.length _ _ _ h, (SRep.flat rs _ _).2 ?_⟩
      have := CRep.drop r.length _ _ _ h
      simpa using this
end Go.Ab
namespace Go.Ab
open Go.RowKit
structure LoopA where
  st : LoopState
  pend : Option Code
  fn : FuncId
  N : Nat
  σ : Nat → PV
  params : List Tmp
  assign : Code
  body : Code
structure St where
  loc : Nat → Option (List PV)
  lp : Nat → Option LoopA
  nloc : Nat
  top : Nat → Nat
  wd : Nat → Nat
  ntok : Nat
  it : Nat → Option (ByteArray × Nat)
  arr : Nat → Option (List PV)
def upd {α : Type} (f : Nat → α) (n : Nat) (x : α) : Nat → α := fun i => if i = n then x else f i
theorem upd_same {α : Type} (f : Nat → α) (n : Nat) (x : α) : upd f n x n = x := by simp [upd]
theorem upd_ne {α : Type} (f : Nat → α) (n : Nat) (x : α) (i : Nat) (h : i ≠ n) : upd f n x i = f i := by simp [upd, h]
def setL {α : Type} : List α → Nat → List α → List α
  | c, _, [] => c
  | c, off, u :: us => setL (c.set off u) (off + 1) us
theorem setL_length {α : Type} : ∀ (us c : List α) (off : Nat), (setL c off us).length = c.length
  | [], c, off => rfl
  | u :: us, c, off => by simp [setL, setL_length us]
theorem setL_eq {α : Type} : ∀ (us c : List α) (off : Nat), off + us.length ≤ c.length → setL c off us = c.take off ++ us ++ c.drop (off + us.length)
  | [], c, off, h => by simp [setL]
  | u :: us, c, off, h => by
    simp at h
    rw [setL, setL_eq us _ _ (by simp; omega)]
    have h1 : (c.set off u).take (off + 1) = c.take off ++ [u] := by
      rw [List.take_set, List.take_succ_eq_append_getElem (by omega), List.set_append]
      simp [List.length_take, Nat.min_eq_left (show off ≤ c.length by omega)]
    rw [h1, List.drop_set_of_lt (by omega)]
    simp [Nat.add_assoc, Nat.add_comm 1]
theorem setL_all {α : Type} {p : α → Prop} : ∀ (us c : List α) (off : Nat), (∀ u ∈ us, p u) → (∀ v ∈ c, p v) → ∀ v ∈ setL c off us, p v
  | [], c, off, _, h => h
  | u :: us, c, off, h1, h => by
    refine setL_all us _ (off + 1) (fun v hv => h1 v (by simp [hv])) fun v hv => ?_
    rcases List.mem_or_eq_of_mem_set hv with hv | rfl
    · exact h v hv
    · exact h1 _ (by simp)
def Blk (w : World) (b : Nat) (c : List Value) : Prop := ∃ e a, w.heap[b]? = some (.cells a e (0, 0)) ∧ ∃ d, a.toList = c ++ d
theorem cellAt_blk {w : World} {b : Nat} {c : List Value} (h : Blk w b c) {o : Nat} (ho : o < c.length) : cellAt w b o = c[o]? := by
  obtain ⟨e, a, h, d, hd⟩ := h
  have : a[o]? = c[o]? := by rw [← Array.getElem?_toList, hd, List.getElem?_append_left ho]
  simp [cellAt, World.cell?, h, this]
theorem cellAt_blk' {w : World} {b : Nat} {c : List Value} (h : Blk w b c) {o : Nat} {u : Value} (ho : c[o]? = some u) : cellAt w b o = some u :=
  (cellAt_blk h (List.getElem?_eq_some_iff.1 ho).1).trans ho
theorem Blk.lt {w : World} {b : Nat} {c : List Value} (h : Blk w b c) : b < w.heap.size := by
  obtain ⟨e, a, h, _⟩ := h
  exact (Array.getElem?_eq_some_iff.1 h).1
theorem Blk.frozen {w : World} {b : Nat} {c : List Value} (h : Blk w b c) (o : Nat) : w.frozen? ⟨b, o, none⟩ = false := by
  obtain ⟨e, a, h, _⟩ := h
  simp [World.frozen?, h]
theorem Blk.of_heap {w w' : World} {b : Nat} {c : List Value} (h : Blk w b c) (k : w'.heap[b]? = w.heap[b]?) : Blk w' b c := by
  obtain ⟨e, a, h, h2⟩ := h
  exact ⟨e, a, k.trans h, h2⟩
theorem Blk.alloc {w : World} {b : Nat} {c : List Value} (h : Blk w b c) (o : Obj) : Blk (w.alloc o) b c := h.of_heap (Below.heap_alloc _ _ _ h.lt)
theorem Blk.new (w : World) (c : Array Value) (e : TypeId) : Blk (w.alloc (.cells c e)) w.heap.size c.toList :=
  ⟨e, c, by show (w.heap.push _)[w.heap.size]? = _; simp, [], by simp⟩
theorem Blk.take {w : World} {b : Nat} {c d : List Value} (h : Blk w b (c ++ d)) : Blk w b c := by
  obtain ⟨e, a, h, d', h2⟩ := h
  exact ⟨e, a, h, d ++ d', by rw [h2, List.append_assoc]⟩
theorem cellAt_of_heap {w w' : World} {b : Nat} (k : w'.heap[b]? = w.heap[b]?) (i : Nat) : cellAt w' b i = cellAt w b i := World.cell?_of_block (w := w) k
theorem cellAt_alloc (w : World) (o : Obj) (b i : Nat) (h : b < w.heap.size) : cellAt (w.alloc o) b i = cellAt w b i := cellAt_of_heap (Below.heap_alloc _ _ _ h) i
abbrev setCells (w : World) (b off : Nat) (us : List Value) : World := w.setCells b off us
theorem setCell_blk {w : World} {b : Nat} {c : List Value} (h : Blk w b c) (off : Nat) (ho : off < c.length) (u : Value) : Blk (w.setCell ⟨b, off, none⟩ u) b (c.set off u) := by
  obtain ⟨e, a, h, d, hd⟩ := h
  exact ⟨e, a.setIfInBounds off u, by simp only [World.setCell, Array.getElem?_modify, if_true, h]; rfl, d, by rw [Array.toList_setIfInBounds, hd, List.set_append_left _ _ ho]⟩
theorem setCells_blk {b : Nat} : ∀ (us : List Value) (w : World) (off : Nat) (c : List Value), off + us.length ≤ c.length → Blk w b c → Blk (setCells w b off us) b (setL c off us)
  | [], w, off, c, _, h => h
  | u :: us, w, off, c, hf, h => setCells_blk us _ (off + 1) _ (by simp at hf ⊢; omega) (setCell_blk h off (by simp at hf; omega) u)
theorem setCells_heap {b : Nat} : ∀ (us : List Value) (w : World) (off k : Nat), k ≠ b → (setCells w b off us).heap[k]? = w.heap[k]?
  | [], w, off, k, _ => rfl
  | u :: us, w, off, k, h => (setCells_heap us _ (off + 1) k h).trans (Below.heap_setCell _ _ _ _ (by simpa using h))
theorem setCells_below {b B : Nat} (hB : B ≤ b) : ∀ (us : List Value) (w : World) (off : Nat), Below B w (setCells w b off us)
  | [], w, off => Below.refl _ _
  | u :: us, w, off => ((Below.refl B w).setCell (p := ⟨b, off, none⟩) hB u).trans (setCells_below hB us _ (off + 1))
theorem setCells_size {b : Nat} : ∀ (us : List Value) (w : World) (off : Nat), (setCells w b off us).heap.size = w.heap.size
  | [], w, off => rfl
  | u :: us, w, off => by rw [setCells, World.setCells]; exact (setCells_size us _ _).trans (by simp [World.setCell])
structure Lps (Γ : Ctx) (m : St) (w : World) : Prop where
  at_ : ∀ n L, n < m.nloc → m.lp n = some L → Γ.base ≤ Γ.loc n ∧ ∃ tmps D, w.heap[Γ.loc n]? = some (.loop { state := L.st, pending := L.pend, fn := L.fn, tmps := tmps, params := L.params.toArray, assign := L.assign, body := L.body, defers := D }) ∧
    tmps.size = L.N ∧ ∀ t, VRep Γ w (L.σ t) (tmps.getD t undef)
  inj : ∀ n n' L L', n < m.nloc → n' < m.nloc → m.lp n = some L → m.lp n' = some L' → Γ.loc n = Γ.loc n' → n = n'
theorem Lps.lt {Γ : Ctx} {m : St} {w : World} (h : Lps Γ m w) {n : Nat} {L : LoopA} (hn : n < m.nloc) (hl : m.lp n = some L) : Γ.loc n < w.heap.size := by
  obtain ⟨_, tmps, D, h1, _⟩ := h.at_ n L hn hl
  exact (Array.getElem?_eq_some_iff.1 h1).1
theorem Lps.not_blk {Γ : Ctx} {m : St} {w : World} (h : Lps Γ m w) {n : Nat} {L : LoopA} (hn : n < m.nloc) (hl : m.lp n = some L) {c : List Value} : ¬ Blk w (Γ.loc n) c := by
  rintro ⟨e, a, h2, _⟩
  obtain ⟨_, tmps, D, h1, _⟩ := h.at_ n L hn hl
  rw [h1] at h2; cases h2
structure Its (Γ : Ctx) (m : St) (w : World) : Prop where
  at_ : ∀ n x, n < m.nloc → m.it n = some x → Γ.base ≤ Γ.loc n ∧ w.heap[Γ.loc n]? = some (.stringIter x.1 x.2)
  inj : ∀ n n' x x', n < m.nloc → n' < m.nloc → m.it n = some x → m.it n' = some x' → Γ.loc n = Γ.loc n' → n = n'
theorem Its.lt {Γ : Ctx} {m : St} {w : World} (h : Its Γ m w) {n : Nat} {x : ByteArray × Nat} (hn : n < m.nloc) (hx : m.it n = some x) : Γ.loc n < w.heap.size :=
  (Array.getElem?_eq_some_iff.1 (h.at_ n x hn hx).2).1
theorem Its.mono {Γ Γ' : Ctx} {m m' : St} {w w' : World} (h : Its Γ m w) (l : Γ.le Γ') (hn : Γ.nloc = m.nloc) (hm : ∀ n x, n < m'.nloc → m'.it n = some x → n < m.nloc ∧ m.it n = some x)
    (hh : ∀ (k : Nat) (o : Obj), w.heap[k]? = some o → o.isCells = false → w'.heap[k]? = some o) : Its Γ' m' w' := by
  refine ⟨fun n x h1 h2 => ?_, fun n n' x x' h1 h2 h3 h4 hq => ?_⟩
  · obtain ⟨h3, h4⟩ := hm n x h1 h2
    obtain ⟨h5, h6⟩ := h.at_ n x h3 h4
    have e := l.loc n (by rw [hn]; exact h3)
    exact ⟨by rw [e, l.base]; exact h5, by rw [e]; exact hh _ _ h6 rfl⟩
  · obtain ⟨h5, h6⟩ := hm n x h1 h3
    obtain ⟨h7, h8⟩ := hm n' x' h2 h4
    rw [l.loc n (by rw [hn]; exact h5), l.loc n' (by rw [hn]; exact h7)] at hq
    exact h.inj n n' x x' h5 h7 h6 h8 hq
theorem Lps.mono {Γ Γ' : Ctx} {m m' : St} {w w' : World} (h : Lps Γ m w) (l : Γ.le Γ') (k : Keeps Γ w w') (hn : Γ.nloc = m.nloc) (hm : ∀ n L, n < m'.nloc → m'.lp n = some L → n < m.nloc ∧ m.lp n = some L)
    (hh : ∀ n L, n < m.nloc → m.lp n = some L → w'.heap[Γ.loc n]? = w.heap[Γ.loc n]?) : Lps Γ' m' w' := by
  refine ⟨fun n L h1 h2 => ?_, fun n n' L L' h1 h2 h3 h4 hq => ?_⟩
  · obtain ⟨h3, h4⟩ := hm n L h1 h2
    obtain ⟨h5, tmps, D, h6, h7, h8⟩ := h.at_ n L h3 h4
    have e := l.loc n (by rw [hn]; exact h3)
    exact ⟨by rw [e, l.base]; exact h5, tmps, D, by rw [e, hh n L h3 h4]; exact h6, h7, fun t => VRep.mono l k _ _ (h8 t)⟩
  · obtain ⟨h5, h6⟩ := hm n L h1 h3
    obtain ⟨h7, h8⟩ := hm n' L' h2 h4
    rw [l.loc n (by rw [hn]; exact h5), l.loc n' (by rw [hn]; exact h7)] at hq
    exact h.inj n n' L L' h5 h7 h6 h8 hq
structure XSim (Γ : Ctx) (w : World) : Prop where
  mark : ∀ D, Γ.x.mark D → Γ.base ≤ D ∧ w.heap[D]? = some (.deferred (some []))
  lps : ∀ l, Γ.x.lps l → Γ.base ≤ l ∧ ∃ R, w.heap[l]? = some (.loop R)
  rnd : ∀ l, Γ.x.rnd = some l → Γ.x.lps l
  dlo : Γ.x.dlo ≤ w.heap.size
theorem XSim.mono {Γ Γ' : Ctx} {w w' : World} (h : XSim Γ w) (hx : Γ'.x = Γ.x) (hb : Γ'.base = Γ.base) (hh : ∀ (k : Nat) (o : Obj), w.heap[k]? = some o → o.isCells = false → w'.heap[k]? = some o)
    (hs : w.heap.size ≤ w'.heap.size := by first | exact Nat.le_refl _ | (rw [setCells_size]; exact Nat.le_refl _) | (simp; done)) : XSim Γ' w' := by
  refine ⟨fun D hD => ?_, fun l hl => ?_, fun l hl => ?_, by rw [hx]; exact Nat.le_trans h.dlo hs⟩
  · rw [hx] at hD; obtain ⟨h1, h2⟩ := h.mark D hD; exact ⟨hb ▸ h1, hh _ _ h2 rfl⟩
  · rw [hx] at hl; obtain ⟨h1, R, h2⟩ := h.lps l hl; exact ⟨hb ▸ h1, R, hh _ _ h2 rfl⟩
  · rw [hx] at hl ⊢; exact h.rnd l hl
theorem heap_keep_alloc (w : World) (o' : Obj) (k : Nat) (o : Obj) (h : w.heap[k]? = some o) (_ : o.isCells = false) : (w.alloc o').heap[k]? = some o :=
  (Below.heap_alloc _ _ _ (Array.getElem?_eq_some_iff.1 h).1).trans h
theorem heap_keep_cells {w : World} {b : Nat} {c : List Value} (hb : Blk w b c) (us : List Value) (off : Nat) (k : Nat) (o : Obj) (h : w.heap[k]? = some o) (hc : o.isCells = false) : (setCells w b off us).heap[k]? = some o := by
  refine (setCells_heap us w off k fun e => ?_).trans h
  subst e
  obtain ⟨e, a, h2, _⟩ := hb
  rw [h] at h2; cases h2; cases hc
def DEAD : Nat := 4611686018427387904
structure MemSim (Γ : Ctx) (m : St) (w : World) : Prop where
  nloc : Γ.nloc = m.nloc
  ntok : Γ.ntok = m.ntok
  top : ∀ k, k < m.ntok → Γ.top k = m.top k ∧ Γ.wd k = m.wd k
  locs : ∀ n cs, n < m.nloc → m.loc n = some cs → ∃ c, Blk w (Γ.loc n) c ∧ LRep Γ w cs c ∧ ∀ u ∈ c, u.oneCell' = true
  apart : ∀ n cs, n < m.nloc → m.loc n = some cs → Γ.base ≤ Γ.loc n ∧ ∀ o, ¬ Γ.imm (Γ.loc n) o
  inj : ∀ n n' cs cs', n < m.nloc → n' < m.nloc → m.loc n = some cs → m.loc n' = some cs' → Γ.loc n = Γ.loc n' → n = n'
  immlt : ∀ b o, Γ.imm b o → b < w.heap.size
  base : Γ.base ≤ w.heap.size
  toks : ∀ k, k < m.ntok → m.top k < DEAD → ∃ c, Blk w (Γ.tok k) c ∧ c.length = Γ.cp k * Γ.wd k
  tapart : ∀ k, k < m.ntok → m.top k < DEAD → Γ.base ≤ Γ.tok k ∧ ∀ o, Γ.imm (Γ.tok k) o → o < Γ.top k * Γ.wd k
  tinj : ∀ k k', k < m.ntok → k' < m.ntok → m.top k < DEAD → m.top k' < DEAD → Γ.tok k = Γ.tok k' → k = k'
  tloc : ∀ k n cs, k < m.ntok → m.top k < DEAD → n < m.nloc → m.loc n = some cs → Γ.tok k ≠ Γ.loc n
  arrs : ∀ k cs, k < m.ntok → m.top k < DEAD → m.arr k = some cs → (∀ o, ¬ Γ.imm (Γ.tok k) o) ∧ cs.length = m.top k * m.wd k ∧ ∃ c, Blk w (Γ.tok k) c ∧ LRep Γ w cs c ∧ ∀ u ∈ c, u.oneCell' = true
  lps : Lps Γ m w
  its : Its Γ m w
  xs : XSim Γ w
theorem MemSim.alloc_any {Γ : Ctx} {m : St} {w : World} (h : MemSim Γ m w) (o : Obj) : MemSim Γ m (w.alloc o) ∧ Keeps Γ w (w.alloc o) := by
  have hk : Keeps Γ w (w.alloc o) := ⟨(Below.refl _ _).alloc h.base o, fun b i hi => cellAt_alloc _ _ _ _ (h.immlt b i hi)⟩
  refine ⟨{ h with locs := ?_, immlt := ?_, base := ?_, toks := ?_, arrs := ?_, lps := h.lps.mono (Ctx.le.refl Γ) hk h.nloc (fun n L a b => ⟨a, b⟩) (fun n L a b => Below.heap_alloc _ _ _ (h.lps.lt a b)), its := h.its.mono (Ctx.le.refl Γ) h.nloc (fun n x a b => ⟨a, b⟩) (heap_keep_alloc w o), xs := h.xs.mono rfl rfl (heap_keep_alloc w o) }, hk⟩
  · intro n cs hn hc
    obtain ⟨c, h1, h2, h3⟩ := h.locs n cs hn hc
    exact ⟨c, h1.alloc o, LRep.mono (Ctx.le.refl Γ) hk _ _ h2, h3⟩
  · intro b i hi
    have := h.immlt b i hi
    simp; omega
  · have := h.base
    simp; omega
  · intro k hk' hd
    obtain ⟨c, h1, h2⟩ := h.toks k hk' hd
    exact ⟨c, h1.alloc o, h2⟩
  · intro k cs hk' hd hc
    obtain ⟨h0, hl, c, h1, h2, h3⟩ := h.arrs k cs hk' hd hc
    exact ⟨h0, hl, c, h1.alloc o, LRep.mono (Ctx.le.refl Γ) hk _ _ h2, h3⟩
def Ctx.newLoc (Γ : Ctx) (b : Nat) : Ctx := { Γ with nloc := Γ.nloc + 1, loc := upd Γ.loc Γ.nloc b }
def St.newLoc (m : St) (cs : List PV) : St := { m with nloc := m.nloc + 1, loc := upd m.loc m.nloc (some cs), lp := upd m.lp m.nloc none, it := upd m.it m.nloc none }
theorem Ctx.le_newLoc (Γ : Ctx) (b : Nat) : Γ.le (Γ.newLoc b) :=
  ⟨rfl, Nat.le_succ _, fun n hn => upd_ne _ _ _ _ (by omega), fun _ _ h => h, Nat.le_refl _, fun _ _ => .inl ⟨rfl, rfl, rfl⟩, fun _ _ => rfl, CtxX.le.refl _, fun _ _ h => .inl h⟩
theorem MemSim.newLocP {Γ : Ctx} {m : St} {w : World} (h : MemSim Γ m w) {cs : List PV} {us : Array Value} {c₀ d₀ : List Value} (hu : us.toList = c₀ ++ d₀) (hr : LRep Γ w cs c₀) (h1 : ∀ u ∈ c₀, u.oneCell' = true) (e : TypeId) :
    MemSim (Γ.newLoc w.heap.size) (m.newLoc cs) (w.alloc (.cells us e)) ∧ Keeps Γ w (w.alloc (.cells us e)) := by
  obtain ⟨h', hk⟩ := h.alloc_any (.cells us e)
  have l := Ctx.le_newLoc Γ w.heap.size
  have hfresh : ∀ o, ¬ Γ.imm w.heap.size o := fun o hi => Nat.lt_irrefl _ (h.immlt _ _ hi)
  have hltl : ∀ n cs, n < m.nloc → m.loc n = some cs → Γ.loc n < w.heap.size := fun n cs hn hc => by
    obtain ⟨c, h1, _, _⟩ := h.locs n cs hn hc; exact h1.lt
  have hnl : Γ.nloc = m.nloc := h.nloc
  have key : ∀ n cs', n < m.nloc + 1 → upd m.loc m.nloc (some cs) n = some cs' →
      (n = m.nloc ∧ cs' = cs ∧ upd Γ.loc Γ.nloc w.heap.size n = w.heap.size) ∨ (n < m.nloc ∧ m.loc n = some cs' ∧ upd Γ.loc Γ.nloc w.heap.size n = Γ.loc n) := by
    intro n cs' hn hc
    by_cases e : n = m.nloc
    · subst e; rw [upd_same] at hc; exact .inl ⟨rfl, by injection hc with hc; exact hc.symm, by rw [hnl, upd_same]⟩
    · rw [upd_ne _ _ _ _ e] at hc; exact .inr ⟨by omega, hc, upd_ne _ _ _ _ (by omega)⟩
  refine ⟨⟨by show Γ.nloc + 1 = m.nloc + 1; omega, h.ntok, h.top, ?_, ?_, ?_, h'.immlt, h'.base, h'.toks, h.tapart, h.tinj, ?_, (fun k cs hk' hd hc => by obtain ⟨h0, hl, c, h1, h2, h3⟩ := h'.arrs k cs hk' hd hc; exact ⟨h0, hl, c, h1, LRep.mono l (Keeps.refl _ _) _ _ h2, h3⟩), ?_, ?_, h'.xs.mono rfl rfl (fun _ _ q _ => q)⟩, hk⟩
  · intro n cs' hn hc
    show ∃ c, Blk _ (upd Γ.loc Γ.nloc w.heap.size n) c ∧ _
    rcases key n cs' hn hc with ⟨_, rfl, q⟩ | ⟨a, b, q⟩
    · rw [q]; exact ⟨c₀, Blk.take (d := d₀) (hu ▸ Blk.new w us e), LRep.mono l hk _ _ hr, h1⟩
    · rw [q]
      obtain ⟨c, h1, h2, h3⟩ := h'.locs n cs' a b
      exact ⟨c, h1, LRep.mono l (Keeps.refl _ _) _ _ h2, h3⟩
  · intro n cs' hn hc
    show Γ.base ≤ upd Γ.loc Γ.nloc w.heap.size n ∧ ∀ o, ¬ Γ.imm (upd Γ.loc Γ.nloc w.heap.size n) o
    rcases key n cs' hn hc with ⟨_, rfl, q⟩ | ⟨a, b, q⟩
    · rw [q]; exact ⟨h.base, hfresh⟩
    · rw [q]; exact h.apart n cs' a b
  · intro n n' c1 c2 hn hn' hc hc' hq
    replace hq : upd Γ.loc Γ.nloc w.heap.size n = upd Γ.loc Γ.nloc w.heap.size n' := hq
    rcases key n c1 hn hc with ⟨a1, _, q⟩ | ⟨a, b, q⟩ <;> rcases key n' c2 hn' hc' with ⟨a1', _, q'⟩ | ⟨a', b', q'⟩
    · omega
    · rw [q, q'] at hq; have := hltl n' c2 a' b'; omega
    · rw [q, q'] at hq; have := hltl n c1 a b; omega
    · rw [q, q'] at hq; exact h.inj n n' _ _ a a' b b' hq
  · intro k n cs' hk' hd hn hc
    show Γ.tok k ≠ upd Γ.loc Γ.nloc w.heap.size n
    rcases key n cs' hn hc with ⟨_, rfl, q⟩ | ⟨a, b, q⟩
    · rw [q]; obtain ⟨c, h1, _⟩ := h.toks k hk' hd; have := h1.lt; omega
    · rw [q]; exact h.tloc k n cs' hk' hd a b
  · refine h.lps.mono l hk h.nloc (fun n L a b => ?_) (fun n L a b => Below.heap_alloc _ _ _ (h.lps.lt a b))
    replace b : upd m.lp m.nloc none n = some L := b
    replace a : n < m.nloc + 1 := a
    by_cases e : n = m.nloc
    · subst e; rw [upd_same] at b; cases b
    · rw [upd_ne _ _ _ _ e] at b; exact ⟨by omega, b⟩
  · refine h.its.mono l h.nloc (fun n x a b => ?_) (heap_keep_alloc w _)
    replace b : upd m.it m.nloc none n = some x := b
    replace a : n < m.nloc + 1 := a
    by_cases e : n = m.nloc
    · subst e; rw [upd_same] at b; cases b
    · rw [upd_ne _ _ _ _ e] at b; exact ⟨by omega, b⟩
theorem MemSim.newLoc {Γ : Ctx} {m : St} {w : World} (h : MemSim Γ m w) {cs : List PV} {us : Array Value} (hr : LRep Γ w cs us.toList) (h1 : ∀ u ∈ us.toList, u.oneCell' = true) (e : TypeId) :
    MemSim (Γ.newLoc w.heap.size) (m.newLoc cs) (w.alloc (.cells us e)) ∧ Keeps Γ w (w.alloc (.cells us e)) := h.newLocP (d₀ := []) (by simp) hr h1 e
def Ctx.newImm (Γ : Ctx) (b n : Nat) : Ctx := { Γ with imm := fun b' o => Γ.imm b' o ∨ (b' = b ∧ o < n) }
theorem Ctx.le_newImm (Γ : Ctx) (b n : Nat) (hb : Γ.base ≤ b) : Γ.le (Γ.newImm b n) :=
  ⟨rfl, Nat.le_refl _, fun _ _ => rfl, fun _ _ h => .inl h, Nat.le_refl _, fun _ _ => .inl ⟨rfl, rfl, rfl⟩, fun _ _ => rfl, CtxX.le.refl _, fun _ _ h => h.elim .inl (fun q => .inr (q.1 ▸ hb))⟩
theorem MemSim.newImm {Γ : Ctx} {m : St} {w : World} (h : MemSim Γ m w) {cs : List PV} {us : Array Value} (hr : LRep Γ w cs us.toList) (h1 : ∀ u ∈ us.toList, u.oneCell' = true) (e : TypeId) :
    MemSim (Γ.newImm w.heap.size us.size) m (w.alloc (.cells us e)) ∧ Keeps Γ w (w.alloc (.cells us e)) ∧ CRep (Γ.newImm w.heap.size us.size) (w.alloc (.cells us e)) cs w.heap.size 0 := by
  obtain ⟨h', hk⟩ := h.alloc_any (.cells us e)
  have l := Ctx.le_newImm Γ w.heap.size us.size h.base
  refine ⟨{ h' with locs := ?_, apart := ?_, immlt := ?_, tapart := ?_, arrs := ?_, lps := h'.lps.mono l (Keeps.refl _ _) h'.nloc (fun n L a b => ⟨a, b⟩) (fun n L a b => rfl), its := h'.its.mono l h'.nloc (fun n x a b => ⟨a, b⟩) (fun _ _ q _ => q), xs := h'.xs.mono rfl rfl (fun _ _ q _ => q) }, hk, ?_⟩
  · intro n cs' hn hc
    obtain ⟨c, h1, h2, h3⟩ := h'.locs n cs' hn hc
    exact ⟨c, h1, LRep.mono l (Keeps.refl _ _) _ _ h2, h3⟩
  · intro n cs' hn hc
    obtain ⟨h1, h2⟩ := h.apart n cs' hn hc
    obtain ⟨c, h3, _, _⟩ := h.locs n cs' hn hc
    refine ⟨h1, fun o ho => ?_⟩
    rcases ho with ho | ⟨ho, _⟩
    · exact h2 o ho
    · have := h3.lt; replace ho : Γ.loc n = w.heap.size := ho; omega
  · intro b o ho
    rcases ho with ho | ⟨ho, _⟩
    · exact h'.immlt b o ho
    · subst ho; simp
  · intro k hk' hd
    obtain ⟨h1, h2⟩ := h.tapart k hk' hd
    obtain ⟨c, h3, _⟩ := h.toks k hk' hd
    refine ⟨h1, fun o ho => ?_⟩
    rcases ho with ho | ⟨ho, _⟩
    · exact h2 o ho
    · have := h3.lt; replace ho : Γ.tok k = w.heap.size := ho; omega
  · intro k cs hk' hd hc
    obtain ⟨h0, hl, c, h1, h2, h3⟩ := h.arrs k cs hk' hd hc
    refine ⟨fun o ho => ?_, hl, c, h1.alloc _, LRep.mono l hk _ _ h2, h3⟩
    rcases ho with ho | ⟨ho, _⟩
    · exact h0 o ho
    · have := h1.lt; replace ho : Γ.tok k = w.heap.size := ho; omega
  · refine CRep.mk cs us.toList _ 0 (LRep.mono l hk _ _ hr) fun i u hi => ⟨?_, h1 u (List.mem_of_getElem? hi), .inr ⟨rfl, ?_⟩⟩
    · exact cellAt_blk' (Blk.new w us e) (by simpa using hi)
    · have := (List.getElem?_eq_some_iff.1 hi).1; simpa using this
theorem MemSim.cut {Γ : Ctx} {m m' : St} {w : World} {x₀ : CtxX} (h : MemSim Γ m' w) (hx : XSim (Γ.cut x₀ m.nloc m.ntok) w) (h1 : m.nloc ≤ m'.nloc) (h2 : m.ntok ≤ m'.ntok)
    (hloc : ∀ n cs, n < m.nloc → m.loc n = some cs → m'.loc n = some cs ∧ PV.scL m.nloc m.ntok cs) (htop : ∀ k, k < m.ntok → m'.top k = m.top k ∧ m'.wd k = m.wd k)
    (hlp : ∀ n L, n < m.nloc → m.lp n = some L → m'.lp n = some L ∧ ∀ t, (L.σ t).sc m.nloc m.ntok) (hit : ∀ n x, n < m.nloc → m.it n = some x → m'.it n = some x) (harr : ∀ k cs, k < m.ntok → m.top k < DEAD → m.arr k = some cs → m'.arr k = some cs ∧ PV.scL m.nloc m.ntok cs) : MemSim (Γ.cut x₀ m.nloc m.ntok) m w := by
  refine ⟨rfl, rfl, fun k hk => ?_, ?_, ?_, ?_, h.immlt, h.base, fun k hk hd => h.toks k (by omega) (by rw [(htop k hk).1]; exact hd), fun k hk hd => h.tapart k (by omega) (by rw [(htop k hk).1]; exact hd), fun k k' a b c d => h.tinj k k' (by omega) (by omega) (by rw [(htop k a).1]; exact c) (by rw [(htop k' b).1]; exact d), ?_, (fun k cs hk hd hc => by
    obtain ⟨q1, q2⟩ := harr k cs hk hd hc
    obtain ⟨h0, hl, c, h1, h2, h3⟩ := h.arrs k cs (by omega) (by rw [(htop k hk).1]; exact hd) q1
    exact ⟨h0, by rw [← (htop k hk).1, ← (htop k hk).2]; exact hl, c, h1, LRep.cut _ _ q2 h2, h3⟩), ?_, ⟨fun n x a b => h.its.at_ n x (by omega) (hit n x a b), fun n n' x x' a b c d => h.its.inj n n' x x' (by omega) (by omega) (hit n x a c) (hit n' x' b d)⟩, hx⟩
  · have := h.top k (by omega)
    exact ⟨this.1.trans (htop k hk).1, this.2.trans (htop k hk).2⟩
  · intro n cs hn hc
    obtain ⟨h3, h4⟩ := hloc n cs hn hc
    obtain ⟨c, h5, h6, h7⟩ := h.locs n cs (by omega) h3
    exact ⟨c, h5, LRep.cut _ _ h4 h6, h7⟩
  · intro n cs hn hc
    exact h.apart n cs (by omega) (hloc n cs hn hc).1
  · intro n n' cs cs' hn hn' hc hc' hq
    exact h.inj n n' cs cs' (by omega) (by omega) (hloc n cs hn hc).1 (hloc n' cs' hn' hc').1 hq
  · intro k n cs hk hd hn hc
    exact h.tloc k n cs (by omega) (by rw [(htop k hk).1]; exact hd) (by omega) (hloc n cs hn hc).1
  · refine ⟨fun n L hn hL => ?_, fun n n' L L' a b c d hq => h.lps.inj n n' L L' (by omega) (by omega) (hlp n L a c).1 (hlp n' L' b d).1 hq⟩
    obtain ⟨h3, h4⟩ := hlp n L hn hL
    obtain ⟨h5, tmps, D, h6, h7, h8⟩ := h.lps.at_ n L (by omega) h3
    exact ⟨h5, tmps, D, h6, h7, fun t => VRep.cut _ _ (h4 t) (h8 t)⟩
def St.setLoc (m : St) (n : Nat) (cs : List PV) : St := { m with loc := upd m.loc n (some cs) }
theorem MemSim.setLoc {Γ : Ctx} {m : St} {w : World} (h : MemSim Γ m w) {n : Nat} {cs xs : List PV} {us : List Value} {off : Nat} (hn : n < m.nloc) (hc : m.loc n = some cs)
    (hr : LRep Γ w xs us) (h1 : ∀ u ∈ us, u.oneCell' = true) (hfit : off + xs.length ≤ cs.length) : MemSim Γ (m.setLoc n (setL cs off xs)) (setCells w (Γ.loc n) off us) ∧ Keeps Γ w (setCells w (Γ.loc n) off us) := by
  obtain ⟨hb, hi⟩ := h.apart n cs hn hc
  have hk : Keeps Γ w (setCells w (Γ.loc n) off us) := ⟨setCells_below hb us w off, fun b o ho => cellAt_of_heap (setCells_heap us w off b (fun e => hi o (by rw [← e]; exact ho))) o⟩
  have hset : ∀ (cs : List PV) (c : List Value) (i : Nat) (x : PV) (u : Value), LRep Γ w cs c → VRep Γ w x u → LRep Γ w (cs.set i x) (c.set i u) := by
    intro cs
    induction cs with
    | nil => intro c i x u h1 _; rw [h1]; rfl
    | cons y cs ih =>
      intro c i x u h1 h2
      obtain ⟨v, c', rfl, h3, h4⟩ := h1
      cases i with
      | zero => exact ⟨u, c', rfl, h2, h4⟩
      | succ i => exact ⟨v, c'.set i u, rfl, h3, ih c' i x u h4 h2⟩
  have hsetL : ∀ (xs : List PV) (us : List Value) (cs : List PV) (c : List Value) (i : Nat), LRep Γ w cs c → LRep Γ w xs us → LRep Γ w (setL cs i xs) (setL c i us) := by
    intro xs
    induction xs with
    | nil => intro us cs c i h1 h2; rw [h2]; exact h1
    | cons x xs ih =>
      intro us cs c i h1 h2
      obtain ⟨u, us', rfl, h3, h4⟩ := h2
      exact ih us' _ _ (i + 1) (hset _ _ _ _ _ h1 h3) h4
  have key : ∀ n' cs', n' < m.nloc → upd m.loc n (some (setL cs off xs)) n' = some cs' → (n' = n ∧ cs' = setL cs off xs) ∨ (n' ≠ n ∧ m.loc n' = some cs') := by
    intro n' cs' hn' hc'
    by_cases e : n' = n
    · subst e; rw [upd_same] at hc'; exact .inl ⟨rfl, by injection hc' with hc'; exact hc'.symm⟩
    · rw [upd_ne _ _ _ _ e] at hc'; exact .inr ⟨e, hc'⟩
  refine ⟨⟨h.nloc, h.ntok, h.top, ?_, ?_, ?_, ?_, ?_, ?_, h.tapart, h.tinj, ?_, (fun k ds hk' hd hq => by
    obtain ⟨h0, hl, c, h1, h2, h3⟩ := h.arrs k ds hk' hd hq
    exact ⟨h0, hl, c, h1.of_heap (setCells_heap us w off _ (h.tloc k n cs hk' hd hn hc)), LRep.mono (Ctx.le.refl Γ) hk _ _ h2, h3⟩), ?_, (by obtain ⟨c, h3, _⟩ := h.locs _ cs hn hc; exact h.its.mono (Ctx.le.refl Γ) h.nloc (fun n x a b => ⟨a, b⟩) (heap_keep_cells h3 us off)), (by obtain ⟨c, h3, _⟩ := h.locs _ cs hn hc; exact h.xs.mono rfl rfl (heap_keep_cells h3 us off))⟩, hk⟩
  · intro n' cs' hn' hc'
    rcases key n' cs' hn' hc' with ⟨rfl, rfl⟩ | ⟨e, hc'⟩
    · obtain ⟨c, h3, h2, h4⟩ := h.locs _ cs hn hc
      refine ⟨setL c off us, setCells_blk us w off c (by rw [LRep.len _ _ hr, LRep.len _ _ h2]; exact hfit) h3, LRep.mono (Ctx.le.refl Γ) hk _ _ (hsetL xs us cs c off h2 hr), ?_⟩
      exact setL_all us c off h1 h4
    · obtain ⟨c, h3, h2, h4⟩ := h.locs n' cs' hn' hc'
      refine ⟨c, h3.of_heap (setCells_heap us w off _ (fun q => e (h.inj n' n cs' cs hn' hn hc' hc q))), LRep.mono (Ctx.le.refl Γ) hk _ _ h2, h4⟩
  · intro n' cs' hn' hc'
    rcases key n' cs' hn' hc' with ⟨rfl, rfl⟩ | ⟨e, hc'⟩
    · exact h.apart _ cs hn hc
    · exact h.apart n' cs' hn' hc'
  · intro n1 n2 c1 c2 h1 h2 h3 h4 hq
    rcases key n1 c1 h1 h3 with ⟨e1, _⟩ | ⟨_, g3⟩ <;> rcases key n2 c2 h2 h4 with ⟨e2, _⟩ | ⟨_, g4⟩
    · rw [e1, e2]
    · subst e1; exact h.inj _ _ _ _ h1 h2 hc g4 hq
    · subst e2; exact h.inj _ _ _ _ h1 h2 g3 hc hq
    · exact h.inj _ _ _ _ h1 h2 g3 g4 hq
  · intro b o ho; rw [setCells_size]; exact h.immlt b o ho
  · rw [setCells_size]; exact h.base
  · intro k hk' hd
    obtain ⟨c, h1, h2⟩ := h.toks k hk' hd
    exact ⟨c, h1.of_heap (setCells_heap us w off _ (h.tloc k n cs hk' hd hn hc)), h2⟩
  · intro k n' cs' hk' hd hn' hc'
    rcases key n' cs' hn' hc' with ⟨rfl, rfl⟩ | ⟨e, hc'⟩
    · exact h.tloc k _ cs hk' hd hn hc
    · exact h.tloc k n' cs' hk' hd hn' hc'
  · obtain ⟨c, h3, _⟩ := h.locs _ cs hn hc
    refine h.lps.mono (Ctx.le.refl Γ) hk h.nloc (fun n L a b => ⟨a, b⟩) (fun n' L a b => setCells_heap us w off _ fun e => h.lps.not_blk a b (e ▸ h3))
def St.dropLoc (m : St) (n : Nat) : St := { m with loc := upd m.loc n none }
theorem MemSim.freeze {Γ : Ctx} {m : St} {w : World} (h : MemSim Γ m w) {n : Nat} {cs : List PV} (hn : n < m.nloc) (hc : m.loc n = some cs) :
    MemSim (Γ.newImm (Γ.loc n) cs.length) (m.dropLoc n) w ∧ CRep (Γ.newImm (Γ.loc n) cs.length) w cs (Γ.loc n) 0 := by
  obtain ⟨hb, hi⟩ := h.apart n cs hn hc
  obtain ⟨c, h1, h2, h7⟩ := h.locs n cs hn hc
  have l := Ctx.le_newImm Γ (Γ.loc n) cs.length hb
  have key : ∀ n' cs', upd m.loc n none n' = some cs' → n' ≠ n ∧ m.loc n' = some cs' := by
    intro n' cs' hc'
    by_cases e : n' = n
    · subst e; rw [upd_same] at hc'; cases hc'
    · rw [upd_ne _ _ _ _ e] at hc'; exact ⟨e, hc'⟩
  refine ⟨⟨h.nloc, h.ntok, h.top, ?_, ?_, ?_, ?_, h.base, h.toks, ?_, h.tinj, ?_, (fun k ds hk' hd hq => by
    obtain ⟨h0, hl, c, h1, h2, h3⟩ := h.arrs k ds hk' hd hq
    refine ⟨fun o ho => ?_, hl, c, h1, LRep.mono l (Keeps.refl _ _) _ _ h2, h3⟩
    rcases ho with ho | ⟨ho, _⟩
    · exact h0 o ho
    · exact h.tloc k n cs hk' hd hn hc ho), h.lps.mono l (Keeps.refl _ _) h.nloc (fun n L a b => ⟨a, b⟩) (fun n L a b => rfl), h.its.mono l h.nloc (fun n x a b => ⟨a, b⟩) (fun _ _ q _ => q), h.xs.mono rfl rfl (fun _ _ q _ => q)⟩, ?_⟩
  · intro n' cs' hn' hc'
    obtain ⟨c, h1, h2, h3⟩ := h.locs n' cs' hn' (key n' cs' hc').2
    exact ⟨c, h1, LRep.mono l (Keeps.refl _ _) _ _ h2, h3⟩
  · intro n' cs' hn' hc'
    obtain ⟨e, hc'⟩ := key n' cs' hc'
    obtain ⟨h3, h4⟩ := h.apart n' cs' hn' hc'
    refine ⟨h3, fun o ho => ?_⟩
    rcases ho with ho | ⟨ho, _⟩
    · exact h4 o ho
    · exact e (h.inj n' n cs' cs hn' hn hc' hc ho)
  · intro n1 n2 c1 c2 a1 a2 a3 a4 hq
    exact h.inj n1 n2 c1 c2 a1 a2 (key _ _ a3).2 (key _ _ a4).2 hq
  · intro b o ho
    rcases ho with ho | ⟨ho, _⟩
    · exact h.immlt b o ho
    · subst ho; exact h1.lt
  · intro k hk' hd
    obtain ⟨h3, h4⟩ := h.tapart k hk' hd
    refine ⟨h3, fun o ho => ?_⟩
    rcases ho with ho | ⟨ho, _⟩
    · exact h4 o ho
    · exact absurd ho (h.tloc k n cs hk' hd hn hc)
  · intro k n' cs' hk' hd hn' hc'
    exact h.tloc k n' cs' hk' hd hn' (key _ _ hc').2
  · refine CRep.mk cs c _ 0 (LRep.mono l (Keeps.refl _ _) _ _ h2) fun i u hi' => ⟨?_, h7 u (List.mem_of_getElem? hi'), .inr ⟨rfl, ?_⟩⟩
    · exact cellAt_blk' h1 (by simpa using hi')
    · have := (List.getElem?_eq_some_iff.1 hi').1; rw [LRep.len _ _ h2] at this; simpa using this
theorem MemSim.drew {Γ : Ctx} {m : St} {w : World} (h : MemSim Γ m w) : MemSim Γ m w.drew ∧ Keeps Γ w w.drew := by
  have hk : Keeps Γ w w.drew := ⟨(Below.refl _ _).drew, fun b o _ => rfl⟩
  refine ⟨⟨h.nloc, h.ntok, h.top, fun n cs hn hc => ?_, h.apart, h.inj, h.immlt, h.base, h.toks, h.tapart, h.tinj, h.tloc, (fun k ds hk' hd hq => by obtain ⟨h0, hl, c, h1, h2, h3⟩ := h.arrs k ds hk' hd hq; exact ⟨h0, hl, c, h1, LRep.mono (Ctx.le.refl Γ) hk _ _ h2, h3⟩), h.lps.mono (Ctx.le.refl Γ) hk h.nloc (fun n L a b => ⟨a, b⟩) (fun n L a b => rfl), h.its.mono (Ctx.le.refl Γ) h.nloc (fun n x a b => ⟨a, b⟩) (fun _ _ q _ => q), h.xs.mono rfl rfl (fun _ _ q _ => q)⟩, hk⟩
  obtain ⟨c, h1, h2, h3⟩ := h.locs n cs hn hc
  exact ⟨c, h1, LRep.mono (Ctx.le.refl Γ) hk _ _ h2, h3⟩
end Go.Ab
namespace Go.Ab
open Go.RowKit
def Ctx.newTok (Γ : Ctx) (b n cap width : Nat) : Ctx :=
  { Γ with imm := fun b' o => Γ.imm b' o ∨ (b' = b ∧ o < n * width), ntok := Γ.ntok + 1, tok := upd Γ.tok Γ.ntok b, top := upd Γ.top Γ.ntok n, cp := upd Γ.cp Γ.ntok cap, wd := upd Γ.wd Γ.ntok width }
def St.newTok (m : St) (n width : Nat) : St := { m with ntok := m.ntok + 1, top := upd m.top m.ntok n, wd := upd m.wd m.ntok width, arr := upd m.arr m.ntok none }
theorem Ctx.le_newTok (Γ : Ctx) (b n cap width : Nat) (hb : Γ.base ≤ b) : Γ.le (Γ.newTok b n cap width) := by
  refine ⟨rfl, Nat.le_refl _, fun _ _ => rfl, fun _ _ h => .inl h, Nat.le_succ _, fun k hk => .inl ⟨upd_ne _ _ _ _ (by omega), upd_ne _ _ _ _ (by omega), upd_ne _ _ _ _ (by omega)⟩, fun k hk => upd_ne _ _ _ _ (by omega), CtxX.le.refl _, fun _ _ h => h.elim .inl (fun q => .inr (q.1 ▸ hb))⟩
theorem MemSim.newTok {Γ : Ctx} {m : St} {w : World} (h : MemSim Γ m w) {cs : List PV} {us : Array Value} {n cap width : Nat} (hr : LRep Γ w cs (us.toList.take (n * width)))
    (h1 : ∀ u ∈ us.toList.take (n * width), u.oneCell' = true) (hs : us.size = cap * width) (hn : n ≤ cap) (e : TypeId) :
    MemSim (Γ.newTok w.heap.size n cap width) (m.newTok n width) (w.alloc (.cells us e)) ∧ Keeps Γ w (w.alloc (.cells us e)) ∧
      CRep (Γ.newTok w.heap.size n cap width) (w.alloc (.cells us e)) cs w.heap.size 0 := by
  obtain ⟨h', hk⟩ := h.alloc_any (.cells us e)
  have l := Ctx.le_newTok Γ w.heap.size n cap width h.base
  have hnt : Γ.ntok = m.ntok := h.ntok
  have hlt : ∀ k, k < m.ntok → m.top k < DEAD → Γ.tok k < w.heap.size := fun k hk' hd => by obtain ⟨c, h3, _⟩ := h.toks k hk' hd; exact h3.lt
  have hdd : ∀ k, k ≠ m.ntok → (m.newTok n width).top k < DEAD → m.top k < DEAD := fun k hk' hd => by
    have e : (m.newTok n width).top k = m.top k := upd_ne _ _ _ _ hk'
    rwa [e] at hd
  have hfresh : ∀ o, ¬ Γ.imm w.heap.size o := fun o hi => Nat.lt_irrefl _ (h.immlt _ _ hi)
  have hle : n * width ≤ us.size := by rw [hs]; exact Nat.mul_le_mul_right _ hn
  refine ⟨⟨h'.nloc, by show Γ.ntok + 1 = m.ntok + 1; omega, ?_, ?_, ?_, h'.inj, ?_, h'.base, ?_, ?_, ?_, ?_, ?_, h'.lps.mono l (Keeps.refl _ _) h'.nloc (fun n L a b => ⟨a, b⟩) (fun n L a b => rfl), h'.its.mono l h'.nloc (fun n x a b => ⟨a, b⟩) (fun _ _ q _ => q), h'.xs.mono rfl rfl (fun _ _ q _ => q)⟩, hk, ?_⟩
  · intro k hk'
    show upd Γ.top Γ.ntok n k = upd m.top m.ntok n k ∧ upd Γ.wd Γ.ntok width k = upd m.wd m.ntok width k
    rw [hnt]
    by_cases e : k = m.ntok
    · subst e; simp [upd_same]
    · have := h.top k (by have : k < m.ntok + 1 := hk'; omega)
      simp [upd_ne _ _ _ _ e, this]
  · intro n' cs' hn' hc
    obtain ⟨c, h1, h2, h3⟩ := h'.locs n' cs' hn' hc
    exact ⟨c, h1, LRep.mono l (Keeps.refl _ _) _ _ h2, h3⟩
  · intro n' cs' hn' hc
    obtain ⟨h1, h2⟩ := h.apart n' cs' hn' hc
    obtain ⟨c, h3, _⟩ := h.locs n' cs' hn' hc
    refine ⟨h1, fun o ho => ?_⟩
    rcases ho with ho | ⟨ho, _⟩
    · exact h2 o ho
    · have := h3.lt; replace ho : Γ.loc n' = w.heap.size := ho; omega
  · intro b o ho
    rcases ho with ho | ⟨ho, _⟩
    · exact h'.immlt b o ho
    · subst ho; simp
  · intro k hk' hd
    show ∃ c, Blk _ (upd Γ.tok Γ.ntok w.heap.size k) c ∧ c.length = upd Γ.cp Γ.ntok cap k * upd Γ.wd Γ.ntok width k
    rw [hnt]
    by_cases e' : k = m.ntok
    · subst e'; simp only [upd_same]; exact ⟨us.toList, Blk.new w us e, by simpa using hs⟩
    · simp only [upd_ne _ _ _ _ e']; exact h'.toks k (by have : k < m.ntok + 1 := hk'; omega) (hdd k e' hd)
  · intro k hk' hd
    show Γ.base ≤ upd Γ.tok Γ.ntok w.heap.size k ∧ ∀ o, (Γ.imm (upd Γ.tok Γ.ntok w.heap.size k) o ∨ (upd Γ.tok Γ.ntok w.heap.size k = w.heap.size ∧ o < n * width)) → o < upd Γ.top Γ.ntok n k * upd Γ.wd Γ.ntok width k
    rw [hnt]
    by_cases e' : k = m.ntok
    · subst e'; simp only [upd_same]
      exact ⟨h.base, fun o ho => ho.elim (fun q => absurd q (hfresh o)) (fun q => q.2)⟩
    · simp only [upd_ne _ _ _ _ e']
      have hk2 : k < m.ntok := by have : k < m.ntok + 1 := hk'; omega
      obtain ⟨h1, h2⟩ := h.tapart k hk2 (hdd k e' hd)
      exact ⟨h1, fun o ho => ho.elim (h2 o) (fun q => by have := hlt k hk2 (hdd k e' hd); omega)⟩
  · intro k k' h1 h2 hd hd' hq
    replace hq : upd Γ.tok Γ.ntok w.heap.size k = upd Γ.tok Γ.ntok w.heap.size k' := hq
    rw [hnt] at hq
    have h1' : k < m.ntok + 1 := h1
    have h2' : k' < m.ntok + 1 := h2
    by_cases e1 : k = m.ntok <;> by_cases e2 : k' = m.ntok
    · omega
    · subst e1; rw [upd_same, upd_ne _ _ _ _ e2] at hq; have := hlt k' (by omega) (hdd k' e2 hd'); omega
    · subst e2; rw [upd_same, upd_ne _ _ _ _ e1] at hq; have := hlt k (by omega) (hdd k e1 hd); omega
    · rw [upd_ne _ _ _ _ e1, upd_ne _ _ _ _ e2] at hq; exact h.tinj k k' (by omega) (by omega) (hdd k e1 hd) (hdd k' e2 hd') hq
  · intro k n' cs' hk' hd hn' hc
    show upd Γ.tok Γ.ntok w.heap.size k ≠ Γ.loc n'
    rw [hnt]
    have h1' : k < m.ntok + 1 := hk'
    by_cases e1 : k = m.ntok
    · subst e1; rw [upd_same]; obtain ⟨c, h3, _⟩ := h.locs n' cs' hn' hc; have := h3.lt; omega
    · rw [upd_ne _ _ _ _ e1]; exact h.tloc k n' cs' (by omega) (hdd k e1 hd) hn' hc
  · intro k ds hk' hd hq
    replace hq : upd m.arr m.ntok none k = some ds := hq
    by_cases e1 : k = m.ntok
    · subst e1; rw [upd_same] at hq; cases hq
    rw [upd_ne _ _ _ _ e1] at hq
    have hk2 : k < m.ntok := by have : k < m.ntok + 1 := hk'; omega
    obtain ⟨h0, hl, c, h1', h2', h3'⟩ := h.arrs k ds hk2 (hdd k e1 hd) hq
    have ht : (Γ.newTok w.heap.size n cap width).tok k = Γ.tok k := by show upd Γ.tok Γ.ntok _ k = _; rw [hnt]; exact upd_ne _ _ _ _ e1
    rw [ht]
    refine ⟨fun o ho => ?_, ?_, c, h1'.alloc _, LRep.mono l hk _ _ h2', h3'⟩
    · rcases ho with ho | ⟨ho, _⟩
      · exact h0 o ho
      · have := h1'.lt; omega
    · show ds.length = upd m.top m.ntok n k * upd m.wd m.ntok width k
      rw [upd_ne _ _ _ _ e1, upd_ne _ _ _ _ e1]; exact hl
  · refine CRep.mk cs _ _ 0 (LRep.mono l hk _ _ hr) fun i u hi => ?_
    have h1u := h1 u (List.mem_of_getElem? hi)
    rw [List.getElem?_take] at hi
    split at hi
    · rename_i hlt'
      refine ⟨?_, h1u, .inr ⟨rfl, by omega⟩⟩
      exact cellAt_blk' (Blk.new w us e) (by simpa using hi)
    · cases hi
def Ctx.growTok (Γ : Ctx) (k q : Nat) : Ctx :=
  { Γ with imm := fun b' o => Γ.imm b' o ∨ (b' = Γ.tok k ∧ o < (Γ.top k + q) * Γ.wd k), top := upd Γ.top k (Γ.top k + q) }
def St.growTok (m : St) (k q : Nat) : St := { m with top := upd m.top k (m.top k + q) }
theorem MemSim.growTok {Γ : Ctx} {m : St} {w : World} (h : MemSim Γ m w) {k q : Nat} {cs xs : List PV} {us : List Value} (hk : k < m.ntok) (hlv : m.top k < DEAD) (har : m.arr k = none) (hcs : CRep Γ w cs (Γ.tok k) 0) (hl : cs.length = Γ.top k * Γ.wd k)
    (hr : LRep Γ w xs us) (h1us : ∀ u ∈ us, u.oneCell' = true) (hq : us.length = q * Γ.wd k) (hcap : Γ.top k + q ≤ Γ.cp k) (hpos : 0 < q) :
    Γ.le (Γ.growTok k q) ∧ MemSim (Γ.growTok k q) (m.growTok k q) (setCells w (Γ.tok k) (Γ.top k * Γ.wd k) us) ∧ Keeps Γ w (setCells w (Γ.tok k) (Γ.top k * Γ.wd k) us) ∧
      CRep (Γ.growTok k q) (setCells w (Γ.tok k) (Γ.top k * Γ.wd k) us) (cs ++ xs) (Γ.tok k) 0 := by
  obtain ⟨hb, hi⟩ := h.tapart k hk hlv
  obtain ⟨c, hblk, hc⟩ := h.toks k hk hlv
  have hdd : ∀ k', k' ≠ k → (m.growTok k q).top k' < DEAD → m.top k' < DEAD := fun k' hk' hd => by
    have e : (m.growTok k q).top k' = m.top k' := upd_ne _ _ _ _ hk'
    rwa [e] at hd
  have hfit : Γ.top k * Γ.wd k + us.length ≤ c.length := by
    rw [hq, hc, ← Nat.add_mul]; exact Nat.mul_le_mul_right _ hcap
  have hblk' := setCells_blk us w (Γ.top k * Γ.wd k) c hfit hblk
  rw [setL_eq us c _ hfit] at hblk'
  have hkp : Keeps Γ w (setCells w (Γ.tok k) (Γ.top k * Γ.wd k) us) := by
    refine ⟨setCells_below hb us w _, fun b o ho => ?_⟩
    by_cases e : b = Γ.tok k
    · subst e
      have := hi o ho
      have hoc : o < c.length := by omega
      rw [cellAt_blk hblk' (by simp; omega), cellAt_blk hblk hoc, List.append_assoc, List.getElem?_append_left (by simp; omega)]
      simp [List.getElem?_take, this]
    · exact cellAt_of_heap (setCells_heap us w _ b e) o
  have l : Γ.le (Γ.growTok k q) := by
    refine ⟨rfl, Nat.le_refl _, fun _ _ => rfl, fun _ _ h => .inl h, Nat.le_refl _, fun k' hk' => ?_, fun _ _ => rfl, CtxX.le.refl _, fun _ _ h => h.elim .inl (fun q => .inr (q.1 ▸ hb))⟩
    by_cases e : k' = k
    · subst e; right; show Γ.top k' < upd Γ.top k' _ k'; rw [upd_same]; omega
    · left; exact ⟨upd_ne _ _ _ _ e, rfl, rfl⟩
  refine ⟨l, ⟨h.nloc, h.ntok, ?_, ?_, ?_, h.inj, ?_, ?_, ?_, ?_, ?_, ?_, ?_, h.lps.mono l hkp h.nloc (fun n L a b => ⟨a, b⟩) (fun n' L a b => setCells_heap us w _ _ fun e => h.lps.not_blk a b (e ▸ hblk)), h.its.mono l h.nloc (fun n x a b => ⟨a, b⟩) (heap_keep_cells hblk us _), h.xs.mono rfl rfl (heap_keep_cells hblk us _)⟩, hkp, ?_⟩
  · intro k' hk'
    show upd Γ.top k (Γ.top k + q) k' = upd m.top k (m.top k + q) k' ∧ Γ.wd k' = m.wd k'
    have := h.top k' hk'
    by_cases e : k' = k
    · subst e; simp [upd_same, this]
    · simp [upd_ne _ _ _ _ e, this]
  · intro n cs' hn hc'
    obtain ⟨c', h1, h2, h3⟩ := h.locs n cs' hn hc'
    exact ⟨c', h1.of_heap (setCells_heap us w _ _ (fun e => h.tloc k n cs' hk hlv hn hc' e.symm)), LRep.mono l hkp _ _ h2, h3⟩
  · intro n cs' hn hc'
    obtain ⟨h1, h2⟩ := h.apart n cs' hn hc'
    refine ⟨h1, fun o ho => ?_⟩
    rcases ho with ho | ⟨ho, _⟩
    · exact h2 o ho
    · exact h.tloc k n cs' hk hlv hn hc' ho.symm
  · intro b o ho
    rw [setCells_size]
    rcases ho with ho | ⟨ho, _⟩
    · exact h.immlt b o ho
    · subst ho; exact hblk.lt
  · rw [setCells_size]; exact h.base
  · intro k' hk' hd
    show ∃ c, Blk _ (Γ.tok k') c ∧ c.length = Γ.cp k' * Γ.wd k'
    by_cases e : k' = k
    · subst e; exact ⟨_, hblk', by rw [← hc, List.length_append, List.length_append, List.length_take, List.length_drop, Nat.min_eq_left (by omega)]; omega⟩
    · obtain ⟨c', h1, h2⟩ := h.toks k' hk' (hdd k' e hd)
      exact ⟨c', h1.of_heap (setCells_heap us w _ _ (fun q => e (h.tinj k' k hk' hk (hdd k' e hd) hlv q))), h2⟩
  · intro k' hk' hd
    have hd' : m.top k' < DEAD := if e : k' = k then e ▸ hlv else hdd k' e hd
    obtain ⟨h1, h2⟩ := h.tapart k' hk' hd'
    refine ⟨h1, fun o ho => ?_⟩
    show o < upd Γ.top k (Γ.top k + q) k' * Γ.wd k'
    by_cases e : k' = k
    · subst e; rw [upd_same]
      rcases ho with ho | ⟨_, ho⟩
      · exact Nat.lt_of_lt_of_le (h2 o ho) (Nat.mul_le_mul_right _ (by omega))
      · exact ho
    · rw [upd_ne _ _ _ _ e]
      rcases ho with ho | ⟨ho, _⟩
      · exact h2 o ho
      · exact absurd (h.tinj k' k hk' hk hd' hlv ho) e
  · intro k1 k2 a b c1 c2 hq
    exact h.tinj k1 k2 a b (if e : k1 = k then e ▸ hlv else hdd k1 e c1) (if e : k2 = k then e ▸ hlv else hdd k2 e c2) hq
  · intro k1 n' cs' a c1 hn' hc'
    exact h.tloc k1 n' cs' a (if e : k1 = k then e ▸ hlv else hdd k1 e c1) hn' hc'
  · intro k1 ds a c1 hq'
    replace hq' : m.arr k1 = some ds := hq'
    have e : k1 ≠ k := fun e => by rw [e, har] at hq'; cases hq'
    obtain ⟨h0, hl', c', h1', h2', h3'⟩ := h.arrs k1 ds a (hdd k1 e c1) hq'
    have hne : Γ.tok k1 ≠ Γ.tok k := fun q => e (h.tinj k1 k a hk (hdd k1 e c1) hlv q)
    refine ⟨fun o ho => ?_, ?_, c', h1'.of_heap (setCells_heap us w _ _ hne), LRep.mono l hkp _ _ h2', h3'⟩
    · rcases ho with ho | ⟨ho, _⟩
      · exact h0 o ho
      · exact hne ho
    · show ds.length = upd m.top k (m.top k + q) k1 * m.wd k1
      rw [upd_ne _ _ _ _ e]; exact hl'
  · refine CRep.append _ _ _ _ (CRep.mono l hkp _ _ _ hcs) ?_
    refine CRep.mk xs us _ _ (LRep.mono l hkp _ _ hr) fun i u hi' => ?_
    have hlt := (List.getElem?_eq_some_iff.1 hi').1
    rw [hl]
    refine ⟨?_, h1us u (List.mem_of_getElem? hi'), .inr ⟨rfl, ?_⟩⟩
    · rw [cellAt_blk hblk' (by simp; omega), List.append_assoc, List.getElem?_append_right (by simp; omega)]
      rw [List.length_take, Nat.min_eq_left (by omega), show 0 + Γ.top k * Γ.wd k + i - Γ.top k * Γ.wd k = i from by omega, List.getElem?_append_left hlt]
      exact hi'
    · rw [Nat.add_mul, ← hq]; omega
theorem putObj_block {w : World} {D : Nat} {o o' : Obj} (hD : w.heap[D]? = some o) (hc : o.isCells = false) (hc' : o'.isCells = false) (b i : Nat) : cellAt (w.putObj D o') b i = cellAt w b i := by
  by_cases h : b = D
  · subst h
    have hl : b < w.heap.size := (Array.getElem?_eq_some_iff.1 hD).1
    have h1 := World.putObj_heap_same (w := w) (o := o') hl
    unfold cellAt World.cell?
    simp only [h1, hD]
    cases o <;> cases o' <;> simp_all [Obj.isCells]
  · exact cellAt_of_heap (World.putObj_heap_other h) i
theorem Blk.putObj {w : World} {D : Nat} {o o' : Obj} (hD : w.heap[D]? = some o) (hc : o.isCells = false) {b : Nat} {c : List Value} (h : Blk w b c) : Blk (w.putObj D o') b c := by
  refine h.of_heap (World.putObj_heap_other fun e => ?_)
  subst e
  obtain ⟨e, a, h, _⟩ := h
  rw [hD] at h; cases h; simp [Obj.isCells] at hc
theorem below_putObj (B : Nat) (w : World) {D : Nat} (o' : Obj) (hB : B ≤ D) : Below B w (w.putObj D o') :=
  ⟨rfl, rfl, rfl, by simp, fun k hk => World.putObj_heap_other (by omega)⟩
theorem MemSim.putObj {Γ : Ctx} {m : St} {w : World} (h : MemSim Γ m w) {D : Nat} {o o' : Obj} (hD : w.heap[D]? = some o) (hc : o.isCells = false) (hc' : o'.isCells = false) (hB : Γ.base ≤ D)
    (hl : ∀ n L, n < m.nloc → m.lp n = some L → Γ.loc n ≠ D) (hx : XSim Γ (w.putObj D o')) (hi : ∀ n x, n < m.nloc → m.it n = some x → Γ.loc n ≠ D) : MemSim Γ m (w.putObj D o') ∧ Keeps Γ w (w.putObj D o') := by
  have hk : Keeps Γ w (w.putObj D o') := ⟨below_putObj _ _ _ hB, fun b i _ => putObj_block hD hc hc' b i⟩
  refine ⟨⟨h.nloc, h.ntok, h.top, fun n cs hn hq => ?_, h.apart, h.inj, fun b i hi => by simp; exact h.immlt b i hi, by simp; exact h.base, fun k hk hd => ?_, h.tapart, h.tinj, h.tloc, (fun k ds hk' hd hq => by
      obtain ⟨h0, hl', c, h1, h2, h3⟩ := h.arrs k ds hk' hd hq
      exact ⟨h0, hl', c, h1.putObj hD hc, LRep.mono (Ctx.le.refl Γ) hk _ _ h2, h3⟩),
    h.lps.mono (Ctx.le.refl Γ) hk h.nloc (fun n L a b => ⟨a, b⟩) (fun n L a b => World.putObj_heap_other (hl n L a b)), ⟨fun n x a b => ⟨(h.its.at_ n x a b).1, (World.putObj_heap_other (hi n x a b)).trans (h.its.at_ n x a b).2⟩, h.its.inj⟩, hx⟩, hk⟩
  · obtain ⟨c, h1, h2, h3⟩ := h.locs n cs hn hq
    exact ⟨c, h1.putObj hD hc, LRep.mono (Ctx.le.refl Γ) hk _ _ h2, h3⟩
  · obtain ⟨c, h1, h2⟩ := h.toks k hk hd
    exact ⟨c, h1.putObj hD hc, h2⟩
end Go.Ab
namespace Go.Ab
open Go.RowKit
inductive ARes where
  | ret (p : PV)
  | pan (p : PV)
def ERep (Γ : Ctx) (w : World) : ARes → Ending → Prop
  | .ret p, .returned v => VRep Γ w p v
  | .pan p, .panicked ch => ∃ v, ch = [{ v := v, recovered := false }] ∧ VRep Γ w p v
  | _, _ => False
def HasBody (P : Program) (f : FuncId) : Prop := ∃ fn c, P.funcs[f]? = some fn ∧ fn.body = some c ∧ (fn.name == "runtime.NumGoroutine") = false
def ACall (P : Program) (f : FuncId) (args : List PV) (m : St) (R : ARes → St → Prop) : Prop :=
  HasBody P f ∧ ∀ Γ w us, MemSim Γ m w → LRep Γ w args us → Calls P f us.toArray w fun e w' =>
    ∃ r m' Γ', R r m' ∧ ERep Γ' w' r e ∧ Γ.le Γ' ∧ Keeps Γ w w' ∧ MemSim Γ' m' w'
theorem ACall.mono {P : Program} {f : FuncId} {args : List PV} {m : St} {R R' : ARes → St → Prop} (h : ACall P f args m R) (k : ∀ r m', R r m' → R' r m') : ACall P f args m R' :=
  ⟨h.1, fun Γ w us a b => (h.2 Γ w us a b).mono fun e w' ⟨r, m', Γ', x, rest⟩ => ⟨r, m', Γ', k _ _ x, rest⟩⟩
def YCall (P : Program) (n : Nat) (args : List PV) (m : St) (R : ARes → St → Prop) : Prop :=
  ∀ Γ w us, MemSim Γ m w → LRep Γ w args us → ∃ r : Loop, w.heap[Γ.loc n]? = some (.loop r) ∧ us.length = r.params.size ∧
    RoundIn Fence.wide 0 P (Γ.loc n) r.fn ((r.params.zip us.toArray).foldl (fun tmps (t, a) => tmps.setIfInBounds t a) r.tmps) r.assign r.body w fun e w' =>
      ∃ r m' Γ', R r m' ∧ ERep Γ' w' r e ∧ Γ.le Γ' ∧ Keeps Γ w w' ∧ MemSim Γ' m' w'
theorem YCall.mono {P : Program} {n : Nat} {args : List PV} {m : St} {R R' : ARes → St → Prop} (h : YCall P n args m R) (k : ∀ r m', R r m' → R' r m') : YCall P n args m R' := fun Γ w us a b => by
  obtain ⟨r, h1, h2, h3⟩ := h Γ w us a b
  exact ⟨r, h1, h2, h3.mono fun e w' ⟨r, m', Γ', x, rest⟩ => ⟨r, m', Γ', k _ _ x, rest⟩⟩
structure Sim (Γ : Ctx) (N : Nat) (σ : Nat → PV) (m : St) (a : Act) (w : World) : Prop where
  size : a.tmps.size = N
  defers : ∃ ms : List Nat, a.defers = ms.map (fun D => { target := .collected D, args := #[] }) ++ Γ.x.fd ∧ ms.Nodup ∧ ∀ D ∈ ms, Γ.x.mark D ∧ Γ.x.dlo ≤ D
  mem : MemSim Γ m w
  slots : ∀ t, VRep Γ w (σ t) (a.tmps.getD t undef)
theorem Sim.mono {Γ Γ' : Ctx} {N : Nat} {σ : Nat → PV} {m m' : St} {a : Act} {w w' : World} (h : Sim Γ N σ m a w) (l : Γ.le Γ') (k : Keeps Γ w w') (hm : MemSim Γ' m' w') : Sim Γ' N σ m' a w' :=
  ⟨h.size, by obtain ⟨ms, h1, h2, h3⟩ := h.defers; exact ⟨ms, by rw [l.x.fd]; exact h1, h2, fun D hD => ⟨l.x.mark D (h3 D hD).1, by rw [l.x.dlo]; exact (h3 D hD).2⟩⟩, hm, fun t => VRep.mono l k _ _ (h.slots t)⟩
inductive AExit where
  | normal
  | exit (id : Nat)
  | goto (l : Nat)
  | ret
  | pan (p : PV)
def XRep (Γ : Ctx) (w : World) : AExit → Exit → Prop
  | .normal, .normal => True
  | .exit i, .exit j => i = j
  | .goto i, .goto j => i = j
  | .ret, .ret => True
  | .pan p, .panic ch => ∃ v, ch = [{ v := v, recovered := false }] ∧ VRep Γ w p v
  | _, _ => False
abbrev APost := AExit → (Nat → PV) → St → Prop
def Post (Γ : Ctx) (w : World) (N : Nat) (Q : APost) : Exit → Act → World → Prop := fun e a' w' =>
  ∃ x σ' m' Γ', Q x σ' m' ∧ XRep Γ' w' x e ∧ Sim Γ' N σ' m' a' w' ∧ Γ.le Γ' ∧ Keeps Γ w w'
theorem Post.later {Γ Γ' : Ctx} {w w' : World} {N : Nat} {Q : APost} (l : Γ.le Γ') (k : Keeps Γ w w') (e : Exit) (a : Act) (w'' : World) (h : Post Γ' w' N Q e a w'') : Post Γ w N Q e a w'' := by
  obtain ⟨x, σ', m', Γ'', h1, h2, h3, h4, h5⟩ := h
  exact ⟨x, σ', m', Γ'', h1, h2, h3, l.trans h4, k.trans l h5⟩
def FW (r : Option Nat) : Fence := { Fence.wide with round := r }
theorem FW.room (r : Option Nat) (n : Nat) : (FW r).room n := room_wide n
def AW (P : Program) (N : Nat) (c : Code) (Q : APost) (σ : Nat → PV) (m : St) : Prop :=
  ∀ Γ a w, Sim Γ N σ m a w → c.wpIn (FW Γ.x.rnd) 0 P (Post Γ w N Q) a w
section
variable {P : Program} {N : Nat} {Q Q' : APost} {σ : Nat → PV} {m : St}
theorem AW.mono {c : Code} (h : AW P N c Q σ m) (k : ∀ x σ m, Q x σ m → Q' x σ m) : AW P N c Q' σ m :=
  fun Γ a w hs => wpIn_mono (h Γ a w hs) fun _ _ _ ⟨x, σ', m', Γ', h1, r⟩ => ⟨x, σ', m', Γ', k _ _ _ h1, r⟩
theorem Sim.post {Γ : Ctx} {a : Act} {w : World} (hs : Sim Γ N σ m a w) {x : AExit} {e : Exit} (hx : XRep Γ w x e) (h : Q x σ m) : Post Γ w N Q e a w :=
  ⟨x, σ, m, Γ, h, hx, hs, Ctx.le.refl _, Keeps.refl _ _⟩
theorem AW.skip (h : Q .normal σ m) : AW P N .skip Q σ m := fun _ _ _ hs => wpIn_skip (hs.post (x := .normal) trivial h)
theorem AW.label {l : Nat} (h : Q .normal σ m) : AW P N (.label l) Q σ m := fun _ _ _ hs => wpIn_label (hs.post (x := .normal) trivial h)
theorem AW.exit {id : Nat} (h : Q (.exit id) σ m) : AW P N (.exit id) Q σ m := fun _ _ _ hs => wpIn_exit (hs.post (x := .exit id) rfl h)
theorem AW.goto {l : Nat} (h : Q (.goto l) σ m) : AW P N (.goto l) Q σ m := fun _ _ _ hs => wpIn_goto (hs.post (x := .goto l) rfl h)
theorem AW.ret (h : Q .ret σ m) : AW P N .ret Q σ m := fun _ _ _ hs => wpIn_ret (hs.post (x := .ret) trivial h)
def AExit.then (next : (Nat → PV) → St → Prop) (Q : APost) : APost
  | .normal, σ, m => next σ m
  | x, σ, m => Q x σ m
theorem AW.seq {x y : Code} (h : AW P N x (AExit.then (AW P N y Q) Q) σ m) : AW P N (.seq x y) Q σ m := by
  intro Γ a w hs
  refine wpIn_seq (wpIn_mono (h Γ a w hs) ?_)
  rintro e a' w' ⟨x', σ', m', Γ', h1, h2, h3, h4, h5⟩
  cases e <;> cases x' <;> simp only [XRep] at h2
  case normal.normal => have := wpIn_mono (h1 Γ' a' w' h3) (Post.later h4 h5); rwa [h4.x.rnd] at this
  all_goals exact ⟨_, σ', m', Γ', h1, h2, h3, h4, h5⟩
def opv (σ : Nat → PV) : Operand → PV
  | .tmp t => σ t
  | .const v => .v v
  | .global _ => .any
  | .func f => .clo f [] []
theorem Sim.opv {Γ : Ctx} {a : Act} {w : World} (hs : Sim Γ N σ m a w) (x : Operand) : VRep Γ w (opv σ x) (a.eval x) := by
  cases x with
  | tmp t => exact hs.slots t
  | const v => rfl
  | global g => trivial
  | func f => exact ⟨#[], #[], rfl, rfl, rfl⟩
theorem AW.cond {c : Operand} {x y : Code} {t : Bool} (hc : opv σ c = .v (.bool t)) (h1 : t = true → AW P N x Q σ m) (h2 : t = false → AW P N y Q σ m) : AW P N (.cond c x y) Q σ m := by
  intro Γ a w hs
  have := hs.opv c
  rw [hc] at this
  exact wpIn_cond_split this (fun e => h1 e Γ a w hs) (fun e => h2 e Γ a w hs)
def AExit.inBlock (id : Nat) (Q : APost) : APost
  | .exit id', σ, m => if id' = id then Q .normal σ m else Q (.exit id') σ m
  | x, σ, m => Q x σ m
theorem AW.block {id : Nat} {c : Code} (h : AW P N c (AExit.inBlock id Q) σ m) : AW P N (.block id c) Q σ m := by
  intro Γ a w hs
  refine wpIn_block (wpIn_mono (h Γ a w hs) ?_)
  rintro e a' w' ⟨x', σ', m', Γ', h1, h2, h3, h4, h5⟩
  cases e <;> cases x' <;> simp only [XRep] at h2
  case exit.exit i j =>
    subst h2
    simp only [AExit.inBlock, Exit.inBlock] at h1 ⊢
    split at h1
    · rename_i e; rw [if_pos e]; exact ⟨.normal, σ', m', Γ', h1, trivial, h3, h4, h5⟩
    · rename_i e; rw [if_neg e]; exact ⟨.exit _, σ', m', Γ', h1, rfl, h3, h4, h5⟩
  all_goals exact ⟨_, σ', m', Γ', h1, h2, h3, h4, h5⟩
theorem AW.loop {c : Code} {ι : Type} (I : ι → (Nat → PV) → St → Prop) (μ : ι → Nat) (i₀ : ι) (h₀ : I i₀ σ m)
    (round : ∀ i σ m, I i σ m → AW P N c (AExit.then (fun σ' m' => ∃ j, I j σ' m' ∧ μ j < μ i) Q) σ m) : AW P N (.loop c) Q σ m := by
  intro Γ a w hs b k cs hro hb hr
  have key : ∀ (n : Nat) (i : ι) (σ' : Nat → PV) (m' : St) (Γ' : Ctx) (a' : Act) (w' : World), μ i = n → I i σ' m' → Sim Γ' N σ' m' a' w' → Γ.le Γ' → Keeps Γ w w' →
      ∃ e a₁ w₁, Post Γ w N Q e a₁ w₁ ∧ ArrivesIn (Machine.fenced P (FW Γ.x.rnd)) P (lone (b.atR a' (.code c :: .inLoop c :: k)) cs w') b k cs e a₁ w₁ := by
    intro n
    induction n using Nat.strongRecOn with
    | _ n ih =>
      intro i σ' m' Γ' a' w' hn hI hs' l kp
      obtain ⟨e, a₁, w₁, hq, harr⟩ := round i σ' m' hI Γ' a' w' hs' b (.inLoop c :: k) cs (by rw [l.x.rnd]; exact hro) hb hr
      rw [l.x.rnd] at harr
      obtain ⟨x, σ₁, m₁, Γ₁, h1, h2, h3, h4, h5⟩ := hq
      cases e <;> cases x <;> simp only [XRep] at h2
      case normal.normal =>
        obtain ⟨j, hj, hlt⟩ := h1
        obtain ⟨e₂, a₂, w₂, hq₂, harr₂⟩ := ih (μ j) (hn ▸ hlt) j σ₁ m₁ Γ₁ a₁ w₁ rfl hj h3 (l.trans h4) (kp.trans l h5)
        exact ⟨e₂, a₂, w₂, hq₂, .of_steps (StepsIn.trans harr (.one (fenced_calm hb hr rfl) stepR_inLoop)) harr₂⟩
      case exit.exit => exact ⟨_, a₁, w₁, ⟨.exit _, σ₁, m₁, Γ₁, h1, by exact h2, h3, l.trans h4, kp.trans l h5⟩, .pass (x := .inLoop c) rfl (fun _ _ => .inl (by simp)) harr⟩
      case goto.goto => exact ⟨_, a₁, w₁, ⟨.goto _, σ₁, m₁, Γ₁, h1, by exact h2, h3, l.trans h4, kp.trans l h5⟩, .pass (x := .inLoop c) rfl (fun _ _ => .inl (by simp)) harr⟩
      case ret.ret => exact ⟨_, a₁, w₁, ⟨.ret, σ₁, m₁, Γ₁, h1, by exact h2, h3, l.trans h4, kp.trans l h5⟩, .pass (x := .inLoop c) rfl (fun _ _ => .inl (by simp)) harr⟩
      case panic.pan => exact ⟨_, a₁, w₁, ⟨.pan _, σ₁, m₁, Γ₁, h1, by exact h2, h3, l.trans h4, kp.trans l h5⟩, .pass (x := .inLoop c) rfl (fun _ _ => .inl (by simp)) harr⟩
  obtain ⟨e, a', w', hq, harr⟩ := key _ i₀ σ m Γ a w rfl h₀ hs (Ctx.le.refl _) (Keeps.refl _ _)
  exact ⟨e, a', w', hq, .of_steps (.one (fenced_calm hb hr rfl) stepR_loop) harr⟩
theorem LetsOut.to {Q Q' : Exit → Act → World → Prop} (hq : ∀ e a w, Q e a w → Q' e a w) : LetsOut Q → LetsOut Q' := fun ⟨a, w, h⟩ => ⟨a, w, hq _ _ _ h⟩
theorem oper_wp_mono {F : Fence} {n : Nat} {P : Program} {o : Oper} {a : Act} {w : World} {K K' : Act → World → Prop} {Q Q' : Exit → Act → World → Prop} (h : ∀ a w, K a w → K' a w) (hq : ∀ e a w, Q e a w → Q' e a w)
    (hh : o.wpIn F n P a w K Q) : o.wpIn F n P a w K' Q' := by
  obtain ⟨ha, hh⟩ := hh
  refine ⟨ha, ?_⟩
  generalize (o.semAt F.round a.eval).run P w = r at *
  cases r with
  | ok x w' =>
    cases x <;> simp only [Oper.uponIn] at hh ⊢
    case value v => exact h _ _ hh
    case skip => exact h _ _ hh
    case defer d => exact h _ _ hh
    case enter f args =>
      refine ⟨hh.1, CallsIn.mono hh.2 fun e w'' he => ?_⟩
      cases e with
      | returned v => exact h _ _ he
      | panicked ch => exact hq _ _ _ he
      | outgrown => exact LetsOut.to hq he
    case round l f tmps assign body =>
      refine ⟨hh.1, RoundIn.mono hh.2 fun e w'' he => ?_⟩
      cases e with
      | returned v => exact h _ _ he
      | panicked ch => exact hq _ _ _ he
      | outgrown => exact LetsOut.to hq he
    case row row args => exact ⟨hh.1, RowsIn.mono hh.2 fun v w'' he => h _ _ he⟩
  | halt x w' =>
    cases x <;> simp only [Oper.uponIn] at hh ⊢
    case panic v => exact hq _ _ _ hh
theorem wpList_mono {F : Fence} {n : Nat} {P : Program} {ops : Array Oper} {Q Q' : Exit → Act → World → Prop} (hq : ∀ e a w, Q e a w → Q' e a w) : ∀ (l : List Oper) (a : Act) (w : World), wpListIn F n P ops Q l a w → wpListIn F n P ops Q' l a w
  | [], a, w, h => hq _ _ _ h
  | o :: rest, a, w, h => by
    unfold wpListIn at h ⊢
    split at h
    · rename_i hw
      rw [if_pos hw]
      exact oper_wp_mono (wpList_mono hq rest) hq h
    · rename_i hw
      rw [if_neg hw]
      exact ⟨h.1, wpList_mono hq rest _ _ h.2⟩
def AList (P : Program) (N : Nat) (ops : Array Oper) (Q : APost) (l : List Oper) (σ : Nat → PV) (m : St) : Prop :=
  ∀ Γ a w, Sim Γ N σ m a w → wpListIn (FW Γ.x.rnd) 0 P ops (Post Γ w N Q) l a w
theorem AW.region {id : Nat} {ops : Array Oper} (h : AList P N ops Q ops.toList σ m) : AW P N (.region id ops false) Q σ m :=
  fun Γ a w hs => wpIn_region_list (h Γ a w hs)
theorem AW.regionL {id : Nat} {l : List Oper} (h : AList P N l.toArray Q l σ m) : AW P N (.region id l.toArray false) Q σ m := AW.region h
theorem AList.nil {ops : Array Oper} (h : Q .normal σ m) : AList P N ops Q [] σ m := fun Γ a w hs => wpListIn_nil (hs.post (x := .normal) trivial h)
def Up (P : Program) (K Kp : Value → World → Prop) : Result Next → Prop
  | .ok (.value v) w' => K v w'
  | .ok .skip w' => K undef w'
  | .ok (.enter f args) w' => Calls P f args w' fun e w'' => match e with
    | .returned v => K v w''
    | .panicked ch => ∃ v, ch = [{ v := v, recovered := false }] ∧ Kp v w''
    | .outgrown => False
  | .ok (.round l f tmps assign body) w' => RoundIn Fence.wide 0 P l f tmps assign body w' fun e w'' => match e with
    | .returned v => K v w''
    | .panicked ch => ∃ v, ch = [{ v := v, recovered := false }] ∧ Kp v w''
    | .outgrown => False
  | .halt (.panic v) w' => Kp v w'
  | _ => False
theorem Up.defer {P : Program} {K Kp : Value → World → Prop} {o : Oper} {c : Call} {ev : Operand → Value} {w : World} (ho : o.op = .defer c) : ¬ Up P K Kp ((execOp ev o).run P w) := by
  intro h
  obtain ⟨callee, args, ts⟩ := c
  cases callee with
  | value f =>
    simp only [execOp, ho, resolve] at h
    cases hf : ev f <;> simp [Deferred.ofValue, hf, stuck, Sem.run, Up, Result.andThen] at h
  | invoke r n => simp [execOp, ho, resolve, Up] at h
  | builtin b => simp [execOp, ho, resolve, Up] at h
theorem Up.wpIn {P : Program} {K Kp : Value → World → Prop} {o : Oper} {a : Act} {w : World} {r : Option Nat} {next : Act → World → Prop} {Q : Exit → Act → World → Prop} (h : Up P K Kp ((execOp a.eval o).run P w))
    (hk : ∀ v w', K v w' → next (a.put o.dst v) w') (hp : ∀ v w', Kp v w' → Q (.panic [{ v := v, recovered := false }]) a w') : o.wpIn (FW r) 0 P a w next Q := by
  refine ⟨fun _ _ => trivial, ?_⟩
  have hd : ∀ c, o.op ≠ .defer c := fun c ho => Up.defer ho h
  rw [Oper.semAt_eq _ _ _ hd]
  generalize (execOp a.eval o).run P w = res at h
  cases res with
  | ok x w' =>
    cases x <;> simp only [Up] at h <;> simp only [Oper.uponIn]
    case value v => exact hk v w' h
    case skip => exact hk _ w' h
    case enter f args =>
      refine ⟨fun q => by simp [FW, Fence.wide] at q, ?_⟩
      have h2 : CallsIn Fence.wide 0 P f args w' _ := callsIn_wide.2 h
      refine CallsIn.mono (F := FW r) (n := 0) h2 fun e w'' he => ?_
      cases e with
      | returned v => exact hk v w'' he
      | panicked ch => obtain ⟨v, rfl, he⟩ := he; exact hp v w'' he
      | outgrown => exact he.elim
    case round l f tmps assign body =>
      refine ⟨fun q => by simp [FW, Fence.wide] at q, ?_⟩
      refine RoundIn.mono (F := FW r) (n := 0) h fun e w'' he => ?_
      cases e with
      | returned v => exact hk v w'' he
      | panicked ch => obtain ⟨v, rfl, he⟩ := he; exact hp v w'' he
      | outgrown => exact he.elim
  | halt x w' =>
    cases x <;> simp only [Up] at h <;> simp only [Oper.uponIn]
    case panic v => exact hp v w' h
def Then (Γ : Ctx) (w : World) (K : PV → St → Prop) (v : Value) (w' : World) : Prop :=
  ∃ p m' Γ', K p m' ∧ VRep Γ' w' p v ∧ Γ.le Γ' ∧ Keeps Γ w w' ∧ MemSim Γ' m' w'
def OpOK (P : Program) (o : Oper) (ρ : Operand → PV) (m : St) (K Kp : PV → St → Prop) : Prop :=
  ∀ Γ (ev : Operand → Value) w, MemSim Γ m w → (∀ x, VRep Γ w (ρ x) (ev x)) → Up P (Then Γ w K) (Then Γ w Kp) ((execOp ev o).run P w)
def put (σ : Nat → PV) (d : Option Tmp) (p : PV) : Nat → PV := match d with | some d => upd σ d p | none => σ
def dstOK (N : Nat) (d : Option Tmp) : Bool := match d with | some d => d < N | none => true
theorem Sim.put {Γ : Ctx} {a : Act} {w : World} (hs : Sim Γ N σ m a w) {d : Option Tmp} (hd : dstOK N d = true) {p : PV} {v : Value} (h : VRep Γ w p v) : Sim Γ N (put σ d p) m (a.put d v) w := by
  cases d with
  | none => exact hs
  | some d =>
    have hd' : d < a.tmps.size := by rw [hs.size]; simpa [dstOK] using hd
    refine ⟨by simp [Act.put, hs.size], hs.defers, hs.mem, fun t => ?_⟩
    simp only [Ab.put, Act.put]
    by_cases e : t = d
    · subst e; rw [upd_same]; simpa [Array.getD_eq_getD_getElem?, hd'] using h
    · rw [upd_ne _ _ _ _ e]
      have := hs.slots t
      rwa [Array.getD_eq_getD_getElem?, Array.getElem?_setIfInBounds_ne (by omega), ← Array.getD_eq_getD_getElem?]
theorem AList.step {ops : Array Oper} {o : Oper} {rest : List Oper} (hg : o.guard = none) (hd : dstOK N o.dst = true)
    (h : OpOK P o (Ab.opv σ) m (fun p m' => AList P N ops Q rest (put σ o.dst p) m') (fun p m' => Q (.pan p) σ m')) : AList P N ops Q (o :: rest) σ m := by
  intro Γ a w hs
  unfold wpListIn
  rw [if_pos (by simp [Region.wanted, hg])]
  refine (h Γ a.eval w hs.mem hs.opv).wpIn ?_ ?_
  · rintro v w' ⟨p, m', Γ', h1, h2, h3, h4, h5⟩
    have := wpList_mono (Post.later h3 h4) _ _ _ (h1 Γ' (a.put o.dst v) w' ((hs.mono h3 h4 h5).put hd h2))
    rwa [h3.x.rnd] at this
  · rintro v w' ⟨p, m', Γ', h1, h2, h3, h4, h5⟩
    exact ⟨.pan p, σ, m', Γ', h1, ⟨v, rfl, h2⟩, hs.mono h3 h4 h5, h3, h4⟩
end
end Go.Ab
namespace Go.Ab
open Go.RowKit
def tinfo (P : Program) (t : TypeId) : Bool := (P.info? t).isSome && (P.underlying t).isSome
def tsize (P : Program) (t : TypeId) : Nat := P.cellsOf t
def tbytes (P : Program) (t : TypeId) : Nat := P.bytesOf t
def tagg (P : Program) (t : TypeId) : Bool := match P.underlying t with | some (.struct _) | some (.array _ _) => true | _ => false
def tzero (P : Program) (t : TypeId) : Option Value := (P.info? t).bind (·.zero)
def tfield (P : Program) (s : TypeId) (f : Nat) : Option (Nat × TypeId) := match P.underlying s with | some (.struct fs) => (fs[f]?).map (fun x => (x.offset, x.type)) | _ => none
def telem (P : Program) (t : TypeId) : Option TypeId := match P.underlying t with | some (.slice e) => some e | _ => none
def tarr (P : Program) (t : TypeId) : Option (Nat × TypeId) := match P.underlying t with | some (.array n e) => some (n, e) | _ => none
def tkind (P : Program) (t : TypeId) : Option IntKind := match P.underlying t with | some (.int k) => some k | _ => none
def tstr (P : Program) (t : TypeId) : Bool := match P.underlying t with | some .string => true | _ => false
def tbool (P : Program) (t : TypeId) : Bool := match P.underlying t with | some .bool => true | _ => false
def tconc (P : Program) (t : TypeId) : Bool := match P.underlying t with | some (.interface _) => false | some _ => true | none => false
def tifc (P : Program) (t : TypeId) : Bool := match P.underlying t with | some (.interface _) => true | _ => false
section
variable {P : Program} {w : World}
theorem tinfo_und {t : TypeId} (h : tinfo P t = true) : ∃ d, P.underlying t = some d := by
  simp only [tinfo, Bool.and_eq_true, Option.isSome_iff_exists] at h; exact h.2
theorem tinfo_info {t : TypeId} (h : tinfo P t = true) : ∃ i, P.info? t = some i := by
  simp only [tinfo, Bool.and_eq_true, Option.isSome_iff_exists] at h; exact h.1
theorem run_size {t : TypeId} (h : tinfo P t = true) (w : World) : (sizeOf t).run P w = .ok (tsize P t) w := by
  obtain ⟨i, hi⟩ := tinfo_info h
  simp [sizeOf, typeInfo, hi, tsize, Program.cellsOf]
theorem run_agg {t : TypeId} (h : tinfo P t = true) (w : World) : (isAgg t).run P w = .ok (tagg P t) w := by
  obtain ⟨d, hd⟩ := tinfo_und h
  simp only [isAgg, Sem.run_bind, run_underlying hd, Result.andThen_ok, tagg, hd]
  cases d <;> rfl
theorem run_zero {t : TypeId} {z : Value} (h : tzero P t = some z) (w : World) : (zeroValue t).run P w = .ok z w := by
  unfold tzero at h
  cases hi : P.info? t with
  | none => simp [hi] at h
  | some i => simp [hi] at h; simp [zeroValue, typeInfo, hi, h]
theorem add_addr (b off n : Nat) : (⟨b, off, none⟩ : Addr).add n = ⟨b, off + n, none⟩ := by unfold Addr.add; split <;> simp_all
theorem run_cells {b off : Nat} {us : List Value} (h : ∀ (i : Nat) (u : Value), us[i]? = some u → cellAt w b (off + i) = some u) :
    (loadCells ⟨b, off, none⟩ us.length).run P w = .ok us.toArray w :=
  run_loadCells_list w ⟨b, off, none⟩ us fun j v hv => by rw [add_addr]; exact h j v hv
theorem run_load1 {b off : Nat} {u : Value} (h : cellAt w b off = some u) : (load ⟨b, off, none⟩).run P w = .ok u w := by
  unfold cellAt at h
  simp [load, Sem.run, h]
end
def cell1 : PV → Bool
  | .any | .agg _ | .tup _ => false
  | .v u => u.oneCell'
  | _ => true
def cells1 (x : PV) : Option (List PV) :=
  match x with
  | .agg cs => if cs.all cell1 then some cs else none
  | x => if cell1 x then some [x] else none
def ofV : Value → PV
  | .slice none 0 0 => .list .full []
  | v => .v v
def zcells (z : Value) : List PV := z.cells.toList.map ofV
def zOK (z : Value) : Bool := z.cells.toList.all Value.oneCell'
theorem cell1_one {Γ : Ctx} {w : World} {x : PV} {u : Value} (h : cell1 x = true) (r : VRep Γ w x u) : u.oneCell' = true := by
  cases x <;> simp only [cell1, Bool.false_eq_true] at h
  case v u' => rw [show u = u' from r]; exact h
  case list o rows => obtain ⟨a, cap, rfl, _⟩ := r; rfl
  case ro cs => obtain ⟨b, off, rfl, _⟩ := r; rfl
  case loc n off => obtain ⟨_, rfl⟩ := r; rfl
  case marr n off len cap => obtain ⟨_, _, _, rfl⟩ := r; rfl
  case clo f a b => obtain ⟨fs, us, rfl, _⟩ := r; rfl
  case iface t y => obtain ⟨u', rfl, _⟩ := r; rfl
  case yld n => obtain ⟨_, rfl⟩ := r; rfl
  case mtok k len => obtain ⟨_, _, a, cap, rfl, _⟩ := r; rfl
  case mptr k off gen => obtain ⟨_, _, a, rfl, _⟩ := r; rfl
theorem cell1_cells {Γ : Ctx} {w : World} {x : PV} {u : Value} (h : cell1 x = true) (r : VRep Γ w x u) : u.cells = #[u] := by
  have := cell1_one h r
  cases u <;> simp_all [Value.cells, Value.oneCell']
theorem all_cell1 {Γ : Ctx} {w : World} : ∀ (cs : List PV) (us : List Value), cs.all cell1 = true → LRep Γ w cs us → ∀ u ∈ us, u.oneCell' = true
  | [], us, _, r, u, hu => by rw [r] at hu; cases hu
  | x :: cs, us, h, r, u, hu => by
    obtain ⟨v, us', rfl, r1, r2⟩ := r
    simp only [List.all_cons, Bool.and_eq_true] at h
    rcases List.mem_cons.1 hu with rfl | hu
    · exact cell1_one h.1 r1
    · exact all_cell1 cs us' h.2 r2 u hu
theorem cells1_rep {Γ : Ctx} {w : World} {x : PV} {u : Value} {cs : List PV} (h : cells1 x = some cs) (r : VRep Γ w x u) :
    LRep Γ w cs u.cells.toList ∧ ∀ v ∈ u.cells.toList, v.oneCell' = true := by
  by_cases ha : ∃ cs', x = .agg cs'
  · obtain ⟨cs', rfl⟩ := ha
    simp only [cells1] at h
    split at h <;> cases h
    rename_i hc
    obtain ⟨us, rfl, r⟩ := r
    exact ⟨r, all_cell1 _ _ hc r⟩
  · have h' : (if cell1 x then some [x] else none) = some cs := by
      cases x <;> first | exact h | exact absurd ⟨_, rfl⟩ ha
    split at h' <;> cases h'
    rename_i hc
    rw [cell1_cells hc r]
    exact ⟨⟨u, [], rfl, r, rfl⟩, fun v hv => by simp at hv; subst hv; exact cell1_one hc r⟩
theorem ofV_rep (Γ : Ctx) (w : World) (v : Value) : VRep Γ w (ofV v) v := by
  unfold ofV
  split
  · exact ⟨none, 0, rfl, Nat.le_refl _, fun _ => rfl, (fun ad h => by cases h), rfl⟩
  · rfl
theorem ofVs_rep (Γ : Ctx) (w : World) : ∀ vs : List Value, LRep Γ w (vs.map ofV) vs
  | [] => rfl
  | v :: vs => ⟨v, vs, rfl, ofV_rep Γ w v, ofVs_rep Γ w vs⟩
def abin : BinOp → Value → Value → Option Value
  | .shl, .int k a, .int _ b => if 0 ≤ b then some (.int k (k.wrap (a * 2 ^ (min b.toNat k.bits)))) else none
  | .shr, .int k a, .int _ b => if 0 ≤ b then some (.int k (a.fdiv (2 ^ (min b.toNat k.bits)))) else none
  | .add, .int k a, .int k' b => if k = k' then some (.int k (k.wrap (a + b))) else none
  | .sub, .int k a, .int k' b => if k = k' then some (.int k (k.wrap (a - b))) else none
  | .mul, .int k a, .int k' b => if k = k' then some (.int k (k.wrap (a * b))) else none
  | .quo, .int k a, .int k' b => if k = k' then (if b = 0 then none else some (.int k (k.wrap (a.tdiv b)))) else none
  | .rem, .int k a, .int k' b => if k = k' then (if b = 0 then none else some (.int k (a.tmod b))) else none
  | .and, .int k a, .int k' b => if k = k' then some (.int k (k.wrap (BitVec.ofInt k.bits a &&& BitVec.ofInt k.bits b).toNat)) else none
  | .or, .int k a, .int k' b => if k = k' then some (.int k (k.wrap (BitVec.ofInt k.bits a ||| BitVec.ofInt k.bits b).toNat)) else none
  | .xor, .int k a, .int k' b => if k = k' then some (.int k (k.wrap (BitVec.ofInt k.bits a ^^^ BitVec.ofInt k.bits b).toNat)) else none
  | .eql, .int k a, .int k' b => if k = k' then some (.bool (a == b)) else none
  | .neq, .int k a, .int k' b => if k = k' then some (.bool (a != b)) else none
  | .lss, .int k a, .int k' b => if k = k' then some (.bool (a < b)) else none
  | .leq, .int k a, .int k' b => if k = k' then some (.bool (a ≤ b)) else none
  | .gtr, .int k a, .int k' b => if k = k' then some (.bool (a > b)) else none
  | .geq, .int k a, .int k' b => if k = k' then some (.bool (a ≥ b)) else none
  | .eql, .string a, .string b => some (.bool (a.toList == b.toList))
  | .neq, .string a, .string b => some (.bool (!(a.toList == b.toList)))
  | .lss, .string a, .string b => some (.bool (Op.bytesLess a.toList b.toList))
  | .gtr, .string a, .string b => some (.bool (!(Op.bytesLess a.toList b.toList || a.toList == b.toList)))
  | _, _, _ => none
theorem run_abin {P : Program} {op : BinOp} {t : TypeId} {a b r : Value} (h : abin op a b = some r) (w : World) : (binOp op t a b).run P w = .ok r w := by
  unfold abin at h
  split at h <;> (try split at h) <;> (try split at h) <;> first
    | (cases h; done)
    | (cases h; simp_all [binOp, Op.intArith, Op.intCmp, Op.intDiv, Op.intBits, Op.shift, Op.stringOp, Int.not_lt.2]; done)
    | (cases h; simp_all [binOp, Op.intArith, Op.intCmp, Op.intDiv, Op.intBits, Op.shift, Op.stringOp]; omega)
end Go.Ab
namespace Go.Ab
open Go.RowKit
def rowI (rows : List (List PV)) (i : Nat) : List PV := rows.getD i []
def RowsW (s : Nat) (rows : List (List PV)) : Prop := ∀ r ∈ rows, r.length = s
def aload (P : Program) (t : TypeId) (x : PV) (m : St) (K : PV → St → Prop) : Prop :=
  tinfo P t = true ∧
  match x with
  | .ro cs => if tagg P t then tsize P t ≤ cs.length ∧ K (.agg (cs.take (tsize P t))) m else match cs[0]? with | some c => K c m | none => False
  | .loc n off => match m.loc n with
    | some cs => n < m.nloc ∧ (if tagg P t then off + tsize P t ≤ cs.length ∧ K (.agg ((cs.drop off).take (tsize P t))) m else match cs[off]? with | some c => K c m | none => False)
    | none => False
  | _ => False
def astore (P : Program) (t : TypeId) (x y : PV) (m : St) (K : PV → St → Prop) : Prop :=
  tinfo P t = true ∧
  match x, cells1 y with
  | .loc n off, some xs => match m.loc n with
    | some cs => n < m.nloc ∧ xs.length = tsize P t ∧ off + tsize P t ≤ cs.length ∧ K .any (m.setLoc n (setL cs off xs))
    | none => False
  | _, _ => False
def afill (place : Nat → Option (Nat × Nat)) : List (Nat × PV) → List PV → Option (List PV)
  | [], cs => some cs
  | (i, x) :: rest, cs => match place i, cells1 x with
    | some (off, size), some xs => if xs.length = size ∧ off + size ≤ cs.length then afill place rest (setL cs off (PV.stripL xs)) else none
    | _, _ => none
def tplace (P : Program) (t : TypeId) : Nat → Option (Nat × Nat) := fun i => match tfield P t i with | some (o, ft) => if tinfo P ft then some (o, tsize P ft) else none | none => none
def aplace (P : Program) (t : TypeId) : Nat → Option (Nat × Nat) := fun i => match tarr P t with | some (_, e) => some (i * tsize P e, tsize P e) | none => none
def tfok (P : Program) (t : TypeId) : Bool := match P.underlying t with | some (.struct fs) => fs.all (fun f => tinfo P f.type) | _ => false
def abuild (P : Program) (t : TypeId) (parts : List (Nat × PV)) (m : St) (K : PV → St → Prop) : Prop :=
  match tzero P t with
  | some z => tinfo P t = true ∧ zOK z = true ∧ ((tfok P t = true ∧ match afill (tplace P t) parts (zcells z) with | some cs => K (.agg cs) m | none => False) ∨
      (∃ n e, tarr P t = some (n, e) ∧ tinfo P e = true ∧ match afill (aplace P t) parts (zcells z) with | some cs => K (.agg cs) m | none => False))
  | none => False
def zrow (zc : List PV) (n : Nat) : List PV := (List.range n).map (fun i => zc.getD (i % zc.length) .any)
def chunk {α : Type} (s : Nat) : Nat → List α → List (List α)
  | 0, _ => []
  | n + 1, l => l.take s :: chunk s n (l.drop s)
theorem chunk_flatten {α : Type} (s : Nat) : ∀ (n : Nat) (l : List α), l.length = n * s → (chunk s n l).flatten = l
  | 0, l, h => by simp at h; simp [chunk, h]
  | n + 1, l, h => by
    rw [chunk, List.flatten_cons, chunk_flatten s n _ (by rw [List.length_drop, h, Nat.add_mul]; omega), List.take_append_drop]
theorem chunk_length {α : Type} (s : Nat) : ∀ (n : Nat) (l : List α), (chunk s n l).length = n
  | 0, _ => rfl
  | n + 1, l => by simp [chunk, chunk_length s n]
def abuildSlice (P : Program) (t : TypeId) (len : Nat) (parts : List (Nat × PV)) (m : St) (K : PV → St → Prop) : Prop :=
  match telem P t with
  | some e => tinfo P e = true ∧ len * tsize P e ≤ 16777216 ∧
    match tzero P e with
    | some z => zOK z = true ∧ 0 < (zcells z).length ∧ match afill (fun i => some (i * tsize P e, tsize P e)) parts (zrow (zcells z) (len * tsize P e)) with
      | some cs => K (.list .full (chunk (tsize P e) len cs)) m
      | none => False
    | none => False
  | none => False
def apick (c a b : PV) (m : St) (K : PV → St → Prop) : Prop :=
  match c with
  | .v (.bool t) => match a, b with
    | .v (.bool x), .v (.bool y) => K (.v (.bool (if t then x else y))) m
    | _, _ => (t = true → K a m) ∧ (t = false → K b m)
  | _ => False
def abinop (P : Program) (op : BinOp) (t : TypeId) (x y : PV) (m : St) (K : PV → St → Prop) : Prop :=
  match x, y with
  | .v (.bool a), .v (.bool b) => tbool P t = true ∧ (match op with | .eql => K (.v (.bool (a == b))) m | .neq => K (.v (.bool (!(a == b)))) m | _ => False)
  | .v a, .v b => match abin op a b with | some r => K (.v r) m | none => False
  | .list _ rows, .v (.slice none 0 0) => (telem P t).isSome = true ∧ (match op with
    | .eql => ∀ b : Bool, (b = true → rows = []) → K (.v (.bool b)) m
    | .neq => ∀ b : Bool, (b = false → rows = []) → K (.v (.bool b)) m
    | _ => False)
  | _, _ => False
def anil : PV → St → (PV → St → Prop) → Prop
  | .ro cs, m, K => K (.ro cs) m
  | .loc n off, m, K => K (.loc n off) m
  | .clo f a b, m, K => K (.clo f a b) m
  | _, _, _ => False
def aunop (op : UnOp) (x : PV) (m : St) (K : PV → St → Prop) : Prop :=
  match op, x with
  | .not, .v (.bool b) => K (.v (.bool (!b))) m
  | .neg, .v (.int k n) => K (.v (.int k (k.wrap (0 - n)))) m
  | _, _ => False
def aconvert (P : Program) (s d : TypeId) (x : PV) (m : St) (K : PV → St → Prop) : Prop :=
  match x, tkind P d with
  | .v (.int _ n), some k => tinfo P s = true ∧ K (.v (.int k (k.wrap n))) m
  | _, _ => False
def afieldAddr (P : Program) (s : TypeId) (x : PV) (f : Nat) (m : St) (K : PV → St → Prop) : Prop :=
  match tfield P s f with
  | some (o, ft) => tinfo P ft = true ∧ tsize P ft ≠ 0 ∧ (match x with
    | .ro cs => K (.ro (cs.drop o)) m
    | .loc n off => K (.loc n (off + o)) m
    | _ => False)
  | none => False
def apart (P : Program) (t : TypeId) (cs : List PV) (off : Nat) (m : St) (K : PV → St → Prop) : Prop :=
  tinfo P t = true ∧ if tagg P t then K (.agg ((cs.drop off).take (tsize P t))) m else match cs[off]? with | some c => K c m | none => False
def afield (P : Program) (s : TypeId) (x : PV) (f : Nat) (m : St) (K : PV → St → Prop) : Prop :=
  match tfield P s f, x with
  | some (o, ft), .agg cs => apart P ft cs o m K
  | _, _ => False
def aindexAddr (P : Program) (t : TypeId) (x i : PV) (m : St) (K : PV → St → Prop) : Prop :=
  match telem P t, i with
  | some e, .v (.int _ n) => tinfo P e = true ∧ 0 ≤ n ∧ (match x with
    | .list _ rows => n < rows.length ∧ RowsW (tsize P e) rows ∧ K (.ro (rowI rows n.toNat)) m
    | .marr l off len _ => n < len ∧ K (.loc l (off + n.toNat * tsize P e)) m
    | _ => False)
  | _, _ => False
def byteAt (s : ByteArray) (i : Nat) : Int := ((s.data.toList.getD i 0).toNat : Int)
def aindex (P : Program) (t : TypeId) (x i : PV) (m : St) (K : PV → St → Prop) : Prop :=
  match i, x with
  | .v (.int _ n), .agg cs => match tarr P t with
    | some (len, e) => 0 ≤ n ∧ n < len ∧ tinfo P e = true ∧ apart P e cs (n.toNat * tsize P e) m K
    | none => False
  | .v (.int _ n), .v (.string s) => tstr P t = true ∧ 0 ≤ n ∧ n < s.size ∧ K (.v (.int .u8 (byteAt s n.toNat))) m
  | _, _ => False
def aextract (x : PV) (i : Nat) (m : St) (K : PV → St → Prop) : Prop :=
  match x with
  | .tup xs => match xs[i]? with | some p => K p m | none => False
  | _ => False
def abnd (x : Option PV) (d : Int) : Option Int := match x with | none => some d | some (.v (.int _ n)) => some n | _ => none
def aslice (P : Program) (t : TypeId) (x : PV) (lo hi mx : Option PV) (m : St) (K : PV → St → Prop) : Prop :=
  match x with
  | .list o rows => match telem P t, abnd lo 0, abnd hi rows.length, mx with
    | some e, some l, some h, none => tinfo P e = true ∧ RowsW (tsize P e) rows ∧ 0 ≤ l ∧ l ≤ h ∧ h ≤ rows.length ∧
        K (.list (if l = 0 ∧ h = rows.length then o else if h = rows.length ∧ o = .full then .full else .no) ((rows.take h.toNat).drop l.toNat)) m
    | some e, some l, some h, some (.v (.int _ q)) => tinfo P e = true ∧ RowsW (tsize P e) rows ∧ 0 ≤ l ∧ l ≤ h ∧ h = q ∧ hi.isSome = true ∧ h ≤ rows.length ∧ K (.list .full ((rows.take h.toNat).drop l.toNat)) m
    | _, _, _, _ => False
  | .marr n off len cap => match telem P t, abnd lo 0, abnd hi len, mx with
    | some e, some l, some h, none => tinfo P e = true ∧ 0 ≤ l ∧ l ≤ h ∧ h ≤ len ∧ len ≤ cap ∧ l < cap ∧ K (.marr n (off + l.toNat * tsize P e) (h - l).toNat (cap - l.toNat)) m
    | _, _, _, _ => False
  | .v (.string s) => match abnd lo 0, abnd hi s.size, mx with
    | some l, some h, none => tstr P t = true ∧ 0 ≤ l ∧ l ≤ h ∧ h ≤ s.size ∧ K (.v (.string (s.extract l.toNat h.toNat))) m
    | _, _, _ => False
  | _ => False
def AppRes (s : Nat) (m : St) (o : Own) (n q : Nat) (o' : Own) (m' : St) : Prop :=
  (q = 0 ∧ o' = o ∧ m' = m) ∨
  (0 < q ∧ o' = .tok m.ntok ∧ m' = m.newTok (n + q) s) ∨
  (0 < q ∧ ∃ k, o = .tok k ∧ o' = .tok k ∧ m' = m.growTok k q)
def appOK (s : Nat) (m : St) (o : Own) (n : Nat) : Prop :=
  match o with
  | .no => False
  | .full => True
  | .tok k => k < m.ntok ∧ m.top k = n ∧ m.wd k = s ∧ m.arr k = none
def aappend (P : Program) (ts : List TypeId) (x y : PV) (m : St) (K : PV → St → Prop) : Prop :=
  match ts, x, y with
  | [t, t'], .list o rows, .list _ news => t = t' ∧ (match telem P t with
    | some e => tinfo P e = true ∧ (tzero P e).map (fun z => z.cells.size) = some (tsize P e) ∧ 0 < tsize P e ∧ RowsW (tsize P e) rows ∧ RowsW (tsize P e) news ∧ (rows.length + news.length) * tbytes P e ≤ 140737488355328 ∧ rows.length + news.length ≤ 4611686018427387904 ∧
        appOK (tsize P e) m o rows.length ∧ ∀ o' m', AppRes (tsize P e) m o rows.length news.length o' m' → K (.list o' (rows ++ PV.stripR news)) m'
    | none => False)
  | _, _, _ => False
def alen (P : Program) (ts : List TypeId) (x : PV) (m : St) (K : PV → St → Prop) : Prop :=
  match ts, x with
  | [t], .list _ rows => (telem P t).isSome = true ∧ K (.v (.int .i64 rows.length)) m
  | [t], .marr _ _ len _ => (telem P t).isSome = true ∧ K (.v (.int .i64 len)) m
  | [t], .v (.string s) => tstr P t = true ∧ K (.v (.int .i64 s.size)) m
  | _, _ => False
def acall (P : Program) (c : Call) (ρ : Operand → PV) (m : St) (K Kp : PV → St → Prop) : Prop :=
  match c.callee with
  | .value f => match ρ f with
    | .clo g first caps => ACall P g (first ++ c.args.toList.map (fun x => (ρ x).strip) ++ caps) m (fun r m' => match r with | .ret p => K p m' | .pan p => Kp p m')
    | .yld n => YCall P n (c.args.toList.map (fun x => (ρ x).strip)) m (fun r m' => match r with | .ret p => K p m' | .pan p => Kp p m')
    | _ => False
  | .builtin .append => match c.args.toList with | [x, y] => aappend P c.argTypes.toList (ρ x) (ρ y) m K | _ => False
  | .builtin .len => match c.args.toList with | [x] => alen P c.argTypes.toList (ρ x) m K | _ => False
  | .builtin .max => match c.args.toList.map ρ with | [.v (.int k a), .v (.int _ b)] => K (.v (.int k (if a < b then b else a))) m | _ => False
  | .builtin .min => match c.args.toList.map ρ with | [.v (.int k a), .v (.int _ b)] => K (.v (.int k (if b < a then b else a))) m | _ => False
  | _ => False
def amakeSlice (P : Program) (t : TypeId) (l c : PV) (m : St) (K : PV → St → Prop) : Prop :=
  match l, c, telem P t with
  | .v (.int _ n), .v (.int _ n'), some e => n = n' ∧ 0 ≤ n ∧ n < 4611686018427387904 ∧ tinfo P e = true ∧ tbytes P e * n ≤ 140737488355328 ∧ (match tzero P e with
    | some z => zOK z = true ∧ 0 < (zcells z).length ∧ K (.marr m.nloc 0 n.toNat n.toNat) (m.newLoc (zrow (zcells z) (n.toNat * tsize P e)))
    | none => False)
  | _, _, _ => False
def aop (P : Program) (op : Op) (ρ : Operand → PV) (m : St) (K Kp : PV → St → Prop) : Prop :=
  match op with
  | .move x => K (ρ x) m
  | .assign x => K (ρ x) m
  | .pick c a b => apick (ρ c) (ρ a) (ρ b) m K
  | .box _ x => match cells1 (ρ x) with | some cs => K (.loc m.nloc 0) (m.newLoc cs) | none => False
  | .alloc e => match tzero P e with | some z => zOK z = true ∧ K (.loc m.nloc 0) (m.newLoc (zcells z)) | none => False
  | .load t x => aload P t (ρ x) m K
  | .store t x y => astore P t (ρ x) (ρ y) m K
  | .build t parts => abuild P t (parts.toList.map (fun x => (x.1, ρ x.2))) m K
  | .buildSlice t len parts => abuildSlice P t len (parts.toList.map (fun x => (x.1, ρ x.2))) m K
  | .nilCheck x => anil (ρ x) m K
  | .binOp op t x y _ => abinop P op t (ρ x) (ρ y) m K
  | .unOp op _ x => aunop op (ρ x) m K
  | .convert s d x => aconvert P s d (ρ x) m K
  | .makeInterface t x => tconc P t = true ∧ K (.iface t (ρ x)) m
  | .makeFunc (.func f) first caps => K (.clo f (first.toList.map ρ) (caps.toList.map ρ)) m
  | .makeSlice t l c => amakeSlice P t (ρ l) (ρ c) m K
  | .slice t x lo hi mx => aslice P t (ρ x) (lo.map ρ) (hi.map ρ) (mx.map ρ) m K
  | .fieldAddr s x f => afieldAddr P s (ρ x) f m K
  | .field s x f => afield P s (ρ x) f m K
  | .indexAddr t x i => aindexAddr P t (ρ x) (ρ i) m K
  | .index t x i => aindex P t (ρ x) (ρ i) m K
  | .extract x i => aextract (ρ x) i m K
  | .call c => acall P c ρ m K Kp
  | .panic x => match ρ x with | .iface t y => Kp (.iface t y) m | _ => False
  | _ => False
end Go.Ab
namespace Go.Ab
open Go.RowKit
section
variable {P : Program} {m : St} {K Kp : PV → St → Prop} {Γ : Ctx} {w : World}
theorem Then.same (hm : MemSim Γ m w) {p : PV} {v : Value} (h : K p m) (hv : VRep Γ w p v) : Then Γ w K v w :=
  ⟨p, m, Γ, h, hv, Ctx.le.refl _, Keeps.refl _ _, hm⟩
theorem sureAddr_run (b off : Nat) : (Instr.sureAddr (.pointer (some ⟨b, off, none⟩))).run P w = .ok ⟨b, off, none⟩ w := rfl
theorem cells_of_read {cs : List PV} {b off : Nat} (h : CRep Γ w cs b off) : ∃ us : List Value, us.length = cs.length ∧ LRep Γ w cs us ∧ (∀ (i : Nat) (u : Value), us[i]? = some u → cellAt w b (off + i) = some u ∧ u.oneCell' = true ∧ Γ.imm b (off + i)) := by
  obtain ⟨us, h1, h2, h3⟩ := CRep.read cs b off h
  exact ⟨us, h1, h3, h2⟩
theorem sound_load0 {t : TypeId} {x : PV} {u : Value} (h : aload P t x m K) (hm : MemSim Γ m w) (hx : VRep Γ w x u) : ∃ ad v p, u = .pointer (some ad) ∧ (loadVar t ad).run P w = .ok v w ∧ K p m ∧ VRep Γ w p v := by
  obtain ⟨ht, h⟩ := h
  cases x <;> simp only at h
  case ro cs =>
    obtain ⟨b, off, rfl, hc⟩ := hx
    refine ⟨⟨b, off, none⟩, ?_⟩
    simp only [loadVar, Sem.run_bind, Result.andThen_ok, run_agg ht, run_size ht]
    split at h
    · rename_i ha
      obtain ⟨hl, hk⟩ := h
      obtain ⟨us, h1, h2, h3⟩ := cells_of_read (CRep.take (tsize P t) cs b off hc)
      have hn : us.length = tsize P t := by rw [h1, List.length_take]; omega
      have hr := run_cells (P := P) (w := w) (b := b) (off := off) (us := us) fun i u hu => (h3 i u hu).1
      rw [hn] at hr
      simp only [ha, if_true, hr, Sem.run_bind, run_size ht, Result.andThen_ok, Sem.run_pure]
      exact ⟨_, _, trivial, rfl, hk, ⟨_, rfl, h2⟩⟩
    · rename_i ha
      cases cs with
      | nil => exact h.elim
      | cons c cs =>
        obtain ⟨⟨_, u, e, _, hu⟩, _⟩ := hc
        simp only [ha, Bool.false_eq_true, if_false, run_load1 e]
        exact ⟨u, _, trivial, rfl, h, hu⟩
  case loc n off =>
    obtain ⟨hn, rfl⟩ := hx
    cases hl : m.loc n with
    | none => simp [hl] at h
    | some cs =>
      simp only [hl] at h
      obtain ⟨hn', h⟩ := h
      obtain ⟨c, hb, hr, h1⟩ := hm.locs n cs hn' hl
      refine ⟨⟨Γ.loc n, off, none⟩, ?_⟩
      simp only [loadVar, Sem.run_bind, Result.andThen_ok, run_agg ht, run_size ht]
      split at h
      · rename_i ha
        obtain ⟨hl, hk⟩ := h
        have hr2 := LRep.take (tsize P t) _ _ (LRep.drop off _ _ hr)
        have hcl := LRep.len _ _ hr
        have hn2 : ((c.drop off).take (tsize P t)).length = tsize P t := by simp; omega
        have hrun := run_cells (P := P) (w := w) (b := Γ.loc n) (off := off) (us := (c.drop off).take (tsize P t)) fun i u hu => by
          refine cellAt_blk' hb ?_
          rw [List.getElem?_take] at hu
          split at hu
          · rw [List.getElem?_drop] at hu; exact hu
          · cases hu
        rw [hn2] at hrun
        simp only [ha, if_true, hrun, Sem.run_bind, run_size ht, Result.andThen_ok, Sem.run_pure]
        exact ⟨_, _, trivial, rfl, hk, ⟨_, rfl, hr2⟩⟩
      · rename_i ha
        cases hcs : cs[off]? with
        | none => simp [hcs] at h
        | some p =>
          simp only [hcs] at h
          obtain ⟨u, hu1, hu2⟩ := LRep.get _ _ hr off p hcs
          simp only [ha, Bool.false_eq_true, if_false, run_load1 (cellAt_blk' hb hu1)]
          exact ⟨u, _, trivial, rfl, h, hu2⟩
theorem sound_load {t : TypeId} {x : PV} {u : Value} (h : aload P t x m K) (hm : MemSim Γ m w) (hx : VRep Γ w x u) : ∃ v, (Instr.loadAt t u).run P w = .ok v w ∧ Then Γ w K v w := by
  obtain ⟨ad, v, p, rfl, h1, h2, h3⟩ := sound_load0 h hm hx
  exact ⟨v, by simp only [Instr.loadAt, Sem.run_bind, Instr.sureAddr, Sem.run_pure, Result.andThen_ok, h1], .same hm h2 h3⟩
theorem sound_field_place {s f : Nat} {o : Nat} {ft : TypeId} (hf : tfield P s f = some (o, ft)) (ht : tinfo P ft = true) (hs : tsize P ft ≠ 0) (b off : Nat) :
    (Instr.fieldAt s (.pointer (some ⟨b, off, none⟩)) f).run P w = .ok (.pointer (some ⟨b, off + o, none⟩)) w := by
  unfold tfield at hf
  split at hf
  · rename_i fs hd
    cases hg : fs[f]? with
    | none => simp [hg] at hf
    | some fld =>
      simp [hg] at hf
      obtain ⟨rfl, rfl⟩ := hf
      simp [Instr.fieldAt, run_underlying hd, hg, Instr.sureAddr, fieldPlace, run_size ht, hs, add_addr]
  · cases hf
theorem sound_fieldAddr {s f : Nat} {x : PV} {u : Value} (h : afieldAddr P s x f m K) (hm : MemSim Γ m w) (hx : VRep Γ w x u) : ∃ v, (Instr.fieldAt s u f).run P w = .ok v w ∧ Then Γ w K v w := by
  unfold afieldAddr at h
  cases hf : tfield P s f with
  | none => simp [hf] at h
  | some q =>
    obtain ⟨o, ft⟩ := q
    simp only [hf] at h
    obtain ⟨ht, hs, h⟩ := h
    cases x <;> simp only at h
    case ro cs =>
      obtain ⟨b, off, rfl, hc⟩ := hx
      exact ⟨_, sound_field_place hf ht hs b off, .same hm h ⟨b, off + o, rfl, CRep.drop o cs b off hc⟩⟩
    case loc n off =>
      obtain ⟨hn, rfl⟩ := hx
      exact ⟨_, sound_field_place hf ht hs _ off, .same hm h ⟨hn, rfl⟩⟩
theorem sound_part {t : TypeId} {cs : List PV} {us : Array Value} {off : Nat} (h : apart P t cs off m K) (hm : MemSim Γ m w) (hx : LRep Γ w cs us.toList) : ∃ v, (part t us off).run P w = .ok v w ∧ Then Γ w K v w := by
  obtain ⟨ht, h⟩ := h
  simp only [part, Sem.run_bind, run_agg ht, Result.andThen_ok, run_size ht]
  split at h
  · rename_i ha
    simp only [ha, if_true, Sem.run_bind, run_size ht, Result.andThen_ok, Sem.run_pure]
    refine ⟨_, rfl, .same hm h ⟨_, rfl, ?_⟩⟩
    have := LRep.take (tsize P t) _ _ (LRep.drop off _ _ hx)
    rw [Array.toList_extract, List.extract_eq_take_drop]
    rwa [show off + tsize P t - off = tsize P t from by omega]
  · rename_i ha
    simp only [ha, Bool.false_eq_true, if_false]
    cases hc : cs[off]? with
    | none => simp [hc] at h
    | some p =>
      simp only [hc] at h
      obtain ⟨u, hu1, hu2⟩ := LRep.get _ _ hx off p hc
      have : us[off]? = some u := by simpa using hu1
      rw [this]
      exact ⟨u, rfl, .same hm h hu2⟩
theorem sound_field {s f : Nat} {x : PV} {u : Value} (h : afield P s x f m K) (hm : MemSim Γ m w) (hx : VRep Γ w x u) : ∃ v, (Instr.field s u f).run P w = .ok v w ∧ Then Γ w K v w := by
  unfold afield at h
  split at h
  · rename_i o ft cs hf
    obtain ⟨us, rfl, hr⟩ := hx
    unfold tfield at hf
    split at hf
    · rename_i fs hd
      cases hg : fs[f]? with
      | none => simp [hg] at hf
      | some fld =>
        simp [hg] at hf
        obtain ⟨rfl, rfl⟩ := hf
        obtain ⟨v, h1, h2⟩ := sound_part h hm hr
        refine ⟨v, ?_, h2⟩
        simp [Instr.field, run_underlying hd, hg, asAgg, h1]
    · cases hf
  · exact h.elim
theorem CRep.at {rows : List (List PV)} {s b : Nat} (hw : RowsW s rows) : ∀ (off i : Nat), i < rows.length → CRep Γ w rows.flatten b off → CRep Γ w (rows.getD i []) b (off + i * s) := by
  induction rows with
  | nil => intro off i hi; simp at hi
  | cons r rs ih =>
    intro off i hi h
    have hr : r.length = s := hw r (by simp)
    cases i with
    | zero =>
      have := CRep.take r.length _ _ _ h
      simpa using this
    | succ i =>
      have h2 := CRep.drop r.length _ _ _ h
      simp only [List.flatten_cons, List.drop_left] at h2
      have h3 := ih (fun r hr => hw r (by simp [hr])) (off + r.length) i (by simpa using hi) h2
      simp only [List.getD_cons_succ]
      rwa [hr, Nat.add_assoc, show s + i * s = (i + 1) * s from by rw [Nat.add_mul]; omega] at h3
theorem telem_und {t e : TypeId} (h : telem P t = some e) : P.underlying t = some (.slice e) := by
  unfold telem at h
  split at h
  · rename_i e' hd; cases h; exact hd
  · cases h
theorem sound_indexAddr {t : TypeId} {x i : PV} {u ui : Value} (h : aindexAddr P t x i m K) (hm : MemSim Γ m w) (hx : VRep Γ w x u) (hi : VRep Γ w i ui) :
    ∃ v, (Instr.indexAt t u ui).run P w = .ok v w ∧ Then Γ w K v w := by
  unfold aindexAddr at h
  split at h
  · rename_i e k n he
    replace hi : ui = .int k n := hi
    subst hi
    obtain ⟨ht, h0, h⟩ := h
    have hd := telem_und he
    cases x <;> simp only at h
    case list o rows =>
      obtain ⟨hlt, hw, hk⟩ := h
      obtain ⟨a, cap, rfl, h1, h2, h3, h4⟩ := hx
      have hn : n.toNat < rows.length := by omega
      cases a with
      | none => have := h2 rfl; omega
      | some ad =>
        obtain ⟨hs, hr⟩ := h3 ad rfl
        replace hs := hs.resolve_left (by omega)
        obtain ⟨b, off, sp⟩ := ad
        simp only at hs hr
        subst hs
        refine ⟨.pointer (some ⟨b, off + n.toNat * tsize P e, none⟩), ?_, .same hm hk ⟨b, _, rfl, CRep.at hw off n.toNat hn ((SRep.flat rows b off).1 hr)⟩⟩
        simp [Instr.indexAt, asIntOf, run_underlying hd, h0, hlt, run_size ht, add_addr]
    case marr l off len cap =>
      obtain ⟨hlt, hk⟩ := h
      obtain ⟨hn, cap', hcap, rfl⟩ := hx
      refine ⟨.pointer (some ⟨Γ.loc l, off + n.toNat * tsize P e, none⟩), ?_, .same hm hk ⟨hn, rfl⟩⟩
      simp [Instr.indexAt, asIntOf, run_underlying hd, h0, hlt, run_size ht, add_addr]
  · exact h.elim
theorem tarr_und {t e : TypeId} {n : Nat} (h : tarr P t = some (n, e)) : P.underlying t = some (.array n e) := by
  unfold tarr at h
  split at h
  · rename_i e' hd; cases h; exact hd
  · cases h
theorem tstr_und {t : TypeId} (h : tstr P t = true) : P.underlying t = some .string := by
  unfold tstr at h
  split at h
  · rename_i hd; exact hd
  · cases h
theorem tbool_und {t : TypeId} (h : tbool P t = true) : P.underlying t = some .bool := by
  unfold tbool at h
  split at h
  · rename_i hd; exact hd
  · cases h
theorem tkind_und {t : TypeId} {k : IntKind} (h : tkind P t = some k) : P.underlying t = some (.int k) := by
  unfold tkind at h
  split at h
  · rename_i hd; cases h; exact hd
  · cases h
theorem sound_index {t : TypeId} {x i : PV} {u ui : Value} (h : aindex P t x i m K) (hm : MemSim Γ m w) (hx : VRep Γ w x u) (hi : VRep Γ w i ui) :
    ∃ v, (Instr.index t u ui).run P w = .ok v w ∧ Then Γ w K v w := by
  unfold aindex at h
  split at h
  · rename_i k n cs
    replace hi : ui = .int k n := hi
    subst hi
    obtain ⟨us, rfl, hr⟩ := hx
    cases ha : tarr P t with
    | none => simp [ha] at h
    | some q =>
      obtain ⟨len, e⟩ := q
      simp only [ha] at h
      obtain ⟨h0, hlt, ht, h⟩ := h
      obtain ⟨v, h1, h2⟩ := sound_part h hm hr
      refine ⟨v, ?_, h2⟩
      simp [Instr.index, asIntOf, run_underlying (tarr_und ha), h0, hlt, run_size ht, h1]
  · rename_i k n s
    replace hi : ui = .int k n := hi
    subst hi
    replace hx : u = .string s := hx
    subst hx
    obtain ⟨hs, h0, hlt, hk⟩ := h
    have hlt' : n.toNat < s.size := by omega
    refine ⟨_, ?_, .same hm hk (v := .int .u8 ((s.data.toList.getD n.toNat 0).toNat)) rfl⟩
    have hg : s[n.toNat]? = some (s.data.toList.getD n.toNat 0) := by
      have hl : n.toNat < s.data.size := hlt'
      rw [getElem?_pos s n.toNat hlt']
      simp only [List.getD, Array.getElem?_toList, Array.getElem?_eq_getElem hl, Option.getD_some]
      rfl
    simp [Instr.index, asIntOf, run_underlying (tstr_und hs), h0, hg]
  · exact h.elim
theorem sound_extract {x : PV} {u : Value} {i : Nat} (h : aextract x i m K) (hm : MemSim Γ m w) (hx : VRep Γ w x u) : ∃ v, (Instr.extract u i).run P w = .ok v w ∧ Then Γ w K v w := by
  unfold aextract at h
  split at h
  · rename_i xs
    obtain ⟨us, rfl, hr⟩ := hx
    cases hc : xs[i]? with
    | none => simp [hc] at h
    | some p =>
      simp only [hc] at h
      obtain ⟨u, hu1, hu2⟩ := LRep.get _ _ hr i p hc
      have : us[i]? = some u := by simpa using hu1
      refine ⟨u, ?_, .same hm h hu2⟩
      simp [Instr.extract, this]
  · exact h.elim
theorem sound_pick {c a b : PV} {uc ua ub : Value} (h : apick c a b m K) (hm : MemSim Γ m w) (hc : VRep Γ w c uc) (ha : VRep Γ w a ua) (hb : VRep Γ w b ub) :
    ∃ v, (do pure (Next.value (if ← asBool uc then ua else ub)) : Sem Next).run P w = .ok (.value v) w ∧ Then Γ w K v w := by
  unfold apick at h
  split at h
  · rename_i t
    replace hc : uc = .bool t := hc
    subst hc
    split at h
    · rename_i x y
      replace ha : ua = .bool x := ha
      replace hb : ub = .bool y := hb
      subst ha hb
      exact ⟨_, rfl, .same hm h (by cases t <;> rfl)⟩
    · cases t
      · exact ⟨ub, rfl, .same hm (h.2 rfl) hb⟩
      · exact ⟨ua, rfl, .same hm (h.1 rfl) ha⟩
  · exact h.elim
theorem sound_unop {op : UnOp} {x : PV} {u : Value} (h : aunop op x m K) (hm : MemSim Γ m w) (hx : VRep Γ w x u) : ∃ v, (Op.unary op u).run P w = .ok v w ∧ Then Γ w K v w := by
  unfold aunop at h
  split at h
  · replace hx : u = _ := hx; subst hx; exact ⟨_, rfl, .same hm h rfl⟩
  · replace hx : u = _ := hx; subst hx; exact ⟨_, rfl, .same hm h rfl⟩
  · exact h.elim
theorem sound_convert {s d : TypeId} {x : PV} {u : Value} (h : aconvert P s d x m K) (hm : MemSim Γ m w) (hx : VRep Γ w x u) : ∃ v, (convert s d u).run P w = .ok v w ∧ Then Γ w K v w := by
  unfold aconvert at h
  split at h
  · rename_i k' n k hk
    replace hx : u = _ := hx
    subst hx
    obtain ⟨ds, hs⟩ := tinfo_und h.1
    refine ⟨.int k (k.wrap n), ?_, .same hm h.2 rfl⟩
    simp [convert, run_underlying hs, run_underlying (tkind_und hk), Conv.intToInt]
  · exact h.elim
theorem run_eqGuard_bool (op : BinOp) (t : TypeId) (x y : Operand) (a b : Value) (h1 : ∀ (_ : a = .nilIface) (_ : b = .nilIface), False) (h2 : ∀ us vs, a = .agg us → b = .agg vs → False) : (eqGuard op t x y a b).run P w = .ok () w := by
  unfold eqGuard
  cases op <;> first
    | rfl
    | (simp only [Bool.not_true, Bool.false_eq_true, if_false]
       first
       | rfl
       | (split
          · exact (h1 rfl rfl).elim
          · exact (h2 _ _ rfl rfl).elim
          · rfl))
theorem abin_plain {op : BinOp} {a b r : Value} (h : abin op a b = some r) : (∀ (_ : a = .nilIface) (_ : b = .nilIface), False) ∧ (∀ us vs, a = .agg us → b = .agg vs → False) := by
  refine ⟨?_, ?_⟩
  · intro h1 h2; subst h1 h2; cases op <;> simp [abin] at h
  · intro us vs h1 h2; subst h1 h2; cases op <;> simp [abin] at h
theorem sound_binop {op : BinOp} {t : TypeId} {x y : PV} {ox oy : Operand} {u v : Value} (h : abinop P op t x y m K) (hm : MemSim Γ m w) (hx : VRep Γ w x u) (hy : VRep Γ w y v) :
    ∃ r, (do eqGuard op t ox oy u v; binOp op t u v : Sem Value).run P w = .ok r w ∧ Then Γ w K r w := by
  unfold abinop at h
  split at h
  · rename_i a b
    replace hx : u = .bool a := hx
    replace hy : v = .bool b := hy
    subst hx hy
    obtain ⟨ht, h⟩ := h
    have hd := tbool_und ht
    have hg := run_eqGuard_bool (P := P) (w := w) op t ox oy (.bool a) (.bool b) (by simp) (by simp)
    split at h
    · refine ⟨.bool (a == b), ?_, .same hm h rfl⟩
      simp only [Sem.run_bind, hg, Result.andThen_ok, run_eql_bool w t a b hd]
    · refine ⟨.bool (!(a == b)), ?_, .same hm h rfl⟩
      simp only [Sem.run_bind, hg, Result.andThen_ok, run_neq_bool w t a b hd]
    · exact h.elim
  · rename_i a b _
    replace hx : u = a := hx
    replace hy : v = b := hy
    subst hx hy
    cases hr : abin op u v with
    | none => simp [hr] at h
    | some r =>
      simp only [hr] at h
      obtain ⟨h1, h2⟩ := abin_plain hr
      refine ⟨r, ?_, .same hm h rfl⟩
      simp only [Sem.run_bind, run_eqGuard_bool (P := P) (w := w) op t ox oy u v h1 h2, Result.andThen_ok, run_abin hr]
  · rename_i o rows
    replace hy : v = .slice none 0 0 := hy
    subst hy
    obtain ⟨a, cap, rfl, h1, h2, h3, h4⟩ := hx
    obtain ⟨ht, h⟩ := h
    obtain ⟨e, he⟩ := Option.isSome_iff_exists.1 ht
    have hd := telem_und he
    have hg := run_eqGuard_bool (P := P) (w := w) op t ox oy (.slice a rows.length cap) (.slice none 0 0) (by simp) (by simp)
    have hnil : a.isNone = true → rows = [] := fun ha => by
      have : a = none := by simpa using ha
      have := h2 this
      exact List.eq_nil_of_length_eq_zero (by omega)
    split at h
    · refine ⟨.bool a.isNone, ?_, .same hm (h a.isNone hnil) rfl⟩
      simp only [Sem.run_bind, hg, Result.andThen_ok, binOp, run_equal_slice_nil w t e a _ cap hd, Sem.run_pure]
    · refine ⟨.bool (!a.isNone), ?_, .same hm (h (!a.isNone) (fun q => hnil (by simpa using q))) rfl⟩
      simp only [Sem.run_bind, hg, Result.andThen_ok, binOp, run_equal_slice_nil w t e a _ cap hd, Sem.run_pure]
    · exact h.elim
  · exact h.elim
end
end Go.Ab
namespace Go.Ab
open Go.RowKit
section
variable {P : Program} {m : St} {K Kp : PV → St → Prop} {Γ : Ctx} {w : World}
theorem newVar_run (t : TypeId) (v : Value) (w : World) : (newVar t v).run P w = .ok ⟨w.heap.size, 0, none⟩ (w.alloc (.cells v.cells t)) := rfl
theorem sound_box {e : TypeId} {x : PV} {u : Value} {cs : List PV} (hc : cells1 x = some cs) (h : K (.loc m.nloc 0) (m.newLoc cs)) (hm : MemSim Γ m w) (hx : VRep Γ w x u) :
    Then Γ w K (.pointer (some ⟨w.heap.size, 0, none⟩)) (w.alloc (.cells u.cells e)) := by
  obtain ⟨h1, h2⟩ := cells1_rep hc hx
  obtain ⟨h3, h4⟩ := hm.newLoc h1 h2 e
  refine ⟨_, _, _, h, ⟨by show m.nloc < Γ.nloc + 1; rw [hm.nloc]; omega, ?_⟩, Ctx.le_newLoc Γ _, h4, h3⟩
  show _ = Value.pointer (some ⟨upd Γ.loc Γ.nloc w.heap.size m.nloc, 0, none⟩)
  rw [hm.nloc, upd_same]
theorem zOK_spec {z : Value} (h : zOK z = true) : ∀ u ∈ z.cells.toList, u.oneCell' = true := by
  exact List.all_eq_true.1 h
theorem sound_alloc {e : TypeId} {z : Value} (hz : tzero P e = some z) (h1 : zOK z = true) (h : K (.loc m.nloc 0) (m.newLoc (zcells z))) (hm : MemSim Γ m w) :
    ∃ v w', (Instr.alloc e true (.tuple #[])).run P w = .ok v w' ∧ Then Γ w K v w' := by
  obtain ⟨h3, h4⟩ := hm.newLoc (us := z.cells) (ofVs_rep Γ w z.cells.toList) (zOK_spec h1) e
  refine ⟨.pointer (some ⟨w.heap.size, 0, none⟩), w.alloc (.cells z.cells e), ?_, ⟨_, _, _, h, ⟨by show m.nloc < Γ.nloc + 1; rw [hm.nloc]; omega, ?_⟩, Ctx.le_newLoc Γ _, h4, h3⟩⟩
  · simp only [Instr.alloc, Sem.run_bind, run_zero hz, Result.andThen_ok, newVar_run, Sem.run_pure]
  · show _ = Value.pointer (some ⟨upd Γ.loc Γ.nloc w.heap.size m.nloc, 0, none⟩)
    rw [hm.nloc, upd_same]
theorem sound_store {t : TypeId} {x y : PV} {u v : Value} (h : astore P t x y m K) (hm : MemSim Γ m w) (hx : VRep Γ w x u) (hy : VRep Γ w y v) :
    ∃ w', (Instr.storeAt t u v).run P w = .ok () w' ∧ Then Γ w K undef w' := by
  obtain ⟨ht, h⟩ := h
  split at h
  · rename_i n off xs hc
    obtain ⟨hn, rfl⟩ := hx
    cases hl : m.loc n with
    | none => simp [hl] at h
    | some cs =>
      simp only [hl] at h
      obtain ⟨hn', hlen, hfit, hk⟩ := h
      obtain ⟨h1, h2⟩ := cells1_rep hc hy
      obtain ⟨c, hb, hr, h3⟩ := hm.locs n cs hn' hl
      obtain ⟨h4, h5⟩ := hm.setLoc (off := off) hn' hl h1 h2 (by omega)
      have hvl : v.cells.toList.length = tsize P t := by rw [LRep.len _ _ h1, hlen]
      have hcl := LRep.len _ _ hr
      refine ⟨_, ?_, ⟨.any, _, Γ, hk, trivial, Ctx.le.refl _, h5, h4⟩⟩
      have hst := run_storeCells_cells (P := P) (Γ.loc n) off v.cells.toList 0 w (fun j hj => by
          show (cellAt w (Γ.loc n) (off + 0 + j)).isSome = true
          rw [cellAt_blk hb (by omega), List.getElem?_eq_getElem (by omega)]; rfl) (fun j hj => hb.frozen _) h2
      simp only [Instr.storeAt, Sem.run_bind, sureAddr_run, Result.andThen_ok, storeVar, run_size ht]
      have hvs : v.cells.size = tsize P t := by simpa using hvl
      simp only [hvs, ne_eq, not_true_eq_false, if_false]
      simpa using hst
  · exact h.elim
theorem foldl_setL (off : Nat) : ∀ (us : List Value) (k : Nat) (cells : Array Value), ((us.zipIdx k).foldl (fun cs x => cs.setIfInBounds (off + x.2) x.1) cells).toList = setL cells.toList (off + k) us
  | [], k, cells => rfl
  | u :: us, k, cells => by
    rw [List.zipIdx_cons, List.foldl_cons, foldl_setL off us (k + 1)]
    simp [setL, Nat.add_assoc]
theorem LRep.stripL {cs : List PV} {us : List Value} (h : LRep Γ w cs us) : LRep Γ w (PV.stripL cs) us := LRep.strip cs us h
theorem LRep.set {cs : List PV} : ∀ {c : List Value} {i : Nat} {x : PV} {u : Value}, LRep Γ w cs c → VRep Γ w x u → LRep Γ w (cs.set i x) (c.set i u) := by
  induction cs with
  | nil => intro c i x u h1 _; rw [h1]; rfl
  | cons y cs ih =>
    intro c i x u h1 h2
    obtain ⟨v, c', rfl, h3, h4⟩ := h1
    cases i with
    | zero => exact ⟨u, c', rfl, h2, h4⟩
    | succ i => exact ⟨v, c'.set i u, rfl, h3, ih h4 h2⟩
theorem LRep.setL : ∀ {xs : List PV} {us : List Value} {cs : List PV} {c : List Value} {i : Nat}, LRep Γ w cs c → LRep Γ w xs us → LRep Γ w (Ab.setL cs i xs) (Ab.setL c i us)
  | [], us, cs, c, i, h1, h2 => by rw [h2]; exact h1
  | x :: xs, us, cs, c, i, h1, h2 => by
    obtain ⟨u, us', rfl, h3, h4⟩ := h2
    show LRep Γ w (Ab.setL (cs.set i x) (i + 1) xs) (Ab.setL (c.set i u) (i + 1) us')
    exact LRep.setL (LRep.set h1 h3) h4
theorem fill_sound {place place' : Nat → Option (Nat × Nat)} (hp : ∀ i q, place i = some q → place' i = some q) : ∀ (parts : List (Nat × PV)) (vparts : List (Nat × Value)) (cs cs' : List PV) (c : Array Value),
    parts.length = vparts.length → (∀ (k : Nat) (x : Nat × PV) (y : Nat × Value), parts[k]? = some x → vparts[k]? = some y → x.1 = y.1 ∧ VRep Γ w x.2 y.2) →
    LRep Γ w cs c.toList → (∀ u ∈ c.toList, u.oneCell' = true) → afill place parts cs = some cs' →
    ∃ c', Instr.fill place' c vparts = some c' ∧ LRep Γ w cs' c'.toList ∧ (∀ u ∈ c'.toList, u.oneCell' = true) ∧ c'.size = c.size
  | [], vparts, cs, cs', c, hl, hv, hr, h1, h => by
    cases vparts with
    | cons _ _ => simp at hl
    | nil => simp only [afill, Option.some.injEq] at h; subst h; exact ⟨c, rfl, hr, h1, rfl⟩
  | (i, x) :: rest, vparts, cs, cs', c, hl, hv, hr, h1, h => by
    cases vparts with
    | nil => simp at hl
    | cons y vrest =>
      obtain ⟨j, v⟩ := y
      obtain ⟨hij, hx⟩ := hv 0 (i, x) (j, v) rfl rfl
      simp only at hij hx
      subst hij
      simp only [afill] at h
      split at h
      · rename_i off size xs hpl hc
        split at h
        · rename_i hcond
          obtain ⟨hx1, hx2⟩ := cells1_rep hc hx
          have hlen : v.cells.toList.length = size := by rw [LRep.len _ _ hx1, hcond.1]
          have hcl : c.toList.length = cs.length := LRep.len _ _ hr
          have hvs : v.cells.size = size := by simpa using hlen
          have hcs : c.size = cs.length := by simpa using hcl
          have hfold : (v.cells.zipIdx.foldl (fun cs (x : Value × Nat) => cs.setIfInBounds (off + x.2) x.1) c).toList = Ab.setL c.toList off v.cells.toList := by
            rw [← Array.foldl_toList, Array.toList_zipIdx]
            exact foldl_setL off _ 0 c
          obtain ⟨c', h3, h4, h5, h6⟩ := fill_sound hp rest vrest _ cs' (v.cells.zipIdx.foldl (fun cs (x : Value × Nat) => cs.setIfInBounds (off + x.2) x.1) c) (by simpa using hl)
            (fun k x y a b => hv (k + 1) x y a b) (by rw [hfold]; exact LRep.setL hr (LRep.stripL hx1)) (by rw [hfold]; exact setL_all _ _ _ hx2 h1) h
          refine ⟨c', ?_, h4, h5, ?_⟩
          · simp only [Instr.fill, hp _ _ hpl]
            rw [if_neg]
            · exact h3
            · simp only [hvs, ne_eq, not_true_eq_false, decide_false, Bool.false_or, decide_eq_true_eq]
              omega
          · rw [h6]
            have := congrArg List.length hfold
            simpa [setL_length] using this
        · cases h
      · cases h
theorem mapM_places : ∀ (fs : List Field), fs.all (fun f => tinfo P f.type) = true → fs.mapM (fun f => (P.info? f.type).map fun i => (f.offset, i.size)) = some (fs.map fun f => (f.offset, tsize P f.type))
  | [], _ => rfl
  | f :: fs, h => by
    simp only [List.all_cons, Bool.and_eq_true] at h
    obtain ⟨i, hi⟩ := tinfo_info h.1
    simp [List.mapM_cons, hi, mapM_places fs h.2, tsize, Program.cellsOf]
theorem sound_build {t : TypeId} {parts : List (Nat × PV)} {vparts : Array (Nat × Value)} (h : abuild P t parts m K) (hm : MemSim Γ m w) (hl : parts.length = vparts.toList.length)
    (hv : ∀ (k : Nat) (x : Nat × PV) (y : Nat × Value), parts[k]? = some x → vparts.toList[k]? = some y → x.1 = y.1 ∧ VRep Γ w x.2 y.2) :
    ∃ v, (Instr.build t vparts).run P w = .ok v w ∧ Then Γ w K v w := by
  unfold abuild at h
  cases hz : tzero P t with
  | none => simp [hz] at h
  | some z =>
    simp only [hz] at h
    obtain ⟨ht, h1, h⟩ := h
    have hz1 := zOK_spec h1
    obtain ⟨i, hi⟩ := tinfo_info ht
    have hiz : i.zero = some z := by simpa [tzero, hi] using hz
    have hzr : LRep Γ w (zcells z) z.cells.toList := ofVs_rep Γ w _
    rcases h with ⟨hf, h⟩ | ⟨n, e, ha, he, h⟩
    · cases hfl : afill (tplace P t) parts (zcells z) with
      | none => simp [hfl] at h
      | some cs =>
        simp only [hfl] at h
        unfold tfok at hf
        split at hf
        · rename_i fs hd
          have hpl := mapM_places (P := P) fs.toList (by rw [Array.all_toList]; exact hf)
          obtain ⟨c', h3, h4, _, _⟩ := fill_sound (Γ := Γ) (w := w) (place := tplace P t) (place' := fun i => (fs.toList.map fun f => (f.offset, tsize P f.type)).toArray[i]?) (fun i q hq => by
              unfold tplace tfield at hq
              simp only [hd] at hq
              cases hg : fs[i]? with
              | none => simp [hg] at hq
              | some f =>
                simp only [hg, Option.map_some] at hq
                split at hq
                · cases hq; simp [hg]
                · cases hq) parts vparts.toList (zcells z) cs z.cells hl hv hzr hz1 hfl
          refine ⟨_, run_build w t vparts c' ?_, .same hm h ⟨_, rfl, h4⟩⟩
          simp only [Program.built, hi, hd, hiz, hpl]
          exact h3
        · cases hf
    · cases hfl : afill (aplace P t) parts (zcells z) with
      | none => simp [hfl] at h
      | some cs =>
        simp only [hfl] at h
        have hd := tarr_und ha
        obtain ⟨ie, hie⟩ := tinfo_info he
        have hsz : ie.size = tsize P e := by simp [tsize, Program.cellsOf, hie]
        obtain ⟨c', h3, h4, _, _⟩ := fill_sound (Γ := Γ) (w := w) (place := aplace P t) (place' := fun i => some (i * ie.size, ie.size)) (fun i q hq => by
            unfold aplace at hq
            simp only [ha] at hq
            rw [hsz]; exact hq) parts vparts.toList (zcells z) cs z.cells hl hv hzr hz1 hfl
        refine ⟨_, run_build w t vparts c' ?_, .same hm h ⟨_, rfl, h4⟩⟩
        simp only [Program.built, hi, hd, hiz, hie]
        exact h3
theorem zrow_rep {z : Value} (hpos : 0 < (zcells z).length) (n : Nat) : LRep Γ w (zrow (zcells z) n) ((Array.range n).map (z.cells[· % z.cells.size]!)).toList ∧ (zOK z = true → ∀ u ∈ ((Array.range n).map (z.cells[· % z.cells.size]!)).toList, u.oneCell' = true) := by
  have hlen : (zcells z).length = z.cells.size := by simp [zcells]
  have hp : 0 < z.cells.size := by omega
  have e : ((Array.range n).map (z.cells[· % z.cells.size]!)).toList = (List.range n).map (z.cells[· % z.cells.size]!) := by simp
  rw [e]
  constructor
  · unfold zrow
    generalize List.range n = l
    induction l with
    | nil => rfl
    | cons i l ih =>
      refine ⟨_, _, rfl, ?_, ih⟩
      have hlt : i % z.cells.size < z.cells.size := Nat.mod_lt _ hp
      have : (zcells z).getD (i % (zcells z).length) .any = ofV (z.cells[i % z.cells.size]!) := by
        rw [hlen]
        simp [zcells, List.getD, hlt]
      show VRep Γ w ((zcells z).getD (i % (zcells z).length) .any) (z.cells[i % z.cells.size]!)
      rw [this]
      exact ofV_rep Γ w _
  · intro hz u hu
    obtain ⟨i, _, rfl⟩ := List.mem_map.1 hu
    have hlt : i % z.cells.size < z.cells.size := Nat.mod_lt _ hp
    refine zOK_spec hz _ ?_
    simp [hlt]
theorem afill_length : ∀ (place : Nat → Option (Nat × Nat)) (parts : List (Nat × PV)) (cs cs' : List PV), afill place parts cs = some cs' → cs'.length = cs.length
  | _, [], cs, cs', h => by simp only [afill, Option.some.injEq] at h; rw [h]
  | place, (i, x) :: rest, cs, cs', h => by
    simp only [afill] at h
    split at h
    · split at h
      · rw [afill_length place rest _ _ h, setL_length]
      · cases h
    · cases h
theorem sound_buildSlice {t : TypeId} {len : Nat} {parts : List (Nat × PV)} {vparts : Array (Nat × Value)} (h : abuildSlice P t len parts m K) (hm : MemSim Γ m w) (hl : parts.length = vparts.toList.length)
    (hv : ∀ (k : Nat) (x : Nat × PV) (y : Nat × Value), parts[k]? = some x → vparts.toList[k]? = some y → x.1 = y.1 ∧ VRep Γ w x.2 y.2) :
    ∃ v w', (Instr.buildSlice t len vparts).run P w = .ok v w' ∧ Then Γ w K v w' := by
  unfold abuildSlice at h
  cases he : telem P t with
  | none => simp [he] at h
  | some e =>
    simp only [he] at h
    obtain ⟨ht, hfit, h⟩ := h
    have hd := telem_und he
    cases hz : tzero P e with
    | none => simp [hz] at h
    | some z =>
      simp only [hz] at h
      obtain ⟨hz1, hpos, h⟩ := h
      cases hfl : afill (fun i => some (i * tsize P e, tsize P e)) parts (zrow (zcells z) (len * tsize P e)) with
      | none => simp [hfl] at h
      | some cs =>
        simp only [hfl] at h
        obtain ⟨hr, h1⟩ := zrow_rep (Γ := Γ) (w := w) hpos (len * tsize P e)
        obtain ⟨c', h3, h4, h5, h6⟩ := fill_sound (Γ := Γ) (w := w) (place := fun i => some (i * tsize P e, tsize P e)) (place' := fun i => some (i * tsize P e, tsize P e)) (fun _ _ h => h) parts vparts.toList _ cs _ hl hv hr (h1 hz1) hfl
        have hcl : cs.length = len * tsize P e := by rw [afill_length _ _ _ _ hfl]; simp [zrow]
        obtain ⟨h7, h8, h9⟩ := hm.newImm h4 h5 e
        refine ⟨.slice (some ⟨w.heap.size, 0, none⟩) len len, w.alloc (.cells c' e), ?_, ⟨_, m, _, h, ?_, Ctx.le_newImm Γ _ _ hm.base, h8, h7⟩⟩
        · simp only [Instr.buildSlice, Sem.run_bind, run_underlying hd, Result.andThen_ok, run_size ht]
          rw [if_neg (by omega)]
          by_cases h0 : len * tsize P e = 0
          · have hz0 : (Array.range (len * tsize P e)).map ((#[] : Array Value)[· % (#[] : Array Value).size]!) = (Array.range (len * tsize P e)).map (z.cells[· % z.cells.size]!) := by rw [h0]; simp
            rw [if_pos h0]
            simp only [Sem.run_bind, Sem.run_pure, Result.andThen_ok, hz0, h3, newRow, newObj, Sem.run]
            rfl
          · rw [if_neg h0]
            simp only [Sem.run_bind, run_zero hz, Sem.run_pure, Result.andThen_ok, h3, newRow, newObj, Sem.run]
            rfl
        · refine ⟨some ⟨w.heap.size, 0, none⟩, len, by rw [chunk_length], by rw [chunk_length]; exact Nat.le_refl _, (fun q => by cases q), ?_, by rw [chunk_length]⟩
          intro ad hq
          cases hq
          exact ⟨.inr rfl, (SRep.flat _ _ _).2 (by rw [chunk_flatten _ _ _ hcl]; exact h9)⟩
end
end Go.Ab
namespace Go.Ab
open Go.RowKit
section
variable {P : Program} {m : St} {K Kp : PV → St → Prop} {Γ : Ctx} {w : World}
theorem RowsW.flat {s : Nat} : ∀ {rows : List (List PV)}, RowsW s rows → rows.flatten.length = rows.length * s
  | [], _ => by simp
  | r :: rs, h => by
    have h1 : r.length = s := h r (by simp)
    have h2 := RowsW.flat (rows := rs) (fun x hx => h x (by simp [hx]))
    simp only [List.flatten_cons, List.length_append, h1, h2, List.length_cons, Nat.add_mul]; omega
theorem rows_read {rows : List (List PV)} {s : Nat} {b off : Nat} (hw : RowsW s rows) (h : SRep Γ w rows b off) :
    ∃ us : List Value, us.length = rows.length * s ∧ LRep Γ w rows.flatten us ∧ (∀ u ∈ us, u.oneCell' = true) ∧ (∀ (i : Nat) (u : Value), us[i]? = some u → w.cell? ((⟨b, off, none⟩ : Addr).add i) = some u) := by
  obtain ⟨us, h1, h2, h3⟩ := cells_of_read ((SRep.flat rows b off).1 h)
  refine ⟨us, by rw [h1, hw.flat], h2, fun u hu => ?_, fun i u hu => by rw [add_addr]; exact (h3 i u hu).1⟩
  obtain ⟨i, hi, e⟩ := List.getElem_of_mem hu
  exact (h3 i u (by rw [List.getElem?_eq_getElem hi, e])).2.1
theorem rows_read' {rows : List (List PV)} {s : Nat} {ad : Addr} (hw : RowsW s rows) (hs : rows.length = 0 ∨ ad.spot = none) (h : SRep Γ w rows ad.block ad.off) :
    ∃ us : List Value, us.length = rows.length * s ∧ LRep Γ w rows.flatten us ∧ (∀ u ∈ us, u.oneCell' = true) ∧ (∀ (i : Nat) (u : Value), us[i]? = some u → w.cell? (ad.add i) = some u) := by
  obtain ⟨b, off, sp⟩ := ad
  rcases hs with h0 | hs
  · have : rows = [] := List.eq_nil_of_length_eq_zero h0
    subst this
    exact ⟨[], by simp, rfl, by simp, fun i u hu => by simp at hu⟩
  · simp only at hs h
    subst hs
    exact rows_read hw h
theorem stripR_flatten : ∀ rows : List (List PV), (PV.stripR rows).flatten = PV.stripL rows.flatten
  | [] => rfl
  | r :: rs => by
    have : ∀ (a b : List PV), PV.stripL (a ++ b) = PV.stripL a ++ PV.stripL b := by
      intro a b; induction a with
      | nil => rfl
      | cons x a ih => simp [PV.stripL, ih]
    simp [PV.stripR, this, stripR_flatten rs]
theorem grownCap_ge (w : World) (need old : Nat) (e : TypeId) : need ≤ grownCap w need old e := by
  show need ≤ need + _ % (2 ^ 63 - need)
  exact Nat.le_add_right _ _
theorem zeroCells_size (z : Array Value) (n : Nat) : (Builtin.zeroCells z n).size = n * z.size := by simp [Builtin.zeroCells]
theorem append_new {e : TypeId} {o : Own} {rows news : List (List PV)} {s cap' : Nat} {olds nws : List Value} {rest : Array Value} (hm : MemSim Γ m w)
    (h1 : RowsW s rows) (h2 : RowsW s news) (ho : LRep Γ w rows.flatten olds) (hn : LRep Γ w news.flatten nws) (ho1 : ∀ u ∈ olds, u.oneCell' = true) (hn1 : ∀ u ∈ nws, u.oneCell' = true)
    (hcap : rows.length + news.length ≤ cap') (hrest : rest.size = (cap' - (rows.length + news.length)) * s) (hq : 0 < news.length)
    (h : ∀ o' m', AppRes s m o rows.length news.length o' m' → K (.list o' (rows ++ PV.stripR news)) m') :
    Then Γ w K (.slice (some ⟨w.heap.size, 0, none⟩) (rows.length + news.length) cap') (w.drew.alloc (.cells (olds.toArray ++ nws.toArray ++ rest) e)) := by
  obtain ⟨hmd, hkd⟩ := hm.drew
  have ho' := LRep.mono (Ctx.le.refl Γ) hkd _ _ ho
  have hn' := LRep.mono (Ctx.le.refl Γ) hkd _ _ (LRep.strip _ _ hn)
  have hol : olds.length = rows.length * s := by rw [LRep.len _ _ ho, h1.flat]
  have hnl : nws.length = news.length * s := by rw [LRep.len _ _ hn, h2.flat]
  have htl : (olds.toArray ++ nws.toArray ++ rest).toList = olds ++ nws ++ rest.toList := by simp
  have htake : (olds.toArray ++ nws.toArray ++ rest).toList.take ((rows.length + news.length) * s) = olds ++ nws := by
    rw [htl, List.take_left' (by simp [hol, hnl, Nat.add_mul])]
  have hsz : (olds.toArray ++ nws.toArray ++ rest).size = cap' * s := by
    simp only [Array.size_append, List.size_toArray, hol, hnl, hrest]
    rw [← Nat.add_mul, ← Nat.add_mul]; congr 1; omega
  have hall : LRep Γ w.drew (rows.flatten ++ PV.stripL news.flatten) (olds ++ nws) := LRep.append _ _ _ _ ho' hn'
  obtain ⟨h3, h4, h5⟩ := hmd.newTok (us := olds.toArray ++ nws.toArray ++ rest) (n := rows.length + news.length) (cap := cap') (width := s) (cs := rows.flatten ++ PV.stripL news.flatten) (by rw [htake]; exact hall)
    (by rw [htake]; intro u hu; rcases List.mem_append.1 hu with hu | hu; exact ho1 u hu; exact hn1 u hu) hsz hcap e
  refine ⟨.list (.tok m.ntok) (rows ++ PV.stripR news), m.newTok (rows.length + news.length) s, _, h _ _ (.inr (.inl ⟨hq, rfl, rfl⟩)), ?_, Ctx.le_newTok Γ w.heap.size _ cap' s hm.base, hkd.trans (Ctx.le.refl _) h4, h3⟩
  have hll : (rows ++ PV.stripR news).length = rows.length + news.length := by simp [PV.stripR_length]
  refine ⟨some ⟨w.heap.size, 0, none⟩, cap', by rw [hll], by rw [hll]; exact hcap, (fun q => by cases q), ?_, ?_⟩
  · intro ad hq
    cases hq
    refine ⟨.inr rfl, (SRep.flat _ _ _).2 ?_⟩
    rw [List.flatten_append, stripR_flatten]
    exact h5
  · refine ⟨by show m.ntok < Γ.ntok + 1; rw [hm.ntok]; omega, ?_, ?_⟩
    · show _ ≤ upd Γ.top Γ.ntok (rows.length + news.length) m.ntok
      rw [hm.ntok, upd_same, hll]; exact Nat.le_refl _
    · intro _
      show some (⟨w.heap.size, 0, none⟩ : Addr) = some ⟨upd Γ.tok Γ.ntok w.heap.size m.ntok, 0, none⟩ ∧ cap' = upd Γ.cp Γ.ntok cap' m.ntok
      rw [hm.ntok, upd_same, upd_same]; exact ⟨rfl, rfl⟩
theorem sound_append {ts : Array TypeId} {ty : TypeId} {x y : PV} {u v : Value} (h : aappend P ts.toList x y m K) (hm : MemSim Γ m w) (hx : VRep Γ w x u) (hy : VRep Γ w y v) :
    ∃ r w', (Builtin.append_ ts ty #[u, v]).run P w = .ok r w' ∧ Then Γ w K r w' := by
  unfold aappend at h
  split at h
  · rename_i t t' o rows o2 news h0
    obtain ⟨rfl, h⟩ := h
    have hte : ts = #[t, t] := by
      rw [← Array.toArray_toList (xs := ts), h0]
    subst hte
    cases he : telem P t with
    | none => simp [he] at h
    | some e =>
      simp only [he] at h
      obtain ⟨ht, hz, hs, hw1, hw2, hby, h62, hok, h⟩ := h
      have hd := telem_und he
      obtain ⟨i, hi⟩ := tinfo_info ht
      have hsz : i.size = tsize P e := by simp [tsize, Program.cellsOf, hi]
      have hbt : i.bytes = tbytes P e := by simp [tbytes, Program.bytesOf, hi]
      obtain ⟨z, hz1, hz2⟩ : ∃ z, tzero P e = some z ∧ z.cells.size = tsize P e := by
        cases hq : tzero P e with
        | none => simp [hq] at hz
        | some z => simp [hq] at hz; exact ⟨z, rfl, hz⟩
      have hiz : i.zero = some z := by simpa [tzero, hi] using hz1
      obtain ⟨a, cap, rfl, a1, a2, a3, a4⟩ := hx
      obtain ⟨b, cap2, rfl, b1, b2, b3, b4⟩ := hy
      by_cases hq : news.length = 0
      · -- nothing is appended
        have hn : news = [] := List.eq_nil_of_length_eq_zero hq
        subst hn
        have hk := h o m (.inl ⟨rfl, rfl, rfl⟩)
        simp only [PV.stripR, List.append_nil] at hk
        refine ⟨.slice a rows.length cap, w, ?_, .same hm hk ⟨a, cap, rfl, a1, a2, a3, a4⟩⟩
        have hfc : (Builtin.firstCells i.size 0 (.slice b 0 cap2)).run P w = .ok #[] w := by
          cases b <;> simp [Builtin.firstCells, loadCells, loadCellsFrom]
        cases a <;> simp [Builtin.append_, run_underlying hd, sizeOf, typeInfo, hi, Builtin.lenOf, a1, hfc, storeCells]
      · have hpos : 0 < news.length := by omega
        cases b with
        | none => have := b2 rfl; omega
        | some bd =>
          obtain ⟨hsb, hsr⟩ := b3 bd rfl
          replace hsb := hsb.resolve_left (by omega)
          obtain ⟨bb, boff, bs⟩ := bd
          simp only at hsb hsr
          subst hsb
          obtain ⟨nws, n1, n2, n3, n4⟩ := rows_read hw2 hsr
          by_cases hroom : rows.length + news.length ≤ cap
          · -- there is room
            cases a with
            | none => have := a2 rfl; omega
            | some ad =>
              cases o with
              | no => exact hok.elim
              | full => have : cap = rows.length := a4; omega
              | tok k =>
                obtain ⟨k1, k2, k3, k4⟩ := hok
                obtain ⟨_, _, a6⟩ := a4
                have htop := hm.top k k1
                obtain ⟨hada, hcp⟩ := a6 (by rw [htop.1, k2])
                obtain ⟨hsa, hra⟩ := a3 ad rfl
                cases hada
                have hwd : Γ.wd k = tsize P e := by rw [htop.2, k3]
                have htp : Γ.top k = rows.length := by rw [htop.1, k2]
                have hlv : m.top k < DEAD := by rw [k2]; show rows.length < 4611686018427387904; omega
                obtain ⟨c, hblk, hcl⟩ := hm.toks k k1 hlv
                obtain ⟨g1, g2, g3, g4⟩ := hm.growTok (k := k) (q := news.length) (cs := rows.flatten) (xs := PV.stripL news.flatten) (us := nws) k1 hlv k4 ((SRep.flat _ _ _).1 hra) (by rw [hw1.flat, htp, hwd])
                  (LRep.strip _ _ n2) n3 (by rw [n1, hwd]) (by rw [htp, ← hcp]; exact hroom) hpos
                have hrun := run_append_room_cells (P := P) (w := w) t ty e i hd hi (Γ.tok k) 0 rows.length cap ⟨bb, boff, none⟩ news.length cap2 nws (by rw [n1, hsz]) n4 n3 hroom
                  (fun j hj => by
                    show (cellAt w (Γ.tok k) (0 + rows.length * i.size + j)).isSome = true
                    have hlt : 0 + rows.length * i.size + j < c.length := by
                      rw [hcl, hwd, hsz, ← hcp]
                      have : (rows.length + news.length) * tsize P e ≤ cap * tsize P e := Nat.mul_le_mul_right _ hroom
                      rw [Nat.add_mul] at this; rw [n1] at hj; omega
                    rw [cellAt_blk hblk hlt, List.getElem?_eq_getElem hlt]; rfl)
                  (fun j hj => hblk.frozen _)
                refine ⟨_, _, hrun, ⟨.list (.tok k) (rows ++ PV.stripR news), m.growTok k news.length, _, h _ _ (.inr (.inr ⟨hpos, k, rfl, rfl, rfl⟩)), ?_, g1, ?_, ?_⟩⟩
                · have hll : (rows ++ PV.stripR news).length = rows.length + news.length := by simp [PV.stripR_length]
                  refine ⟨some ⟨Γ.tok k, 0, none⟩, cap, by rw [hll], by rw [hll]; exact hroom, (fun q => by cases q), ?_, ?_⟩
                  · intro ad hq
                    cases hq
                    refine ⟨.inr rfl, (SRep.flat _ _ _).2 ?_⟩
                    rw [List.flatten_append, stripR_flatten]
                    rw [htp, hwd, ← hsz] at g4
                    simpa using g4
                  · refine ⟨by show k < Γ.ntok; rw [hm.ntok]; exact k1, ?_, fun _ => ⟨rfl, hcp⟩⟩
                    show _ ≤ upd Γ.top k (Γ.top k + news.length) k
                    rw [upd_same, hll, htp]; exact Nat.le_refl _
                · rw [htp, hwd, ← hsz] at g3; simpa using g3
                · rw [htp, hwd, ← hsz] at g2; simpa using g2
          · -- the array is made anew
            have hfit : Builtin.nextslicecap (rows.length + news.length) cap * i.bytes ≤ 281474976710656 := by
              have h1 := nextslicecap_le (need := rows.length + news.length) (old := cap) (by omega)
              have h2 : Builtin.nextslicecap (rows.length + news.length) cap * i.bytes ≤ 2 * (rows.length + news.length) * i.bytes := Nat.mul_le_mul_right _ h1
              rw [hbt] at h2 ⊢
              rw [Nat.mul_assoc] at h2
              omega
            have hrest : ∀ k, (Builtin.zeroCells z.cells k).size = k * tsize P e := fun k => by rw [zeroCells_size, hz2]
            cases a with
            | none =>
              have hc0 := a2 rfl
              subst hc0
              have hr0 : rows = [] := List.eq_nil_of_length_eq_zero (by omega)
              subst hr0
              have hrun := run_append_nil w t ty e i z hd hi hiz ⟨bb, boff, none⟩ news.length cap2 nws (by rw [n1, hsz]) n4 hpos (by omega) (by rw [hbt]; simp at hby; omega)
              have happ := append_new (e := e) (o := o) (rows := []) (news := news) (s := tsize P e) (cap' := grownCap w news.length 0 e) (olds := []) (nws := nws) (rest := Builtin.zeroCells z.cells (grownCap w news.length 0 e - news.length)) hm hw1 hw2 rfl n2 (by simp) n3
                (by have := grownCap_ge w news.length 0 e; simpa using this) (by simpa using hrest _) hpos h
              refine ⟨_, _, hrun, ?_⟩
              simpa using happ
            | some ad =>
              obtain ⟨hsa, hra⟩ := a3 ad rfl
              obtain ⟨olds, o1, o2', o3, o4⟩ := rows_read' hw1 (hsa.imp (fun q => by omega) id) hra
              have hrun := run_append_grow w t ty e i z hd hi hiz ad rows.length cap olds (by rw [o1, hsz]) o4 ⟨bb, boff, none⟩ news.length cap2 nws (by rw [n1, hsz]) n4 (by omega) (by omega) hfit
              refine ⟨_, _, hrun, ?_⟩
              exact append_new (e := e) hm hw1 hw2 o2' n2 o3 n3 (grownCap_ge _ _ _ _) (hrest _) hpos h
  · exact h.elim
end
end Go.Ab
namespace Go.Ab
open Go.RowKit
section
variable {P : Program} {m : St} {K Kp : PV → St → Prop} {Γ : Ctx} {w : World}
theorem SRep.drop {s : Nat} : ∀ (l : Nat) (rows : List (List PV)) (b off : Nat), RowsW s rows → l ≤ rows.length → SRep Γ w rows b off → SRep Γ w (rows.drop l) b (off + l * s)
  | 0, rows, b, off, _, _, h => by simpa using h
  | l + 1, [], b, off, _, hl, h => by simp at hl
  | l + 1, r :: rs, b, off, hw, hl, h => by
    have hr : r.length = s := hw r (by simp)
    have := SRep.drop l rs b (off + r.length) (fun x hx => hw x (by simp [hx])) (by simpa using hl) h.2
    rwa [hr, show off + s + l * s = off + (l + 1) * s from by rw [Nat.add_mul]; omega] at this
theorem SRep.take : ∀ (l : Nat) (rows : List (List PV)) (b off : Nat), SRep Γ w rows b off → SRep Γ w (rows.take l) b off
  | 0, rows, b, off, _ => by simp [SRep]
  | l + 1, [], b, off, h => by simpa using h
  | l + 1, r :: rs, b, off, h => ⟨h.1, SRep.take l rs b _ h.2⟩
theorem run_bound {k : IntKind} {n : Int} {y : Nat} {code : BoundsCode} (h0 : 0 ≤ n) (h1 : n ≤ y) : (Instr.sliceBound (.int k n) y code).run P w = .ok n.toNat w := by
  simp [Instr.sliceBound, asIntOf, h0, h1]
theorem bnd_spec {x : Option PV} {u : Option Value} {d r : Int} (h : abnd x d = some r) (hx : ∀ p, x = some p → ∃ v, u = some v ∧ VRep Γ w p v) (hn : x = none → u = none) :
    (x = none ∧ u = none ∧ r = d) ∨ ∃ k, u = some (.int k r) := by
  unfold abnd at h
  split at h
  · cases h; exact .inl ⟨rfl, hn rfl, rfl⟩
  · rename_i k n
    cases h
    obtain ⟨v, h1, h2⟩ := hx _ rfl
    exact .inr ⟨k, by rw [h1]; exact congrArg some h2⟩
  · cases h
theorem run_bounds {isS : Bool} {len cap : Nat} {lo hi : Option Value} {l h : Int} (hl : lo = none ∧ l = 0 ∨ ∃ k, lo = some (.int k l)) (hh : hi = none ∧ h = len ∨ ∃ k, hi = some (.int k h))
    (h0 : 0 ≤ l) (h1 : l ≤ h) (h2 : h ≤ cap) : (Instr.sliceBounds isS len cap lo hi none).run P w = .ok (l.toNat, h.toNat, cap) w := by
  have e1 : (h.toNat : Int) = h := Int.toNat_of_nonneg (by omega)
  rcases hh with ⟨rfl, rfl⟩ | ⟨k, rfl⟩ <;> rcases hl with ⟨rfl, rfl⟩ | ⟨k', rfl⟩
  · simp [Instr.sliceBounds]
  · simp [Instr.sliceBounds, run_bound (P := P) (w := w) (k := k') (n := l) (y := len) h0 h1]
  · simp [Instr.sliceBounds, run_bound (P := P) (w := w) (k := k) (n := h) (y := cap) (by omega) h2]
  · simp [Instr.sliceBounds, run_bound (P := P) (w := w) (k := k) (n := h) (y := cap) (by omega) h2, run_bound (P := P) (w := w) (k := k') (n := l) (y := h.toNat) h0 (by omega)]
theorem run_bounds3 {len cap : Nat} {lo hi : Option Value} {l h : Int} {kq : IntKind} (hl : lo = none ∧ l = 0 ∨ ∃ k, lo = some (.int k l)) (hh : ∃ k, hi = some (.int k h))
    (h0 : 0 ≤ l) (h1 : l ≤ h) (h2 : h ≤ cap) : (Instr.sliceBounds true len cap lo hi (some (.int kq h))).run P w = .ok (l.toNat, h.toNat, h.toNat) w := by
  have e1 : (h.toNat : Int) = h := Int.toNat_of_nonneg (by omega)
  obtain ⟨k, rfl⟩ := hh
  rcases hl with ⟨rfl, rfl⟩ | ⟨k', rfl⟩
  · simp [Instr.sliceBounds, run_bound (P := P) (w := w) (k := kq) (n := h) (y := cap) (by omega) h2, run_bound (P := P) (w := w) (k := k) (n := h) (y := h.toNat) (by omega) (by omega)]
  · simp [Instr.sliceBounds, run_bound (P := P) (w := w) (k := kq) (n := h) (y := cap) (by omega) h2, run_bound (P := P) (w := w) (k := k) (n := h) (y := h.toNat) (by omega) (by omega), run_bound (P := P) (w := w) (k := k') (n := l) (y := h.toNat) h0 (by omega)]
theorem slice_rep {o o' : Own} {rows : List (List PV)} {s l h m' cap : Nat} {a : Option Addr} (hw : RowsW s rows) (h1 : l ≤ h) (h2 : h ≤ rows.length) (h3 : h ≤ m') (h4 : m' ≤ cap) (hrep : VRep Γ w (.list o rows) (.slice a rows.length cap))
    (ho : (o' = o ∧ l = 0 ∧ h = rows.length ∧ m' = cap) ∨ (o' = .full ∧ m' = h) ∨ (o' = .no)) :
    VRep Γ w (.list o' ((rows.take h).drop l)) (.slice (if m' = l then a else a.map (·.add (l * s))) (h - l) (m' - l)) := by
  obtain ⟨a', cap', e, a1, a2, a3, a4⟩ := hrep
  cases e
  have hlen : ((rows.take h).drop l).length = h - l := by simp; omega
  refine ⟨_, m' - l, by rw [hlen], by rw [hlen]; omega, ?_, ?_, ?_⟩
  · intro ha
    split at ha
    · omega
    · have : a = none := by simpa using ha
      have := a2 this; omega
  · intro ad had
    split at had
    · rename_i hml
      subst had
      refine ⟨.inl (by omega), ?_⟩
      have : (rows.take h).drop l = [] := List.eq_nil_of_length_eq_zero (by omega)
      rw [this]; trivial
    · cases a with
      | none => cases had
      | some ad0 =>
        obtain ⟨hs, hr⟩ := a3 ad0 rfl
        replace hs := hs.resolve_left (by omega)
        obtain ⟨b, off, sp⟩ := ad0
        simp only at hs hr
        subst hs
        simp only [Option.map_some, Option.some.injEq, add_addr] at had
        subst had
        exact ⟨.inr rfl, SRep.drop l _ b off (fun x hx => hw x (List.mem_of_mem_take hx)) (by simp; omega) (SRep.take h rows b off hr)⟩
  · rcases ho with ⟨rfl, rfl, rfl, rfl⟩ | ⟨rfl, rfl⟩ | rfl
    · have hrr : (rows.take rows.length).drop 0 = rows := by simp
      rw [hrr]
      cases o' with
      | no => trivial
      | full => simpa using a4
      | tok k =>
        refine ⟨a4.1, a4.2.1, fun q => ?_⟩
        obtain ⟨h5, h6⟩ := a4.2.2 q
        subst h5
        refine ⟨?_, by simpa using h6⟩
        split
        · rfl
        · simp [add_addr]
    · show m' - l = _; rw [hlen]
    · trivial
theorem sound_slice {t : TypeId} {x : PV} {lo hi mx : Option PV} {u : Value} {ulo uhi umx : Option Value} (h : aslice P t x lo hi mx m K) (hm : MemSim Γ m w) (hx : VRep Γ w x u)
    (hlo : ∀ p, lo = some p → ∃ v, ulo = some v ∧ VRep Γ w p v) (nlo : lo = none → ulo = none) (hhi : ∀ p, hi = some p → ∃ v, uhi = some v ∧ VRep Γ w p v) (nhi : hi = none → uhi = none)
    (hmx : ∀ p, mx = some p → ∃ v, umx = some v ∧ VRep Γ w p v) (nmx : mx = none → umx = none) :
    ∃ r, (Instr.sliceAt t u ulo uhi umx).run P w = .ok r w ∧ Then Γ w K r w := by
  unfold aslice at h
  split at h
  · rename_i o rows
    split at h
    · rename_i e l hh he hl hhe
      obtain ⟨ht, hw, h0, h1, h2, hk⟩ := h
      have hd := telem_und he
      obtain ⟨a, cap, rfl, a1, a2, a3, a4⟩ := hx
      have hl' : ulo = none ∧ l = 0 ∨ ∃ k, ulo = some (.int k l) := by
        rcases bnd_spec (Γ := Γ) (w := w) hl hlo nlo with ⟨_, q, r⟩ | q
        · exact .inl ⟨q, r⟩
        · exact .inr q
      have hh' : uhi = none ∧ hh = rows.length ∨ ∃ k, uhi = some (.int k hh) := by
        rcases bnd_spec (Γ := Γ) (w := w) hhe hhi nhi with ⟨_, q, r⟩ | q
        · exact .inl ⟨q, r⟩
        · exact .inr q
      rw [nmx rfl]
      have hb := run_bounds (P := P) (w := w) (isS := true) (len := rows.length) (cap := cap) hl' hh' h0 h1 (by omega)
      refine ⟨.slice (if cap = l.toNat then a else a.map (·.add (l.toNat * tsize P e))) (hh.toNat - l.toNat) (cap - l.toNat), ?_, .same hm hk ?_⟩
      · simp only [Instr.sliceAt, Sem.run_bind, run_underlying hd, Result.andThen_ok, Instr.slice, hb, run_size ht, Sem.run_pure]
      · refine slice_rep (o := o) hw (by omega) (by omega) (by omega) (Nat.le_refl _) ⟨a, cap, rfl, a1, a2, a3, a4⟩ ?_
        split
        · rename_i hc; exact .inl ⟨rfl, by omega, by omega, rfl⟩
        · split
          · rename_i hc
            obtain ⟨hc1, rfl⟩ := hc
            replace a4 : cap = rows.length := a4
            exact .inr (.inl ⟨rfl, by omega⟩)
          · exact .inr (.inr rfl)
    · rename_i e l hh k q he hl hhe
      obtain ⟨ht, hw, h0, h1, hq, hsome, h2, hk⟩ := h
      subst hq
      have hd := telem_und he
      obtain ⟨a, cap, rfl, a1, a2, a3, a4⟩ := hx
      have hl' : ulo = none ∧ l = 0 ∨ ∃ k, ulo = some (.int k l) := by
        rcases bnd_spec (Γ := Γ) (w := w) hl hlo nlo with ⟨_, q, r⟩ | q
        · exact .inl ⟨q, r⟩
        · exact .inr q
      obtain ⟨v, hv1, hv2⟩ := hmx _ rfl
      replace hv2 : v = .int k hh := hv2
      subst hv2
      rw [hv1]
      rcases bnd_spec (Γ := Γ) (w := w) hhe hhi nhi with ⟨q, _, _⟩ | hh'
      · rw [q] at hsome; cases hsome
      · have hb := run_bounds3 (P := P) (w := w) (len := rows.length) (cap := cap) (kq := k) hl' hh' h0 h1 (by omega)
        refine ⟨.slice (if hh.toNat = l.toNat then a else a.map (·.add (l.toNat * tsize P e))) (hh.toNat - l.toNat) (hh.toNat - l.toNat), ?_, .same hm hk ?_⟩
        · simp only [Instr.sliceAt, Sem.run_bind, run_underlying hd, Result.andThen_ok, Instr.slice, hb, run_size ht, Sem.run_pure]
        · exact slice_rep (o := o) hw (by omega) (by omega) (Nat.le_refl _) (by omega) ⟨a, cap, rfl, a1, a2, a3, a4⟩ (.inr (.inl ⟨rfl, rfl⟩))
    · exact h.elim
  · rename_i n off len cap
    split at h
    · rename_i e l hh he hl hhe
      obtain ⟨ht, h0, h1, h2, h3, h4, hk⟩ := h
      have hd := telem_und he
      obtain ⟨hn, cap', hcap, rfl⟩ := hx
      have hl' : ulo = none ∧ l = 0 ∨ ∃ k, ulo = some (.int k l) := by
        rcases bnd_spec (Γ := Γ) (w := w) hl hlo nlo with ⟨_, q, r⟩ | q
        · exact .inl ⟨q, r⟩
        · exact .inr q
      have hh' : uhi = none ∧ hh = len ∨ ∃ k, uhi = some (.int k hh) := by
        rcases bnd_spec (Γ := Γ) (w := w) hhe hhi nhi with ⟨_, q, r⟩ | q
        · exact .inl ⟨q, r⟩
        · exact .inr q
      rw [nmx rfl]
      have hb := run_bounds (P := P) (w := w) (isS := true) (len := len) (cap := cap') hl' hh' h0 h1 (by omega)
      refine ⟨.slice (some ⟨Γ.loc n, off + l.toNat * tsize P e, none⟩) (hh.toNat - l.toNat) (cap' - l.toNat), ?_, .same hm hk ⟨hn, cap' - l.toNat, by omega, ?_⟩⟩
      · simp only [Instr.sliceAt, Sem.run_bind, run_underlying hd, Result.andThen_ok, Instr.slice, hb, run_size ht, Sem.run_pure]
        rw [if_neg (by omega)]
        simp [add_addr]
      · rw [show (hh - l).toNat = hh.toNat - l.toNat from by omega]
    · exact h.elim
  · rename_i s
    split at h
    · rename_i l hh hl hhe
      obtain ⟨hs, h0, h1, h2, hk⟩ := h
      have hd := tstr_und hs
      replace hx : u = .string s := hx
      subst hx
      have hl' : ulo = none ∧ l = 0 ∨ ∃ k, ulo = some (.int k l) := by
        rcases bnd_spec (Γ := Γ) (w := w) hl hlo nlo with ⟨_, q, r⟩ | q
        · exact .inl ⟨q, r⟩
        · exact .inr q
      have hh' : uhi = none ∧ hh = s.size ∨ ∃ k, uhi = some (.int k hh) := by
        rcases bnd_spec (Γ := Γ) (w := w) hhe hhi nhi with ⟨_, q, r⟩ | q
        · exact .inl ⟨q, r⟩
        · exact .inr q
      rw [nmx rfl]
      have hb := run_bounds (P := P) (w := w) (isS := false) (len := s.size) (cap := s.size) hl' hh' h0 h1 (by omega)
      refine ⟨.string (s.extract l.toNat hh.toNat), ?_, .same hm hk rfl⟩
      simp [Instr.sliceAt, run_underlying hd, Instr.slice, hb]
    · exact h.elim
  · exact h.elim
theorem sound_len {ts : Array TypeId} {ty : TypeId} {x : PV} {u : Value} (h : alen P ts.toList x m K) (hm : MemSim Γ m w) (hx : VRep Γ w x u) : ∃ r, (Builtin.len_ ts ty #[u]).run P w = .ok r w ∧ Then Γ w K r w := by
  unfold alen at h
  split at h
  all_goals first | exact h.elim | skip
  · rename_i t o rows hts
    obtain ⟨ht, hk⟩ := h
    obtain ⟨e, he⟩ := Option.isSome_iff_exists.1 ht
    have hd := telem_und he
    obtain ⟨a, cap, rfl, _⟩ := hx
    have : ts = #[t] := by rw [← Array.toArray_toList (xs := ts), hts]
    subst this
    exact ⟨_, by simp [Builtin.len_, run_underlying hd]; rfl, .same hm hk rfl⟩
  · rename_i t _ _ len _ hts
    obtain ⟨ht, hk⟩ := h
    obtain ⟨e, he⟩ := Option.isSome_iff_exists.1 ht
    have hd := telem_und he
    obtain ⟨_, _, _, rfl⟩ := hx
    have : ts = #[t] := by rw [← Array.toArray_toList (xs := ts), hts]
    subst this
    exact ⟨_, by simp [Builtin.len_, run_underlying hd]; rfl, .same hm hk rfl⟩
  · rename_i t s hts
    obtain ⟨ht, hk⟩ := h
    have hd := tstr_und ht
    replace hx : u = .string s := hx
    subst hx
    have : ts = #[t] := by rw [← Array.toArray_toList (xs := ts), hts]
    subst this
    exact ⟨_, by simp [Builtin.len_, run_underlying hd]; rfl, .same hm hk rfl⟩
theorem sound_makeSlice {t : TypeId} {l c : PV} {ul uc : Value} (h : amakeSlice P t l c m K) (hm : MemSim Γ m w) (hl : VRep Γ w l ul) (hc : VRep Γ w c uc) :
    ∃ r w', (Instr.makeSlice t ul uc).run P w = .ok r w' ∧ Then Γ w K r w' := by
  unfold amakeSlice at h
  split at h
  · rename_i k n k' n' e he
    replace hl : ul = .int k n := hl
    replace hc : uc = .int k' n' := hc
    subst hl hc
    obtain ⟨rfl, h0, h62, ht, hby, h⟩ := h
    have hd := telem_und he
    obtain ⟨i, hi⟩ := tinfo_info ht
    have hbt : i.bytes = tbytes P e := by simp [tbytes, Program.bytesOf, hi]
    have hst : i.size = tsize P e := by simp [tsize, Program.cellsOf, hi]
    cases hz : tzero P e with
    | none => simp [hz] at h
    | some z =>
      simp only [hz] at h
      obtain ⟨hz1, hpos, hk⟩ := h
      have hiz : i.zero = some z := by simpa [tzero, hi] using hz
      have hrun := run_make w t e i z hd hi hiz k k' n n h0 (Int.le_refl _) (by rw [hbt]; omega) (by omega)
      rw [hst] at hrun
      obtain ⟨hr, h1⟩ := zrow_rep (Γ := Γ) (w := w) hpos (n.toNat * tsize P e)
      obtain ⟨h3, h4⟩ := hm.newLoc (us := madeCells z.cells (n.toNat * tsize P e)) hr (h1 hz1) e
      refine ⟨_, _, hrun, ⟨_, _, _, hk, ⟨by show m.nloc < Γ.nloc + 1; rw [hm.nloc]; omega, _, Nat.le_refl _, ?_⟩, Ctx.le_newLoc Γ _, h4, h3⟩⟩
      show _ = Value.slice (some ⟨upd Γ.loc Γ.nloc w.heap.size m.nloc, 0, none⟩) _ _
      rw [hm.nloc, upd_same]
  · exact h.elim
theorem mapRep {ρ : Operand → PV} {ev : Operand → Value} (hv : ∀ x, VRep Γ w (ρ x) (ev x)) : ∀ l : List Operand, LRep Γ w (l.map ρ) (l.map ev)
  | [] => rfl
  | x :: l => ⟨_, _, rfl, hv x, mapRep hv l⟩
theorem mapRepS {ρ : Operand → PV} {ev : Operand → Value} (hv : ∀ x, VRep Γ w (ρ x) (ev x)) : ∀ l : List Operand, LRep Γ w (l.map (fun x => (ρ x).strip)) (l.map ev)
  | [] => rfl
  | x :: l => ⟨_, _, rfl, VRep.strip _ _ (hv x), mapRepS hv l⟩
theorem run_callFunc {f : FuncId} (h : HasBody P f) (args : Array Value) : (callFunc f args).run P w = .ok (.enter f args) w := by
  obtain ⟨fn, c, h1, h2, h3⟩ := h
  simp only [callFunc, Sem.run_bind, program, Sem.run, Result.andThen_ok, h1]
  rw [if_neg (by rw [h3]; simp), if_neg (by rw [h2]; simp)]
  rfl
theorem sound_call {o : Oper} {c : Call} {ρ : Operand → PV} {ev : Operand → Value} (ho : o.op = .call c) (h : acall P c ρ m K Kp) (hm : MemSim Γ m w) (hv : ∀ x, VRep Γ w (ρ x) (ev x)) :
    Up P (Then Γ w K) (Then Γ w Kp) ((execOp ev o).run P w) := by
  obtain ⟨callee, args, argTypes⟩ := c
  unfold acall at h
  simp only at h
  split at h
  · rename_i f
    split at h
    · rename_i g first caps hf
      have hvf := hv f
      rw [hf] at hvf
      obtain ⟨fs, us, hef, h1, h2⟩ := hvf
      obtain ⟨hb, hcall⟩ := h
      have hrun : (execOp ev o).run P w = .ok (.enter g (fs ++ args.map ev ++ us)) w := by
        simp only [execOp, ho, resolve, Deferred.ofValue, hef, Sem.run_bind, Sem.run_pure, Result.andThen_ok, invoke]
        exact run_callFunc hb _
      rw [hrun]
      simp only [Up]
      have hl : LRep Γ w (first ++ args.toList.map (fun x => (ρ x).strip) ++ caps) (fs ++ args.map ev ++ us).toList := by
        simp only [Array.toList_append, Array.toList_map]
        exact LRep.append _ _ _ _ (LRep.append _ _ _ _ h1 (mapRepS hv _)) h2
      refine (hcall Γ w _ hm hl).mono ?_
      rintro e w' ⟨r, m', Γ', hr, he, hle, hk, hms⟩
      cases r <;> cases e <;> simp only [ERep] at he
      · exact ⟨_, m', Γ', hr, he, hle, hk, hms⟩
      · obtain ⟨v, rfl, he⟩ := he
        exact ⟨v, rfl, _, m', Γ', hr, he, hle, hk, hms⟩
    · rename_i n hf
      have hvf := hv f
      rw [hf] at hvf
      obtain ⟨_, hef⟩ := hvf
      have hl : LRep Γ w (args.toList.map (fun x => (ρ x).strip)) (args.map ev).toList := by rw [Array.toList_map]; exact mapRepS hv _
      obtain ⟨r, h1, h2, h3⟩ := h Γ w _ hm hl
      have hrun : (execOp ev o).run P w = (Instr.yield (Γ.loc n) (args.map ev)).run P w := by
        simp only [execOp, ho, resolve, Deferred.ofValue, hef, Sem.run_bind, Sem.run_pure, Result.andThen_ok, invoke]
        simp
      rw [hrun, run_yield h1 (by simpa using h2)]
      simp only [Up]
      simp only [Array.toArray_toList] at h3
      refine h3.mono ?_
      rintro e w' ⟨r, m', Γ', hr, he, hle, hk, hms⟩
      cases r <;> cases e <;> simp only [ERep] at he
      · exact ⟨_, m', Γ', hr, he, hle, hk, hms⟩
      · obtain ⟨v, rfl, he⟩ := he
        exact ⟨v, rfl, _, m', Γ', hr, he, hle, hk, hms⟩
    · exact h.elim
  · split at h
    · rename_i x y hxy
      obtain ⟨r, w', h1, h2⟩ := sound_append (ty := o.type) h hm (hv x) (hv y)
      have ha : args.map ev = #[ev x, ev y] := by rw [← Array.toArray_toList (xs := args), hxy]; simp
      simp only [execOp, ho, resolve, Sem.run_bind, Sem.run_pure, Result.andThen_ok, invoke, builtin, ha, h1, Up]
      exact h2
    · exact h.elim
  · split at h
    · rename_i x hxy
      obtain ⟨r, h1, h2⟩ := sound_len (ty := o.type) h hm (hv x)
      have ha : args.map ev = #[ev x] := by rw [← Array.toArray_toList (xs := args), hxy]; simp
      simp only [execOp, ho, resolve, Sem.run_bind, Sem.run_pure, Result.andThen_ok, invoke, builtin, ha, h1, Up]
      exact h2
    · exact h.elim
  · split at h
    · rename_i k a k' b hxy
      have hl := mapRep hv args.toList
      rw [hxy] at hl
      obtain ⟨u, _, e1, h1, v, _, e2, h2, e3⟩ := hl
      subst e3 e2
      replace h1 : u = .int k a := h1
      replace h2 : v = .int k' b := h2
      subst h1 h2
      have ha : args.map ev = #[.int k a, .int k' b] := by rw [← Array.toArray_toList (xs := args.map ev), Array.toList_map, e1]
      have hrun : (Builtin.max_ argTypes o.type #[.int k a, .int k' b]).run P w = .ok (.int k (if a < b then b else a)) w := by
        simp [Builtin.max_, Builtin.max2]
      simp only [execOp, ho, resolve, Sem.run_bind, Sem.run_pure, Result.andThen_ok, invoke, builtin, ha, hrun, Up]
      exact .same hm h rfl
    · exact h.elim
  · split at h
    · rename_i k a k' b hxy
      have hl := mapRep hv args.toList
      rw [hxy] at hl
      obtain ⟨u, _, e1, h1, v, _, e2, h2, e3⟩ := hl
      subst e3 e2
      replace h1 : u = .int k a := h1
      replace h2 : v = .int k' b := h2
      subst h1 h2
      have ha : args.map ev = #[.int k a, .int k' b] := by rw [← Array.toArray_toList (xs := args.map ev), Array.toList_map, e1]
      have hrun : (Builtin.min_ argTypes o.type #[.int k a, .int k' b]).run P w = .ok (.int k (if b < a then b else a)) w := by
        simp [Builtin.min_, Builtin.min2]
      simp only [execOp, ho, resolve, Sem.run_bind, Sem.run_pure, Result.andThen_ok, invoke, builtin, ha, hrun, Up]
      exact .same hm h rfl
    · exact h.elim
  · exact h.elim
theorem partsRep {ρ : Operand → PV} {ev : Operand → Value} (hv : ∀ x, VRep Γ w (ρ x) (ev x)) (parts : Array (Nat × Operand)) :
    (parts.toList.map (fun x => (x.1, ρ x.2))).length = (parts.map (fun x => (x.1, ev x.2))).toList.length ∧
    ∀ (k : Nat) (x : Nat × PV) (y : Nat × Value), (parts.toList.map (fun x => (x.1, ρ x.2)))[k]? = some x → (parts.map (fun x => (x.1, ev x.2))).toList[k]? = some y → x.1 = y.1 ∧ VRep Γ w x.2 y.2 := by
  refine ⟨by simp, fun k x y hx hy => ?_⟩
  rw [Array.toList_map] at hy
  rw [List.getElem?_map] at hx hy
  cases hk : parts.toList[k]? with
  | none => rw [hk] at hx; cases hx
  | some p =>
    rw [hk] at hx hy
    cases hx; cases hy
    exact ⟨rfl, hv p.2⟩
theorem optRep {ρ : Operand → PV} {ev : Operand → Value} (hv : ∀ x, VRep Γ w (ρ x) (ev x)) (o : Option Operand) :
    (∀ p, o.map ρ = some p → ∃ v, o.map ev = some v ∧ VRep Γ w p v) ∧ (o.map ρ = none → o.map ev = none) := by
  cases o with
  | none => exact ⟨(fun p h => by cases h), fun _ => rfl⟩
  | some x => exact ⟨(fun p h => by cases h; exact ⟨_, rfl, hv x⟩), (fun h => by cases h)⟩
theorem aop_sound (o : Oper) (ρ : Operand → PV) (h : aop P o.op ρ m K Kp) : OpOK P o ρ m K Kp := by
  intro Γ ev w hm hv
  cases ho : o.op <;> rw [ho] at h <;> simp only [aop] at h
  case move x => simp only [execOp, ho, Sem.run_pure, Up]; exact .same hm h (hv x)
  case assign x => simp only [execOp, ho, Sem.run_pure, Up]; exact .same hm h (hv x)
  case pick c a b =>
    obtain ⟨v, h1, h2⟩ := sound_pick (P := P) h hm (hv c) (hv a) (hv b)
    have hrun : (execOp ev o).run P w = .ok (.value v) w := by simp only [execOp, ho]; exact h1
    rw [hrun]; exact h2
  case alloc e =>
    cases hz : tzero P e with
    | none => simp [hz] at h
    | some z =>
      simp only [hz] at h
      obtain ⟨v, w', h1, h2⟩ := sound_alloc hz h.1 h.2 hm
      simp only [execOp, ho, Sem.run_bind, h1, Result.andThen_ok, Sem.run_pure, Up]; exact h2
  case box e x =>
    cases hc : cells1 (ρ x) with
    | none => simp [hc] at h
    | some cs =>
      simp only [hc] at h
      simp only [execOp, ho, Instr.box, Sem.run_bind, newVar_run, Result.andThen_ok, Sem.run_pure, Up]
      exact sound_box hc h hm (hv x)
  case build t parts =>
    obtain ⟨h1, h2⟩ := partsRep hv parts
    obtain ⟨v, h3, h4⟩ := sound_build h hm h1 h2
    simp only [execOp, ho, Sem.run_bind, h3, Result.andThen_ok, Sem.run_pure, Up]; exact h4
  case buildSlice t len parts =>
    obtain ⟨h1, h2⟩ := partsRep hv parts
    obtain ⟨v, w', h3, h4⟩ := sound_buildSlice h hm h1 h2
    simp only [execOp, ho, Sem.run_bind, h3, Result.andThen_ok, Sem.run_pure, Up]; exact h4
  case load t x =>
    obtain ⟨v, h1, h2⟩ := sound_load h hm (hv x)
    simp only [execOp, ho, Sem.run_bind, h1, Result.andThen_ok, Sem.run_pure, Up]; exact h2
  case store t x y =>
    obtain ⟨w', h1, h2⟩ := sound_store h hm (hv x) (hv y)
    simp only [execOp, ho, Sem.run_bind, h1, Result.andThen_ok, Sem.run_pure, Up]; exact h2
  case nilCheck x =>
    have hx := hv x
    generalize ρ x = p at h hx
    cases p <;> simp only [anil] at h
    · obtain ⟨b, off, e, hr⟩ := hx
      simp only [execOp, ho, e, Sem.run_pure, Up]; exact .same hm h ⟨b, off, rfl, hr⟩
    · obtain ⟨hn, e⟩ := hx
      simp only [execOp, ho, e, Sem.run_pure, Up]; exact .same hm h ⟨hn, rfl⟩
    · obtain ⟨fs, us, e, hr⟩ := hx
      simp only [execOp, ho, e, Sem.run_pure, Up]; exact .same hm h ⟨fs, us, rfl, hr⟩
  case binOp op t x y yt =>
    obtain ⟨v, h1, h2⟩ := sound_binop (ox := x) (oy := y) h hm (hv x) (hv y)
    rw [Sem.run_bind] at h1
    simp only [execOp, ho, Sem.run_bind]
    rw [h1]
    exact h2
  case unOp op t x =>
    obtain ⟨v, h1, h2⟩ := sound_unop (P := P) h hm (hv x)
    simp only [execOp, ho, Sem.run_bind, h1, Result.andThen_ok, Sem.run_pure, Up]; exact h2
  case convert s d x =>
    obtain ⟨v, h1, h2⟩ := sound_convert h hm (hv x)
    simp only [execOp, ho, Sem.run_bind, h1, Result.andThen_ok, Sem.run_pure, Up]; exact h2
  case makeInterface t x =>
    obtain ⟨hc, h⟩ := h
    have hrun : (Instr.makeInterface t (ev x)).run P w = .ok (.iface t (ev x)) w := by
      unfold tconc at hc
      split at hc
      · cases hc
      · rename_i d hne hd
        simp only [Instr.makeInterface, Sem.run_bind, run_underlying hd, Result.andThen_ok]
        first
        | rfl
        | (split
           · exact (hne _ rfl).elim
           · rfl)
      · cases hc
    simp only [execOp, ho, Sem.run_bind, hrun, Result.andThen_ok, Sem.run_pure, Up]
    exact .same hm h ⟨_, rfl, hv x⟩
  case makeFunc fn first caps =>
    cases fn <;> simp only at h
    case func f =>
      simp only [execOp, ho, Instr.makeFunc, Sem.run_bind, Sem.run_pure, Result.andThen_ok, Up]
      refine .same hm h ⟨_, _, rfl, ?_, ?_⟩
      · rw [Array.toList_map]; exact mapRep hv _
      · rw [Array.toList_map]; exact mapRep hv _
  case makeSlice t l c =>
    obtain ⟨v, w', h1, h2⟩ := sound_makeSlice h hm (hv l) (hv c)
    simp only [execOp, ho, Sem.run_bind, h1, Result.andThen_ok, Sem.run_pure, Up]; exact h2
  case slice t x lo hi mx =>
    obtain ⟨v, h1, h2⟩ := sound_slice h hm (hv x) (optRep hv lo).1 (optRep hv lo).2 (optRep hv hi).1 (optRep hv hi).2 (optRep hv mx).1 (optRep hv mx).2
    simp only [execOp, ho, Sem.run_bind, h1, Result.andThen_ok, Sem.run_pure, Up]; exact h2
  case fieldAddr s x f =>
    obtain ⟨v, h1, h2⟩ := sound_fieldAddr h hm (hv x)
    simp only [execOp, ho, Sem.run_bind, h1, Result.andThen_ok, Sem.run_pure, Up]; exact h2
  case field s x f =>
    obtain ⟨v, h1, h2⟩ := sound_field h hm (hv x)
    simp only [execOp, ho, Sem.run_bind, h1, Result.andThen_ok, Sem.run_pure, Up]; exact h2
  case indexAddr t x i =>
    obtain ⟨v, h1, h2⟩ := sound_indexAddr h hm (hv x) (hv i)
    simp only [execOp, ho, Sem.run_bind, h1, Result.andThen_ok, Sem.run_pure, Up]; exact h2
  case index t x i =>
    obtain ⟨v, h1, h2⟩ := sound_index h hm (hv x) (hv i)
    simp only [execOp, ho, Sem.run_bind, h1, Result.andThen_ok, Sem.run_pure, Up]; exact h2
  case extract x i =>
    obtain ⟨v, h1, h2⟩ := sound_extract (P := P) h hm (hv x)
    simp only [execOp, ho, Sem.run_bind, h1, Result.andThen_ok, Sem.run_pure, Up]; exact h2
  case call c => exact sound_call ho h hm hv
  case panic x =>
    have hx := hv x
    generalize ρ x = p at h hx
    cases p <;> simp only at h
    case iface t y =>
      obtain ⟨u, e, hr⟩ := hx
      have hrun : (execOp ev o).run P w = .halt (.panic (.iface t u)) w := by
        simp [execOp, ho, e, Instr.panic, goPanic, Sem.run]
      rw [hrun]
      exact .same hm h ⟨u, rfl, hr⟩
end
end Go.Ab
namespace Go.Ab
open Go.RowKit
mutual
theorem VRep.sc {Γ : Ctx} {w : World} : ∀ (p : PV) (u : Value), VRep Γ w p u → p.sc Γ.nloc Γ.ntok
  | .any, _, _ => trivial
  | .v _, _, _ => trivial
  | .agg cs, u, h => by
    obtain ⟨us, e, h⟩ := h
    exact LRep.sc cs _ h
  | .list o rows, u, h => by
    obtain ⟨a, cap, e, h1, h2, h3, h4⟩ := h
    refine ⟨?_, ?_⟩
    · cases a with
      | none =>
        have := h2 rfl
        have : rows = [] := List.eq_nil_of_length_eq_zero (by omega)
        rw [this]; trivial
      | some ad => exact SRep.sc rows _ _ (h3 ad rfl).2
    · cases o with
      | no => trivial
      | full => trivial
      | tok k => exact h4.1
  | .ro cs, u, h => by
    obtain ⟨b, off, e, h⟩ := h
    exact CRep.sc cs _ _ h
  | .loc n off, u, h => h.1
  | .marr n off len cap, u, h => h.1
  | .clo f first caps, u, h => by
    obtain ⟨fs, us, e, h1, h2⟩ := h
    exact ⟨LRep.sc first _ h1, LRep.sc caps _ h2⟩
  | .iface t y, u, h => by
    obtain ⟨x, e, h⟩ := h
    exact VRep.sc y _ h
  | .tup xs, u, h => by
    obtain ⟨us, e, h⟩ := h
    exact LRep.sc xs _ h
  | .yld n, u, h => h.1
  | .mtok k _, u, h => h.1
  | .mptr k _ _, u, h => h.1
theorem LRep.sc {Γ : Ctx} {w : World} : ∀ (xs : List PV) (us : List Value), LRep Γ w xs us → PV.scL Γ.nloc Γ.ntok xs
  | [], _, _ => trivial
  | x :: xs, us, h => by
    obtain ⟨u, us', e, h1, h2⟩ := h
    exact ⟨VRep.sc x _ h1, LRep.sc xs _ h2⟩
theorem CRep.sc {Γ : Ctx} {w : World} : ∀ (xs : List PV) (b off : Nat), CRep Γ w xs b off → PV.scL Γ.nloc Γ.ntok xs
  | [], _, _, _ => trivial
  | x :: xs, b, off, h => by
    obtain ⟨⟨_, u, _, _, h1⟩, h2⟩ := h
    exact ⟨VRep.sc x _ h1, CRep.sc xs _ _ h2⟩
theorem SRep.sc {Γ : Ctx} {w : World} : ∀ (rs : List (List PV)) (b off : Nat), SRep Γ w rs b off → PV.scR Γ.nloc Γ.ntok rs
  | [], _, _, _ => trivial
  | r :: rs, b, off, h => ⟨CRep.sc r _ _ h.1, SRep.sc rs _ _ h.2⟩
end
mutual
theorem PV.sc_mono {nl nl' nt nt' : Nat} (h1 : nl ≤ nl') (h2 : nt ≤ nt') : ∀ p : PV, p.sc nl nt → p.sc nl' nt'
  | .any, _ => trivial
  | .v _, _ => trivial
  | .agg cs, h => PV.scL_mono h1 h2 cs h
  | .list o rows, h => ⟨PV.scR_mono h1 h2 rows h.1, by
    cases o with
    | no => trivial
    | full => trivial
    | tok k => exact Nat.lt_of_lt_of_le h.2 h2⟩
  | .ro cs, h => PV.scL_mono h1 h2 cs h
  | .loc n off, h => Nat.lt_of_lt_of_le h h1
  | .marr n off len cap, h => Nat.lt_of_lt_of_le h h1
  | .clo f first caps, h => ⟨PV.scL_mono h1 h2 first h.1, PV.scL_mono h1 h2 caps h.2⟩
  | .iface t y, h => PV.sc_mono h1 h2 y h
  | .tup xs, h => PV.scL_mono h1 h2 xs h
  | .yld n, h => Nat.lt_of_lt_of_le h h1
  | .mtok k _, h => Nat.lt_of_lt_of_le h h2
  | .mptr k _ _, h => Nat.lt_of_lt_of_le h h2
theorem PV.scL_mono {nl nl' nt nt' : Nat} (h1 : nl ≤ nl') (h2 : nt ≤ nt') : ∀ xs : List PV, PV.scL nl nt xs → PV.scL nl' nt' xs
  | [], _ => trivial
  | x :: xs, h => ⟨PV.sc_mono h1 h2 x h.1, PV.scL_mono h1 h2 xs h.2⟩
theorem PV.scR_mono {nl nl' nt nt' : Nat} (h1 : nl ≤ nl') (h2 : nt ≤ nt') : ∀ rs : List (List PV), PV.scR nl nt rs → PV.scR nl' nt' rs
  | [], _ => trivial
  | r :: rs, h => ⟨PV.scL_mono h1 h2 r h.1, PV.scR_mono h1 h2 rs h.2⟩
end
structure Leaves (m m' m'' : St) : Prop where
  nloc : m''.nloc = m.nloc
  ntok : m.ntok ≤ m''.ntok
  lloc : m.nloc ≤ m'.nloc
  ltok : m''.ntok ≤ m'.ntok
  loc : ∀ n, n < m.nloc → m''.loc n = m'.loc n ∧ (m'.loc n = m.loc n ∨ ∀ cs, m'.loc n = some cs → PV.scL m.nloc m''.ntok cs)
  top : ∀ k, k < m''.ntok → m''.top k = m'.top k ∧ m''.wd k = m'.wd k
  lp : ∀ n, n < m.nloc → m''.lp n = m'.lp n ∧ m'.lp n = m.lp n
  it : ∀ n, n < m.nloc → m''.it n = m'.it n
  arr : ∀ k cs, k < m''.ntok → m''.top k < DEAD → m''.arr k = some cs → m'.arr k = some cs ∧ ((k < m.ntok ∧ m.arr k = some cs) ∨ PV.scL m.nloc m''.ntok cs)
structure Lv (m m' m'' : St) : Prop where
  nloc : m.nloc ≤ m''.nloc
  ntok : m.ntok ≤ m''.ntok
  lloc : m''.nloc ≤ m'.nloc
  ltok : m''.ntok ≤ m'.ntok
  loc : ∀ n cs, n < m''.nloc → m''.loc n = some cs → m'.loc n = some cs ∧ ((n < m.nloc ∧ m.loc n = some cs) ∨ PV.scL m''.nloc m''.ntok cs)
  top : ∀ k, k < m''.ntok → m''.top k = m'.top k ∧ m''.wd k = m'.wd k
  lp : ∀ n L, n < m''.nloc → m''.lp n = some L → n < m.nloc ∧ m'.lp n = some L ∧ m.lp n = some L
  it : ∀ n x, n < m''.nloc → m''.it n = some x → m'.it n = some x
  arr : ∀ k cs, k < m''.ntok → m''.top k < DEAD → m''.arr k = some cs → m'.arr k = some cs ∧ ((k < m.ntok ∧ m.arr k = some cs) ∨ PV.scL m''.nloc m''.ntok cs)
theorem Leaves.lv {m m' m'' : St} (h : Leaves m m' m'') : Lv m m' m'' := by
  refine ⟨Nat.le_of_eq h.nloc.symm, h.ntok, by rw [h.nloc]; exact h.lloc, h.ltok, fun n cs hn hc => ?_, h.top, fun n L hn hl => ?_, fun n x hn hx => ?_, by rw [h.nloc]; exact h.arr⟩
  · rw [h.nloc] at hn
    obtain ⟨h1, h2⟩ := h.loc n hn
    rw [h1] at hc
    refine ⟨hc, ?_⟩
    rcases h2 with h2 | h2
    · exact .inl ⟨hn, h2 ▸ hc⟩
    · exact .inr (h.nloc ▸ h2 cs hc)
  · rw [h.nloc] at hn
    obtain ⟨h1, h2⟩ := h.lp n hn
    rw [h1] at hl
    exact ⟨hn, hl, h2 ▸ hl⟩
  · rw [h.nloc] at hn
    rw [← h.it n hn]; exact hx
def resV (P : Program) (σ : Nat → PV) (m : St) : ResultVar → PV → Prop
  | .tmp t, p => p = σ t
  | .cell a t, p => aload P t (σ a) m (fun q m' => q = p ∧ m' = m)
def ResL (P : Program) (σ : Nat → PV) (m : St) : List ResultVar → List PV → Prop
  | [], ps => ps = []
  | r :: rs, ps => ∃ p ps', ps = p :: ps' ∧ resV P σ m r p ∧ ResL P σ m rs ps'
def ResP (P : Program) (rs : List ResultVar) (σ : Nat → PV) (m : St) (p : PV) : Prop :=
  match rs with
  | [r] => resV P σ m r p
  | rs => ∃ ps, p = .tup ps ∧ ResL P σ m rs ps
def LvS (m m' m'' : St) (p : PV) : Prop := m'' = m' ∨ (Lv m m' m'' ∧ p.sc m''.nloc m''.ntok)
def Fin (P : Program) (fn : Func) (m : St) (R : ARes → St → Prop) : APost
  | .normal, σ, m' => ∃ p m'', ResP P fn.results.toList σ m' p ∧ LvS m m' m'' p.strip ∧ R (.ret p.strip) m''
  | .ret, σ, m' => ∃ p m'', ResP P fn.results.toList σ m' p ∧ LvS m m' m'' p.strip ∧ R (.ret p.strip) m''
  | .pan p, _, m' => ∃ m'', LvS m m' m'' p.strip ∧ R (.pan p.strip) m''
  | _, _, _ => False
section
variable {P : Program} {m m' m'' : St} {Γ Γ' : Ctx} {w w' : World}
def Ctx.withX (Γ : Ctx) (x : CtxX) : Ctx := { Γ with x := x }
theorem MemSim.withX (h : MemSim Γ m w) (x : CtxX) (hx : XSim (Γ.withX x) w) : MemSim (Γ.withX x) m w := by
  have h1 := h.nloc
  have h2 := h.ntok
  have hx' : XSim (Γ.cut x m.nloc m.ntok) w := ⟨hx.mark, hx.lps, hx.rnd, hx.dlo⟩
  have := h.cut (m := m) hx' (Nat.le_refl _) (Nat.le_refl _)
    (fun k cs hn hc => by obtain ⟨c, _, q, _⟩ := h.locs k cs hn hc; have := LRep.sc _ _ q; rw [h1, h2] at this; exact ⟨hc, this⟩) (fun k hk => ⟨rfl, rfl⟩)
    (fun k L hk hL => ⟨hL, fun t => by obtain ⟨_, tmps, D, _, _, q⟩ := h.lps.at_ k L hk hL; have := VRep.sc _ _ (q t); rw [h1, h2] at this; exact this⟩) (fun _ _ _ q => q)
    (fun k cs hk hd hc => ⟨hc, by obtain ⟨_, _, c, _, q, _⟩ := h.arrs k cs hk hd hc; have := LRep.sc _ _ q; rw [h1, h2] at this; exact this⟩)
  rw [← h1, ← h2] at this
  exact this
theorem VRep.withX {p : PV} {u : Value} (h : VRep Γ w p u) (x : CtxX) : VRep (Γ.withX x) w p u := VRep.cut p u (VRep.sc p u h) h
def CtxX.into (x : CtxX) (n : Nat) : CtxX := ⟨x.mark, x.lps, n, none, []⟩
theorem XSim.into (h : XSim Γ w) : XSim (Γ.withX (Γ.x.into w.heap.size)) w := ⟨h.mark, h.lps, fun l hl => by simp [Ctx.withX, CtxX.into] at hl, Nat.le_refl _⟩
theorem XSim.back (h0 : XSim Γ w) (hb : Γ'.base = Γ.base) (h1 : ∀ D, Γ.x.mark D → Γ'.x.mark D) (h2 : ∀ D, Γ.x.lps D → Γ'.x.lps D) (hs : w.heap.size ≤ w'.heap.size) (hx : XSim Γ' w') (nl nt : Nat) : XSim (Γ'.cut Γ.x nl nt) w' :=
  ⟨fun D hD => hx.mark D (h1 D hD), fun k hk => hx.lps k (h2 k hk), fun k hk => h0.rnd k hk, Nat.le_trans h0.dlo hs⟩
theorem Lv.sim (h : Lv m m' m'') {x : CtxX} (h0 : MemSim Γ m w) (l : (Γ.withX x).le Γ') (hx : XSim (Γ'.cut Γ.x m''.nloc m''.ntok) w') (hm : MemSim Γ' m' w') : MemSim (Γ'.cut Γ.x m''.nloc m''.ntok) m'' w' ∧ Γ.le (Γ'.cut Γ.x m''.nloc m''.ntok) := by
  have hnl : Γ.nloc = m.nloc := h0.nloc
  have hnt : Γ.ntok = m.ntok := h0.ntok
  refine ⟨hm.cut hx h.lloc h.ltok ?_ ?_ ?_ h.it (fun k cs hk hd hc => ?_), ?_⟩
  · intro n cs hn hc
    obtain ⟨h1, h2⟩ := h.loc n cs hn hc
    refine ⟨h1, ?_⟩
    rcases h2 with ⟨h2, h3⟩ | h2
    · obtain ⟨c, _, h4, _⟩ := h0.locs n cs h2 h3
      have := LRep.sc _ _ h4
      rw [hnl, hnt] at this
      exact PV.scL_mono h.nloc h.ntok cs this
    · exact h2
  · intro k hk
    exact ⟨(h.top k hk).1.symm, (h.top k hk).2.symm⟩
  · intro n L hn hL
    obtain ⟨h1, h2, h3⟩ := h.lp n L hn hL
    refine ⟨h2, fun t => ?_⟩
    obtain ⟨_, tmps, D, _, _, h8⟩ := h0.lps.at_ n L h1 h3
    have := VRep.sc _ _ (h8 t)
    rw [hnl, hnt] at this
    exact PV.sc_mono h.nloc h.ntok _ this
  · obtain ⟨h1, h2⟩ := h.arr k cs hk hd hc
    refine ⟨h1, ?_⟩
    rcases h2 with ⟨h2, h3⟩ | h2
    · by_cases hd0 : m.top k < DEAD
      · obtain ⟨_, _, c, _, h4, _⟩ := h0.arrs k cs h2 hd0 h3
        have := LRep.sc _ _ h4
        rw [hnl, hnt] at this
        exact PV.scL_mono h.nloc h.ntok cs this
      · have e1 := (h.top k hk).1
        have e2 := hm.top k (by have := h.ltok; omega)
        have e3 := h0.top k h2
        have e4 := l.tok k (by show k < Γ.ntok; omega)
        have e5 : (Γ.withX x).top k = Γ.top k := rfl
        rcases e4 with ⟨e4, _⟩ | e4 <;> omega
    · exact h2
  · refine ⟨l.base, ?_, fun n hn => l.loc n hn, l.imm, ?_, fun k hk => l.tok k hk, fun k hk => l.wd k hk, CtxX.le.refl _, l.immb⟩
    · show Γ.nloc ≤ m''.nloc; rw [hnl]; exact h.nloc
    · show Γ.ntok ≤ m''.ntok; rw [hnt]; exact h.ntok
theorem LvS.sim {p : PV} (h : LvS m m' m'' p) {x : CtxX} (h0 : MemSim Γ m w) (l : (Γ.withX x).le Γ') (hx : XSim (Γ'.cut Γ.x m''.nloc m''.ntok) w') (hm : MemSim Γ' m' w') : MemSim (Γ'.cut Γ.x m''.nloc m''.ntok) m'' w' ∧ Γ.le (Γ'.cut Γ.x m''.nloc m''.ntok) := by
  rcases h with rfl | h
  · have h1 := hm.nloc
    have h2 := hm.ntok
    refine ⟨hm.cut hx (Nat.le_refl _) (Nat.le_refl _)
      (fun k cs hn hc => by obtain ⟨c, _, q, _⟩ := hm.locs k cs hn hc; have := LRep.sc _ _ q; rw [h1, h2] at this; exact ⟨hc, this⟩) (fun k hk => ⟨rfl, rfl⟩)
      (fun k L hk hL => ⟨hL, fun t => by obtain ⟨_, tmps, D, _, _, q⟩ := hm.lps.at_ k L hk hL; have := VRep.sc _ _ (q t); rw [h1, h2] at this; exact this⟩) (fun _ _ _ q => q)
      (fun k cs hk hd hc => ⟨hc, by obtain ⟨_, _, c, _, q, _⟩ := hm.arrs k cs hk hd hc; have := LRep.sc _ _ q; rw [h1, h2] at this; exact this⟩), ?_⟩
    refine ⟨l.base, ?_, fun n hn => l.loc n hn, l.imm, ?_, fun k hk => l.tok k hk, fun k hk => l.wd k hk, CtxX.le.refl _, l.immb⟩
    · show Γ.nloc ≤ m''.nloc; rw [← h1]; exact l.nloc
    · show Γ.ntok ≤ m''.ntok; rw [← h2]; exact l.ntok
  · exact h.1.sim h0 l hx hm
theorem LvS.sc {p : PV} (h : LvS m m' m'' p) (hm : MemSim Γ' m' w') {u : Value} (hv : VRep Γ' w' p u) : p.sc m''.nloc m''.ntok := by
  rcases h with rfl | h
  · have := VRep.sc _ _ hv
    rwa [hm.nloc, hm.ntok] at this
  · exact h.2
theorem leavesM {F : Fence} {n : Nat} {fn : Func} {tmps : Array Value} {R : Ending → World → Prop} {ds : List Deferred} {u : FrameMode} (hu : u ≠ .run) : ∀ (ms : List Nat) (w : World), ms.Nodup →
    (∀ D ∈ ms, w.heap[D]? = some (.deferred (some [])) ∧ Γ.base ≤ D ∧ ¬ Γ.x.mark D) → MemSim Γ m w → (∀ w', MemSim Γ m w' → Keeps Γ w w' → LeavesInM F n P fn tmps R ds u w') →
    LeavesInM F n P fn tmps R (ms.map (fun D => { target := .collected D, args := #[] }) ++ ds) u w
  | [], w, _, _, hm, k => k w hm (Keeps.refl _ _)
  | D :: ms, w, hd, hD, hm, k => by
    obtain ⟨h1, h2, h3⟩ := hD D (by simp)
    have hx : XSim Γ (w.putObj D (.deferred none)) := by
      refine ⟨fun D' hD' => ?_, fun l hl => ?_, hm.xs.rnd, by simp; exact hm.xs.dlo⟩
      · obtain ⟨a, b⟩ := hm.xs.mark D' hD'
        exact ⟨a, (World.putObj_heap_other (fun e : D' = D => h3 (by rw [← e]; exact hD'))).trans b⟩
      · obtain ⟨a, L, b⟩ := hm.xs.lps l hl
        refine ⟨a, L, (World.putObj_heap_other (fun e => ?_)).trans b⟩
        subst e; rw [b] at h1; cases h1
    obtain ⟨hm', hk'⟩ := hm.putObj (o' := .deferred none) h1 rfl rfl h2 (fun n L hn hL e => by
      obtain ⟨_, tmps, D', q, _⟩ := hm.lps.at_ n L hn hL
      rw [e, h1] at q; cases q) hx (fun n x a b e => by have := (hm.its.at_ n x a b).2; rw [e, h1] at this; cases this)
    refine ⟨hu, .inl ⟨D, _, rfl, run_takeDeferred h1, leavesM hu ms _ (List.nodup_cons.1 hd).2 (fun D' hD' => ?_) hm' fun w' a b => k w' a (hk'.trans (Ctx.le.refl _) b)⟩⟩
    obtain ⟨a, b, c⟩ := hD D' (by simp [hD'])
    exact ⟨(World.putObj_heap_other (fun e : D' = D => (List.nodup_cons.1 hd).1 (by rw [← e]; exact hD'))).trans a, b, c⟩
def resF (tmps : Array Value) : ResultVar → Sem Value
  | .tmp t => pure (tmps.getD t undef)
  | .cell a t => do loadVar t (← asAddr (tmps.getD a undef))
theorem resV_run {σ : Nat → PV} {tmps : Array Value} (hs : ∀ t, VRep Γ w (σ t) (tmps.getD t undef)) (hm : MemSim Γ m w) {r : ResultVar} {p : PV} (h : resV P σ m r p) : ∃ v, (resF tmps r).run P w = .ok v w ∧ VRep Γ w p v := by
  cases r with
  | tmp t => exact ⟨_, rfl, by rw [show p = σ t from h]; exact hs t⟩
  | cell a t =>
    have h : aload P t (σ a) m (fun q m' => q = p ∧ m' = m) := h
    obtain ⟨ad, v, p', h1, h2, ⟨rfl, _⟩, h4⟩ := sound_load0 h hm (hs a)
    exact ⟨v, by simp only [resF, Sem.run_bind, h1, asAddr, Sem.run_pure, Result.andThen_ok, h2], h4⟩
theorem resL_run {σ : Nat → PV} {tmps : Array Value} (hs : ∀ t, VRep Γ w (σ t) (tmps.getD t undef)) (hm : MemSim Γ m w) : ∀ (rs : List ResultVar) (ps : List PV), ResL P σ m rs ps → ∃ vs, (rs.mapM (resF tmps)).run P w = .ok vs w ∧ LRep Γ w ps vs ∧ vs.length = rs.length
  | [], ps, h => ⟨[], rfl, by rw [show ps = [] from h]; rfl, rfl⟩
  | r :: rs, ps, h => by
    obtain ⟨p, ps', rfl, h1, h2⟩ := h
    obtain ⟨v, k1, k2⟩ := resV_run hs hm h1
    obtain ⟨vs, k3, k4, k5⟩ := resL_run hs hm rs ps' h2
    refine ⟨v :: vs, ?_, ⟨v, vs, rfl, k2, k4⟩, by simp [k5]⟩
    rw [List.mapM_cons]
    simp only [Sem.run_bind, k1, Result.andThen_ok, k3, Sem.run_pure]
theorem results_eq (fn : Func) (tmps : Array Value) : results fn tmps = (do let vs ← fn.results.toList.mapM (resF tmps); pure (if h : vs.toArray.size = 1 then vs.toArray[0] else .tuple vs.toArray)) := by
  have e : results fn tmps = (do let vs ← fn.results.mapM (resF tmps); pure (if h : vs.size = 1 then vs[0] else Value.tuple vs)) := by
    unfold results
    refine congrArg (fun f => (do let vs ← fn.results.mapM f; pure (if h : vs.size = 1 then vs[0] else Value.tuple vs) : Sem Value)) ?_
    funext r; cases r <;> rfl
  rw [e]
  conv => lhs; rw [← Array.toArray_toList (xs := fn.results), List.mapM_toArray, map_eq_pure_bind]
  simp only [bind_assoc, pure_bind]
theorem ResP_run {σ : Nat → PV} {tmps : Array Value} {fn : Func} {p : PV} (hs : ∀ t, VRep Γ w (σ t) (tmps.getD t undef)) (hm : MemSim Γ m w) (h : ResP P fn.results.toList σ m p) : ∃ v, (results fn tmps).run P w = .ok v w ∧ VRep Γ w p v := by
  rw [results_eq]
  generalize fn.results.toList = rs at h
  have key : ∀ ps, rs.length ≠ 1 → p = .tup ps → ResL P σ m rs ps → ∃ v, (do let vs ← rs.mapM (resF tmps); pure (if h : vs.toArray.size = 1 then vs.toArray[0] else .tuple vs.toArray) : Sem Value).run P w = .ok v w ∧ VRep Γ w p v := by
    rintro ps hne rfl hl
    obtain ⟨vs, k1, k2, k3⟩ := resL_run hs hm rs ps hl
    refine ⟨.tuple vs.toArray, ?_, ⟨vs.toArray, rfl, by simpa using k2⟩⟩
    simp only [Sem.run_bind, k1, Result.andThen_ok, Sem.run_pure]
    rw [dif_neg (by simp [k3, hne])]
  match rs, h, key with
  | [r], h, _ =>
    obtain ⟨v, k1, k2⟩ := resV_run hs hm h
    refine ⟨v, ?_, k2⟩
    simp only [List.mapM_cons, List.mapM_nil, Sem.run_bind, k1, Result.andThen_ok, Sem.run_pure]
    rfl
  | [], h, key => obtain ⟨ps, e, hl⟩ := h; exact key ps (by simp) e hl
  | _ :: _ :: _, h, key => obtain ⟨ps, e, hl⟩ := h; exact key ps (by simp) e hl
def slots0 (args : List PV) : Nat → PV := fun t => args.getD t .any
theorem ACall.of_aw {f : FuncId} {fn : Func} {N : Nat} {c : Code} {args : List PV} {R : ARes → St → Prop} (hf : P.funcs[f]? = some fn) (hN : fn.ntmps = N) (hb : fn.body = some c) (hn : (fn.name == "runtime.NumGoroutine") = false)
    (ha : args.length ≤ N) (h : AW P N c (Fin P fn m R) (slots0 args) m) : ACall P f args m R := by
  subst hN
  refine ⟨⟨fn, c, hf, hb, hn⟩, fun Γ w us hm hr => ?_⟩
  have hl : us.length = args.length := LRep.len _ _ hr
  have hsz := hm.xs.mark
  refine callsIn_wide.1 (callsIn_of_wp_marks (F := Fence.wide) (n := 0) hf hb trivial ?_)
  refine wpIn_mono (h (Γ.withX (Γ.x.into w.heap.size)) { tmps := us.toArray ++ Array.replicate (fn.ntmps - us.toArray.size) undef, defers := [] } w ⟨?_, ⟨[], rfl, List.nodup_nil, fun _ h => by cases h⟩, hm.withX _ hm.xs.into, fun t => ?_⟩) ?_
  · simp; omega
  · refine VRep.withX ?_ _
    unfold slots0
    by_cases ht : t < args.length
    · rw [List.getD_eq_getElem?_getD, List.getElem?_eq_getElem ht]
      obtain ⟨u, h1, h2⟩ := LRep.get _ _ hr t _ (List.getElem?_eq_getElem ht)
      have : (us.toArray ++ Array.replicate (fn.ntmps - us.toArray.size) undef).getD t undef = u := by
        rw [Array.getD_eq_getD_getElem?, Array.getElem?_append_left (by simp; omega)]
        simp [h1]
      rw [this]
      exact h2
    · rw [List.getD_eq_getElem?_getD, List.getElem?_eq_none (by omega)]
      trivial
  · rintro e a' w' ⟨x, σ', m', Γ', h1, h2, h3, h4, h5⟩
    obtain ⟨ms, hd1, hd2, hd3⟩ := h3.defers
    have hfd : Γ'.x.fd = [] := h4.x.fd
    have hdlo : Γ'.x.dlo = w.heap.size := h4.x.dlo
    have hms : ∀ D ∈ ms, w'.heap[D]? = some (.deferred (some [])) ∧ Γ'.base ≤ D ∧ ¬ Γ.x.mark D := fun D hD => by
      obtain ⟨a, b⟩ := h3.mem.xs.mark D (hd3 D hD).1
      refine ⟨b, a, fun q => ?_⟩
      have h6 := (Array.getElem?_eq_some_iff.1 (hsz D q).2).1
      have h7 := (hd3 D hD).2
      omega
    rw [hfd] at hd1
    -- in the callee's memory, with the caller's marks alone
    have hx₂ : XSim (Γ'.withX Γ.x) w' := by
      have := hm.xs.back h4.base h4.x.mark h4.x.lps h5.below.size h3.mem.xs Γ'.nloc Γ'.ntok
      exact ⟨this.mark, this.lps, this.rnd, this.dlo⟩
    have hm₂ := h3.mem.withX Γ.x hx₂
    have l₂ : (Γ.withX Γ.x).le (Γ'.withX Γ.x) := ⟨h4.base, h4.nloc, h4.loc, h4.imm, h4.ntok, h4.tok, h4.wd, CtxX.le.refl _, h4.immb⟩
    have fin : ∀ (u : FrameMode) (r : ARes) (m'' : St), u ≠ .run → ∀ pp : PV, LvS m m' m'' pp → R r m'' →
        (∀ w₂, MemSim (Γ'.withX Γ.x) m' w₂ → (∀ t, VRep (Γ'.withX Γ.x) w₂ (σ' t) (a'.tmps.getD t undef)) → Keeps (Γ'.withX Γ.x) w' w₂ → (∃ v, ERep (Γ'.cut Γ.x m''.nloc m''.ntok) w₂ r (.returned v) ∧ u = .returning ∧ (results fn a'.tmps).run P w₂ = .ok v w₂) ∨ (∃ ch, ERep (Γ'.cut Γ.x m''.nloc m''.ntok) w₂ r (.panicked ch) ∧ u = .panicking ch)) →
        LeavesInM Fence.wide 0 P fn a'.tmps (fun e w' => ∃ r m' Γ', R r m' ∧ ERep Γ' w' r e ∧ Γ.le Γ' ∧ Keeps Γ w w' ∧ MemSim Γ' m' w') a'.defers u w' := by
      intro u r m'' hu pp hlv hR hres
      rw [hd1]
      refine leavesM hu ms w' hd2 hms hm₂ fun w₂ hm₃ hk₂ => ?_
      have hk₃ : Keeps Γ w w₂ := Keeps.trans (A := Γ) (B := Γ'.withX Γ.x) ⟨h5.below, h5.imm⟩ l₂ hk₂
      have hx₃ : XSim ((Γ'.withX Γ.x).cut Γ.x m''.nloc m''.ntok) w₂ := ⟨hm₃.xs.mark, hm₃.xs.lps, hm₃.xs.rnd, hm₃.xs.dlo⟩
      obtain ⟨h6, h7⟩ := hlv.sim hm l₂ hx₃ hm₃
      rcases hres w₂ hm₃ (fun t => VRep.mono (Ctx.le.refl _) hk₂ _ _ (VRep.withX (h3.slots t) Γ.x)) hk₂ with ⟨v, a, b, c⟩ | ⟨ch, a, b⟩
      · subst b; exact ⟨v, c, r, m'', _, hR, a, h7, hk₃, h6⟩
      · subst b; exact ⟨r, m'', _, hR, a, h7, hk₃, h6⟩
    cases x <;> cases e <;> simp only [XRep] at h2 <;> simp only [Fin] at h1
    case normal.normal =>
      obtain ⟨p, m'', hp, hlv, hR⟩ := h1
      refine fin .returning _ _ (by simp) _ hlv hR fun w₂ hm₃ hs₃ _ => .inl ?_
      obtain ⟨v, hv, hrep⟩ := ResP_run (P := P) hs₃ hm₃ hp
      exact ⟨v, VRep.cut (Γ := Γ'.withX Γ.x) _ _ (hlv.sc hm₃ (VRep.strip _ _ hrep)) (VRep.strip _ _ hrep), rfl, hv⟩
    case ret.ret =>
      obtain ⟨p, m'', hp, hlv, hR⟩ := h1
      refine fin .returning _ _ (by simp) _ hlv hR fun w₂ hm₃ hs₃ _ => .inl ?_
      obtain ⟨v, hv, hrep⟩ := ResP_run (P := P) hs₃ hm₃ hp
      exact ⟨v, VRep.cut (Γ := Γ'.withX Γ.x) _ _ (hlv.sc hm₃ (VRep.strip _ _ hrep)) (VRep.strip _ _ hrep), rfl, hv⟩
    case pan.panic =>
      obtain ⟨m'', hlv, hR⟩ := h1
      obtain ⟨v, rfl, hrep⟩ := h2
      refine fin (.panicking _) (.pan _) _ (by simp) _ hlv hR fun w₂ hm₃ hs₃ hk₂ => .inr ⟨_, ?_, rfl⟩
      have hr2 := VRep.strip _ _ (VRep.mono (Ctx.le.refl _) hk₂ _ _ (VRep.withX hrep Γ.x))
      exact ⟨v, rfl, VRep.cut (Γ := Γ'.withX Γ.x) _ _ (hlv.sc hm₃ hr2) hr2⟩
end
section
variable {P : Program} {N : Nat} {Q : APost} {σ : Nat → PV} {m : St} {ops : Array Oper} {o : Oper} {rest l : List Oper}
def opDst (ops : Array Oper) (j : Nat) : Option Tmp := (ops[j]?).bind (·.dst)
theorem yield_at {Γ : Ctx} {a : Act} {w : World} (hs : Sim Γ N σ m a w) {j d : Nat} (hd : opDst ops j = some d) (hlt : d < N) : yielded ops a.tmps j = match a.tmps.getD d undef with | .bool b => some b | _ => none := by
  unfold yielded
  unfold opDst at hd
  rw [hd]
  have : a.tmps[d]? = some (a.tmps.getD d undef) := by
    have hlt' : d < a.tmps.size := by rw [hs.size]; exact hlt
    rw [Array.getD_eq_getD_getElem?, Array.getElem?_eq_getElem hlt']; rfl
  simp only [Option.bind_some, this]
  cases a.tmps.getD d undef <;> rfl
theorem AList.go (hg : o.guard = none) (hd : dstOK N o.dst = true)
    (h : aop P o.op (Ab.opv σ) m (fun p m' => AList P N ops Q rest (put σ o.dst p) m') (fun p m' => Q (.pan p) σ m')) : AList P N ops Q (o :: rest) σ m := AList.step hg hd (aop_sound o _ h)
theorem AList.op {d : Tmp} {op : Op} {ty : TypeId} {pos : String} {after : Array Edge} (hd : d < N)
    (h : ∀ K Kp : PV → St → Prop, (∀ p m', AList P N ops Q rest (upd σ d p) m' → K p m') → (∀ p m', Q (.pan p) σ m' → Kp p m') → aop P op (Ab.opv σ) m K Kp) :
    AList P N ops Q (⟨some d, op, ty, pos, after, none⟩ :: rest) σ m :=
  AList.go rfl (by simpa [dstOK] using hd) (h _ _ (fun _ _ h => h) (fun _ _ h => h))
theorem AList.op0 {op : Op} {ty : TypeId} {pos : String} {after : Array Edge}
    (h : ∀ K Kp : PV → St → Prop, (∀ p m', AList P N ops Q rest σ m' → K p m') → (∀ p m', Q (.pan p) σ m' → Kp p m') → aop P op (Ab.opv σ) m K Kp) :
    AList P N ops Q (⟨none, op, ty, pos, after, none⟩ :: rest) σ m :=
  AList.go rfl rfl (h _ _ (fun _ _ h => h) (fun _ _ h => h))
theorem AList.take {j d : Nat} {want : Bool} (hg : o.guard = some (j, want)) (hj : opDst ops j = some d) (hlt : d < N) (hw : σ d = .v (.bool want)) (hd : dstOK N o.dst = true)
    (h : OpOK P o (Ab.opv σ) m (fun p m' => AList P N ops Q rest (put σ o.dst p) m') (fun p m' => Q (.pan p) σ m')) : AList P N ops Q (o :: rest) σ m := by
  intro Γ a w hs
  have hv := hs.slots d
  rw [hw] at hv
  replace hv : a.tmps.getD d undef = .bool want := hv
  have hy : Region.wanted o (yielded ops a.tmps) = true := by
    simp only [Region.wanted, hg, yield_at hs hj hlt, hv]
    simp
  have := AList.step (P := P) (N := N) (Q := Q) (ops := ops) (o := { o with guard := none }) (rest := rest) (σ := σ) (m := m) rfl hd h Γ a w hs
  simp only [wpListIn, Region.wanted, if_true] at this
  unfold wpListIn
  rw [if_pos hy]
  exact this
theorem AList.pass {j d : Nat} {want : Bool} {u : Value} (hg : o.guard = some (j, want)) (hj : opDst ops j = some d) (hlt : d < N) (hw : σ d = .v u) (hu : (match u with | .bool b => b == want | _ => false) = false) (hd : dstOK N o.dst = true)
    (h : AList P N ops Q rest (put σ o.dst (.v undef)) m) : AList P N ops Q (o :: rest) σ m := by
  intro Γ a w hs
  have hv := hs.slots d
  rw [hw] at hv
  replace hv : a.tmps.getD d undef = u := hv
  have hy : Region.wanted o (yielded ops a.tmps) = false := by
    simp only [Region.wanted, hg, yield_at hs hj hlt, hv]
    cases u <;> simp_all
  unfold wpListIn
  rw [if_neg (by rw [hy]; simp)]
  exact ⟨fun _ _ => trivial, h Γ _ w (hs.put hd rfl)⟩
theorem AList.guard {d g j : Nat} {b want : Bool} {op : Op} {ty : TypeId} {pos : String} {after : Array Edge} (hj : opDst ops j = some g) (hg : g < N) (hd : d < N) (hb : σ g = .v (.bool b))
    (h1 : b = want → ∀ K Kp : PV → St → Prop, (∀ p m', AList P N ops Q rest (upd (upd σ g (.v (.bool want))) d p) m' → K p m') → (∀ p m', Q (.pan p) (upd σ g (.v (.bool want))) m' → Kp p m') → aop P op (Ab.opv (upd σ g (.v (.bool want)))) m K Kp)
    (h2 : b = !want → AList P N ops Q rest (upd (upd σ g (.v (.bool !want))) d (.v undef)) m) : AList P N ops Q (⟨some d, op, ty, pos, after, some (j, want)⟩ :: rest) σ m := by
  have e : ∀ c, b = c → upd σ g (.v (.bool c)) = σ := by
    intro c hc
    subst hc
    funext i
    by_cases h : i = g
    · subst h; rw [upd_same, hb]
    · rw [upd_ne _ _ _ _ h]
  have hd' : dstOK N (some d) = true := by simpa [dstOK] using hd
  by_cases hc : b = want
  · have h1' := h1 hc
    rw [e want hc] at h1'
    subst hc
    exact AList.take rfl hj hg hb hd' (aop_sound _ _ (h1' _ _ (fun _ _ h => h) (fun _ _ h => h)))
  · have hn : b = !want := by cases b <;> cases want <;> simp_all
    have h2' := h2 hn
    rw [e (!want) hn] at h2'
    exact AList.pass rfl hj hg hb (by subst hn; cases want <;> rfl) hd' h2'
end
end Go.Ab
namespace Go.Ab
open Go.RowKit
theorem upd_lit {α : Type} (f : Nat → α) (n : Nat) (x : α) (i : Nat) : upd f n x i = if i = n then x else f i := rfl
@[simp] theorem newLoc_nloc (m : St) (cs : List PV) : (m.newLoc cs).nloc = m.nloc + 1 := rfl
@[simp] theorem newLoc_loc (m : St) (cs : List PV) (i : Nat) : (m.newLoc cs).loc i = if i = m.nloc then some cs else m.loc i := rfl
@[simp] theorem newLoc_lp (m : St) (cs : List PV) (i : Nat) : (m.newLoc cs).lp i = if i = m.nloc then none else m.lp i := rfl
@[simp] theorem newLoc_it (m : St) (cs : List PV) (i : Nat) : (m.newLoc cs).it i = if i = m.nloc then none else m.it i := rfl
@[simp] theorem setLoc_it (m : St) (n : Nat) (cs : List PV) : (m.setLoc n cs).it = m.it := rfl
@[simp] theorem setLoc_lp (m : St) (n : Nat) (cs : List PV) : (m.setLoc n cs).lp = m.lp := rfl
@[simp] theorem newLoc_top (m : St) (cs : List PV) : (m.newLoc cs).top = m.top := rfl
@[simp] theorem newLoc_wd (m : St) (cs : List PV) : (m.newLoc cs).wd = m.wd := rfl
@[simp] theorem newLoc_ntok (m : St) (cs : List PV) : (m.newLoc cs).ntok = m.ntok := rfl
@[simp] theorem setLoc_nloc (m : St) (n : Nat) (cs : List PV) : (m.setLoc n cs).nloc = m.nloc := rfl
@[simp] theorem setLoc_loc (m : St) (n : Nat) (cs : List PV) (i : Nat) : (m.setLoc n cs).loc i = if i = n then some cs else m.loc i := rfl
@[simp] theorem setLoc_top (m : St) (n : Nat) (cs : List PV) : (m.setLoc n cs).top = m.top := rfl
@[simp] theorem setLoc_wd (m : St) (n : Nat) (cs : List PV) : (m.setLoc n cs).wd = m.wd := rfl
@[simp] theorem setLoc_ntok (m : St) (n : Nat) (cs : List PV) : (m.setLoc n cs).ntok = m.ntok := rfl
@[simp] theorem cells1_v (u : Value) : cells1 (.v u) = if u.oneCell' then some [.v u] else none := rfl
@[simp] theorem cells1_list (o : Own) (r : List (List PV)) : cells1 (.list o r) = some [.list o r] := rfl
@[simp] theorem cells1_ro (cs : List PV) : cells1 (.ro cs) = some [.ro cs] := rfl
@[simp] theorem cells1_loc (n o : Nat) : cells1 (.loc n o) = some [.loc n o] := rfl
@[simp] theorem cells1_marr (n o l c : Nat) : cells1 (.marr n o l c) = some [.marr n o l c] := rfl
@[simp] theorem cells1_clo (f : FuncId) (a b : List PV) : cells1 (.clo f a b) = some [.clo f a b] := rfl
@[simp] theorem cells1_mtok (k n : Nat) : cells1 (.mtok k n) = some [.mtok k n] := rfl
@[simp] theorem cells1_mptr (k o g : Nat) : cells1 (.mptr k o g) = some [.mptr k o g] := rfl
@[simp] theorem cells1_yld (n : Nat) : cells1 (.yld n) = some [.yld n] := rfl
@[simp] theorem cells1_iface (t : TypeId) (x : PV) : cells1 (.iface t x) = some [.iface t x] := rfl
@[simp] theorem cells1_agg (cs : List PV) : cells1 (.agg cs) = if cs.all cell1 then some cs else none := rfl
@[simp] theorem one_int (k : IntKind) (n : Int) : (Value.int k n).oneCell' = true := rfl
@[simp] theorem one_bool (b : Bool) : (Value.bool b).oneCell' = true := rfl
@[simp] theorem one_string (s : ByteArray) : (Value.string s).oneCell' = true := rfl
@[simp] theorem one_nilFunc : Value.nilFunc.oneCell' = true := rfl
@[simp] theorem one_nilIface : Value.nilIface.oneCell' = true := rfl
@[simp] theorem one_ptr (a : Option Addr) : (Value.pointer a).oneCell' = true := rfl
attribute [simp] PV.strip PV.stripL PV.stripR PV.sc PV.scL PV.scR
attribute [simp] aop Ab.opv slots0 aload astore afieldAddr afield apart aindexAddr aindex aextract alen acall abinop abin aunop aconvert apick anil Ab.put
attribute [simp] zOK zcells ofV Value.cells afill tplace setL cell1
@[simp] theorem one_slice (a : Option Addr) (n c : Nat) : (Value.slice a n c).oneCell' = true := rfl
@[simp] theorem abuild_iff {P : Program} {t : TypeId} {parts : List (Nat × PV)} {m : St} {K : PV → St → Prop} (hf : tfok P t = true) :
    abuild P t parts m K ↔ (match tzero P t with | some z => tinfo P t = true ∧ zOK z = true ∧ (match afill (tplace P t) parts (zcells z) with | some cs => K (.agg cs) m | none => False) | none => False) := by
  have hn : tarr P t = none := by
    unfold tfok at hf; unfold tarr
    cases h : P.underlying t with
    | none => rfl
    | some d => cases d <;> simp_all
  unfold abuild
  cases tzero P t with
  | none => simp
  | some z => simp only [hf, hn, true_and, reduceCtorEq, false_and, exists_false, or_false] <;> exact Iff.rfl
theorem wrap_i64 (n : Int) (h0 : -9223372036854775808 ≤ n) (h1 : n < 9223372036854775808) : IntKind.i64.wrap n = n := by
  rw [IntKind.wrap_i64]; omega
abbrev Same (m m' : St) : Prop := Leaves m m' m
theorem Same.mk {m m' : St} (h1 : m.nloc ≤ m'.nloc) (h2 : m.ntok ≤ m'.ntok) (h3 : ∀ n, n < m.nloc → m'.loc n = m.loc n) (h4 : ∀ k, k < m.ntok → m'.top k = m.top k ∧ m'.wd k = m.wd k) (h5 : ∀ n, n < m.nloc → m'.lp n = m.lp n) (h6 : ∀ n, n < m.nloc → m'.it n = m.it n) (h7 : ∀ k cs, k < m.ntok → m.top k < DEAD → m.arr k = some cs → m'.arr k = some cs) : Same m m' :=
  ⟨rfl, Nat.le_refl _, h1, h2, fun n hn => ⟨(h3 n hn).symm, .inl (h3 n hn)⟩, fun k hk => ⟨(h4 k hk).1.symm, (h4 k hk).2.symm⟩, fun n hn => ⟨(h5 n hn).symm, h5 n hn⟩, fun n hn => (h6 n hn).symm, fun k cs hk hd hc => ⟨h7 k cs hk hd hc, .inl ⟨hk, hc⟩⟩⟩
theorem Same.refl (m : St) : Same m m := Same.mk (Nat.le_refl _) (Nat.le_refl _) (fun _ _ => rfl) (fun _ _ => ⟨rfl, rfl⟩) (fun _ _ => rfl) (fun _ _ => rfl) (fun _ _ _ _ h => h)
theorem Same.getL {m m' : St} (h : Same m m') {n : Nat} (hn : n < m.nloc) : m'.lp n = m.lp n := (h.lp n hn).2
theorem Same.getI {m m' : St} (h : Same m m') {n : Nat} (hn : n < m.nloc) : m'.it n = m.it n := (h.it n hn).symm
theorem Same.getA {m m' : St} (h : Same m m') {k : Nat} {cs : List PV} (hk : k < m.ntok) (hd : m.top k < DEAD) (hc : m.arr k = some cs) : m'.arr k = some cs := (h.arr k cs hk hd hc).1
theorem Same.get {m m' : St} (h : Same m m') {n : Nat} (hn : n < m.nloc) : m'.loc n = m.loc n := (h.loc n hn).1.symm
theorem Same.trans {m m' m'' : St} (h : Same m m') (k : Same m' m'') : Same m m'' :=
  Same.mk (Nat.le_trans h.lloc k.lloc) (Nat.le_trans h.ltok k.ltok) (fun n hn => (k.get (Nat.lt_of_lt_of_le hn h.lloc)).trans (h.get hn))
    (fun i hi => ⟨(k.top i (Nat.lt_of_lt_of_le hi h.ltok)).1.symm.trans (h.top i hi).1.symm, (k.top i (Nat.lt_of_lt_of_le hi h.ltok)).2.symm.trans (h.top i hi).2.symm⟩) (fun n hn => (k.getL (Nat.lt_of_lt_of_le hn h.lloc)).trans (h.getL hn)) (fun n hn => (k.getI (Nat.lt_of_lt_of_le hn h.lloc)).trans (h.getI hn))
    (fun i cs hi hd hc => k.getA (Nat.lt_of_lt_of_le hi h.ltok) (by rw [← (h.top i hi).1]; exact hd) (h.getA hi hd hc))
theorem Same.newLoc {m m' : St} (h : Same m m') (cs : List PV) : Same m (m'.newLoc cs) :=
  Same.trans h (Same.mk (Nat.le_succ _) (Nat.le_refl _) (fun n hn => by simp; omega) (fun _ _ => ⟨rfl, rfl⟩) (fun n hn => by simp; omega) (fun n hn => by simp; omega) (fun _ _ _ _ h => h))
theorem Same.setLoc {m m' : St} (h : Same m m') {n : Nat} (hn : m.nloc ≤ n) (cs : List PV) : Same m (m'.setLoc n cs) :=
  Same.mk h.lloc h.ltok (fun i hi => by rw [setLoc_loc, if_neg (by omega)]; exact h.get hi) (fun k hk => ⟨(h.top k hk).1.symm, (h.top k hk).2.symm⟩) (fun n hn => h.getL hn) (fun n hn => h.getI hn) (fun k cs hk hd hc => h.getA hk hd hc)
theorem Same.dropLoc {m m' : St} (h : Same m m') {n : Nat} (hn : m.nloc ≤ n) : Same m (m'.dropLoc n) :=
  Same.mk h.lloc h.ltok (fun i hi => by show upd m'.loc n none i = _; rw [upd_ne _ _ _ _ (by omega)]; exact h.get hi) (fun k hk => ⟨(h.top k hk).1.symm, (h.top k hk).2.symm⟩) (fun n hn => h.getL hn) (fun n hn => h.getI hn) (fun k cs hk hd hc => h.getA hk hd hc)
theorem Same.newTok {m m' : St} (h : Same m m') (n s : Nat) : Same m (m'.newTok n s) :=
  Same.trans h (Same.mk (Nat.le_refl _) (Nat.le_succ _) (fun n hn => rfl) (fun k hk => ⟨upd_ne _ _ _ _ (by omega), upd_ne _ _ _ _ (by omega)⟩) (fun _ _ => rfl) (fun _ _ => rfl) (fun k cs hk _ hc => (upd_ne _ _ _ _ (by omega)).trans hc))
theorem Same.growTok {m m' : St} (h : Same m m') {k : Nat} (hk : m.ntok ≤ k) (q : Nat) : Same m (m'.growTok k q) :=
  Same.mk h.lloc h.ltok (fun i hi => h.get hi) (fun i hi => ⟨by show upd m'.top k _ i = _; rw [upd_ne _ _ _ _ (by omega)]; exact (h.top i hi).1.symm, (h.top i hi).2.symm⟩) (fun n hn => h.getL hn) (fun n hn => h.getI hn) (fun k cs hk hd hc => h.getA hk hd hc)
theorem Fin.ret {P : Program} {fn : Func} {m m' : St} {R : ARes → St → Prop} {σ : Nat → PV} {p q : PV} (hp : ResP P fn.results.toList σ m' p) (hm : Same m m') (hq : p.strip = q) (hs : q.sc m.nloc m.ntok) (h : R (.ret q) m) : Fin P fn m R .ret σ m' :=
  ⟨p, m, hp, .inr ⟨hm.lv, hq ▸ hs⟩, hq ▸ h⟩
theorem Fin.normal {P : Program} {fn : Func} {m m' : St} {R : ARes → St → Prop} {σ : Nat → PV} {p q : PV} (hp : ResP P fn.results.toList σ m' p) (hm : Same m m') (hq : p.strip = q) (hs : q.sc m.nloc m.ntok) (h : R (.ret q) m) : Fin P fn m R .normal σ m' :=
  ⟨p, m, hp, .inr ⟨hm.lv, hq ▸ hs⟩, hq ▸ h⟩
theorem Fin.pan {P : Program} {fn : Func} {m m' : St} {R : ARes → St → Prop} {σ : Nat → PV} {p q : PV} (hm : Same m m') (hq : p.strip = q) (hs : q.sc m.nloc m.ntok) (h : R (.pan q) m) : Fin P fn m R (.pan p) σ m' :=
  ⟨m, .inr ⟨hm.lv, hq ▸ hs⟩, hq ▸ h⟩
theorem AList.opT {P : Program} {N : Nat} {Q : APost} {σ : Nat → PV} {m : St} {ops : Array Oper} {rest : List Oper} {d g j : Nat} {want : Bool} {op : Op} {ty : TypeId} {pos : String} {after : Array Edge} (hj : opDst ops j = some g) (hg : g < N) (hd : d < N) (hb : σ g = .v (.bool want))
    (h : ∀ K Kp : PV → St → Prop, (∀ p m', AList P N ops Q rest (upd σ d p) m' → K p m') → (∀ p m', Q (.pan p) σ m' → Kp p m') → aop P op (Ab.opv σ) m K Kp) :
    AList P N ops Q (⟨some d, op, ty, pos, after, some (j, want)⟩ :: rest) σ m :=
  AList.take rfl hj hg hb (by simpa [dstOK] using hd) (aop_sound _ _ (h _ _ (fun _ _ h => h) (fun _ _ h => h)))
theorem AList.opF {P : Program} {N : Nat} {Q : APost} {σ : Nat → PV} {m : St} {ops : Array Oper} {rest : List Oper} {d g j : Nat} {want : Bool} {op : Op} {ty : TypeId} {pos : String} {after : Array Edge} (hj : opDst ops j = some g) (hg : g < N) (hd : d < N) (hb : σ g = .v (.bool !want) ∨ σ g = .v undef)
    (h : AList P N ops Q rest (upd σ d (.v undef)) m) : AList P N ops Q (⟨some d, op, ty, pos, after, some (j, want)⟩ :: rest) σ m := by
  rcases hb with hb | hb
  · exact AList.pass rfl hj hg hb (by cases want <;> rfl) (by simpa [dstOK] using hd) h
  · exact AList.pass rfl hj hg hb rfl (by simpa [dstOK] using hd) h
theorem map_ta {α β : Type} (f : α → β) (l : List α) : List.map f (List.toArray l).toList = List.map f l := by simp
@[simp] theorem bne_dec (a b : Int) : (a != b) = !decide (a = b) := by
  by_cases h : a = b <;> simp [h]
@[simp] theorem beq_dec (a b : Int) : (a == b) = decide (a = b) := by
  by_cases h : a = b <;> simp [h]
theorem AExit.norT {nx : (Nat → PV) → St → Prop} {Q : APost} {σ : Nat → PV} {m : St} (h : nx σ m) : AExit.then nx Q .normal σ m := h
theorem AExit.retT {nx : (Nat → PV) → St → Prop} {Q : APost} {σ : Nat → PV} {m : St} (h : Q .ret σ m) : AExit.then nx Q .ret σ m := h
theorem AExit.exiT {nx : (Nat → PV) → St → Prop} {Q : APost} {σ : Nat → PV} {m : St} {i : Nat} (h : Q (.exit i) σ m) : AExit.then nx Q (.exit i) σ m := h
theorem AExit.panT {nx : (Nat → PV) → St → Prop} {Q : APost} {σ : Nat → PV} {m : St} {p : PV} (h : Q (.pan p) σ m) : AExit.then nx Q (.pan p) σ m := h
theorem AExit.norB {Q : APost} {σ : Nat → PV} {m : St} {i : Nat} (h : Q .normal σ m) : AExit.inBlock i Q .normal σ m := h
theorem AExit.retB {Q : APost} {σ : Nat → PV} {m : St} {i : Nat} (h : Q .ret σ m) : AExit.inBlock i Q .ret σ m := h
theorem AExit.exiB {Q : APost} {σ : Nat → PV} {m : St} {i : Nat} (h : Q .normal σ m) : AExit.inBlock i Q (.exit i) σ m := by simp only [AExit.inBlock, if_true]; exact h
theorem AExit.exiN {Q : APost} {σ : Nat → PV} {m : St} {i j : Nat} (hn : j ≠ i) (h : Q (.exit j) σ m) : AExit.inBlock i Q (.exit j) σ m := by simp only [AExit.inBlock, if_neg hn]; exact h
theorem AW.condD {P : Program} {N : Nat} {Q : APost} {σ : Nat → PV} {m : St} {c : Operand} {x y : Code} {p : Prop} [Decidable p] (hc : opv σ c = .v (.bool (decide p))) (h1 : p → AW P N x Q σ m) (h2 : ¬p → AW P N y Q σ m) : AW P N (.cond c x y) Q σ m :=
  AW.cond hc (fun h => h1 (of_decide_eq_true h)) (fun h => h2 (of_decide_eq_false h))
def gd (b : Bool) (p : PV) : PV := if b then p else .v undef
@[simp] theorem gd_true (p : PV) : gd true p = p := rfl
@[simp] theorem gd_false (p : PV) : gd false p = .v undef := rfl
theorem apick_or {t e x : Bool} {m : St} {K : PV → St → Prop} (h : e = !t) : apick (.v (.bool t)) (.v (.bool true)) (gd e (.v (.bool x))) m K ↔ K (.v (.bool (t || x))) m := by
  subst h; cases t <;> simp [apick, undef]
theorem apick_and {t e x : Bool} {m : St} {K : PV → St → Prop} (h : e = t) : apick (.v (.bool t)) (gd e (.v (.bool x))) (.v (.bool false)) m K ↔ K (.v (.bool (t && x))) m := by
  subst h; cases e <;> simp [apick, undef]
theorem AList.opP {P : Program} {N : Nat} {Q : APost} {σ : Nat → PV} {m : St} {ops : Array Oper} {rest : List Oper} {d g j : Nat} {want b c : Bool} {p : PV} {op : Op} {ty : TypeId} {pos : String} {after : Array Edge} (hj : opDst ops j = some g) (hg : g < N) (hd : d < N) (hb : σ g = gd b (.v (.bool c)))
    (h1 : (b && (c == want)) = true → ∀ K Kp : PV → St → Prop, K p m → aop P op (Ab.opv σ) m K Kp) (h : AList P N ops Q rest (upd σ d (gd (b && (c == want)) p)) m) :
    AList P N ops Q (⟨some d, op, ty, pos, after, some (j, want)⟩ :: rest) σ m := by
  cases b with
  | false => exact AList.opF hj hg hd (.inr hb) h
  | true =>
    by_cases hc : c = want
    · subst hc
      have e : (true && (c == c)) = true := by cases c <;> rfl
      rw [e] at h
      exact AList.opT hj hg hd hb fun K Kp hK hKp => h1 e K Kp (hK _ _ h)
    · have hc' : c = !want := by clear h1 h; revert hc; cases c <;> cases want <;> simp
      subst hc'
      refine AList.opF hj hg hd (.inl hb) ?_
      have : (true && ((!want) == want)) = false := by cases want <;> rfl
      rwa [this] at h
theorem AList.opP' {P : Program} {N : Nat} {Q : APost} {σ : Nat → PV} {m : St} {ops : Array Oper} {rest : List Oper} {d g j : Nat} {want c : Bool} {p : PV} {op : Op} {ty : TypeId} {pos : String} {after : Array Edge} (hj : opDst ops j = some g) (hg : g < N) (hd : d < N) (hb : σ g = .v (.bool c))
    (h1 : (c == want) = true → ∀ K Kp : PV → St → Prop, K p m → aop P op (Ab.opv σ) m K Kp) (h : AList P N ops Q rest (upd σ d (gd (c == want) p)) m) :
    AList P N ops Q (⟨some d, op, ty, pos, after, some (j, want)⟩ :: rest) σ m :=
  AList.opP (b := true) hj hg hd hb (fun e => h1 (by rwa [Bool.true_and] at e)) (by rwa [Bool.true_and])
def partsFrom : Nat → List PV → List (Nat × PV)
  | _, [] => []
  | k, x :: xs => (k, x) :: partsFrom (k + 1) xs
inductive Cells1 (s : Nat) : List PV → List (List PV) → Prop
  | nil : Cells1 s [] []
  | cons {x : PV} {r : List PV} {xs : List PV} {rs : List (List PV)} (h : cells1 x = some r) (hl : r.length = s) (t : Cells1 s xs rs) : Cells1 s (x :: xs) (r :: rs)
theorem Cells1.len {s : Nat} {xs : List PV} {rs : List (List PV)} (h : Cells1 s xs rs) : rs.length = xs.length := by
  induction h with
  | nil => rfl
  | cons _ _ _ ih => simp [ih]
theorem Cells1.flat {s : Nat} {xs : List PV} {rs : List (List PV)} (h : Cells1 s xs rs) : (rs.map PV.stripL).flatten.length = xs.length * s := by
  induction h with
  | nil => simp
  | cons _ hl _ ih => rw [List.map_cons, List.flatten_cons, List.length_append, ih, PV.stripL_length, hl, List.length_cons, Nat.add_mul]; omega
theorem Cells1.each {s : Nat} {xs : List PV} {rs : List (List PV)} (h : Cells1 s xs rs) : ∀ r ∈ rs, r.length = s := by
  induction h with
  | nil => intro r h; cases h
  | cons _ hl _ ih => intro r h; rcases List.mem_cons.1 h with rfl | h
                      · exact hl
                      · exact ih r h
theorem afill_from {s : Nat} {xs : List PV} {rs : List (List PV)} (h : Cells1 s xs rs) : ∀ (k : Nat) (cs : List PV), (k + xs.length) * s ≤ cs.length →
    afill (fun i => some (i * s, s)) (partsFrom k xs) cs = some (cs.take (k * s) ++ (rs.map PV.stripL).flatten ++ cs.drop ((k + xs.length) * s)) := by
  induction h with
  | nil => intro k cs _; simp [partsFrom, afill]
  | @cons x r xs rs h1 hl t ih =>
    intro k cs hk
    have hk' : (k + 1) * s ≤ cs.length := Nat.le_trans (Nat.mul_le_mul_right s (by simp)) hk
    have e1 : k * s + s = (k + 1) * s := by rw [Nat.add_mul]; omega
    have hsl : (PV.stripL r).length = s := by rw [PV.stripL_length, hl]
    have hset : setL cs (k * s) (PV.stripL r) = cs.take (k * s) ++ PV.stripL r ++ cs.drop ((k + 1) * s) := by rw [setL_eq _ _ _ (by rw [hsl, e1]; exact hk'), hsl, e1]
    have hks : k * s ≤ cs.length := by omega
    simp only [partsFrom, afill, h1, hl, List.length_cons]
    rw [if_pos ⟨trivial, by omega⟩, ih (k + 1) _ (by rw [setL_length]; rw [List.length_cons] at hk; rw [show k + 1 + xs.length = k + (xs.length + 1) from by omega]; exact hk), hset]
    congr 1
    have l1 : (cs.take (k * s) ++ PV.stripL r).length = (k + 1) * s := by rw [List.length_append, List.length_take, hsl, Nat.min_eq_left hks]; exact e1
    rw [List.take_append_of_le_length (by omega), List.take_of_length_le (by omega), List.map_cons, List.flatten_cons, show k + (xs.length + 1) = k + 1 + xs.length from by omega]
    rw [List.drop_append, l1, List.drop_eq_nil_of_le (by rw [l1]; exact Nat.mul_le_mul_right s (by omega)), List.nil_append, List.drop_drop]
    rw [show (k + 1) * s + ((k + 1 + xs.length) * s - (k + 1) * s) = (k + 1 + xs.length) * s from by have : (k + 1) * s ≤ (k + 1 + xs.length) * s := Nat.mul_le_mul_right s (by omega); omega]
    simp only [List.append_assoc]
theorem chunk_flat {s : Nat} : ∀ (rs : List (List PV)), (∀ r ∈ rs, r.length = s) → chunk s rs.length rs.flatten = rs
  | [], _ => rfl
  | r :: rs, h => by
    have hr : r.length = s := h r (by simp)
    rw [List.length_cons, chunk, List.flatten_cons, List.take_append_of_le_length (by omega), List.take_of_length_le (by omega), List.drop_append_of_le_length (by omega), List.drop_of_length_le (by omega), List.nil_append, chunk_flat rs fun x hx => h x (by simp [hx])]
theorem zrow_len (zc : List PV) (n : Nat) : (zrow zc n).length = n := by simp [zrow]
theorem abuildSlice_all {P : Program} {t e : TypeId} {z : Value} {s : Nat} {xs : List PV} {rs : List (List PV)} {m : St} {K : PV → St → Prop} (he : telem P t = some e) (h1 : tinfo P e = true) (hz : tzero P e = some z) (hzo : zOK z = true)
    (hz0 : 0 < (zcells z).length) (hs : tsize P e = s) (hn : xs.length * s ≤ 16777216) (hc : Cells1 s xs rs) : abuildSlice P t xs.length (partsFrom 0 xs) m K ↔ K (.list .full (rs.map PV.stripL)) m := by
  subst hs
  have hf := afill_from hc 0 (zrow (zcells z) (xs.length * tsize P e)) (by rw [zrow_len, Nat.zero_add]; exact Nat.le_refl _)
  have hd : (zrow (zcells z) (xs.length * tsize P e)).drop ((0 + xs.length) * tsize P e) = [] := List.drop_eq_nil_of_le (by rw [zrow_len, Nat.zero_add]; exact Nat.le_refl _)
  rw [hd] at hf
  simp only [Nat.zero_mul, List.take_zero, List.nil_append, List.append_nil] at hf
  have hch : chunk (tsize P e) xs.length (rs.map PV.stripL).flatten = rs.map PV.stripL := by
    have := chunk_flat (s := tsize P e) (rs.map PV.stripL) (fun r hr => by
      obtain ⟨r', h1, rfl⟩ := List.mem_map.1 hr
      rw [PV.stripL_length]
      exact hc.each r' h1)
    rwa [List.length_map, hc.len] at this
  unfold abuildSlice
  simp only [he, h1, hz, hzo, hz0, hn, hf, hch, true_and]
structure LocSame (m m' : St) : Prop where
  loc : m'.loc = m.loc
  nloc : m'.nloc = m.nloc
  lp : m'.lp = m.lp
  it : m'.it = m.it
theorem AppRes.locs {m m' : St} {o o' : Own} {s n q : Nat} (a : AppRes s m o n q o' m') : LocSame m m' := by
  rcases a with ⟨_, _, rfl⟩ | ⟨_, _, rfl⟩ | ⟨_, k, _, _, rfl⟩ <;> exact ⟨rfl, rfl, rfl, rfl⟩
def Ow (m0 m : St) (o : Own) (s n : Nat) : Prop := Same m0 m ∧ appOK s m o n ∧ ∀ k, o = .tok k → m0.ntok ≤ k
theorem Ow.full {m0 m : St} {s n : Nat} (h : Same m0 m) : Ow m0 m .full s n := ⟨h, trivial, fun k e => by cases e⟩
theorem Ow.app {m0 m m' : St} {o o' : Own} {s n q : Nat} (h : Ow m0 m o s n) (a : AppRes s m o n q o' m') : Ow m0 m' o' s (n + q) := by
  obtain ⟨h1, h2, h3⟩ := h
  rcases a with ⟨rfl, rfl, rfl⟩ | ⟨_, rfl, rfl⟩ | ⟨_, k, rfl, rfl, rfl⟩
  · exact ⟨h1, h2, h3⟩
  · refine ⟨h1.newTok _ _, ⟨Nat.lt_succ_self _, by simp [St.newTok, upd], by simp [St.newTok, upd]⟩, fun k e => ?_⟩
    cases e; exact Nat.le_trans (Nat.le_refl _) h1.ltok
  · obtain ⟨a1, a2, a3⟩ := h2
    exact ⟨h1.growTok (h3 k rfl) _, ⟨a1, by simp [St.growTok, upd, a2], a3⟩, h3⟩
theorem Ow.same {m0 m : St} {o : Own} {s n : Nat} (h : Ow m0 m o s n) : Same m0 m := h.1
theorem aappend_ow {P : Program} {t e : TypeId} {m0 m : St} {o o2 : Own} {rows news : List (List PV)} {s : Nat} {K : PV → St → Prop} (he : telem P t = some e) (h1 : tinfo P e = true) (h2 : (tzero P e).map (fun z => z.cells.size) = some (tsize P e))
    (hs : tsize P e = s) (h3 : 0 < s) (h4 : RowsW s rows) (h5 : RowsW s news) (h6 : (rows.length + news.length) * tbytes P e ≤ 140737488355328) (h8 : rows.length + news.length ≤ 4611686018427387904) (ho : Ow m0 m o s rows.length)
    (k : ∀ o' m', Ow m0 m' o' s (rows.length + news.length) → LocSame m m' → K (.list o' (rows ++ PV.stripR news)) m') : aappend P [t, t] (.list o rows) (.list o2 news) m K := by
  subst hs
  refine ⟨rfl, ?_⟩
  simp only [he]
  exact ⟨h1, h2, h3, h4, h5, h6, h8, ho.2.1, fun o' m' ha => k o' m' (ho.app ha) ha.locs⟩
theorem Fin.retC {P : Program} {fn : Func} {m m' : St} {R : ARes → St → Prop} {σ : Nat → PV} {p q : PV} {a : Tmp} {t : TypeId} (hr : fn.results.toList = [.cell a t]) (hp : aload P t (σ a) m' (fun q m'' => q = p ∧ m'' = m')) (hm : Same m m') (hq : p.strip = q) (hs : q.sc m.nloc m.ntok) (h : R (.ret q) m) : Fin P fn m R .ret σ m' :=
  Fin.ret (by rw [hr]; exact hp) hm hq hs h
theorem wrap_u64 (n : Int) (h0 : 0 ≤ n) (h1 : n < 18446744073709551616) : IntKind.u64.wrap n = n := by
  have : IntKind.u64.wrap n = n % 18446744073709551616 := by simp [IntKind.wrap, IntKind.bits, IntKind.signed]
  rw [this]; omega
theorem wrap_u32 (n : Int) : IntKind.u32.wrap n = n % 4294967296 := by simp [IntKind.wrap, IntKind.bits, IntKind.signed]
@[simp] theorem bits_u64 : IntKind.u64.bits = 64 := rfl
@[simp] theorem bits_u32 : IntKind.u32.bits = 32 := rfl
@[simp] theorem fdiv_lit (x : Int) (n : Nat) [NeZero n] : x.fdiv (no_index (OfNat.ofNat n : Int)) = x / (OfNat.ofNat n : Int) := Int.fdiv_eq_ediv_of_nonneg x (by exact Int.natCast_nonneg n)
def Gives (P : Program) (f : FuncId) (args : List PV) (r : PV) : Prop := ∀ m, ACall P f args m (fun r' m' => r' = .ret r ∧ m' = m)
theorem Gives.at {P : Program} {f : FuncId} {args : List PV} {r : PV} {m : St} {K Kp : PV → St → Prop} (h : Gives P f args r) (k : K r m) :
    ACall P f args m (fun r m' => match r with | .ret p => K p m' | .pan p => Kp p m') :=
  (h m).mono (by rintro _ _ ⟨rfl, rfl⟩; exact k)
end Go.Ab
namespace Go.Ab
open Go.RowKit
def St.newLp (m : St) (L : LoopA) : St := { m with nloc := m.nloc + 1, loc := upd m.loc m.nloc none, lp := upd m.lp m.nloc (some L), it := upd m.it m.nloc none }
def St.setLp (m : St) (n : Nat) (L : LoopA) : St := { m with lp := upd m.lp n (some L) }
def St.dropLp (m : St) (n : Nat) : St := { m with lp := upd m.lp n none }
@[simp] theorem newLp_nloc (m : St) (L : LoopA) : (m.newLp L).nloc = m.nloc + 1 := rfl
@[simp] theorem newLp_ntok (m : St) (L : LoopA) : (m.newLp L).ntok = m.ntok := rfl
@[simp] theorem newLp_top (m : St) (L : LoopA) : (m.newLp L).top = m.top := rfl
@[simp] theorem newLp_wd (m : St) (L : LoopA) : (m.newLp L).wd = m.wd := rfl
@[simp] theorem newLp_loc (m : St) (L : LoopA) (i : Nat) : (m.newLp L).loc i = if i = m.nloc then none else m.loc i := rfl
@[simp] theorem newLp_lp (m : St) (L : LoopA) (i : Nat) : (m.newLp L).lp i = if i = m.nloc then some L else m.lp i := rfl
@[simp] theorem setLp_nloc (m : St) (n : Nat) (L : LoopA) : (m.setLp n L).nloc = m.nloc := rfl
@[simp] theorem setLp_ntok (m : St) (n : Nat) (L : LoopA) : (m.setLp n L).ntok = m.ntok := rfl
@[simp] theorem setLp_top (m : St) (n : Nat) (L : LoopA) : (m.setLp n L).top = m.top := rfl
@[simp] theorem setLp_wd (m : St) (n : Nat) (L : LoopA) : (m.setLp n L).wd = m.wd := rfl
@[simp] theorem setLp_loc (m : St) (n : Nat) (L : LoopA) : (m.setLp n L).loc = m.loc := rfl
@[simp] theorem setLp_lp (m : St) (n : Nat) (L : LoopA) (i : Nat) : (m.setLp n L).lp i = if i = n then some L else m.lp i := rfl
@[simp] theorem dropLp_nloc (m : St) (n : Nat) : (m.dropLp n).nloc = m.nloc := rfl
@[simp] theorem dropLp_ntok (m : St) (n : Nat) : (m.dropLp n).ntok = m.ntok := rfl
@[simp] theorem dropLp_top (m : St) (n : Nat) : (m.dropLp n).top = m.top := rfl
@[simp] theorem dropLp_wd (m : St) (n : Nat) : (m.dropLp n).wd = m.wd := rfl
@[simp] theorem dropLp_loc (m : St) (n : Nat) : (m.dropLp n).loc = m.loc := rfl
@[simp] theorem dropLp_lp (m : St) (n : Nat) (i : Nat) : (m.dropLp n).lp i = if i = n then none else m.lp i := rfl
section
variable {P : Program} {Γ Γ' : Ctx} {m m' : St} {w w' : World}
def LoopA.obj (L : LoopA) (tmps : Array Value) (D : Nat) : Obj := .loop { state := L.st, pending := L.pend, fn := L.fn, tmps := tmps, params := L.params.toArray, assign := L.assign, body := L.body, defers := D }
theorem MemSim.newLp (h : MemSim Γ m w) {L : LoopA} {tmps : Array Value} {D : Nat} (hs : tmps.size = L.N) (hr : ∀ t, VRep Γ w (L.σ t) (tmps.getD t undef)) :
    MemSim (Γ.newLoc w.heap.size) (m.newLp L) (w.alloc (L.obj tmps D)) ∧ Keeps Γ w (w.alloc (L.obj tmps D)) := by
  obtain ⟨h', hk⟩ := h.alloc_any (L.obj tmps D)
  have l := Ctx.le_newLoc Γ w.heap.size
  have old : ∀ n, n < m.nloc → (Γ.newLoc w.heap.size).loc n = Γ.loc n := fun n hn => l.loc n (by rw [h.nloc]; exact hn)
  have hnew : (Γ.newLoc w.heap.size).loc m.nloc = w.heap.size := by rw [← h.nloc]; exact upd_same _ _ _
  have hl : ∀ n cs, n < m.nloc + 1 → (m.newLp L).loc n = some cs → n < m.nloc ∧ m.loc n = some cs := by
    intro n cs hn hc
    rw [newLp_loc] at hc
    split at hc
    · cases hc
    · exact ⟨by omega, hc⟩
  refine ⟨⟨by show Γ.nloc + 1 = m.nloc + 1; rw [h.nloc], h.ntok, h.top, fun n cs hn hc => ?_, fun n cs hn hc => ?_, fun n n' cs cs' hn hn' hc hc' hq => ?_, h'.immlt, h'.base, h'.toks, h.tapart, h.tinj, fun k n cs hk hd hn hc => ?_, (fun k ds hk' hd hq => by obtain ⟨h0, hl, c, h1, h2, h3⟩ := h'.arrs k ds hk' hd hq; exact ⟨h0, hl, c, h1, LRep.mono l (Keeps.refl _ _) _ _ h2, h3⟩), ?_, ?_, h'.xs.mono rfl rfl (fun _ _ q _ => q)⟩, hk⟩
  · obtain ⟨a, b⟩ := hl n cs hn hc
    obtain ⟨c, h1, h2, h3⟩ := h'.locs n cs a b
    exact ⟨c, by rw [old n a]; exact h1, LRep.mono l (Keeps.refl _ _) _ _ h2, h3⟩
  · obtain ⟨a, b⟩ := hl n cs hn hc
    rw [old n a]; exact h.apart n cs a b
  · obtain ⟨a, b⟩ := hl n cs hn hc
    obtain ⟨a', b'⟩ := hl n' cs' hn' hc'
    rw [old n a, old n' a'] at hq
    exact h.inj n n' cs cs' a a' b b' hq
  · obtain ⟨a, b⟩ := hl n cs hn hc
    rw [old n a]; exact h.tloc k n cs hk hd a b
  · have key : ∀ n L', n < m.nloc + 1 → (m.newLp L).lp n = some L' → (n = m.nloc ∧ L' = L) ∨ (n < m.nloc ∧ m.lp n = some L') := by
      intro n L' hn hc
      rw [newLp_lp] at hc
      split at hc
      · rename_i e; cases hc; exact .inl ⟨e, rfl⟩
      · exact .inr ⟨by omega, hc⟩
    refine ⟨fun n L' hn hc => ?_, fun n n' L1 L2 hn hn' hc hc' hq => ?_⟩
    · rcases key n L' hn hc with ⟨rfl, rfl⟩ | ⟨a, b⟩
      · rw [hnew]
        exact ⟨h.base, tmps, D, World.alloc_heap_new _ _, hs, fun t => VRep.mono l hk _ _ (hr t)⟩
      · obtain ⟨h1, t1, D1, h2, h3, h4⟩ := h'.lps.at_ n L' a b
        rw [old n a]
        exact ⟨h1, t1, D1, h2, h3, fun t => VRep.mono l (Keeps.refl _ _) _ _ (h4 t)⟩
    · rcases key n L1 hn hc with ⟨e1, _⟩ | ⟨a, b⟩ <;> rcases key n' L2 hn' hc' with ⟨e2, _⟩ | ⟨a', b'⟩
      · rw [e1, e2]
      · subst e1
        rw [hnew, old n' a'] at hq
        have := h.lps.lt a' b'
        omega
      · subst e2
        rw [hnew, old n a] at hq
        have := h.lps.lt a b
        omega
      · rw [old n a, old n' a'] at hq
        exact h.lps.inj n n' L1 L2 a a' b b' hq
  · refine h.its.mono l h.nloc (fun n x a b => ?_) (heap_keep_alloc w _)
    replace b : upd m.it m.nloc none n = some x := b
    replace a : n < m.nloc + 1 := a
    by_cases e : n = m.nloc
    · subst e; rw [upd_same] at b; cases b
    · rw [upd_ne _ _ _ _ e] at b; exact ⟨by omega, b⟩
theorem MemSim.dropLp (h : MemSim Γ m w) (n : Nat) : MemSim Γ (m.dropLp n) w := by
  have key : ∀ i L, (m.dropLp n).lp i = some L → m.lp i = some L := by
    intro i L hc; rw [dropLp_lp] at hc; split at hc
    · cases hc
    · exact hc
  exact { h with lps := ⟨fun i L hn hL => h.lps.at_ i L hn (key i L hL), fun i j L L' a b c d => h.lps.inj i j L L' a b (key _ _ c) (key _ _ d)⟩, its := ⟨h.its.at_, h.its.inj⟩ }
theorem MemSim.setLp (h : MemSim Γ m w) {n : Nat} {L : LoopA} (hn : n < m.nloc) (hL : m.lp n = some L) (st : LoopState) (pend : Option Code) {r : Loop} (hr : w.heap[Γ.loc n]? = some (.loop r)) :
    MemSim Γ (m.setLp n { L with st := st, pend := pend }) (w.putObj (Γ.loc n) (.loop { r with state := st, pending := pend })) ∧ Keeps Γ w (w.putObj (Γ.loc n) (.loop { r with state := st, pending := pend })) := by
  obtain ⟨hb, tmps, D, h1, h2, h3⟩ := h.lps.at_ n L hn hL
  rw [hr] at h1
  have h1' := (Obj.loop.inj (Option.some.inj h1))
  have hlt : Γ.loc n < w.heap.size := (Array.getElem?_eq_some_iff.1 hr).1
  have hx : XSim Γ (w.putObj (Γ.loc n) (.loop { r with state := st, pending := pend })) := by
    refine ⟨fun D' hD' => ?_, fun l hl => ?_, h.xs.rnd, by simp; exact h.xs.dlo⟩
    · obtain ⟨a, b⟩ := h.xs.mark D' hD'
      refine ⟨a, (World.putObj_heap_other fun e => ?_).trans b⟩
      rw [e, hr] at b; cases b
    · obtain ⟨a, R, b⟩ := h.xs.lps l hl
      by_cases e : l = Γ.loc n
      · exact ⟨a, _, by rw [e]; exact World.putObj_heap_same hlt⟩
      · exact ⟨a, R, (World.putObj_heap_other e).trans b⟩
  obtain ⟨k1, k2⟩ := (h.dropLp n).putObj (o' := .loop { r with state := st, pending := pend }) hr rfl rfl hb (fun i L' hi hL' e => by
    rw [dropLp_lp] at hL'
    split at hL'
    · cases hL'
    · rename_i hne; exact hne (h.lps.inj i n L' L hi hn hL' hL e)) hx (fun i x a b e => by have := (h.its.at_ i x a b).2; rw [e, hr] at this; cases this)
  refine ⟨{ k1 with lps := ?_, its := ⟨k1.its.at_, k1.its.inj⟩ }, k2⟩
  have key : ∀ i L', (m.setLp n { L with st := st, pend := pend }).lp i = some L' → (i = n ∧ L' = { L with st := st, pend := pend }) ∨ (i ≠ n ∧ m.lp i = some L') := by
    intro i L' hc
    rw [setLp_lp] at hc
    split at hc
    · rename_i e; cases hc; exact .inl ⟨e, rfl⟩
    · rename_i e; exact .inr ⟨e, hc⟩
  refine ⟨fun i L' hi hc => ?_, fun i j L1 L2 hi hj hc hc' hq => ?_⟩
  · rcases key i L' hc with ⟨rfl, rfl⟩ | ⟨a, b⟩
    · refine ⟨hb, tmps, D, ?_, h2, fun t => VRep.mono (Ctx.le.refl Γ) k2 _ _ (h3 t)⟩
      rw [World.putObj_heap_same hlt, h1']
    · exact k1.lps.at_ i L' hi (by rw [dropLp_lp, if_neg a]; exact b)
  · rcases key i L1 hc with ⟨e1, _⟩ | ⟨a, b⟩ <;> rcases key j L2 hc' with ⟨e2, _⟩ | ⟨a', b'⟩
    · rw [e1, e2]
    · subst e1; exact h.lps.inj _ _ _ _ hn hj hL b' hq
    · subst e2; exact h.lps.inj _ _ _ _ hi hn b hL hq
    · exact h.lps.inj _ _ _ _ hi hj b b' hq
def parm (σ : Nat → PV) : List Tmp → List PV → Nat → PV
  | t :: ts, p :: ps => parm (upd σ t p) ts ps
  | _, _ => σ
theorem parm_rep : ∀ (ts : List Tmp) (ps : List PV) (us : List Value) (σ : Nat → PV) (tmps : Array Value), (∀ t ∈ ts, t < tmps.size) → LRep Γ w ps us → ts.length = ps.length → (∀ t, VRep Γ w (σ t) (tmps.getD t undef)) →
    ((ts.zip us).foldl (fun tmps (x : Tmp × Value) => tmps.setIfInBounds x.1 x.2) tmps).size = tmps.size ∧ ∀ t, VRep Γ w (parm σ ts ps t) (((ts.zip us).foldl (fun tmps (x : Tmp × Value) => tmps.setIfInBounds x.1 x.2) tmps).getD t undef)
  | [], [], us, σ, tmps, _, h, _, k => by
    replace h : us = [] := h
    subst h; exact ⟨rfl, k⟩
  | t :: ts, p :: ps, us, σ, tmps, hlt, h, hl, k => by
    obtain ⟨u, us', rfl, h1, h2⟩ := h
    have := parm_rep ts ps us' (upd σ t p) (tmps.setIfInBounds t u) (fun i hi => by simp; exact hlt i (by simp [hi])) h2 (by simpa using hl) (fun i => by
      by_cases e : i = t
      · subst e; rw [upd_same]
        have := hlt i (by simp)
        simpa [Array.getD_eq_getD_getElem?, this] using h1
      · rw [upd_ne _ _ _ _ e, Array.getD_eq_getD_getElem?, Array.getElem?_setIfInBounds_ne (by omega), ← Array.getD_eq_getD_getElem?]
        exact k i)
    exact ⟨this.1.trans (by simp), this.2⟩
  | [], _ :: _, _, _, _, _, _, hl, _ => by simp at hl
  | _ :: _, [], _, _, _, _, _, hl, _ => by simp at hl
def FinY (n : Nat) (L : LoopA) (m : St) (R : ARes → St → Prop) : APost
  | .normal, _, m' => ∃ m'', m'.lp n = some { L with st := .busy } ∧ Leaves m (m'.setLp n L) m'' ∧ R (.ret (.v (.bool true))) m''
  | _, _, _ => False
theorem YCall.of_aw {n : Nat} {args : List PV} {R : ARes → St → Prop} {L : LoopA} (hn : n < m.nloc) (hL : m.lp n = some L) (hst : L.st = .ready) (hp : L.pend = none) (hlen : args.length = L.params.length) (hlt : ∀ t ∈ L.params, t < L.N)
    (h : AW P L.N L.assign (AExit.then (fun σ' m' => n < m'.nloc ∧ m'.lp n = some L ∧ AW P L.N L.body (FinY n L m R) σ' (m'.setLp n { L with st := .busy })) (fun _ _ _ => False)) (parm L.σ L.params args) m) : YCall P n args m R := by
  intro Γ w us hm hr
  obtain ⟨hb, tmps, D, h1, h2, h3⟩ := hm.lps.at_ n L hn hL
  have hul : us.length = args.length := LRep.len _ _ hr
  refine ⟨_, h1, by simp; omega, ?_⟩
  obtain ⟨x, hx⟩ : ∃ x : CtxX, x = ⟨Γ.x.mark, fun l => Γ.x.lps l ∨ l = Γ.loc n, w.heap.size, some (Γ.loc n), []⟩ := ⟨_, rfl⟩
  have hxs : XSim (Γ.withX x) w := by
    subst hx
    refine ⟨hm.xs.mark, fun l hl => ?_, fun l hl => ?_, Nat.le_refl _⟩
    · rcases hl with hl | hl
      · exact hm.xs.lps l hl
      · subst hl; exact ⟨hb, _, h1⟩
    · replace hl : some (Γ.loc n) = some l := hl
      cases hl; exact .inr rfl
  have hm1 := hm.withX x hxs
  have hpr := parm_rep L.params args us L.σ tmps (fun t ht => by rw [h2]; exact hlt t ht) hr (by omega) h3
  have hzip : (L.params.toArray.zip us.toArray).foldl (fun tmps (x : Tmp × Value) => tmps.setIfInBounds x.1 x.2) tmps = (L.params.zip us).foldl (fun tmps (x : Tmp × Value) => tmps.setIfInBounds x.1 x.2) tmps := by
    rw [← Array.foldl_toList]; simp
  refine roundIn_of_wpIn trivial ?_
  show Code.wpIn (FW (Γ.withX x).x.rnd |> fun _ => Fence.wide.inRound (Γ.loc n)) 0 P _ _ _ w
  have hrnd : (Γ.withX x).x.rnd = some (Γ.loc n) := by rw [hx]; rfl
  have hfw : Fence.wide.inRound (Γ.loc n) = FW (Γ.withX x).x.rnd := by rw [hrnd]; rfl
  have hzip' : (L.params.toArray.zip us.toArray).foldl (fun tmps x => match x with | (t, a) => tmps.setIfInBounds t a) tmps = (L.params.zip us).foldl (fun tmps (x : Tmp × Value) => tmps.setIfInBounds x.1 x.2) tmps := hzip
  simp only [hfw]
  refine wpIn_mono (h (Γ.withX x) _ w ⟨?_, ⟨[], by rw [hx]; rfl, List.nodup_nil, fun _ h => by cases h⟩, hm1, fun t => ?_⟩) ?_
  · show ((L.params.toArray.zip us.toArray).foldl _ tmps).size = L.N
    rw [hzip, hpr.1, h2]
  · show VRep _ _ _ (((L.params.toArray.zip us.toArray).foldl _ tmps).getD t undef)
    rw [hzip]; exact VRep.withX (hpr.2 t) x
  rintro e a₁ w₁ ⟨y, σ₁, m₁, Γ₁, g1, g2, g3, g4, g5⟩
  cases y <;> simp only [AExit.then] at g1
  case normal =>
  cases e <;> simp only [XRep] at g2
  obtain ⟨g6, g7, g8⟩ := g1
  simp only [Exit.then]
  obtain ⟨hb₁, tmps₁, D₁, k1, k2, k3⟩ := g3.mem.lps.at_ n L g6 g7
  have hl₁ : Γ₁.loc n = Γ.loc n := g4.loc n (by show n < Γ.nloc; rw [hm.nloc]; exact hn)
  have hrun := run_beginRound (P := P) k1 (by exact hst)
  rw [← hl₁]
  refine ⟨_, hrun, ?_⟩
  obtain ⟨q1, q2⟩ := g3.mem.setLp g6 g7 .busy L.pend k1
  have hfw₁ : FW (Γ.withX x).x.rnd = FW Γ₁.x.rnd := by rw [g4.x.rnd]
  rw [hfw₁]
  refine wpIn_mono (g8 Γ₁ a₁ _ (g3.mono (Ctx.le.refl _) q2 q1)) ?_
  rintro e a₂ w₂ ⟨y, σ₂, m₂, Γ₂, f1, f2, f3, f4, f5⟩
  cases y <;> simp only [FinY] at f1
  case normal =>
  cases e <;> simp only [XRep] at f2
  obtain ⟨m'', f6, f7, f8⟩ := f1
  have hn₂ : n < m₂.nloc := by have := f7.lloc; simp at this; omega
  obtain ⟨hb₂, tmps₂, D₂, j1, j2, j3⟩ := f3.mem.lps.at_ n _ hn₂ f6
  have hl₂ : Γ₂.loc n = Γ.loc n := (f4.loc n (by rw [g3.mem.nloc]; exact g6)).trans hl₁
  have hend := run_endRound (P := P) none j1
  rw [hl₂] at hend
  simp only [roundPost]
  rw [hl₁]
  refine ⟨_, _, hend, ?_⟩
  obtain ⟨p1, p2⟩ := f3.mem.setLp hn₂ f6 .ready none j1
  have hset : m₂.setLp n { ({ L with st := .busy } : LoopA) with st := .ready, pend := none } = m₂.setLp n L := by rw [← hst, ← hp]
  rw [hset, hl₂] at p1
  rw [hl₂] at p2
  have hle : (Γ.withX x).le Γ₂ := g4.trans f4
  have hkk : Keeps (Γ.withX x) w (w₂.putObj (Γ.loc n) (.loop { state := .ready, pending := none, fn := L.fn, tmps := tmps₂, params := L.params.toArray, assign := L.assign, body := L.body, defers := D₂ })) :=
    ((g5.trans g4 q2).trans g4 f5).trans hle p2
  have hxb := hm.xs.back (Γ' := Γ₂) hle.base (fun D hD => hle.x.mark D (by rw [hx]; exact hD)) (fun D hD => hle.x.lps D (by rw [hx]; exact .inl hD)) hkk.below.size p1.xs m''.nloc m''.ntok
  obtain ⟨s1, s2⟩ := f7.lv.sim hm hle hxb p1
  exact ⟨_, m'', _, f8, rfl, s2, ⟨hkk.below, hkk.imm⟩, s1⟩
theorem AW.rangeFunc {N : Nat} {Q : APost} {σ : Nat → PV} {g : Operand} {ps : Array Tmp} {assign body : Code} {f : FuncId} {first caps : List PV} (hg : Ab.opv σ g = .clo f first caps)
    (h : ∀ fn, ACall P f (first ++ [.yld m.nloc] ++ caps) (m.newLp ⟨.ready, none, fn, N, σ, ps.toList, assign, body⟩) (fun r m' => ∃ p L, r = .ret p ∧ m.nloc < m'.nloc ∧ m'.lp m.nloc = some L ∧ L.st ≠ .busy ∧ L.pend = none ∧ Q .normal σ (m'.dropLp m.nloc))) :
    AW P N (.rangeFunc g ps assign body) Q σ m := by
  intro Γ a w hs
  refine wpIn_rangeFunc fun fn _ => ?_
  have hm := hs.mem
  -- after the record is laid
  have main : ∀ (mark : List Nat) (w₁ : World) (Γ₁ : Ctx), (∀ D ∈ mark, Γ₁.x.mark D ∧ Γ.x.dlo ≤ D ∧ w.heap.size ≤ D) → mark.Nodup →
      MemSim Γ₁ (m.newLp ⟨.ready, none, fn, N, σ, ps.toList, assign, body⟩) w₁ → Γ.le Γ₁ → Keeps Γ w w₁ →
      (Instr.enterLoop fn a.tmps ps assign body (FW Γ.x.rnd).round).run P w = .ok (Γ₁.loc m.nloc, mark.map (fun D => { target := .collected D, args := #[] })) w₁ →
      ∃ (l : Nat) (mark : List Deferred) (w₁ : World) (d : Deferred) (w₁' : World) (f : FuncId) (args : Array Value) (w₂ : World),
      (Instr.enterLoop fn a.tmps ps assign body (FW Γ.x.rnd).round).run P w = .ok (l, mark) w₁ ∧
      (resolve a.eval (rangeCall g l) 0).run P w₁ = .ok d w₁' ∧
      (∀ f', Target.leads P w₁' d.target d.args = some f' → (FW Γ.x.rnd).fn f') ∧
      (invoke d.target d.args).run P w₁' = .ok (.enter f args) w₂ ∧
      ((FW Γ.x.rnd).depth.isSome = true → 1 ≤ 0) ∧
      CallsIn (FW Γ.x.rnd) (0 - 1) P f args w₂ (rangePost (FW Γ.x.rnd) 0 P l (Post Γ w N Q) { a with defers := mark ++ a.defers }) := by
    intro mark w₁ Γ₁ hmk hnd hm₁ l₁ k₁ he
    have hvg := hs.opv g
    rw [hg] at hvg
    obtain ⟨fs, us, heg, hf1, hf2⟩ := hvg
    obtain ⟨hb, hcall⟩ := h fn
    refine ⟨_, _, w₁, { target := .fn (.func f) us, args := fs ++ #[Value.func (.yield (Γ₁.loc m.nloc)) #[] #[]] }, w₁, f, fs ++ #[Value.func (.yield (Γ₁.loc m.nloc)) #[] #[]] ++ us, w₁, he, ?_, fun _ _ => trivial, by simp only [invoke]; exact run_callFunc hb _, fun q => by simp [FW, Fence.wide] at q, ?_⟩
    · simp only [resolve, Deferred.ofValue, heg, Sem.run_bind, Sem.run_pure, Result.andThen_ok]
      simp [Act.eval]
    · have hl : LRep Γ₁ w₁ (first ++ [.yld m.nloc] ++ caps) (fs ++ #[Value.func (.yield (Γ₁.loc m.nloc)) #[] #[]] ++ us).toList := by
        simp only [Array.toList_append]
        refine LRep.append _ _ _ _ (LRep.append _ _ _ _ (LRep.mono l₁ k₁ _ _ hf1) ?_) (LRep.mono l₁ k₁ _ _ hf2)
        exact ⟨_, _, rfl, ⟨by rw [hm₁.nloc]; simp, rfl⟩, rfl⟩
      have h2 := callsIn_wide (n := 0).2 (hcall Γ₁ w₁ _ hm₁ hl)
      simp only [Array.toArray_toList] at h2
      refine CallsIn.mono (F := FW Γ.x.rnd) (n := 0) h2 ?_
      rintro e w₂ ⟨r, m₂, Γ₂, ⟨p, L, rfl, hn, hL, hst, hpe, hQ⟩, hre, l₂, k₂, hm₂⟩
      cases e <;> simp only [ERep] at hre
      obtain ⟨hb₂, tmps₂, D₂, j1, j2, j3⟩ := hm₂.lps.at_ _ L hn hL
      have hloc : Γ₂.loc m.nloc = Γ₁.loc m.nloc := l₂.loc _ (by rw [hm₁.nloc]; simp)
      have hend := run_endLoop (P := P) j1 hst
      rw [hloc] at hend
      refine ⟨_, _, hend, ?_⟩
      simp only [hpe]
      obtain ⟨p1, p2⟩ := hm₂.setLp hn hL .exhausted L.pend j1
      rw [hloc] at p1 p2
      have p3 := p1.dropLp m.nloc
      have hdd : (m₂.setLp m.nloc { L with st := .exhausted, pend := L.pend }).dropLp m.nloc = m₂.dropLp m.nloc := by
        unfold St.setLp St.dropLp
        congr 1
        funext i
        simp only [upd]
        split <;> rfl
      rw [hdd] at p3
      have l₃ := l₁.trans l₂
      have k₃ : Keeps Γ w _ := (k₁.trans l₁ k₂).trans l₃ p2
      have hs₂ : Sim Γ₂ N σ (m₂.dropLp m.nloc) a (w₂.putObj (Γ₁.loc m.nloc) (.loop { state := .exhausted, pending := L.pend, fn := L.fn, tmps := tmps₂, params := L.params.toArray, assign := L.assign, body := L.body, defers := D₂ })) := hs.mono l₃ k₃ p3
      rw [← hpe]
      refine ⟨.normal, σ, _, Γ₂, hQ, trivial, ⟨hs₂.size, ?_, hs₂.mem, hs₂.slots⟩, l₃, k₃⟩
      obtain ⟨ms, d1, d2, d3⟩ := hs.defers
      refine ⟨mark ++ ms, by simp only [d1, List.map_append, List.append_assoc, l₃.x.fd], ?_, fun D hD => ?_⟩
      · refine List.nodup_append.2 ⟨hnd, d2, fun D hD D' hD' => ?_⟩
        have h3 := (hmk D hD).2.2
        have h4 := (Array.getElem?_eq_some_iff.1 (hm.xs.mark D' (d3 D' hD').1).2).1
        omega
      · rw [l₃.x.dlo]
        rcases List.mem_append.1 hD with hD | hD
        · exact ⟨l₂.x.mark D (hmk D hD).1, (hmk D hD).2.1⟩
        · exact ⟨l₃.x.mark D (d3 D hD).1, (d3 D hD).2⟩
  have hsz := hs.size
  cases hrd : Γ.x.rnd with
  | none =>
    rw [hrd] at main
    obtain ⟨q1, q2⟩ := hm.alloc_any (.deferred (some []))
    have q3 := q1.newLp (L := ⟨.ready, none, fn, N, σ, ps.toList, assign, body⟩) (tmps := a.tmps) (D := w.heap.size) hsz (fun t => VRep.mono (Ctx.le.refl _) q2 _ _ (hs.slots t))
    obtain ⟨q3, q4⟩ := q3
    obtain ⟨x, hx⟩ : ∃ x : CtxX, x = ⟨fun D => Γ.x.mark D ∨ D = w.heap.size, Γ.x.lps, Γ.x.dlo, Γ.x.rnd, Γ.x.fd⟩ := ⟨_, rfl⟩
    have hxs : XSim ((Γ.newLoc (w.alloc (.deferred (some []))).heap.size).withX x) ((w.alloc (.deferred (some []))).alloc (LoopA.obj ⟨.ready, none, fn, N, σ, ps.toList, assign, body⟩ a.tmps w.heap.size)) := by
      subst hx
      refine ⟨fun D hD => ?_, q3.xs.lps, q3.xs.rnd, q3.xs.dlo⟩
      rcases hD with hD | hD
      · exact q3.xs.mark D hD
      · subst hD
        exact ⟨hm.base, (Below.heap_alloc _ _ _ (by simp)).trans (World.alloc_heap_new _ _)⟩
    have q5 := q3.withX x hxs
    have l1 := Ctx.le_newLoc Γ (w.alloc (.deferred (some []))).heap.size
    have k4 : Keeps Γ w ((w.alloc (.deferred (some []))).alloc (LoopA.obj ⟨.ready, none, fn, N, σ, ps.toList, assign, body⟩ a.tmps w.heap.size)) := q2.trans (Ctx.le.refl _) q4
    refine main [w.heap.size] _ _ (fun D hD => ?_) (by simp) q5 ⟨l1.base, l1.nloc, l1.loc, l1.imm, l1.ntok, l1.tok, l1.wd, ?_, l1.immb⟩ k4 ?_
    · simp only [List.mem_singleton] at hD
      subst hD
      exact ⟨by rw [hx]; exact .inr rfl, hm.xs.dlo, Nat.le_refl _⟩
    · subst hx
      exact ⟨fun D hD => .inl hD, fun _ q => q, rfl, rfl, rfl⟩
    · have hl : ((Γ.newLoc (w.alloc (.deferred (some []))).heap.size).withX x).loc m.nloc = w.heap.size + 1 := by
        show upd Γ.loc Γ.nloc _ m.nloc = _
        rw [hm.nloc, upd_same]; simp
      rw [hl]
      exact run_enterLoop_outer fn a.tmps ps assign body
  | some l₀ =>
    rw [hrd] at main
    obtain ⟨_, R₀, hl₀⟩ := hm.xs.lps l₀ (hm.xs.rnd l₀ hrd)
    obtain ⟨q3, q4⟩ := hm.newLp (L := ⟨.ready, none, fn, N, σ, ps.toList, assign, body⟩) (tmps := a.tmps) (D := R₀.defers) hsz hs.slots
    refine main [] _ _ (fun D hD => by cases hD) List.nodup_nil q3 (Ctx.le_newLoc Γ _) q4 ?_
    have hl : (Γ.newLoc w.heap.size).loc m.nloc = w.heap.size := by
      show upd Γ.loc Γ.nloc _ m.nloc = _
      rw [hm.nloc, upd_same]
    rw [hl]
    exact run_enterLoop_inner hl₀ fn a.tmps ps assign body
end
end Go.Ab
namespace Go.Ab
open Go.RowKit
mutual
def PV.frz (n : Nat) (cs : List PV) : PV → PV
  | .loc k off => if k = n then .ro (cs.drop off) else .loc k off
  | .agg xs => .agg (PV.frzL n cs xs)
  | .clo f a b => .clo f (PV.frzL n cs a) (PV.frzL n cs b)
  | .tup xs => .tup (PV.frzL n cs xs)
  | .iface t y => .iface t (y.frz n cs)
  | .any => .any
  | .v u => .v u
  | .list o r => .list o r
  | .ro c => .ro c
  | .marr a b c d => .marr a b c d
  | .yld k => .yld k
  | .mtok k len => .mtok k len
  | .mptr k off gen => .mptr k off gen
def PV.frzL (n : Nat) (cs : List PV) : List PV → List PV
  | [] => []
  | x :: xs => x.frz n cs :: PV.frzL n cs xs
end
section
variable {P : Program} {Γ Γ' : Ctx} {m : St} {w : World}
mutual
theorem VRep.frz {n : Nat} {cs : List PV} (l : Γ.le Γ') (hc : CRep Γ' w cs (Γ.loc n) 0) : ∀ (p : PV) (u : Value), VRep Γ w p u → VRep Γ' w (p.frz n cs) u
  | .any, _, h => trivial
  | .v _, _, h => h
  | .agg xs, u, h => by
    obtain ⟨us, e, h⟩ := h
    exact ⟨us, e, LRep.frz l hc xs _ h⟩
  | .list o rows, u, h => VRep.mono l (Keeps.refl _ _) (.list o rows) u h
  | .ro c, u, h => VRep.mono l (Keeps.refl _ _) (.ro c) u h
  | .loc k off, u, h => by
    simp only [PV.frz]
    split
    · rename_i e
      subst e
      obtain ⟨_, h⟩ := h
      have := CRep.drop off cs _ _ hc
      exact ⟨_, _, h, by simpa using this⟩
    · exact VRep.mono l (Keeps.refl _ _) (.loc k off) u h
  | .marr a b c d, u, h => VRep.mono l (Keeps.refl _ _) (.marr a b c d) u h
  | .clo f first caps, u, h => by
    obtain ⟨fs, us, e, h1, h2⟩ := h
    exact ⟨fs, us, e, LRep.frz l hc first _ h1, LRep.frz l hc caps _ h2⟩
  | .iface t y, u, h => by
    obtain ⟨x, e, h⟩ := h
    exact ⟨x, e, VRep.frz l hc y _ h⟩
  | .tup xs, u, h => by
    obtain ⟨us, e, h⟩ := h
    exact ⟨us, e, LRep.frz l hc xs _ h⟩
  | .yld k, u, h => VRep.mono l (Keeps.refl _ _) (.yld k) u h
  | .mtok k len, u, h => VRep.mono l (Keeps.refl _ _) (.mtok k len) u h
  | .mptr k off gen, u, h => VRep.mono l (Keeps.refl _ _) (.mptr k off gen) u h
theorem LRep.frz {n : Nat} {cs : List PV} (l : Γ.le Γ') (hc : CRep Γ' w cs (Γ.loc n) 0) : ∀ (xs : List PV) (us : List Value), LRep Γ w xs us → LRep Γ' w (PV.frzL n cs xs) us
  | [], _, h => h
  | x :: xs, us, h => by
    obtain ⟨u, us', e, h1, h2⟩ := h
    exact ⟨u, us', e, VRep.frz l hc x _ h1, LRep.frz l hc xs _ h2⟩
end
variable {N : Nat} {Q : APost} {σ : Nat → PV} {ops : Array Oper} {l : List Oper}
theorem AList.frz {n d : Nat} {cs : List PV} (hn : n < m.nloc) (hc : m.loc n = some cs) (h : AList P N ops Q l (upd σ d ((σ d).frz n cs)) (m.dropLoc n)) : AList P N ops Q l σ m := by
  intro Γ a w hs
  obtain ⟨h1, h2⟩ := hs.mem.freeze hn hc
  have le := Ctx.le_newImm Γ (Γ.loc n) cs.length (hs.mem.apart n cs hn hc).1
  have hs' := hs.mono le (Keeps.refl Γ w) h1
  have := h _ a w ⟨hs'.size, hs'.defers, h1, fun t => ?_⟩
  · exact wpList_mono (Post.later le (Keeps.refl _ _)) _ _ _ this
  · by_cases e : t = d
    · subst e; rw [upd_same]; exact VRep.frz le h2 _ _ (hs.slots t)
    · rw [upd_ne _ _ _ _ e]; exact hs'.slots t
theorem AW.frz {c : Code} {n d : Nat} {cs : List PV} (hn : n < m.nloc) (hc : m.loc n = some cs) (h : AW P N c Q (upd σ d ((σ d).frz n cs)) (m.dropLoc n)) : AW P N c Q σ m := by
  intro Γ a w hs
  obtain ⟨h1, h2⟩ := hs.mem.freeze hn hc
  have le := Ctx.le_newImm Γ (Γ.loc n) cs.length (hs.mem.apart n cs hn hc).1
  have hs' := hs.mono le (Keeps.refl Γ w) h1
  have := h _ a w ⟨hs'.size, hs'.defers, h1, fun t => ?_⟩
  · exact wpIn_mono this (Post.later le (Keeps.refl _ _))
  · by_cases e : t = d
    · subst e; rw [upd_same]; exact VRep.frz le h2 _ _ (hs.slots t)
    · rw [upd_ne _ _ _ _ e]; exact hs'.slots t
theorem MemSim.seeLoc (h : MemSim Γ m w) {n : Nat} {cs cs' : List PV} (hn : n < m.nloc) (hc : m.loc n = some cs) (hv : ∀ c, LRep Γ w cs c → LRep Γ w cs' c) : MemSim Γ (m.setLoc n cs') w := by
  have key : ∀ n' ds, (m.setLoc n cs').loc n' = some ds → (n' = n ∧ ds = cs') ∨ (n' ≠ n ∧ m.loc n' = some ds) := by
    intro n' ds hc'
    rw [setLoc_loc] at hc'
    split at hc'
    · rename_i e; cases hc'; exact .inl ⟨e, rfl⟩
    · rename_i e; exact .inr ⟨e, hc'⟩
  refine { h with locs := fun n' ds hn' hd => ?_, apart := fun n' ds hn' hd => ?_, inj := fun n1 n2 d1 d2 a1 a2 a3 a4 hq => ?_, tloc := fun k n' ds hk hlv hn' hd => ?_, lps := ⟨h.lps.at_, h.lps.inj⟩, its := ⟨h.its.at_, h.its.inj⟩ }
  · rcases key n' ds hd with ⟨rfl, rfl⟩ | ⟨e, hd⟩
    · obtain ⟨c, h1, h2, h3⟩ := h.locs _ cs hn hc
      exact ⟨c, h1, hv c h2, h3⟩
    · exact h.locs n' ds hn' hd
  · rcases key n' ds hd with ⟨rfl, rfl⟩ | ⟨e, hd⟩
    · exact h.apart _ cs hn hc
    · exact h.apart n' ds hn' hd
  · rcases key n1 d1 a3 with ⟨e1, _⟩ | ⟨_, g3⟩ <;> rcases key n2 d2 a4 with ⟨e2, _⟩ | ⟨_, g4⟩
    · rw [e1, e2]
    · subst e1; exact h.inj _ _ _ _ a1 a2 hc g4 hq
    · subst e2; exact h.inj _ _ _ _ a1 a2 g3 hc hq
    · exact h.inj _ _ _ _ a1 a2 g3 g4 hq
  · rcases key n' ds hd with ⟨rfl, _⟩ | ⟨_, hd⟩
    · exact h.tloc k _ cs hk hlv hn hc
    · exact h.tloc k n' ds hk hlv hn' hd
theorem LRep.seeNil : ∀ (cs : List PV) (c : List Value) (i : Nat), cs[i]? = some (.v (.slice none 0 0)) → LRep Γ w cs c → LRep Γ w (cs.set i (.list .full [])) c
  | x :: cs, _, 0, hi, h => by
    obtain ⟨u, us, rfl, h1, h2⟩ := h
    simp at hi; subst hi
    exact ⟨u, us, rfl, ⟨none, 0, h1, Nat.le_refl _, fun _ => rfl, (fun ad h => by cases h), rfl⟩, h2⟩
  | x :: cs, _, i + 1, hi, h => by
    obtain ⟨u, us, rfl, h1, h2⟩ := h
    exact ⟨u, us, rfl, h1, LRep.seeNil cs us i (by simpa using hi) h2⟩
theorem AW.nilC {c : Code} {n i : Nat} {cs : List PV} (hn : n < m.nloc) (hc : m.loc n = some cs) (hi : cs[i]? = some (.v (.slice none 0 0))) (h : AW P N c Q σ (m.setLoc n (cs.set i (.list .full [])))) : AW P N c Q σ m :=
  fun Γ a w hs => h Γ a w ⟨hs.size, hs.defers, hs.mem.seeLoc hn hc fun d hd => LRep.seeNil cs d i hi hd, hs.slots⟩
theorem AW.nilS {c : Code} {d : Nat} (hd : σ d = .v (.slice none 0 0)) (h : AW P N c Q (upd σ d (.list .full [])) m) : AW P N c Q σ m := by
  intro Γ a w hs
  refine h Γ a w ⟨hs.size, hs.defers, hs.mem, fun t => ?_⟩
  by_cases e : t = d
  · subst e
    rw [upd_same]
    have := hs.slots t
    rw [hd] at this
    exact ⟨none, 0, this, Nat.le_refl _, fun _ => rfl, (fun ad h => by cases h), rfl⟩
  · rw [upd_ne _ _ _ _ e]; exact hs.slots t
theorem AList.nilS {d : Nat} (hd : σ d = .v (.slice none 0 0)) (h : AList P N ops Q l (upd σ d (.list .full [])) m) : AList P N ops Q l σ m := by
  intro Γ a w hs
  refine h Γ a w ⟨hs.size, hs.defers, hs.mem, fun t => ?_⟩
  by_cases e : t = d
  · subst e
    rw [upd_same]
    have := hs.slots t
    rw [hd] at this
    exact ⟨none, 0, this, Nat.le_refl _, fun _ => rfl, (fun ad h => by cases h), rfl⟩
  · rw [upd_ne _ _ _ _ e]; exact hs.slots t
attribute [simp] PV.frz PV.frzL
end
end Go.Ab
