/- Texts of the proof, part La: they prove nothing by themselves that is claimed. -/
import Derived.Below
import Derived.WalkKit
import Derived.Laws.IdiomCopy
import Derived.Laws.Append
import Derived.Laws.Cells
import Derived.RangeFuncOwn
import Derived.Tactics
import Derived.TacticsIn
import Derived.OrdersIn
import Derived.Laws.AppendOwn
import Derived.ArgAppend
import Derived.Laws.Cover3
import Derived.Laws.Small
import Derived.WalkSpells
set_option linter.unusedVariables false
set_option linter.unusedSimpArgs false
/- The abstract layer, 1: abstract values, what a value in a world stands for, and that it goes on to stand for it. Over any program. -/
namespace Go.Ab
open Go.RowKit

/-- Who may append to a slice: no one is known to; its capacity is its length; it is the top of array number k. -/
inductive Own where
  | no | full | tok (k : Nat)
  deriving DecidableEq, Inhabited

/-- Abstract values: a slice is the list of its rows (the cells of each element), a pointer into memory that never changes is what lies there. -/
inductive PV where
  | any
  | v (u : Value)
  | agg (cs : List PV)
  | list (o : Own) (rows : List (List PV))
  | ro (cs : List PV)
  | loc (n off : Nat)
  | marr (n off len cap : Nat)
  | clo (f : FuncId) (first caps : List PV)
  | iface (t : TypeId) (x : PV)
  | tup (xs : List PV)
  | yld (n : Nat)
  | mtok (k len : Nat)
  | mptr (k off gen : Nat)
  deriving Inhabited

/-- What a frame has beside its memory: blocks for deferred calls of rounds, blocks of ranges, from where on its own lie, the round that it is, what a defer statement left. -/
structure CtxX where
  mark : Nat → Prop
  lps : Nat → Prop
  dlo : Nat
  rnd : Option Nat
  fd : List Deferred
structure CtxX.le (x x' : CtxX) : Prop where
  mark : ∀ D, x.mark D → x'.mark D
  lps : ∀ l, x.lps l → x'.lps l
  dlo : x'.dlo = x.dlo
  rnd : x'.rnd = x.rnd
  fd : x'.fd = x.fd
theorem CtxX.le.refl (x : CtxX) : x.le x := ⟨fun _ h => h, fun _ h => h, rfl, rfl, rfl⟩
theorem CtxX.le.trans {a b c : CtxX} (h : a.le b) (k : b.le c) : a.le c := ⟨fun D q => k.mark D (h.mark D q), fun D q => k.lps D (h.lps D q), k.dlo.trans h.dlo, k.rnd.trans h.rnd, k.fd.trans h.fd⟩

/-- Where the abstract memory lies. -/
structure Ctx where
  x : CtxX
  base : Nat
  nloc : Nat
  loc : Nat → Nat
  imm : Nat → Nat → Prop
  ntok : Nat
  tok : Nat → Nat
  top : Nat → Nat
  cp : Nat → Nat
  wd : Nat → Nat

def cellAt (w : World) (b o : Nat) : Option Value := w.cell? ⟨b, o, none⟩

mutual
def VRep (Γ : Ctx) (w : World) : PV → Value → Prop
  | .any, _ => True
  | .v u, x => x = u
  | .agg cs, x => ∃ us, x = .agg us ∧ LRep Γ w cs us.toList
  | .list o rows, x => ∃ a cap, x = .slice a rows.length cap ∧ rows.length ≤ cap ∧ (a = none → cap = 0) ∧
      (∀ ad, a = some ad → (cap = 0 ∨ ad.spot = none) ∧ SRep Γ w rows ad.block ad.off) ∧
      (match o with
       | .no => True
       | .full => cap = rows.length
       | .tok k => k < Γ.ntok ∧ rows.length ≤ Γ.top k ∧ (rows.length = Γ.top k → a = some ⟨Γ.tok k, 0, none⟩ ∧ cap = Γ.cp k))
  | .ro cs, x => ∃ b off, x = .pointer (some ⟨b, off, none⟩) ∧ CRep Γ w cs b off
  | .loc n off, x => n < Γ.nloc ∧ x = .pointer (some ⟨Γ.loc n, off, none⟩)
  | .marr n off len cap, x => n < Γ.nloc ∧ ∃ cap', cap ≤ cap' ∧ x = .slice (some ⟨Γ.loc n, off, none⟩) len cap'
  | .clo f first caps, x => ∃ fs us, x = .func (.func f) fs us ∧ LRep Γ w first fs.toList ∧ LRep Γ w caps us.toList
  | .iface t y, x => ∃ u, x = .iface t u ∧ VRep Γ w y u
  | .tup xs, x => ∃ us, x = .tuple us ∧ LRep Γ w xs us.toList
  | .yld n, x => n < Γ.nloc ∧ x = .func (.yield (Γ.loc n)) #[] #[]
  | .mtok k len, x => k < Γ.ntok ∧ len ≤ Γ.top k ∧ ∃ a cap, x = .slice (some a) len cap ∧ (len = Γ.top k → a = ⟨Γ.tok k, 0, none⟩ ∧ cap = Γ.cp k ∧ len ≤ cap)
  | .mptr k off gen, x => k < Γ.ntok ∧ gen ≤ Γ.top k ∧ ∃ a, x = .pointer (some a) ∧ (gen = Γ.top k → a = ⟨Γ.tok k, off, none⟩)
def LRep (Γ : Ctx) (w : World) : List PV → List Value → Prop
  | [], us => us = []
  | x :: xs, us => ∃ u us', us = u :: us' ∧ VRep Γ w x u ∧ LRep Γ w xs us'
/-- Cells that never change, from an address on. -/
def CRep (Γ : Ctx) (w : World) : List PV → Nat → Nat → Prop
  | [], _, _ => True
  | x :: xs, b, off => (Γ.imm b off ∧ ∃ u, cellAt w b off = some u ∧ u.oneCell' = true ∧ VRep Γ w x u) ∧ CRep Γ w xs b (off + 1)
def SRep (Γ : Ctx) (w : World) : List (List PV) → Nat → Nat → Prop
  | [], _, _ => True
  | r :: rs, b, off => CRep Γ w r b off ∧ SRep Γ w rs b (off + r.length)
end

/-- A later context: what never changes goes on so. -/
structure Ctx.le (Γ Γ' : Ctx) : Prop where
  base : Γ'.base = Γ.base
  nloc : Γ.nloc ≤ Γ'.nloc
  loc : ∀ n, n < Γ.nloc → Γ'.loc n = Γ.loc n
  imm : ∀ b o, Γ.imm b o → Γ'.imm b o
  ntok : Γ.ntok ≤ Γ'.ntok
  tok : ∀ k, k < Γ.ntok → (Γ'.top k = Γ.top k ∧ Γ'.tok k = Γ.tok k ∧ Γ'.cp k = Γ.cp k) ∨ Γ.top k < Γ'.top k
  wd : ∀ k, k < Γ.ntok → Γ'.wd k = Γ.wd k
  x : Γ.x.le Γ'.x
  immb : ∀ b o, Γ'.imm b o → Γ.imm b o ∨ Γ.base ≤ b

theorem Ctx.le.refl (Γ : Ctx) : Γ.le Γ := ⟨rfl, Nat.le_refl _, fun _ _ => rfl, fun _ _ h => h, Nat.le_refl _, fun _ _ => .inl ⟨rfl, rfl, rfl⟩, fun _ _ => rfl, CtxX.le.refl _, fun _ _ h => .inl h⟩
theorem Ctx.le.trans {A B C : Ctx} (h : A.le B) (k : B.le C) : A.le C := by
  refine ⟨k.base.trans h.base, Nat.le_trans h.nloc k.nloc, fun n hn => (k.loc n (Nat.lt_of_lt_of_le hn h.nloc)).trans (h.loc n hn), fun b o x => k.imm b o (h.imm b o x), Nat.le_trans h.ntok k.ntok, fun i hi => ?_, fun i hi => (k.wd i (Nat.lt_of_lt_of_le hi h.ntok)).trans (h.wd i hi), h.x.trans k.x, fun b o q => (k.immb b o q).elim (h.immb b o) (fun r => .inr (h.base ▸ r))⟩
  rcases h.tok i hi with ⟨h1, h2, h3⟩ | h1 <;> rcases k.tok i (Nat.lt_of_lt_of_le hi h.ntok) with ⟨k1, k2, k3⟩ | k1
  · exact .inl ⟨k1.trans h1, k2.trans h2, k3.trans h3⟩
  · exact .inr (by omega)
  · exact .inr (by omega)
  · exact .inr (by omega)

/-- A later world: what lay below the base, and what never changes, is as it was. -/
structure Keeps (Γ : Ctx) (w w' : World) : Prop where
  below : Below Γ.base w w'
  imm : ∀ b o, Γ.imm b o → cellAt w' b o = cellAt w b o

theorem Keeps.refl (Γ : Ctx) (w : World) : Keeps Γ w w := ⟨Below.refl _ _, fun _ _ _ => rfl⟩
theorem Keeps.trans {A B : Ctx} {w w' w'' : World} (h : Keeps A w w') (l : A.le B) (k : Keeps B w' w'') : Keeps A w w'' :=
  ⟨h.below.trans (l.base ▸ k.below), fun b o x => (k.imm b o (l.imm b o x)).trans (h.imm b o x)⟩

mutual
theorem VRep.mono {Γ Γ' : Ctx} {w w' : World} (l : Γ.le Γ') (k : Keeps Γ w w') : ∀ (p : PV) (u : Value), VRep Γ w p u → VRep Γ' w' p u
  | .any, _, h => trivial
  | .v _, _, h => h
  | .agg cs, u, h => by
    obtain ⟨us, e, h⟩ := h
    exact ⟨us, e, LRep.mono l k cs _ h⟩
  | .list o rows, u, h => by
    obtain ⟨a, cap, e, h1, h2, h3, h4⟩ := h
    refine ⟨a, cap, e, h1, h2, fun ad hd => ⟨(h3 ad hd).1, SRep.mono l k rows _ _ (h3 ad hd).2⟩, ?_⟩
    cases o with
    | no => trivial
    | full => exact h4
    | tok i =>
      obtain ⟨a1, a2, a3⟩ := h4
      rcases l.tok i a1 with ⟨t1, t2, t3⟩ | t1
      · exact ⟨Nat.lt_of_lt_of_le a1 l.ntok, t1 ▸ a2, fun q => by rw [t2, t3]; exact a3 (t1 ▸ q)⟩
      · exact ⟨Nat.lt_of_lt_of_le a1 l.ntok, by omega, fun q => by omega⟩
  | .ro cs, u, h => by
    obtain ⟨b, off, e, h⟩ := h
    exact ⟨b, off, e, CRep.mono l k cs _ _ h⟩
  | .loc n off, u, h => ⟨Nat.lt_of_lt_of_le h.1 l.nloc, by rw [l.loc n h.1]; exact h.2⟩
  | .marr n off len cap, u, h => ⟨Nat.lt_of_lt_of_le h.1 l.nloc, by rw [l.loc n h.1]; exact h.2⟩
  | .clo f first caps, u, h => by
    obtain ⟨fs, us, e, h1, h2⟩ := h
    exact ⟨fs, us, e, LRep.mono l k first _ h1, LRep.mono l k caps _ h2⟩
  | .iface t y, u, h => by
    obtain ⟨x, e, h⟩ := h
    exact ⟨x, e, VRep.mono l k y _ h⟩
  | .tup xs, u, h => by
    obtain ⟨us, e, h⟩ := h
    exact ⟨us, e, LRep.mono l k xs _ h⟩
  | .yld n, u, h => ⟨Nat.lt_of_lt_of_le h.1 l.nloc, by rw [l.loc n h.1]; exact h.2⟩
  | .mtok i len, u, h => by
    obtain ⟨h1, h2, a, cap, h3, h4⟩ := h
    rcases l.tok i h1 with ⟨t1, t2, t3⟩ | t1
    · exact ⟨Nat.lt_of_lt_of_le h1 l.ntok, t1 ▸ h2, a, cap, h3, fun q => by rw [t2, t3]; exact h4 (t1 ▸ q)⟩
    · exact ⟨Nat.lt_of_lt_of_le h1 l.ntok, by omega, a, cap, h3, fun q => by omega⟩
  | .mptr i off gen, u, h => by
    obtain ⟨h1, h2, a, h3, h4⟩ := h
    rcases l.tok i h1 with ⟨t1, t2, t3⟩ | t1
    · exact ⟨Nat.lt_of_lt_of_le h1 l.ntok, t1 ▸ h2, a, h3, fun q => by rw [t2]; exact h4 (t1 ▸ q)⟩
    · exact ⟨Nat.lt_of_lt_of_le h1 l.ntok, by omega, a, h3, fun q => by omega⟩
theorem LRep.mono {Γ Γ' : Ctx} {w w' : World} (l : Γ.le Γ') (k : Keeps Γ w w') : ∀ (xs : List PV) (us : List Value), LRep Γ w xs us → LRep Γ' w' xs us
  | [], _, h => h
  | x :: xs, us, h => by
    obtain ⟨u, us', e, h1, h2⟩ := h
    exact ⟨u, us', e, VRep.mono l k x _ h1, LRep.mono l k xs _ h2⟩
theorem CRep.mono {Γ Γ' : Ctx} {w w' : World} (l : Γ.le Γ') (k : Keeps Γ w w') : ∀ (xs : List PV) (b off : Nat), CRep Γ w xs b off → CRep Γ' w' xs b off
  | [], _, _, h => trivial
  | x :: xs, b, off, h => by
    obtain ⟨⟨h0, u, e, hu, h1⟩, h2⟩ := h
    exact ⟨⟨l.imm _ _ h0, u, (k.imm _ _ h0).trans e, hu, VRep.mono l k x _ h1⟩, CRep.mono l k xs _ _ h2⟩
theorem SRep.mono {Γ Γ' : Ctx} {w w' : World} (l : Γ.le Γ') (k : Keeps Γ w w') : ∀ (rs : List (List PV)) (b off : Nat), SRep Γ w rs b off → SRep Γ' w' rs b off
  | [], _, _, h => trivial
  | r :: rs, b, off, h => ⟨CRep.mono l k r _ _ h.1, SRep.mono l k rs _ _ h.2⟩
end

mutual
/-- All numbers in an abstract value are below these. -/
def PV.sc (nl nt : Nat) : PV → Prop
  | .any | .v _ => True
  | .agg cs => PV.scL nl nt cs
  | .list o rows => PV.scR nl nt rows ∧ (match o with | .tok k => k < nt | _ => True)
  | .ro cs => PV.scL nl nt cs
  | .loc n _ => n < nl
  | .marr n _ _ _ => n < nl
  | .clo _ first caps => PV.scL nl nt first ∧ PV.scL nl nt caps
  | .iface _ y => y.sc nl nt
  | .tup xs => PV.scL nl nt xs
  | .yld n => n < nl
  | .mtok k _ => k < nt
  | .mptr k _ _ => k < nt
def PV.scL (nl nt : Nat) : List PV → Prop
  | [] => True
  | x :: xs => x.sc nl nt ∧ PV.scL nl nt xs
def PV.scR (nl nt : Nat) : List (List PV) → Prop
  | [] => True
  | r :: rs => PV.scL nl nt r ∧ PV.scR nl nt rs
end

/-- The context with fewer numbers. -/
def Ctx.cut (Γ : Ctx) (x : CtxX) (nl nt : Nat) : Ctx := { Γ with x := x, nloc := nl, ntok := nt }

mutual
theorem VRep.cut {Γ : Ctx} {w : World} {x₀ : CtxX} {nl nt : Nat} : ∀ (p : PV) (u : Value), p.sc nl nt → VRep Γ w p u → VRep (Γ.cut x₀ nl nt) w p u
  | .any, _, _, h => trivial
  | .v _, _, _, h => h
  | .agg cs, u, s, h => by
    obtain ⟨us, e, h⟩ := h
    exact ⟨us, e, LRep.cut cs _ s h⟩
  | .list o rows, u, s, h => by
    obtain ⟨a, cap, e, h1, h2, h3, h4⟩ := h
    refine ⟨a, cap, e, h1, h2, fun ad hd => ⟨(h3 ad hd).1, SRep.cut rows _ _ s.1 (h3 ad hd).2⟩, ?_⟩
    cases o with
    | no => trivial
    | full => exact h4
    | tok i => exact ⟨s.2, h4.2⟩
  | .ro cs, u, s, h => by
    obtain ⟨b, off, e, h⟩ := h
    exact ⟨b, off, e, CRep.cut cs _ _ s h⟩
  | .loc n off, u, s, h => ⟨s, h.2⟩
  | .marr n off len cap, u, s, h => ⟨s, h.2⟩
  | .clo f first caps, u, s, h => by
    obtain ⟨fs, us, e, h1, h2⟩ := h
    exact ⟨fs, us, e, LRep.cut first _ s.1 h1, LRep.cut caps _ s.2 h2⟩
  | .iface t y, u, s, h => by
    obtain ⟨x, e, h⟩ := h
    exact ⟨x, e, VRep.cut y _ s h⟩
  | .tup xs, u, s, h => by
    obtain ⟨us, e, h⟩ := h
    exact ⟨us, e, LRep.cut xs _ s h⟩
  | .yld n, u, s, h => ⟨s, h.2⟩
  | .mtok k _, u, s, h => ⟨s, h.2⟩
  | .mptr k _ _, u, s, h => ⟨s, h.2⟩
theorem LRep.cut {Γ : Ctx} {w : World} {x₀ : CtxX} {nl nt : Nat} : ∀ (xs : List PV) (us : List Value), PV.scL nl nt xs → LRep Γ w xs us → LRep (Γ.cut x₀ nl nt) w xs us
  | [], _, _, h => h
  | x :: xs, us, s, h => by
    obtain ⟨u, us', e, h1, h2⟩ := h
    exact ⟨u, us', e, VRep.cut x _ s.1 h1, LRep.cut xs _ s.2 h2⟩
theorem CRep.cut {Γ : Ctx} {w : World} {x₀ : CtxX} {nl nt : Nat} : ∀ (xs : List PV) (b off : Nat), PV.scL nl nt xs → CRep Γ w xs b off → CRep (Γ.cut x₀ nl nt) w xs b off
  | [], _, _, _, h => trivial
  | x :: xs, b, off, s, h => by
    obtain ⟨⟨h0, u, e, hu, h1⟩, h2⟩ := h
    exact ⟨⟨h0, u, e, hu, VRep.cut x _ s.1 h1⟩, CRep.cut xs _ _ s.2 h2⟩
theorem SRep.cut {Γ : Ctx} {w : World} {x₀ : CtxX} {nl nt : Nat} : ∀ (rs : List (List PV)) (b off : Nat), PV.scR nl nt rs → SRep Γ w rs b off → SRep (Γ.cut x₀ nl nt) w rs b off
  | [], _, _, _, h => trivial
  | r :: rs, b, off, s, h => ⟨CRep.cut r _ _ s.1 h.1, SRep.cut rs _ _ s.2 h.2⟩
end

mutual
/-- The same without what is known of who may append. -/
def PV.strip : PV → PV
  | .any => .any
  | .v u => .v u
  | .agg cs => .agg (PV.stripL cs)
  | .list _ rows => .list .no (PV.stripR rows)
  | .ro cs => .ro (PV.stripL cs)
  | .loc n off => .loc n off
  | .marr n off len cap => .marr n off len cap
  | .clo f first caps => .clo f (PV.stripL first) (PV.stripL caps)
  | .iface t y => .iface t y.strip
  | .tup xs => .tup (PV.stripL xs)
  | .yld n => .yld n
  | .mtok k len => .mtok k len
  | .mptr k off gen => .mptr k off gen
def PV.stripL : List PV → List PV
  | [] => []
  | x :: xs => x.strip :: PV.stripL xs
def PV.stripR : List (List PV) → List (List PV)
  | [] => []
  | r :: rs => PV.stripL r :: PV.stripR rs
end

theorem PV.stripL_length : ∀ xs : List PV, (PV.stripL xs).length = xs.length
  | [] => rfl
  | _ :: xs => by simp [PV.stripL, PV.stripL_length xs]
theorem PV.stripR_length : ∀ xs : List (List PV), (PV.stripR xs).length = xs.length
  | [] => rfl
  | _ :: xs => by simp [PV.stripR, PV.stripR_length xs]

mutual
theorem VRep.strip {Γ : Ctx} {w : World} : ∀ (p : PV) (u : Value), VRep Γ w p u → VRep Γ w p.strip u
  | .any, _, h => trivial
  | .v _, _, h => h
  | .agg cs, u, h => by
    obtain ⟨us, e, h⟩ := h
    exact ⟨us, e, LRep.strip cs _ h⟩
  | .list o rows, u, h => by
    obtain ⟨a, cap, e, h1, h2, h3, h4⟩ := h
    have hl := PV.stripR_length rows
    exact ⟨a, cap, hl.symm ▸ e, hl.symm ▸ h1, h2, fun ad hd => ⟨(h3 ad hd).1, SRep.strip rows _ _ (h3 ad hd).2⟩, trivial⟩
  | .ro cs, u, h => by
    obtain ⟨b, off, e, h⟩ := h
    exact ⟨b, off, e, CRep.strip cs _ _ h⟩
  | .loc n off, u, h => h
  | .marr n off len cap, u, h => h
  | .clo f first caps, u, h => by
    obtain ⟨fs, us, e, h1, h2⟩ := h
    exact ⟨fs, us, e, LRep.strip first _ h1, LRep.strip caps _ h2⟩
  | .iface t y, u, h => by
    obtain ⟨x, e, h⟩ := h
    exact ⟨x, e, VRep.strip y _ h⟩
  | .tup xs, u, h => by
    obtain ⟨us, e, h⟩ := h
    exact ⟨us, e, LRep.strip xs _ h⟩
  | .yld n, u, h => h
  | .mtok k _, u, h => h
  | .mptr k _ _, u, h => h
theorem LRep.strip {Γ : Ctx} {w : World} : ∀ (xs : List PV) (us : List Value), LRep Γ w xs us → LRep Γ w (PV.stripL xs) us
  | [], _, h => h
  | x :: xs, us, h => by
    obtain ⟨u, us', e, h1, h2⟩ := h
    exact ⟨u, us', e, VRep.strip x _ h1, LRep.strip xs _ h2⟩
theorem CRep.strip {Γ : Ctx} {w : World} : ∀ (xs : List PV) (b off : Nat), CRep Γ w xs b off → CRep Γ w (PV.stripL xs) b off
  | [], _, _, h => trivial
  | x :: xs, b, off, h => by
    obtain ⟨⟨h0, u, e, hu, h1⟩, h2⟩ := h
    exact ⟨⟨h0, u, e, hu, VRep.strip x _ h1⟩, CRep.strip xs _ _ h2⟩
theorem SRep.strip {Γ : Ctx} {w : World} : ∀ (rs : List (List PV)) (b off : Nat), SRep Γ w rs b off → SRep Γ w (PV.stripR rs) b off
  | [], _, _, h => trivial
  | r :: rs, b, off, h => ⟨CRep.strip r _ _ h.1, (PV.stripL_length r).symm ▸ SRep.strip rs _ _ h.2⟩
end

theorem LRep.len {Γ : Ctx} {w : World} : ∀ (xs : List PV) (us : List Value), LRep Γ w xs us → us.length = xs.length
  | [], _, h => by rw [h]; rfl
  | x :: xs, us, h => by
    obtain ⟨u, us', e, h1, h2⟩ := h
    simp [e, LRep.len xs us' h2]
theorem LRep.get {Γ : Ctx} {w : World} : ∀ (xs : List PV) (us : List Value), LRep Γ w xs us → ∀ (i : Nat) (x : PV), xs[i]? = some x → ∃ u, us[i]? = some u ∧ VRep Γ w x u
  | [], _, h, i, x, hx => by simp at hx
  | y :: xs, us, h, i, x, hx => by
    obtain ⟨u, us', e, h1, h2⟩ := h
    subst e
    cases i with
    | zero => simp at hx; subst hx; exact ⟨u, by simp, h1⟩
    | succ i => simp at hx; obtain ⟨u', e, h⟩ := LRep.get xs us' h2 i x hx; exact ⟨u', by simpa using e, h⟩
theorem LRep.append {Γ : Ctx} {w : World} : ∀ (xs ys : List PV) (us vs : List Value), LRep Γ w xs us → LRep Γ w ys vs → LRep Γ w (xs ++ ys) (us ++ vs)
  | [], ys, us, vs, h, k => by rw [h]; exact k
  | x :: xs, ys, us, vs, h, k => by
    obtain ⟨u, us', e, h1, h2⟩ := h
    subst e
    exact ⟨u, us' ++ vs, rfl, h1, LRep.append xs ys us' vs h2 k⟩
theorem LRep.drop {Γ : Ctx} {w : World} : ∀ (n : Nat) (xs : List PV) (us : List Value), LRep Γ w xs us → LRep Γ w (xs.drop n) (us.drop n)
  | 0, xs, us, h => h
  | n + 1, [], us, h => by rw [h]; rfl
  | n + 1, x :: xs, us, h => by
    obtain ⟨u, us', e, h1, h2⟩ := h
    subst e
    exact LRep.drop n xs us' h2
theorem LRep.take {Γ : Ctx} {w : World} : ∀ (n : Nat) (xs : List PV) (us : List Value), LRep Γ w xs us → LRep Γ w (xs.take n) (us.take n)
  | 0, xs, us, h => rfl
  | n + 1, [], us, h => by rw [h]; rfl
  | n + 1, x :: xs, us, h => by
    obtain ⟨u, us', e, h1, h2⟩ := h
    subst e
    exact ⟨u, us'.take n, rfl, h1, LRep.take n xs us' h2⟩
theorem CRep.drop {Γ : Ctx} {w : World} : ∀ (n : Nat) (xs : List PV) (b off : Nat), CRep Γ w xs b off → CRep Γ w (xs.drop n) b (off + n)
  | 0, xs, b, off, h => h
  | n + 1, [], b, off, h => trivial
  | n + 1, x :: xs, b, off, h => by
    have := CRep.drop n xs b (off + 1) h.2
    rwa [show off + 1 + n = off + (n + 1) by omega] at this
theorem CRep.take {Γ : Ctx} {w : World} : ∀ (n : Nat) (xs : List PV) (b off : Nat), CRep Γ w xs b off → CRep Γ w (xs.take n) b off
  | 0, xs, b, off, h => trivial
  | n + 1, [], b, off, h => trivial
  | n + 1, x :: xs, b, off, h => ⟨h.1, CRep.take n xs b (off + 1) h.2⟩
theorem CRep.append {Γ : Ctx} {w : World} : ∀ (xs ys : List PV) (b off : Nat), CRep Γ w xs b off → CRep Γ w ys b (off + xs.length) → CRep Γ w (xs ++ ys) b off
  | [], ys, b, off, _, k => k
  | x :: xs, ys, b, off, h, k => ⟨h.1, CRep.append xs ys b (off + 1) h.2 (by simpa [Nat.add_assoc, Nat.add_comm 1] using k)⟩
/-- What lies there, read. -/
theorem CRep.read {Γ : Ctx} {w : World} : ∀ (xs : List PV) (b off : Nat), CRep Γ w xs b off → ∃ us : List Value, us.length = xs.length ∧ (∀ (i : Nat) (u : Value), us[i]? = some u → cellAt w b (off + i) = some u ∧ u.oneCell' = true ∧ Γ.imm b (off + i)) ∧ LRep Γ w xs us
  | [], b, off, h => ⟨[], rfl, fun i u e => by simp at e, rfl⟩
  | x :: xs, b, off, h => by
    obtain ⟨⟨h0, u, e, hu, h1⟩, h2⟩ := h
    obtain ⟨us, l, hus, hr⟩ := CRep.read xs b (off + 1) h2
    refine ⟨u :: us, by simp [l], fun i u' e' => ?_, u, us, rfl, h1, hr⟩
    cases i with
    | zero => simp at e'; subst e'; exact ⟨e, hu, h0⟩
    | succ i => simp at e'; have := hus i u' e'; rwa [show off + 1 + i = off + (i + 1) by omega] at this
theorem CRep.mk {Γ : Ctx} {w : World} : ∀ (xs : List PV) (us : List Value) (b off : Nat), LRep Γ w xs us → (∀ (i : Nat) (u : Value), us[i]? = some u → cellAt w b (off + i) = some u ∧ u.oneCell' = true ∧ Γ.imm b (off + i)) → CRep Γ w xs b off
  | [], _, _, _, _, _ => trivial
  | x :: xs, us, b, off, h, k => by
    obtain ⟨u, us', e, h1, h2⟩ := h
    subst e
    refine ⟨⟨(k 0 u (by simp)).2.2, u, (k 0 u (by simp)).1, (k 0 u (by simp)).2.1, h1⟩, CRep.mk xs us' b (off + 1) h2 fun i u' e' => ?_⟩
    have := k (i + 1) u' (by simpa using e')
    rwa [show off + 1 + i = off + (i + 1) by omega]

/-- How many cells the first rows take. -/
def wid (rows : List (List PV)) : Nat := rows.flatten.length
theorem SRep.flat {Γ : Ctx} {w : World} : ∀ (rows : List (List PV)) (b off : Nat), SRep Γ w rows b off ↔ CRep Γ w rows.flatten b off
  | [], b, off => Iff.rfl
  | r :: rs, b, off => by
    rw [List.flatten_cons]
    constructor
    · intro h; exact CRep.append _ _ _ _ h.1 ((SRep.flat rs _ _).1 h.2)
    · intro h
      refine ⟨by simpa using CRep.take r.length _ _ _ h, (SRep.flat rs _ _).2 ?_⟩
      have := CRep.drop r.length _ _ _ h
      simpa using this

end Go.Ab
/- The abstract layer, 2: the abstract memory, what it stands for in a world, and what each way to change memory does to it. -/
namespace Go.Ab
open Go.RowKit

/-- The abstract memory: local variables by number (their cells), tops and widths of arrays that may grow; the next free numbers. -/
structure LoopA where
  st : LoopState
  pend : Option Code
  fn : FuncId
  N : Nat
  σ : Nat → PV
  params : List Tmp
  assign : Code
  body : Code
structure St where
  loc : Nat → Option (List PV)
  lp : Nat → Option LoopA
  nloc : Nat
  top : Nat → Nat
  wd : Nat → Nat
  ntok : Nat
  it : Nat → Option (ByteArray × Nat)
  arr : Nat → Option (List PV)

def upd {α : Type} (f : Nat → α) (n : Nat) (x : α) : Nat → α := fun i => if i = n then x else f i
theorem upd_same {α : Type} (f : Nat → α) (n : Nat) (x : α) : upd f n x n = x := by simp [upd]
theorem upd_ne {α : Type} (f : Nat → α) (n : Nat) (x : α) (i : Nat) (h : i ≠ n) : upd f n x i = f i := by simp [upd, h]

/-- Elements of a list, replaced from a place on. -/
def setL {α : Type} : List α → Nat → List α → List α
  | c, _, [] => c
  | c, off, u :: us => setL (c.set off u) (off + 1) us
theorem setL_length {α : Type} : ∀ (us c : List α) (off : Nat), (setL c off us).length = c.length
  | [], c, off => rfl
  | u :: us, c, off => by simp [setL, setL_length us]
theorem setL_eq {α : Type} : ∀ (us c : List α) (off : Nat), off + us.length ≤ c.length → setL c off us = c.take off ++ us ++ c.drop (off + us.length)
  | [], c, off, h => by simp [setL]
  | u :: us, c, off, h => by
    simp at h
    rw [setL, setL_eq us _ _ (by simp; omega)]
    have h1 : (c.set off u).take (off + 1) = c.take off ++ [u] := by
      rw [List.take_set, List.take_succ_eq_append_getElem (by omega), List.set_append]
      simp [List.length_take, Nat.min_eq_left (show off ≤ c.length by omega)]
    rw [h1, List.drop_set_of_lt (by omega)]
    simp [Nat.add_assoc, Nat.add_comm 1]

theorem setL_all {α : Type} {p : α → Prop} : ∀ (us c : List α) (off : Nat), (∀ u ∈ us, p u) → (∀ v ∈ c, p v) → ∀ v ∈ setL c off us, p v
  | [], c, off, _, h => h
  | u :: us, c, off, h1, h => by
    refine setL_all us _ (off + 1) (fun v hv => h1 v (by simp [hv])) fun v hv => ?_
    rcases List.mem_or_eq_of_mem_set hv with hv | rfl
    · exact h v hv
    · exact h1 _ (by simp)

/-- What a block must be for its cells to be written: cells, none frozen. -/
def Blk (w : World) (b : Nat) (c : List Value) : Prop := ∃ e a, w.heap[b]? = some (.cells a e (0, 0)) ∧ ∃ d, a.toList = c ++ d

theorem cellAt_blk {w : World} {b : Nat} {c : List Value} (h : Blk w b c) {o : Nat} (ho : o < c.length) : cellAt w b o = c[o]? := by
  obtain ⟨e, a, h, d, hd⟩ := h
  have : a[o]? = c[o]? := by rw [← Array.getElem?_toList, hd, List.getElem?_append_left ho]
  simp [cellAt, World.cell?, h, this]
theorem cellAt_blk' {w : World} {b : Nat} {c : List Value} (h : Blk w b c) {o : Nat} {u : Value} (ho : c[o]? = some u) : cellAt w b o = some u :=
  (cellAt_blk h (List.getElem?_eq_some_iff.1 ho).1).trans ho
theorem Blk.lt {w : World} {b : Nat} {c : List Value} (h : Blk w b c) : b < w.heap.size := by
  obtain ⟨e, a, h, _⟩ := h
  exact (Array.getElem?_eq_some_iff.1 h).1
theorem Blk.frozen {w : World} {b : Nat} {c : List Value} (h : Blk w b c) (o : Nat) : w.frozen? ⟨b, o, none⟩ = false := by
  obtain ⟨e, a, h, _⟩ := h
  simp [World.frozen?, h]
theorem Blk.of_heap {w w' : World} {b : Nat} {c : List Value} (h : Blk w b c) (k : w'.heap[b]? = w.heap[b]?) : Blk w' b c := by
  obtain ⟨e, a, h, h2⟩ := h
  exact ⟨e, a, k.trans h, h2⟩
theorem Blk.alloc {w : World} {b : Nat} {c : List Value} (h : Blk w b c) (o : Obj) : Blk (w.alloc o) b c := h.of_heap (Below.heap_alloc _ _ _ h.lt)
theorem Blk.new (w : World) (c : Array Value) (e : TypeId) : Blk (w.alloc (.cells c e)) w.heap.size c.toList :=
  ⟨e, c, by show (w.heap.push _)[w.heap.size]? = _; simp, [], by simp⟩
theorem Blk.take {w : World} {b : Nat} {c d : List Value} (h : Blk w b (c ++ d)) : Blk w b c := by
  obtain ⟨e, a, h, d', h2⟩ := h
  exact ⟨e, a, h, d ++ d', by rw [h2, List.append_assoc]⟩
theorem cellAt_of_heap {w w' : World} {b : Nat} (k : w'.heap[b]? = w.heap[b]?) (i : Nat) : cellAt w' b i = cellAt w b i := World.cell?_of_block (w := w) k
theorem cellAt_alloc (w : World) (o : Obj) (b i : Nat) (h : b < w.heap.size) : cellAt (w.alloc o) b i = cellAt w b i := cellAt_of_heap (Below.heap_alloc _ _ _ h) i

/-- A row of cells in a block, written. -/
abbrev setCells (w : World) (b off : Nat) (us : List Value) : World := w.setCells b off us

theorem setCell_blk {w : World} {b : Nat} {c : List Value} (h : Blk w b c) (off : Nat) (ho : off < c.length) (u : Value) : Blk (w.setCell ⟨b, off, none⟩ u) b (c.set off u) := by
  obtain ⟨e, a, h, d, hd⟩ := h
  exact ⟨e, a.setIfInBounds off u, by simp only [World.setCell, Array.getElem?_modify, if_true, h]; rfl, d, by rw [Array.toList_setIfInBounds, hd, List.set_append_left _ _ ho]⟩
theorem setCells_blk {b : Nat} : ∀ (us : List Value) (w : World) (off : Nat) (c : List Value), off + us.length ≤ c.length → Blk w b c → Blk (setCells w b off us) b (setL c off us)
  | [], w, off, c, _, h => h
  | u :: us, w, off, c, hf, h => setCells_blk us _ (off + 1) _ (by simp at hf ⊢; omega) (setCell_blk h off (by simp at hf; omega) u)
theorem setCells_heap {b : Nat} : ∀ (us : List Value) (w : World) (off k : Nat), k ≠ b → (setCells w b off us).heap[k]? = w.heap[k]?
  | [], w, off, k, _ => rfl
  | u :: us, w, off, k, h => (setCells_heap us _ (off + 1) k h).trans (Below.heap_setCell _ _ _ _ (by simpa using h))
theorem setCells_below {b B : Nat} (hB : B ≤ b) : ∀ (us : List Value) (w : World) (off : Nat), Below B w (setCells w b off us)
  | [], w, off => Below.refl _ _
  | u :: us, w, off => ((Below.refl B w).setCell (p := ⟨b, off, none⟩) hB u).trans (setCells_below hB us _ (off + 1))
theorem setCells_size {b : Nat} : ∀ (us : List Value) (w : World) (off : Nat), (setCells w b off us).heap.size = w.heap.size
  | [], w, off => rfl
  | u :: us, w, off => by rw [setCells, World.setCells]; exact (setCells_size us _ _).trans (by simp [World.setCell])

/-- The ranges over functions that are under way, each between two rounds. -/
structure Lps (Γ : Ctx) (m : St) (w : World) : Prop where
  at_ : ∀ n L, n < m.nloc → m.lp n = some L → Γ.base ≤ Γ.loc n ∧ ∃ tmps D, w.heap[Γ.loc n]? = some (.loop { state := L.st, pending := L.pend, fn := L.fn, tmps := tmps, params := L.params.toArray, assign := L.assign, body := L.body, defers := D }) ∧
    tmps.size = L.N ∧ ∀ t, VRep Γ w (L.σ t) (tmps.getD t undef)
  inj : ∀ n n' L L', n < m.nloc → n' < m.nloc → m.lp n = some L → m.lp n' = some L' → Γ.loc n = Γ.loc n' → n = n'

theorem Lps.lt {Γ : Ctx} {m : St} {w : World} (h : Lps Γ m w) {n : Nat} {L : LoopA} (hn : n < m.nloc) (hl : m.lp n = some L) : Γ.loc n < w.heap.size := by
  obtain ⟨_, tmps, D, h1, _⟩ := h.at_ n L hn hl
  exact (Array.getElem?_eq_some_iff.1 h1).1
theorem Lps.not_blk {Γ : Ctx} {m : St} {w : World} (h : Lps Γ m w) {n : Nat} {L : LoopA} (hn : n < m.nloc) (hl : m.lp n = some L) {c : List Value} : ¬ Blk w (Γ.loc n) c := by
  rintro ⟨e, a, h2, _⟩
  obtain ⟨_, tmps, D, h1, _⟩ := h.at_ n L hn hl
  rw [h1] at h2; cases h2
/-- The ranges over strings that are under way. -/
structure Its (Γ : Ctx) (m : St) (w : World) : Prop where
  at_ : ∀ n x, n < m.nloc → m.it n = some x → Γ.base ≤ Γ.loc n ∧ w.heap[Γ.loc n]? = some (.stringIter x.1 x.2)
  inj : ∀ n n' x x', n < m.nloc → n' < m.nloc → m.it n = some x → m.it n' = some x' → Γ.loc n = Γ.loc n' → n = n'
theorem Its.lt {Γ : Ctx} {m : St} {w : World} (h : Its Γ m w) {n : Nat} {x : ByteArray × Nat} (hn : n < m.nloc) (hx : m.it n = some x) : Γ.loc n < w.heap.size :=
  (Array.getElem?_eq_some_iff.1 (h.at_ n x hn hx).2).1
theorem Its.mono {Γ Γ' : Ctx} {m m' : St} {w w' : World} (h : Its Γ m w) (l : Γ.le Γ') (hn : Γ.nloc = m.nloc) (hm : ∀ n x, n < m'.nloc → m'.it n = some x → n < m.nloc ∧ m.it n = some x)
    (hh : ∀ (k : Nat) (o : Obj), w.heap[k]? = some o → o.isCells = false → w'.heap[k]? = some o) : Its Γ' m' w' := by
  refine ⟨fun n x h1 h2 => ?_, fun n n' x x' h1 h2 h3 h4 hq => ?_⟩
  · obtain ⟨h3, h4⟩ := hm n x h1 h2
    obtain ⟨h5, h6⟩ := h.at_ n x h3 h4
    have e := l.loc n (by rw [hn]; exact h3)
    exact ⟨by rw [e, l.base]; exact h5, by rw [e]; exact hh _ _ h6 rfl⟩
  · obtain ⟨h5, h6⟩ := hm n x h1 h3
    obtain ⟨h7, h8⟩ := hm n' x' h2 h4
    rw [l.loc n (by rw [hn]; exact h5), l.loc n' (by rw [hn]; exact h7)] at hq
    exact h.inj n n' x x' h5 h7 h6 h8 hq
/-- The same ranges, later. -/
theorem Lps.mono {Γ Γ' : Ctx} {m m' : St} {w w' : World} (h : Lps Γ m w) (l : Γ.le Γ') (k : Keeps Γ w w') (hn : Γ.nloc = m.nloc) (hm : ∀ n L, n < m'.nloc → m'.lp n = some L → n < m.nloc ∧ m.lp n = some L)
    (hh : ∀ n L, n < m.nloc → m.lp n = some L → w'.heap[Γ.loc n]? = w.heap[Γ.loc n]?) : Lps Γ' m' w' := by
  refine ⟨fun n L h1 h2 => ?_, fun n n' L L' h1 h2 h3 h4 hq => ?_⟩
  · obtain ⟨h3, h4⟩ := hm n L h1 h2
    obtain ⟨h5, tmps, D, h6, h7, h8⟩ := h.at_ n L h3 h4
    have e := l.loc n (by rw [hn]; exact h3)
    exact ⟨by rw [e, l.base]; exact h5, tmps, D, by rw [e, hh n L h3 h4]; exact h6, h7, fun t => VRep.mono l k _ _ (h8 t)⟩
  · obtain ⟨h5, h6⟩ := hm n L h1 h3
    obtain ⟨h7, h8⟩ := hm n' L' h2 h4
    rw [l.loc n (by rw [hn]; exact h5), l.loc n' (by rw [hn]; exact h7)] at hq
    exact h.inj n n' L L' h5 h7 h6 h8 hq

/-- What the frame has beside its memory lies there. -/
structure XSim (Γ : Ctx) (w : World) : Prop where
  mark : ∀ D, Γ.x.mark D → Γ.base ≤ D ∧ w.heap[D]? = some (.deferred (some []))
  lps : ∀ l, Γ.x.lps l → Γ.base ≤ l ∧ ∃ R, w.heap[l]? = some (.loop R)
  rnd : ∀ l, Γ.x.rnd = some l → Γ.x.lps l
  dlo : Γ.x.dlo ≤ w.heap.size
theorem XSim.mono {Γ Γ' : Ctx} {w w' : World} (h : XSim Γ w) (hx : Γ'.x = Γ.x) (hb : Γ'.base = Γ.base) (hh : ∀ (k : Nat) (o : Obj), w.heap[k]? = some o → o.isCells = false → w'.heap[k]? = some o)
    (hs : w.heap.size ≤ w'.heap.size := by first | exact Nat.le_refl _ | (rw [setCells_size]; exact Nat.le_refl _) | (simp; done)) : XSim Γ' w' := by
  refine ⟨fun D hD => ?_, fun l hl => ?_, fun l hl => ?_, by rw [hx]; exact Nat.le_trans h.dlo hs⟩
  · rw [hx] at hD; obtain ⟨h1, h2⟩ := h.mark D hD; exact ⟨hb ▸ h1, hh _ _ h2 rfl⟩
  · rw [hx] at hl; obtain ⟨h1, R, h2⟩ := h.lps l hl; exact ⟨hb ▸ h1, R, hh _ _ h2 rfl⟩
  · rw [hx] at hl ⊢; exact h.rnd l hl
theorem heap_keep_alloc (w : World) (o' : Obj) (k : Nat) (o : Obj) (h : w.heap[k]? = some o) (_ : o.isCells = false) : (w.alloc o').heap[k]? = some o :=
  (Below.heap_alloc _ _ _ (Array.getElem?_eq_some_iff.1 h).1).trans h
theorem heap_keep_cells {w : World} {b : Nat} {c : List Value} (hb : Blk w b c) (us : List Value) (off : Nat) (k : Nat) (o : Obj) (h : w.heap[k]? = some o) (hc : o.isCells = false) : (setCells w b off us).heap[k]? = some o := by
  refine (setCells_heap us w off k fun e => ?_).trans h
  subst e
  obtain ⟨e, a, h2, _⟩ := hb
  rw [h] at h2; cases h2; cases hc

/-- A top above all others: of an array that nobody appends to any more. -/
def DEAD : Nat := 4611686018427387904
/-- The abstract memory m stands for what lies in the world w. -/
structure MemSim (Γ : Ctx) (m : St) (w : World) : Prop where
  nloc : Γ.nloc = m.nloc
  ntok : Γ.ntok = m.ntok
  top : ∀ k, k < m.ntok → Γ.top k = m.top k ∧ Γ.wd k = m.wd k
  locs : ∀ n cs, n < m.nloc → m.loc n = some cs → ∃ c, Blk w (Γ.loc n) c ∧ LRep Γ w cs c ∧ ∀ u ∈ c, u.oneCell' = true
  apart : ∀ n cs, n < m.nloc → m.loc n = some cs → Γ.base ≤ Γ.loc n ∧ ∀ o, ¬ Γ.imm (Γ.loc n) o
  inj : ∀ n n' cs cs', n < m.nloc → n' < m.nloc → m.loc n = some cs → m.loc n' = some cs' → Γ.loc n = Γ.loc n' → n = n'
  immlt : ∀ b o, Γ.imm b o → b < w.heap.size
  base : Γ.base ≤ w.heap.size
  toks : ∀ k, k < m.ntok → m.top k < DEAD → ∃ c, Blk w (Γ.tok k) c ∧ c.length = Γ.cp k * Γ.wd k
  tapart : ∀ k, k < m.ntok → m.top k < DEAD → Γ.base ≤ Γ.tok k ∧ ∀ o, Γ.imm (Γ.tok k) o → o < Γ.top k * Γ.wd k
  tinj : ∀ k k', k < m.ntok → k' < m.ntok → m.top k < DEAD → m.top k' < DEAD → Γ.tok k = Γ.tok k' → k = k'
  tloc : ∀ k n cs, k < m.ntok → m.top k < DEAD → n < m.nloc → m.loc n = some cs → Γ.tok k ≠ Γ.loc n
  arrs : ∀ k cs, k < m.ntok → m.top k < DEAD → m.arr k = some cs → (∀ o, ¬ Γ.imm (Γ.tok k) o) ∧ cs.length = m.top k * m.wd k ∧ ∃ c, Blk w (Γ.tok k) c ∧ LRep Γ w cs c ∧ ∀ u ∈ c, u.oneCell' = true
  lps : Lps Γ m w
  its : Its Γ m w
  xs : XSim Γ w

/-- A new block that nothing abstract names. -/
theorem MemSim.alloc_any {Γ : Ctx} {m : St} {w : World} (h : MemSim Γ m w) (o : Obj) : MemSim Γ m (w.alloc o) ∧ Keeps Γ w (w.alloc o) := by
  have hk : Keeps Γ w (w.alloc o) := ⟨(Below.refl _ _).alloc h.base o, fun b i hi => cellAt_alloc _ _ _ _ (h.immlt b i hi)⟩
  refine ⟨{ h with locs := ?_, immlt := ?_, base := ?_, toks := ?_, arrs := ?_, lps := h.lps.mono (Ctx.le.refl Γ) hk h.nloc (fun n L a b => ⟨a, b⟩) (fun n L a b => Below.heap_alloc _ _ _ (h.lps.lt a b)), its := h.its.mono (Ctx.le.refl Γ) h.nloc (fun n x a b => ⟨a, b⟩) (heap_keep_alloc w o), xs := h.xs.mono rfl rfl (heap_keep_alloc w o) }, hk⟩
  · intro n cs hn hc
    obtain ⟨c, h1, h2, h3⟩ := h.locs n cs hn hc
    exact ⟨c, h1.alloc o, LRep.mono (Ctx.le.refl Γ) hk _ _ h2, h3⟩
  · intro b i hi
    have := h.immlt b i hi
    simp; omega
  · have := h.base
    simp; omega
  · intro k hk' hd
    obtain ⟨c, h1, h2⟩ := h.toks k hk' hd
    exact ⟨c, h1.alloc o, h2⟩
  · intro k cs hk' hd hc
    obtain ⟨h0, hl, c, h1, h2, h3⟩ := h.arrs k cs hk' hd hc
    exact ⟨h0, hl, c, h1.alloc o, LRep.mono (Ctx.le.refl Γ) hk _ _ h2, h3⟩

def Ctx.newLoc (Γ : Ctx) (b : Nat) : Ctx := { Γ with nloc := Γ.nloc + 1, loc := upd Γ.loc Γ.nloc b }
def St.newLoc (m : St) (cs : List PV) : St := { m with nloc := m.nloc + 1, loc := upd m.loc m.nloc (some cs), lp := upd m.lp m.nloc none, it := upd m.it m.nloc none }
theorem Ctx.le_newLoc (Γ : Ctx) (b : Nat) : Γ.le (Γ.newLoc b) :=
  ⟨rfl, Nat.le_succ _, fun n hn => upd_ne _ _ _ _ (by omega), fun _ _ h => h, Nat.le_refl _, fun _ _ => .inl ⟨rfl, rfl, rfl⟩, fun _ _ => rfl, CtxX.le.refl _, fun _ _ h => .inl h⟩

/-- A new local variable. -/
theorem MemSim.newLocP {Γ : Ctx} {m : St} {w : World} (h : MemSim Γ m w) {cs : List PV} {us : Array Value} {c₀ d₀ : List Value} (hu : us.toList = c₀ ++ d₀) (hr : LRep Γ w cs c₀) (h1 : ∀ u ∈ c₀, u.oneCell' = true) (e : TypeId) :
    MemSim (Γ.newLoc w.heap.size) (m.newLoc cs) (w.alloc (.cells us e)) ∧ Keeps Γ w (w.alloc (.cells us e)) := by
  obtain ⟨h', hk⟩ := h.alloc_any (.cells us e)
  have l := Ctx.le_newLoc Γ w.heap.size
  have hfresh : ∀ o, ¬ Γ.imm w.heap.size o := fun o hi => Nat.lt_irrefl _ (h.immlt _ _ hi)
  have hltl : ∀ n cs, n < m.nloc → m.loc n = some cs → Γ.loc n < w.heap.size := fun n cs hn hc => by
    obtain ⟨c, h1, _, _⟩ := h.locs n cs hn hc; exact h1.lt
  have hnl : Γ.nloc = m.nloc := h.nloc
  have key : ∀ n cs', n < m.nloc + 1 → upd m.loc m.nloc (some cs) n = some cs' →
      (n = m.nloc ∧ cs' = cs ∧ upd Γ.loc Γ.nloc w.heap.size n = w.heap.size) ∨ (n < m.nloc ∧ m.loc n = some cs' ∧ upd Γ.loc Γ.nloc w.heap.size n = Γ.loc n) := by
    intro n cs' hn hc
    by_cases e : n = m.nloc
    · subst e; rw [upd_same] at hc; exact .inl ⟨rfl, by injection hc with hc; exact hc.symm, by rw [hnl, upd_same]⟩
    · rw [upd_ne _ _ _ _ e] at hc; exact .inr ⟨by omega, hc, upd_ne _ _ _ _ (by omega)⟩
  refine ⟨⟨by show Γ.nloc + 1 = m.nloc + 1; omega, h.ntok, h.top, ?_, ?_, ?_, h'.immlt, h'.base, h'.toks, h.tapart, h.tinj, ?_, (fun k cs hk' hd hc => by obtain ⟨h0, hl, c, h1, h2, h3⟩ := h'.arrs k cs hk' hd hc; exact ⟨h0, hl, c, h1, LRep.mono l (Keeps.refl _ _) _ _ h2, h3⟩), ?_, ?_, h'.xs.mono rfl rfl (fun _ _ q _ => q)⟩, hk⟩
  · intro n cs' hn hc
    show ∃ c, Blk _ (upd Γ.loc Γ.nloc w.heap.size n) c ∧ _
    rcases key n cs' hn hc with ⟨_, rfl, q⟩ | ⟨a, b, q⟩
    · rw [q]; exact ⟨c₀, Blk.take (d := d₀) (hu ▸ Blk.new w us e), LRep.mono l hk _ _ hr, h1⟩
    · rw [q]
      obtain ⟨c, h1, h2, h3⟩ := h'.locs n cs' a b
      exact ⟨c, h1, LRep.mono l (Keeps.refl _ _) _ _ h2, h3⟩
  · intro n cs' hn hc
    show Γ.base ≤ upd Γ.loc Γ.nloc w.heap.size n ∧ ∀ o, ¬ Γ.imm (upd Γ.loc Γ.nloc w.heap.size n) o
    rcases key n cs' hn hc with ⟨_, rfl, q⟩ | ⟨a, b, q⟩
    · rw [q]; exact ⟨h.base, hfresh⟩
    · rw [q]; exact h.apart n cs' a b
  · intro n n' c1 c2 hn hn' hc hc' hq
    replace hq : upd Γ.loc Γ.nloc w.heap.size n = upd Γ.loc Γ.nloc w.heap.size n' := hq
    rcases key n c1 hn hc with ⟨a1, _, q⟩ | ⟨a, b, q⟩ <;> rcases key n' c2 hn' hc' with ⟨a1', _, q'⟩ | ⟨a', b', q'⟩
    · omega
    · rw [q, q'] at hq; have := hltl n' c2 a' b'; omega
    · rw [q, q'] at hq; have := hltl n c1 a b; omega
    · rw [q, q'] at hq; exact h.inj n n' _ _ a a' b b' hq
  · intro k n cs' hk' hd hn hc
    show Γ.tok k ≠ upd Γ.loc Γ.nloc w.heap.size n
    rcases key n cs' hn hc with ⟨_, rfl, q⟩ | ⟨a, b, q⟩
    · rw [q]; obtain ⟨c, h1, _⟩ := h.toks k hk' hd; have := h1.lt; omega
    · rw [q]; exact h.tloc k n cs' hk' hd a b
  · refine h.lps.mono l hk h.nloc (fun n L a b => ?_) (fun n L a b => Below.heap_alloc _ _ _ (h.lps.lt a b))
    replace b : upd m.lp m.nloc none n = some L := b
    replace a : n < m.nloc + 1 := a
    by_cases e : n = m.nloc
    · subst e; rw [upd_same] at b; cases b
    · rw [upd_ne _ _ _ _ e] at b; exact ⟨by omega, b⟩
  · refine h.its.mono l h.nloc (fun n x a b => ?_) (heap_keep_alloc w _)
    replace b : upd m.it m.nloc none n = some x := b
    replace a : n < m.nloc + 1 := a
    by_cases e : n = m.nloc
    · subst e; rw [upd_same] at b; cases b
    · rw [upd_ne _ _ _ _ e] at b; exact ⟨by omega, b⟩

theorem MemSim.newLoc {Γ : Ctx} {m : St} {w : World} (h : MemSim Γ m w) {cs : List PV} {us : Array Value} (hr : LRep Γ w cs us.toList) (h1 : ∀ u ∈ us.toList, u.oneCell' = true) (e : TypeId) :
    MemSim (Γ.newLoc w.heap.size) (m.newLoc cs) (w.alloc (.cells us e)) ∧ Keeps Γ w (w.alloc (.cells us e)) := h.newLocP (d₀ := []) (by simp) hr h1 e

def Ctx.newImm (Γ : Ctx) (b n : Nat) : Ctx := { Γ with imm := fun b' o => Γ.imm b' o ∨ (b' = b ∧ o < n) }
theorem Ctx.le_newImm (Γ : Ctx) (b n : Nat) (hb : Γ.base ≤ b) : Γ.le (Γ.newImm b n) :=
  ⟨rfl, Nat.le_refl _, fun _ _ => rfl, fun _ _ h => .inl h, Nat.le_refl _, fun _ _ => .inl ⟨rfl, rfl, rfl⟩, fun _ _ => rfl, CtxX.le.refl _, fun _ _ h => h.elim .inl (fun q => .inr (q.1 ▸ hb))⟩

/-- A new block whose cells never change. -/
theorem MemSim.newImm {Γ : Ctx} {m : St} {w : World} (h : MemSim Γ m w) {cs : List PV} {us : Array Value} (hr : LRep Γ w cs us.toList) (h1 : ∀ u ∈ us.toList, u.oneCell' = true) (e : TypeId) :
    MemSim (Γ.newImm w.heap.size us.size) m (w.alloc (.cells us e)) ∧ Keeps Γ w (w.alloc (.cells us e)) ∧ CRep (Γ.newImm w.heap.size us.size) (w.alloc (.cells us e)) cs w.heap.size 0 := by
  obtain ⟨h', hk⟩ := h.alloc_any (.cells us e)
  have l := Ctx.le_newImm Γ w.heap.size us.size h.base
  refine ⟨{ h' with locs := ?_, apart := ?_, immlt := ?_, tapart := ?_, arrs := ?_, lps := h'.lps.mono l (Keeps.refl _ _) h'.nloc (fun n L a b => ⟨a, b⟩) (fun n L a b => rfl), its := h'.its.mono l h'.nloc (fun n x a b => ⟨a, b⟩) (fun _ _ q _ => q), xs := h'.xs.mono rfl rfl (fun _ _ q _ => q) }, hk, ?_⟩
  · intro n cs' hn hc
    obtain ⟨c, h1, h2, h3⟩ := h'.locs n cs' hn hc
    exact ⟨c, h1, LRep.mono l (Keeps.refl _ _) _ _ h2, h3⟩
  · intro n cs' hn hc
    obtain ⟨h1, h2⟩ := h.apart n cs' hn hc
    obtain ⟨c, h3, _, _⟩ := h.locs n cs' hn hc
    refine ⟨h1, fun o ho => ?_⟩
    rcases ho with ho | ⟨ho, _⟩
    · exact h2 o ho
    · have := h3.lt; replace ho : Γ.loc n = w.heap.size := ho; omega
  · intro b o ho
    rcases ho with ho | ⟨ho, _⟩
    · exact h'.immlt b o ho
    · subst ho; simp
  · intro k hk' hd
    obtain ⟨h1, h2⟩ := h.tapart k hk' hd
    obtain ⟨c, h3, _⟩ := h.toks k hk' hd
    refine ⟨h1, fun o ho => ?_⟩
    rcases ho with ho | ⟨ho, _⟩
    · exact h2 o ho
    · have := h3.lt; replace ho : Γ.tok k = w.heap.size := ho; omega
  · intro k cs hk' hd hc
    obtain ⟨h0, hl, c, h1, h2, h3⟩ := h.arrs k cs hk' hd hc
    refine ⟨fun o ho => ?_, hl, c, h1.alloc _, LRep.mono l hk _ _ h2, h3⟩
    rcases ho with ho | ⟨ho, _⟩
    · exact h0 o ho
    · have := h1.lt; replace ho : Γ.tok k = w.heap.size := ho; omega
  · refine CRep.mk cs us.toList _ 0 (LRep.mono l hk _ _ hr) fun i u hi => ⟨?_, h1 u (List.mem_of_getElem? hi), .inr ⟨rfl, ?_⟩⟩
    · exact cellAt_blk' (Blk.new w us e) (by simpa using hi)
    · have := (List.getElem?_eq_some_iff.1 hi).1; simpa using this

/-- Fewer variables and arrays. -/
theorem MemSim.cut {Γ : Ctx} {m m' : St} {w : World} {x₀ : CtxX} (h : MemSim Γ m' w) (hx : XSim (Γ.cut x₀ m.nloc m.ntok) w) (h1 : m.nloc ≤ m'.nloc) (h2 : m.ntok ≤ m'.ntok)
    (hloc : ∀ n cs, n < m.nloc → m.loc n = some cs → m'.loc n = some cs ∧ PV.scL m.nloc m.ntok cs) (htop : ∀ k, k < m.ntok → m'.top k = m.top k ∧ m'.wd k = m.wd k)
    (hlp : ∀ n L, n < m.nloc → m.lp n = some L → m'.lp n = some L ∧ ∀ t, (L.σ t).sc m.nloc m.ntok) (hit : ∀ n x, n < m.nloc → m.it n = some x → m'.it n = some x) (harr : ∀ k cs, k < m.ntok → m.top k < DEAD → m.arr k = some cs → m'.arr k = some cs ∧ PV.scL m.nloc m.ntok cs) : MemSim (Γ.cut x₀ m.nloc m.ntok) m w := by
  refine ⟨rfl, rfl, fun k hk => ?_, ?_, ?_, ?_, h.immlt, h.base, fun k hk hd => h.toks k (by omega) (by rw [(htop k hk).1]; exact hd), fun k hk hd => h.tapart k (by omega) (by rw [(htop k hk).1]; exact hd), fun k k' a b c d => h.tinj k k' (by omega) (by omega) (by rw [(htop k a).1]; exact c) (by rw [(htop k' b).1]; exact d), ?_, (fun k cs hk hd hc => by
    obtain ⟨q1, q2⟩ := harr k cs hk hd hc
    obtain ⟨h0, hl, c, h1, h2, h3⟩ := h.arrs k cs (by omega) (by rw [(htop k hk).1]; exact hd) q1
    exact ⟨h0, by rw [← (htop k hk).1, ← (htop k hk).2]; exact hl, c, h1, LRep.cut _ _ q2 h2, h3⟩), ?_, ⟨fun n x a b => h.its.at_ n x (by omega) (hit n x a b), fun n n' x x' a b c d => h.its.inj n n' x x' (by omega) (by omega) (hit n x a c) (hit n' x' b d)⟩, hx⟩
  · have := h.top k (by omega)
    exact ⟨this.1.trans (htop k hk).1, this.2.trans (htop k hk).2⟩
  · intro n cs hn hc
    obtain ⟨h3, h4⟩ := hloc n cs hn hc
    obtain ⟨c, h5, h6, h7⟩ := h.locs n cs (by omega) h3
    exact ⟨c, h5, LRep.cut _ _ h4 h6, h7⟩
  · intro n cs hn hc
    exact h.apart n cs (by omega) (hloc n cs hn hc).1
  · intro n n' cs cs' hn hn' hc hc' hq
    exact h.inj n n' cs cs' (by omega) (by omega) (hloc n cs hn hc).1 (hloc n' cs' hn' hc').1 hq
  · intro k n cs hk hd hn hc
    exact h.tloc k n cs (by omega) (by rw [(htop k hk).1]; exact hd) (by omega) (hloc n cs hn hc).1
  · refine ⟨fun n L hn hL => ?_, fun n n' L L' a b c d hq => h.lps.inj n n' L L' (by omega) (by omega) (hlp n L a c).1 (hlp n' L' b d).1 hq⟩
    obtain ⟨h3, h4⟩ := hlp n L hn hL
    obtain ⟨h5, tmps, D, h6, h7, h8⟩ := h.lps.at_ n L (by omega) h3
    exact ⟨h5, tmps, D, h6, h7, fun t => VRep.cut _ _ (h4 t) (h8 t)⟩

def St.setLoc (m : St) (n : Nat) (cs : List PV) : St := { m with loc := upd m.loc n (some cs) }
/-- A local variable, written. -/
theorem MemSim.setLoc {Γ : Ctx} {m : St} {w : World} (h : MemSim Γ m w) {n : Nat} {cs xs : List PV} {us : List Value} {off : Nat} (hn : n < m.nloc) (hc : m.loc n = some cs)
    (hr : LRep Γ w xs us) (h1 : ∀ u ∈ us, u.oneCell' = true) (hfit : off + xs.length ≤ cs.length) : MemSim Γ (m.setLoc n (setL cs off xs)) (setCells w (Γ.loc n) off us) ∧ Keeps Γ w (setCells w (Γ.loc n) off us) := by
  obtain ⟨hb, hi⟩ := h.apart n cs hn hc
  have hk : Keeps Γ w (setCells w (Γ.loc n) off us) := ⟨setCells_below hb us w off, fun b o ho => cellAt_of_heap (setCells_heap us w off b (fun e => hi o (by rw [← e]; exact ho))) o⟩
  have hset : ∀ (cs : List PV) (c : List Value) (i : Nat) (x : PV) (u : Value), LRep Γ w cs c → VRep Γ w x u → LRep Γ w (cs.set i x) (c.set i u) := by
    intro cs
    induction cs with
    | nil => intro c i x u h1 _; rw [h1]; rfl
    | cons y cs ih =>
      intro c i x u h1 h2
      obtain ⟨v, c', rfl, h3, h4⟩ := h1
      cases i with
      | zero => exact ⟨u, c', rfl, h2, h4⟩
      | succ i => exact ⟨v, c'.set i u, rfl, h3, ih c' i x u h4 h2⟩
  have hsetL : ∀ (xs : List PV) (us : List Value) (cs : List PV) (c : List Value) (i : Nat), LRep Γ w cs c → LRep Γ w xs us → LRep Γ w (setL cs i xs) (setL c i us) := by
    intro xs
    induction xs with
    | nil => intro us cs c i h1 h2; rw [h2]; exact h1
    | cons x xs ih =>
      intro us cs c i h1 h2
      obtain ⟨u, us', rfl, h3, h4⟩ := h2
      exact ih us' _ _ (i + 1) (hset _ _ _ _ _ h1 h3) h4
  have key : ∀ n' cs', n' < m.nloc → upd m.loc n (some (setL cs off xs)) n' = some cs' → (n' = n ∧ cs' = setL cs off xs) ∨ (n' ≠ n ∧ m.loc n' = some cs') := by
    intro n' cs' hn' hc'
    by_cases e : n' = n
    · subst e; rw [upd_same] at hc'; exact .inl ⟨rfl, by injection hc' with hc'; exact hc'.symm⟩
    · rw [upd_ne _ _ _ _ e] at hc'; exact .inr ⟨e, hc'⟩
  refine ⟨⟨h.nloc, h.ntok, h.top, ?_, ?_, ?_, ?_, ?_, ?_, h.tapart, h.tinj, ?_, (fun k ds hk' hd hq => by
    obtain ⟨h0, hl, c, h1, h2, h3⟩ := h.arrs k ds hk' hd hq
    exact ⟨h0, hl, c, h1.of_heap (setCells_heap us w off _ (h.tloc k n cs hk' hd hn hc)), LRep.mono (Ctx.le.refl Γ) hk _ _ h2, h3⟩), ?_, (by obtain ⟨c, h3, _⟩ := h.locs _ cs hn hc; exact h.its.mono (Ctx.le.refl Γ) h.nloc (fun n x a b => ⟨a, b⟩) (heap_keep_cells h3 us off)), (by obtain ⟨c, h3, _⟩ := h.locs _ cs hn hc; exact h.xs.mono rfl rfl (heap_keep_cells h3 us off))⟩, hk⟩
  · intro n' cs' hn' hc'
    rcases key n' cs' hn' hc' with ⟨rfl, rfl⟩ | ⟨e, hc'⟩
    · obtain ⟨c, h3, h2, h4⟩ := h.locs _ cs hn hc
      refine ⟨setL c off us, setCells_blk us w off c (by rw [LRep.len _ _ hr, LRep.len _ _ h2]; exact hfit) h3, LRep.mono (Ctx.le.refl Γ) hk _ _ (hsetL xs us cs c off h2 hr), ?_⟩
      exact setL_all us c off h1 h4
    · obtain ⟨c, h3, h2, h4⟩ := h.locs n' cs' hn' hc'
      refine ⟨c, h3.of_heap (setCells_heap us w off _ (fun q => e (h.inj n' n cs' cs hn' hn hc' hc q))), LRep.mono (Ctx.le.refl Γ) hk _ _ h2, h4⟩
  · intro n' cs' hn' hc'
    rcases key n' cs' hn' hc' with ⟨rfl, rfl⟩ | ⟨e, hc'⟩
    · exact h.apart _ cs hn hc
    · exact h.apart n' cs' hn' hc'
  · intro n1 n2 c1 c2 h1 h2 h3 h4 hq
    rcases key n1 c1 h1 h3 with ⟨e1, _⟩ | ⟨_, g3⟩ <;> rcases key n2 c2 h2 h4 with ⟨e2, _⟩ | ⟨_, g4⟩
    · rw [e1, e2]
    · subst e1; exact h.inj _ _ _ _ h1 h2 hc g4 hq
    · subst e2; exact h.inj _ _ _ _ h1 h2 g3 hc hq
    · exact h.inj _ _ _ _ h1 h2 g3 g4 hq
  · intro b o ho; rw [setCells_size]; exact h.immlt b o ho
  · rw [setCells_size]; exact h.base
  · intro k hk' hd
    obtain ⟨c, h1, h2⟩ := h.toks k hk' hd
    exact ⟨c, h1.of_heap (setCells_heap us w off _ (h.tloc k n cs hk' hd hn hc)), h2⟩
  · intro k n' cs' hk' hd hn' hc'
    rcases key n' cs' hn' hc' with ⟨rfl, rfl⟩ | ⟨e, hc'⟩
    · exact h.tloc k _ cs hk' hd hn hc
    · exact h.tloc k n' cs' hk' hd hn' hc'
  · obtain ⟨c, h3, _⟩ := h.locs _ cs hn hc
    refine h.lps.mono (Ctx.le.refl Γ) hk h.nloc (fun n L a b => ⟨a, b⟩) (fun n' L a b => setCells_heap us w off _ fun e => h.lps.not_blk a b (e ▸ h3))

def St.dropLoc (m : St) (n : Nat) : St := { m with loc := upd m.loc n none }
/-- A local variable that is written no more: its cells never change from here on. -/
theorem MemSim.freeze {Γ : Ctx} {m : St} {w : World} (h : MemSim Γ m w) {n : Nat} {cs : List PV} (hn : n < m.nloc) (hc : m.loc n = some cs) :
    MemSim (Γ.newImm (Γ.loc n) cs.length) (m.dropLoc n) w ∧ CRep (Γ.newImm (Γ.loc n) cs.length) w cs (Γ.loc n) 0 := by
  obtain ⟨hb, hi⟩ := h.apart n cs hn hc
  obtain ⟨c, h1, h2, h7⟩ := h.locs n cs hn hc
  have l := Ctx.le_newImm Γ (Γ.loc n) cs.length hb
  have key : ∀ n' cs', upd m.loc n none n' = some cs' → n' ≠ n ∧ m.loc n' = some cs' := by
    intro n' cs' hc'
    by_cases e : n' = n
    · subst e; rw [upd_same] at hc'; cases hc'
    · rw [upd_ne _ _ _ _ e] at hc'; exact ⟨e, hc'⟩
  refine ⟨⟨h.nloc, h.ntok, h.top, ?_, ?_, ?_, ?_, h.base, h.toks, ?_, h.tinj, ?_, (fun k ds hk' hd hq => by
    obtain ⟨h0, hl, c, h1, h2, h3⟩ := h.arrs k ds hk' hd hq
    refine ⟨fun o ho => ?_, hl, c, h1, LRep.mono l (Keeps.refl _ _) _ _ h2, h3⟩
    rcases ho with ho | ⟨ho, _⟩
    · exact h0 o ho
    · exact h.tloc k n cs hk' hd hn hc ho), h.lps.mono l (Keeps.refl _ _) h.nloc (fun n L a b => ⟨a, b⟩) (fun n L a b => rfl), h.its.mono l h.nloc (fun n x a b => ⟨a, b⟩) (fun _ _ q _ => q), h.xs.mono rfl rfl (fun _ _ q _ => q)⟩, ?_⟩
  · intro n' cs' hn' hc'
    obtain ⟨c, h1, h2, h3⟩ := h.locs n' cs' hn' (key n' cs' hc').2
    exact ⟨c, h1, LRep.mono l (Keeps.refl _ _) _ _ h2, h3⟩
  · intro n' cs' hn' hc'
    obtain ⟨e, hc'⟩ := key n' cs' hc'
    obtain ⟨h3, h4⟩ := h.apart n' cs' hn' hc'
    refine ⟨h3, fun o ho => ?_⟩
    rcases ho with ho | ⟨ho, _⟩
    · exact h4 o ho
    · exact e (h.inj n' n cs' cs hn' hn hc' hc ho)
  · intro n1 n2 c1 c2 a1 a2 a3 a4 hq
    exact h.inj n1 n2 c1 c2 a1 a2 (key _ _ a3).2 (key _ _ a4).2 hq
  · intro b o ho
    rcases ho with ho | ⟨ho, _⟩
    · exact h.immlt b o ho
    · subst ho; exact h1.lt
  · intro k hk' hd
    obtain ⟨h3, h4⟩ := h.tapart k hk' hd
    refine ⟨h3, fun o ho => ?_⟩
    rcases ho with ho | ⟨ho, _⟩
    · exact h4 o ho
    · exact absurd ho (h.tloc k n cs hk' hd hn hc)
  · intro k n' cs' hk' hd hn' hc'
    exact h.tloc k n' cs' hk' hd hn' (key _ _ hc').2
  · refine CRep.mk cs c _ 0 (LRep.mono l (Keeps.refl _ _) _ _ h2) fun i u hi' => ⟨?_, h7 u (List.mem_of_getElem? hi'), .inr ⟨rfl, ?_⟩⟩
    · exact cellAt_blk' h1 (by simpa using hi')
    · have := (List.getElem?_eq_some_iff.1 hi').1; rw [LRep.len _ _ h2] at this; simpa using this

theorem MemSim.drew {Γ : Ctx} {m : St} {w : World} (h : MemSim Γ m w) : MemSim Γ m w.drew ∧ Keeps Γ w w.drew := by
  have hk : Keeps Γ w w.drew := ⟨(Below.refl _ _).drew, fun b o _ => rfl⟩
  refine ⟨⟨h.nloc, h.ntok, h.top, fun n cs hn hc => ?_, h.apart, h.inj, h.immlt, h.base, h.toks, h.tapart, h.tinj, h.tloc, (fun k ds hk' hd hq => by obtain ⟨h0, hl, c, h1, h2, h3⟩ := h.arrs k ds hk' hd hq; exact ⟨h0, hl, c, h1, LRep.mono (Ctx.le.refl Γ) hk _ _ h2, h3⟩), h.lps.mono (Ctx.le.refl Γ) hk h.nloc (fun n L a b => ⟨a, b⟩) (fun n L a b => rfl), h.its.mono (Ctx.le.refl Γ) h.nloc (fun n x a b => ⟨a, b⟩) (fun _ _ q _ => q), h.xs.mono rfl rfl (fun _ _ q _ => q)⟩, hk⟩
  obtain ⟨c, h1, h2, h3⟩ := h.locs n cs hn hc
  exact ⟨c, h1, LRep.mono (Ctx.le.refl Γ) hk _ _ h2, h3⟩
end Go.Ab
/- The abstract layer, 3: arrays that grow at their end. -/
namespace Go.Ab
open Go.RowKit

def Ctx.newTok (Γ : Ctx) (b n cap width : Nat) : Ctx :=
  { Γ with imm := fun b' o => Γ.imm b' o ∨ (b' = b ∧ o < n * width), ntok := Γ.ntok + 1, tok := upd Γ.tok Γ.ntok b, top := upd Γ.top Γ.ntok n, cp := upd Γ.cp Γ.ntok cap, wd := upd Γ.wd Γ.ntok width }
def St.newTok (m : St) (n width : Nat) : St := { m with ntok := m.ntok + 1, top := upd m.top m.ntok n, wd := upd m.wd m.ntok width, arr := upd m.arr m.ntok none }
theorem Ctx.le_newTok (Γ : Ctx) (b n cap width : Nat) (hb : Γ.base ≤ b) : Γ.le (Γ.newTok b n cap width) := by
  refine ⟨rfl, Nat.le_refl _, fun _ _ => rfl, fun _ _ h => .inl h, Nat.le_succ _, fun k hk => .inl ⟨upd_ne _ _ _ _ (by omega), upd_ne _ _ _ _ (by omega), upd_ne _ _ _ _ (by omega)⟩, fun k hk => upd_ne _ _ _ _ (by omega), CtxX.le.refl _, fun _ _ h => h.elim .inl (fun q => .inr (q.1 ▸ hb))⟩

/-- A new array with room at its end. -/
theorem MemSim.newTok {Γ : Ctx} {m : St} {w : World} (h : MemSim Γ m w) {cs : List PV} {us : Array Value} {n cap width : Nat} (hr : LRep Γ w cs (us.toList.take (n * width)))
    (h1 : ∀ u ∈ us.toList.take (n * width), u.oneCell' = true) (hs : us.size = cap * width) (hn : n ≤ cap) (e : TypeId) :
    MemSim (Γ.newTok w.heap.size n cap width) (m.newTok n width) (w.alloc (.cells us e)) ∧ Keeps Γ w (w.alloc (.cells us e)) ∧
      CRep (Γ.newTok w.heap.size n cap width) (w.alloc (.cells us e)) cs w.heap.size 0 := by
  obtain ⟨h', hk⟩ := h.alloc_any (.cells us e)
  have l := Ctx.le_newTok Γ w.heap.size n cap width h.base
  have hnt : Γ.ntok = m.ntok := h.ntok
  have hlt : ∀ k, k < m.ntok → m.top k < DEAD → Γ.tok k < w.heap.size := fun k hk' hd => by obtain ⟨c, h3, _⟩ := h.toks k hk' hd; exact h3.lt
  have hdd : ∀ k, k ≠ m.ntok → (m.newTok n width).top k < DEAD → m.top k < DEAD := fun k hk' hd => by
    have e : (m.newTok n width).top k = m.top k := upd_ne _ _ _ _ hk'
    rwa [e] at hd
  have hfresh : ∀ o, ¬ Γ.imm w.heap.size o := fun o hi => Nat.lt_irrefl _ (h.immlt _ _ hi)
  have hle : n * width ≤ us.size := by rw [hs]; exact Nat.mul_le_mul_right _ hn
  refine ⟨⟨h'.nloc, by show Γ.ntok + 1 = m.ntok + 1; omega, ?_, ?_, ?_, h'.inj, ?_, h'.base, ?_, ?_, ?_, ?_, ?_, h'.lps.mono l (Keeps.refl _ _) h'.nloc (fun n L a b => ⟨a, b⟩) (fun n L a b => rfl), h'.its.mono l h'.nloc (fun n x a b => ⟨a, b⟩) (fun _ _ q _ => q), h'.xs.mono rfl rfl (fun _ _ q _ => q)⟩, hk, ?_⟩
  · intro k hk'
    show upd Γ.top Γ.ntok n k = upd m.top m.ntok n k ∧ upd Γ.wd Γ.ntok width k = upd m.wd m.ntok width k
    rw [hnt]
    by_cases e : k = m.ntok
    · subst e; simp [upd_same]
    · have := h.top k (by have : k < m.ntok + 1 := hk'; omega)
      simp [upd_ne _ _ _ _ e, this]
  · intro n' cs' hn' hc
    obtain ⟨c, h1, h2, h3⟩ := h'.locs n' cs' hn' hc
    exact ⟨c, h1, LRep.mono l (Keeps.refl _ _) _ _ h2, h3⟩
  · intro n' cs' hn' hc
    obtain ⟨h1, h2⟩ := h.apart n' cs' hn' hc
    obtain ⟨c, h3, _⟩ := h.locs n' cs' hn' hc
    refine ⟨h1, fun o ho => ?_⟩
    rcases ho with ho | ⟨ho, _⟩
    · exact h2 o ho
    · have := h3.lt; replace ho : Γ.loc n' = w.heap.size := ho; omega
  · intro b o ho
    rcases ho with ho | ⟨ho, _⟩
    · exact h'.immlt b o ho
    · subst ho; simp
  · intro k hk' hd
    show ∃ c, Blk _ (upd Γ.tok Γ.ntok w.heap.size k) c ∧ c.length = upd Γ.cp Γ.ntok cap k * upd Γ.wd Γ.ntok width k
    rw [hnt]
    by_cases e' : k = m.ntok
    · subst e'; simp only [upd_same]; exact ⟨us.toList, Blk.new w us e, by simpa using hs⟩
    · simp only [upd_ne _ _ _ _ e']; exact h'.toks k (by have : k < m.ntok + 1 := hk'; omega) (hdd k e' hd)
  · intro k hk' hd
    show Γ.base ≤ upd Γ.tok Γ.ntok w.heap.size k ∧ ∀ o, (Γ.imm (upd Γ.tok Γ.ntok w.heap.size k) o ∨ (upd Γ.tok Γ.ntok w.heap.size k = w.heap.size ∧ o < n * width)) → o < upd Γ.top Γ.ntok n k * upd Γ.wd Γ.ntok width k
    rw [hnt]
    by_cases e' : k = m.ntok
    · subst e'; simp only [upd_same]
      exact ⟨h.base, fun o ho => ho.elim (fun q => absurd q (hfresh o)) (fun q => q.2)⟩
    · simp only [upd_ne _ _ _ _ e']
      have hk2 : k < m.ntok := by have : k < m.ntok + 1 := hk'; omega
      obtain ⟨h1, h2⟩ := h.tapart k hk2 (hdd k e' hd)
      exact ⟨h1, fun o ho => ho.elim (h2 o) (fun q => by have := hlt k hk2 (hdd k e' hd); omega)⟩
  · intro k k' h1 h2 hd hd' hq
    replace hq : upd Γ.tok Γ.ntok w.heap.size k = upd Γ.tok Γ.ntok w.heap.size k' := hq
    rw [hnt] at hq
    have h1' : k < m.ntok + 1 := h1
    have h2' : k' < m.ntok + 1 := h2
    by_cases e1 : k = m.ntok <;> by_cases e2 : k' = m.ntok
    · omega
    · subst e1; rw [upd_same, upd_ne _ _ _ _ e2] at hq; have := hlt k' (by omega) (hdd k' e2 hd'); omega
    · subst e2; rw [upd_same, upd_ne _ _ _ _ e1] at hq; have := hlt k (by omega) (hdd k e1 hd); omega
    · rw [upd_ne _ _ _ _ e1, upd_ne _ _ _ _ e2] at hq; exact h.tinj k k' (by omega) (by omega) (hdd k e1 hd) (hdd k' e2 hd') hq
  · intro k n' cs' hk' hd hn' hc
    show upd Γ.tok Γ.ntok w.heap.size k ≠ Γ.loc n'
    rw [hnt]
    have h1' : k < m.ntok + 1 := hk'
    by_cases e1 : k = m.ntok
    · subst e1; rw [upd_same]; obtain ⟨c, h3, _⟩ := h.locs n' cs' hn' hc; have := h3.lt; omega
    · rw [upd_ne _ _ _ _ e1]; exact h.tloc k n' cs' (by omega) (hdd k e1 hd) hn' hc
  · intro k ds hk' hd hq
    replace hq : upd m.arr m.ntok none k = some ds := hq
    by_cases e1 : k = m.ntok
    · subst e1; rw [upd_same] at hq; cases hq
    rw [upd_ne _ _ _ _ e1] at hq
    have hk2 : k < m.ntok := by have : k < m.ntok + 1 := hk'; omega
    obtain ⟨h0, hl, c, h1', h2', h3'⟩ := h.arrs k ds hk2 (hdd k e1 hd) hq
    have ht : (Γ.newTok w.heap.size n cap width).tok k = Γ.tok k := by show upd Γ.tok Γ.ntok _ k = _; rw [hnt]; exact upd_ne _ _ _ _ e1
    rw [ht]
    refine ⟨fun o ho => ?_, ?_, c, h1'.alloc _, LRep.mono l hk _ _ h2', h3'⟩
    · rcases ho with ho | ⟨ho, _⟩
      · exact h0 o ho
      · have := h1'.lt; omega
    · show ds.length = upd m.top m.ntok n k * upd m.wd m.ntok width k
      rw [upd_ne _ _ _ _ e1, upd_ne _ _ _ _ e1]; exact hl
  · refine CRep.mk cs _ _ 0 (LRep.mono l hk _ _ hr) fun i u hi => ?_
    have h1u := h1 u (List.mem_of_getElem? hi)
    rw [List.getElem?_take] at hi
    split at hi
    · rename_i hlt'
      refine ⟨?_, h1u, .inr ⟨rfl, by omega⟩⟩
      exact cellAt_blk' (Blk.new w us e) (by simpa using hi)
    · cases hi

def Ctx.growTok (Γ : Ctx) (k q : Nat) : Ctx :=
  { Γ with imm := fun b' o => Γ.imm b' o ∨ (b' = Γ.tok k ∧ o < (Γ.top k + q) * Γ.wd k), top := upd Γ.top k (Γ.top k + q) }
def St.growTok (m : St) (k q : Nat) : St := { m with top := upd m.top k (m.top k + q) }

/-- An array grows where it lies. -/
theorem MemSim.growTok {Γ : Ctx} {m : St} {w : World} (h : MemSim Γ m w) {k q : Nat} {cs xs : List PV} {us : List Value} (hk : k < m.ntok) (hlv : m.top k < DEAD) (har : m.arr k = none) (hcs : CRep Γ w cs (Γ.tok k) 0) (hl : cs.length = Γ.top k * Γ.wd k)
    (hr : LRep Γ w xs us) (h1us : ∀ u ∈ us, u.oneCell' = true) (hq : us.length = q * Γ.wd k) (hcap : Γ.top k + q ≤ Γ.cp k) (hpos : 0 < q) :
    Γ.le (Γ.growTok k q) ∧ MemSim (Γ.growTok k q) (m.growTok k q) (setCells w (Γ.tok k) (Γ.top k * Γ.wd k) us) ∧ Keeps Γ w (setCells w (Γ.tok k) (Γ.top k * Γ.wd k) us) ∧
      CRep (Γ.growTok k q) (setCells w (Γ.tok k) (Γ.top k * Γ.wd k) us) (cs ++ xs) (Γ.tok k) 0 := by
  obtain ⟨hb, hi⟩ := h.tapart k hk hlv
  obtain ⟨c, hblk, hc⟩ := h.toks k hk hlv
  have hdd : ∀ k', k' ≠ k → (m.growTok k q).top k' < DEAD → m.top k' < DEAD := fun k' hk' hd => by
    have e : (m.growTok k q).top k' = m.top k' := upd_ne _ _ _ _ hk'
    rwa [e] at hd
  have hfit : Γ.top k * Γ.wd k + us.length ≤ c.length := by
    rw [hq, hc, ← Nat.add_mul]; exact Nat.mul_le_mul_right _ hcap
  have hblk' := setCells_blk us w (Γ.top k * Γ.wd k) c hfit hblk
  rw [setL_eq us c _ hfit] at hblk'
  have hkp : Keeps Γ w (setCells w (Γ.tok k) (Γ.top k * Γ.wd k) us) := by
    refine ⟨setCells_below hb us w _, fun b o ho => ?_⟩
    by_cases e : b = Γ.tok k
    · subst e
      have := hi o ho
      have hoc : o < c.length := by omega
      rw [cellAt_blk hblk' (by simp; omega), cellAt_blk hblk hoc, List.append_assoc, List.getElem?_append_left (by simp; omega)]
      simp [List.getElem?_take, this]
    · exact cellAt_of_heap (setCells_heap us w _ b e) o
  have l : Γ.le (Γ.growTok k q) := by
    refine ⟨rfl, Nat.le_refl _, fun _ _ => rfl, fun _ _ h => .inl h, Nat.le_refl _, fun k' hk' => ?_, fun _ _ => rfl, CtxX.le.refl _, fun _ _ h => h.elim .inl (fun q => .inr (q.1 ▸ hb))⟩
    by_cases e : k' = k
    · subst e; right; show Γ.top k' < upd Γ.top k' _ k'; rw [upd_same]; omega
    · left; exact ⟨upd_ne _ _ _ _ e, rfl, rfl⟩
  refine ⟨l, ⟨h.nloc, h.ntok, ?_, ?_, ?_, h.inj, ?_, ?_, ?_, ?_, ?_, ?_, ?_, h.lps.mono l hkp h.nloc (fun n L a b => ⟨a, b⟩) (fun n' L a b => setCells_heap us w _ _ fun e => h.lps.not_blk a b (e ▸ hblk)), h.its.mono l h.nloc (fun n x a b => ⟨a, b⟩) (heap_keep_cells hblk us _), h.xs.mono rfl rfl (heap_keep_cells hblk us _)⟩, hkp, ?_⟩
  · intro k' hk'
    show upd Γ.top k (Γ.top k + q) k' = upd m.top k (m.top k + q) k' ∧ Γ.wd k' = m.wd k'
    have := h.top k' hk'
    by_cases e : k' = k
    · subst e; simp [upd_same, this]
    · simp [upd_ne _ _ _ _ e, this]
  · intro n cs' hn hc'
    obtain ⟨c', h1, h2, h3⟩ := h.locs n cs' hn hc'
    exact ⟨c', h1.of_heap (setCells_heap us w _ _ (fun e => h.tloc k n cs' hk hlv hn hc' e.symm)), LRep.mono l hkp _ _ h2, h3⟩
  · intro n cs' hn hc'
    obtain ⟨h1, h2⟩ := h.apart n cs' hn hc'
    refine ⟨h1, fun o ho => ?_⟩
    rcases ho with ho | ⟨ho, _⟩
    · exact h2 o ho
    · exact h.tloc k n cs' hk hlv hn hc' ho.symm
  · intro b o ho
    rw [setCells_size]
    rcases ho with ho | ⟨ho, _⟩
    · exact h.immlt b o ho
    · subst ho; exact hblk.lt
  · rw [setCells_size]; exact h.base
  · intro k' hk' hd
    show ∃ c, Blk _ (Γ.tok k') c ∧ c.length = Γ.cp k' * Γ.wd k'
    by_cases e : k' = k
    · subst e; exact ⟨_, hblk', by rw [← hc, List.length_append, List.length_append, List.length_take, List.length_drop, Nat.min_eq_left (by omega)]; omega⟩
    · obtain ⟨c', h1, h2⟩ := h.toks k' hk' (hdd k' e hd)
      exact ⟨c', h1.of_heap (setCells_heap us w _ _ (fun q => e (h.tinj k' k hk' hk (hdd k' e hd) hlv q))), h2⟩
  · intro k' hk' hd
    have hd' : m.top k' < DEAD := if e : k' = k then e ▸ hlv else hdd k' e hd
    obtain ⟨h1, h2⟩ := h.tapart k' hk' hd'
    refine ⟨h1, fun o ho => ?_⟩
    show o < upd Γ.top k (Γ.top k + q) k' * Γ.wd k'
    by_cases e : k' = k
    · subst e; rw [upd_same]
      rcases ho with ho | ⟨_, ho⟩
      · exact Nat.lt_of_lt_of_le (h2 o ho) (Nat.mul_le_mul_right _ (by omega))
      · exact ho
    · rw [upd_ne _ _ _ _ e]
      rcases ho with ho | ⟨ho, _⟩
      · exact h2 o ho
      · exact absurd (h.tinj k' k hk' hk hd' hlv ho) e
  · intro k1 k2 a b c1 c2 hq
    exact h.tinj k1 k2 a b (if e : k1 = k then e ▸ hlv else hdd k1 e c1) (if e : k2 = k then e ▸ hlv else hdd k2 e c2) hq
  · intro k1 n' cs' a c1 hn' hc'
    exact h.tloc k1 n' cs' a (if e : k1 = k then e ▸ hlv else hdd k1 e c1) hn' hc'
  · intro k1 ds a c1 hq'
    replace hq' : m.arr k1 = some ds := hq'
    have e : k1 ≠ k := fun e => by rw [e, har] at hq'; cases hq'
    obtain ⟨h0, hl', c', h1', h2', h3'⟩ := h.arrs k1 ds a (hdd k1 e c1) hq'
    have hne : Γ.tok k1 ≠ Γ.tok k := fun q => e (h.tinj k1 k a hk (hdd k1 e c1) hlv q)
    refine ⟨fun o ho => ?_, ?_, c', h1'.of_heap (setCells_heap us w _ _ hne), LRep.mono l hkp _ _ h2', h3'⟩
    · rcases ho with ho | ⟨ho, _⟩
      · exact h0 o ho
      · exact hne ho
    · show ds.length = upd m.top k (m.top k + q) k1 * m.wd k1
      rw [upd_ne _ _ _ _ e]; exact hl'
  · refine CRep.append _ _ _ _ (CRep.mono l hkp _ _ _ hcs) ?_
    refine CRep.mk xs us _ _ (LRep.mono l hkp _ _ hr) fun i u hi' => ?_
    have hlt := (List.getElem?_eq_some_iff.1 hi').1
    rw [hl]
    refine ⟨?_, h1us u (List.mem_of_getElem? hi'), .inr ⟨rfl, ?_⟩⟩
    · rw [cellAt_blk hblk' (by simp; omega), List.append_assoc, List.getElem?_append_right (by simp; omega)]
      rw [List.length_take, Nat.min_eq_left (by omega), show 0 + Γ.top k * Γ.wd k + i - Γ.top k * Γ.wd k = i from by omega, List.getElem?_append_left hlt]
      exact hi'
    · rw [Nat.add_mul, ← hq]; omega

theorem putObj_block {w : World} {D : Nat} {o o' : Obj} (hD : w.heap[D]? = some o) (hc : o.isCells = false) (hc' : o'.isCells = false) (b i : Nat) : cellAt (w.putObj D o') b i = cellAt w b i := by
  by_cases h : b = D
  · subst h
    have hl : b < w.heap.size := (Array.getElem?_eq_some_iff.1 hD).1
    have h1 := World.putObj_heap_same (w := w) (o := o') hl
    unfold cellAt World.cell?
    simp only [h1, hD]
    cases o <;> cases o' <;> simp_all [Obj.isCells]
  · exact cellAt_of_heap (World.putObj_heap_other h) i
theorem Blk.putObj {w : World} {D : Nat} {o o' : Obj} (hD : w.heap[D]? = some o) (hc : o.isCells = false) {b : Nat} {c : List Value} (h : Blk w b c) : Blk (w.putObj D o') b c := by
  refine h.of_heap (World.putObj_heap_other fun e => ?_)
  subst e
  obtain ⟨e, a, h, _⟩ := h
  rw [hD] at h; cases h; simp [Obj.isCells] at hc
theorem below_putObj (B : Nat) (w : World) {D : Nat} (o' : Obj) (hB : B ≤ D) : Below B w (w.putObj D o') :=
  ⟨rfl, rfl, rfl, by simp, fun k hk => World.putObj_heap_other (by omega)⟩
/-- A block that is no cells, written. -/
theorem MemSim.putObj {Γ : Ctx} {m : St} {w : World} (h : MemSim Γ m w) {D : Nat} {o o' : Obj} (hD : w.heap[D]? = some o) (hc : o.isCells = false) (hc' : o'.isCells = false) (hB : Γ.base ≤ D)
    (hl : ∀ n L, n < m.nloc → m.lp n = some L → Γ.loc n ≠ D) (hx : XSim Γ (w.putObj D o')) (hi : ∀ n x, n < m.nloc → m.it n = some x → Γ.loc n ≠ D) : MemSim Γ m (w.putObj D o') ∧ Keeps Γ w (w.putObj D o') := by
  have hk : Keeps Γ w (w.putObj D o') := ⟨below_putObj _ _ _ hB, fun b i _ => putObj_block hD hc hc' b i⟩
  refine ⟨⟨h.nloc, h.ntok, h.top, fun n cs hn hq => ?_, h.apart, h.inj, fun b i hi => by simp; exact h.immlt b i hi, by simp; exact h.base, fun k hk hd => ?_, h.tapart, h.tinj, h.tloc, (fun k ds hk' hd hq => by
      obtain ⟨h0, hl', c, h1, h2, h3⟩ := h.arrs k ds hk' hd hq
      exact ⟨h0, hl', c, h1.putObj hD hc, LRep.mono (Ctx.le.refl Γ) hk _ _ h2, h3⟩),
    h.lps.mono (Ctx.le.refl Γ) hk h.nloc (fun n L a b => ⟨a, b⟩) (fun n L a b => World.putObj_heap_other (hl n L a b)), ⟨fun n x a b => ⟨(h.its.at_ n x a b).1, (World.putObj_heap_other (hi n x a b)).trans (h.its.at_ n x a b).2⟩, h.its.inj⟩, hx⟩, hk⟩
  · obtain ⟨c, h1, h2, h3⟩ := h.locs n cs hn hq
    exact ⟨c, h1.putObj hD hc, LRep.mono (Ctx.le.refl Γ) hk _ _ h2, h3⟩
  · obtain ⟨c, h1, h2⟩ := h.toks k hk hd
    exact ⟨c, h1.putObj hD hc, h2⟩
end Go.Ab
/- The abstract layer, 4: contracts of calls; what code does to the abstract slots and the abstract memory; the rules of code. -/
namespace Go.Ab
open Go.RowKit

inductive ARes where
  | ret (p : PV)
  | pan (p : PV)

def ERep (Γ : Ctx) (w : World) : ARes → Ending → Prop
  | .ret p, .returned v => VRep Γ w p v
  | .pan p, .panicked ch => ∃ v, ch = [{ v := v, recovered := false }] ∧ VRep Γ w p v
  | _, _ => False

def HasBody (P : Program) (f : FuncId) : Prop := ∃ fn c, P.funcs[f]? = some fn ∧ fn.body = some c ∧ (fn.name == "runtime.NumGoroutine") = false

/-- Called with values that stand for these in a memory that stands for m, the function ends as R says. -/
def ACall (P : Program) (f : FuncId) (args : List PV) (m : St) (R : ARes → St → Prop) : Prop :=
  HasBody P f ∧ ∀ Γ w us, MemSim Γ m w → LRep Γ w args us → Calls P f us.toArray w fun e w' =>
    ∃ r m' Γ', R r m' ∧ ERep Γ' w' r e ∧ Γ.le Γ' ∧ Keeps Γ w w' ∧ MemSim Γ' m' w'

theorem ACall.mono {P : Program} {f : FuncId} {args : List PV} {m : St} {R R' : ARes → St → Prop} (h : ACall P f args m R) (k : ∀ r m', R r m' → R' r m') : ACall P f args m R' :=
  ⟨h.1, fun Γ w us a b => (h.2 Γ w us a b).mono fun e w' ⟨r, m', Γ', x, rest⟩ => ⟨r, m', Γ', k _ _ x, rest⟩⟩

/-- A round of a range over a function: yield called with values that stand for these. -/
def YCall (P : Program) (n : Nat) (args : List PV) (m : St) (R : ARes → St → Prop) : Prop :=
  ∀ Γ w us, MemSim Γ m w → LRep Γ w args us → ∃ r : Loop, w.heap[Γ.loc n]? = some (.loop r) ∧ us.length = r.params.size ∧
    RoundIn Fence.wide 0 P (Γ.loc n) r.fn ((r.params.zip us.toArray).foldl (fun tmps (t, a) => tmps.setIfInBounds t a) r.tmps) r.assign r.body w fun e w' =>
      ∃ r m' Γ', R r m' ∧ ERep Γ' w' r e ∧ Γ.le Γ' ∧ Keeps Γ w w' ∧ MemSim Γ' m' w'
theorem YCall.mono {P : Program} {n : Nat} {args : List PV} {m : St} {R R' : ARes → St → Prop} (h : YCall P n args m R) (k : ∀ r m', R r m' → R' r m') : YCall P n args m R' := fun Γ w us a b => by
  obtain ⟨r, h1, h2, h3⟩ := h Γ w us a b
  exact ⟨r, h1, h2, h3.mono fun e w' ⟨r, m', Γ', x, rest⟩ => ⟨r, m', Γ', k _ _ x, rest⟩⟩

structure Sim (Γ : Ctx) (N : Nat) (σ : Nat → PV) (m : St) (a : Act) (w : World) : Prop where
  size : a.tmps.size = N
  defers : ∃ ms : List Nat, a.defers = ms.map (fun D => { target := .collected D, args := #[] }) ++ Γ.x.fd ∧ ms.Nodup ∧ ∀ D ∈ ms, Γ.x.mark D ∧ Γ.x.dlo ≤ D
  mem : MemSim Γ m w
  slots : ∀ t, VRep Γ w (σ t) (a.tmps.getD t undef)

theorem Sim.mono {Γ Γ' : Ctx} {N : Nat} {σ : Nat → PV} {m m' : St} {a : Act} {w w' : World} (h : Sim Γ N σ m a w) (l : Γ.le Γ') (k : Keeps Γ w w') (hm : MemSim Γ' m' w') : Sim Γ' N σ m' a w' :=
  ⟨h.size, by obtain ⟨ms, h1, h2, h3⟩ := h.defers; exact ⟨ms, by rw [l.x.fd]; exact h1, h2, fun D hD => ⟨l.x.mark D (h3 D hD).1, by rw [l.x.dlo]; exact (h3 D hD).2⟩⟩, hm, fun t => VRep.mono l k _ _ (h.slots t)⟩

inductive AExit where
  | normal
  | exit (id : Nat)
  | goto (l : Nat)
  | ret
  | pan (p : PV)

def XRep (Γ : Ctx) (w : World) : AExit → Exit → Prop
  | .normal, .normal => True
  | .exit i, .exit j => i = j
  | .goto i, .goto j => i = j
  | .ret, .ret => True
  | .pan p, .panic ch => ∃ v, ch = [{ v := v, recovered := false }] ∧ VRep Γ w p v
  | _, _ => False

abbrev APost := AExit → (Nat → PV) → St → Prop

def Post (Γ : Ctx) (w : World) (N : Nat) (Q : APost) : Exit → Act → World → Prop := fun e a' w' =>
  ∃ x σ' m' Γ', Q x σ' m' ∧ XRep Γ' w' x e ∧ Sim Γ' N σ' m' a' w' ∧ Γ.le Γ' ∧ Keeps Γ w w'

theorem Post.later {Γ Γ' : Ctx} {w w' : World} {N : Nat} {Q : APost} (l : Γ.le Γ') (k : Keeps Γ w w') (e : Exit) (a : Act) (w'' : World) (h : Post Γ' w' N Q e a w'') : Post Γ w N Q e a w'' := by
  obtain ⟨x, σ', m', Γ'', h1, h2, h3, h4, h5⟩ := h
  exact ⟨x, σ', m', Γ'', h1, h2, h3, l.trans h4, k.trans l h5⟩

/-- No fence; a frame of its own, or a round of a range over a function. -/
def FW (r : Option Nat) : Fence := { Fence.wide with round := r }
theorem FW.room (r : Option Nat) (n : Nat) : (FW r).room n := room_wide n

/-- What code does, from every world that the abstract state stands for. -/
def AW (P : Program) (N : Nat) (c : Code) (Q : APost) (σ : Nat → PV) (m : St) : Prop :=
  ∀ Γ a w, Sim Γ N σ m a w → c.wpIn (FW Γ.x.rnd) 0 P (Post Γ w N Q) a w

section
variable {P : Program} {N : Nat} {Q Q' : APost} {σ : Nat → PV} {m : St}

theorem AW.mono {c : Code} (h : AW P N c Q σ m) (k : ∀ x σ m, Q x σ m → Q' x σ m) : AW P N c Q' σ m :=
  fun Γ a w hs => wpIn_mono (h Γ a w hs) fun _ _ _ ⟨x, σ', m', Γ', h1, r⟩ => ⟨x, σ', m', Γ', k _ _ _ h1, r⟩

theorem Sim.post {Γ : Ctx} {a : Act} {w : World} (hs : Sim Γ N σ m a w) {x : AExit} {e : Exit} (hx : XRep Γ w x e) (h : Q x σ m) : Post Γ w N Q e a w :=
  ⟨x, σ, m, Γ, h, hx, hs, Ctx.le.refl _, Keeps.refl _ _⟩

theorem AW.skip (h : Q .normal σ m) : AW P N .skip Q σ m := fun _ _ _ hs => wpIn_skip (hs.post (x := .normal) trivial h)
theorem AW.label {l : Nat} (h : Q .normal σ m) : AW P N (.label l) Q σ m := fun _ _ _ hs => wpIn_label (hs.post (x := .normal) trivial h)
theorem AW.exit {id : Nat} (h : Q (.exit id) σ m) : AW P N (.exit id) Q σ m := fun _ _ _ hs => wpIn_exit (hs.post (x := .exit id) rfl h)
theorem AW.goto {l : Nat} (h : Q (.goto l) σ m) : AW P N (.goto l) Q σ m := fun _ _ _ hs => wpIn_goto (hs.post (x := .goto l) rfl h)
theorem AW.ret (h : Q .ret σ m) : AW P N .ret Q σ m := fun _ _ _ hs => wpIn_ret (hs.post (x := .ret) trivial h)

def AExit.then (next : (Nat → PV) → St → Prop) (Q : APost) : APost
  | .normal, σ, m => next σ m
  | x, σ, m => Q x σ m

theorem AW.seq {x y : Code} (h : AW P N x (AExit.then (AW P N y Q) Q) σ m) : AW P N (.seq x y) Q σ m := by
  intro Γ a w hs
  refine wpIn_seq (wpIn_mono (h Γ a w hs) ?_)
  rintro e a' w' ⟨x', σ', m', Γ', h1, h2, h3, h4, h5⟩
  cases e <;> cases x' <;> simp only [XRep] at h2
  case normal.normal => have := wpIn_mono (h1 Γ' a' w' h3) (Post.later h4 h5); rwa [h4.x.rnd] at this
  all_goals exact ⟨_, σ', m', Γ', h1, h2, h3, h4, h5⟩

def opv (σ : Nat → PV) : Operand → PV
  | .tmp t => σ t
  | .const v => .v v
  | .global _ => .any
  | .func f => .clo f [] []

theorem Sim.opv {Γ : Ctx} {a : Act} {w : World} (hs : Sim Γ N σ m a w) (x : Operand) : VRep Γ w (opv σ x) (a.eval x) := by
  cases x with
  | tmp t => exact hs.slots t
  | const v => rfl
  | global g => trivial
  | func f => exact ⟨#[], #[], rfl, rfl, rfl⟩

theorem AW.cond {c : Operand} {x y : Code} {t : Bool} (hc : opv σ c = .v (.bool t)) (h1 : t = true → AW P N x Q σ m) (h2 : t = false → AW P N y Q σ m) : AW P N (.cond c x y) Q σ m := by
  intro Γ a w hs
  have := hs.opv c
  rw [hc] at this
  exact wpIn_cond_split this (fun e => h1 e Γ a w hs) (fun e => h2 e Γ a w hs)

def AExit.inBlock (id : Nat) (Q : APost) : APost
  | .exit id', σ, m => if id' = id then Q .normal σ m else Q (.exit id') σ m
  | x, σ, m => Q x σ m

theorem AW.block {id : Nat} {c : Code} (h : AW P N c (AExit.inBlock id Q) σ m) : AW P N (.block id c) Q σ m := by
  intro Γ a w hs
  refine wpIn_block (wpIn_mono (h Γ a w hs) ?_)
  rintro e a' w' ⟨x', σ', m', Γ', h1, h2, h3, h4, h5⟩
  cases e <;> cases x' <;> simp only [XRep] at h2
  case exit.exit i j =>
    subst h2
    simp only [AExit.inBlock, Exit.inBlock] at h1 ⊢
    split at h1
    · rename_i e; rw [if_pos e]; exact ⟨.normal, σ', m', Γ', h1, trivial, h3, h4, h5⟩
    · rename_i e; rw [if_neg e]; exact ⟨.exit _, σ', m', Γ', h1, rfl, h3, h4, h5⟩
  all_goals exact ⟨_, σ', m', Γ', h1, h2, h3, h4, h5⟩

/-- A loop: what holds of the abstract state at every round's head, and a number that every round lowers. -/
theorem AW.loop {c : Code} {ι : Type} (I : ι → (Nat → PV) → St → Prop) (μ : ι → Nat) (i₀ : ι) (h₀ : I i₀ σ m)
    (round : ∀ i σ m, I i σ m → AW P N c (AExit.then (fun σ' m' => ∃ j, I j σ' m' ∧ μ j < μ i) Q) σ m) : AW P N (.loop c) Q σ m := by
  intro Γ a w hs b k cs hro hb hr
  have key : ∀ (n : Nat) (i : ι) (σ' : Nat → PV) (m' : St) (Γ' : Ctx) (a' : Act) (w' : World), μ i = n → I i σ' m' → Sim Γ' N σ' m' a' w' → Γ.le Γ' → Keeps Γ w w' →
      ∃ e a₁ w₁, Post Γ w N Q e a₁ w₁ ∧ ArrivesIn (Machine.fenced P (FW Γ.x.rnd)) P (lone (b.atR a' (.code c :: .inLoop c :: k)) cs w') b k cs e a₁ w₁ := by
    intro n
    induction n using Nat.strongRecOn with
    | _ n ih =>
      intro i σ' m' Γ' a' w' hn hI hs' l kp
      obtain ⟨e, a₁, w₁, hq, harr⟩ := round i σ' m' hI Γ' a' w' hs' b (.inLoop c :: k) cs (by rw [l.x.rnd]; exact hro) hb hr
      rw [l.x.rnd] at harr
      obtain ⟨x, σ₁, m₁, Γ₁, h1, h2, h3, h4, h5⟩ := hq
      cases e <;> cases x <;> simp only [XRep] at h2
      case normal.normal =>
        obtain ⟨j, hj, hlt⟩ := h1
        obtain ⟨e₂, a₂, w₂, hq₂, harr₂⟩ := ih (μ j) (hn ▸ hlt) j σ₁ m₁ Γ₁ a₁ w₁ rfl hj h3 (l.trans h4) (kp.trans l h5)
        exact ⟨e₂, a₂, w₂, hq₂, .of_steps (StepsIn.trans harr (.one (fenced_calm hb hr rfl) stepR_inLoop)) harr₂⟩
      case exit.exit => exact ⟨_, a₁, w₁, ⟨.exit _, σ₁, m₁, Γ₁, h1, by exact h2, h3, l.trans h4, kp.trans l h5⟩, .pass (x := .inLoop c) rfl (fun _ _ => .inl (by simp)) harr⟩
      case goto.goto => exact ⟨_, a₁, w₁, ⟨.goto _, σ₁, m₁, Γ₁, h1, by exact h2, h3, l.trans h4, kp.trans l h5⟩, .pass (x := .inLoop c) rfl (fun _ _ => .inl (by simp)) harr⟩
      case ret.ret => exact ⟨_, a₁, w₁, ⟨.ret, σ₁, m₁, Γ₁, h1, by exact h2, h3, l.trans h4, kp.trans l h5⟩, .pass (x := .inLoop c) rfl (fun _ _ => .inl (by simp)) harr⟩
      case panic.pan => exact ⟨_, a₁, w₁, ⟨.pan _, σ₁, m₁, Γ₁, h1, by exact h2, h3, l.trans h4, kp.trans l h5⟩, .pass (x := .inLoop c) rfl (fun _ _ => .inl (by simp)) harr⟩
  obtain ⟨e, a', w', hq, harr⟩ := key _ i₀ σ m Γ a w rfl h₀ hs (Ctx.le.refl _) (Keeps.refl _ _)
  exact ⟨e, a', w', hq, .of_steps (.one (fenced_calm hb hr rfl) stepR_loop) harr⟩

theorem LetsOut.to {Q Q' : Exit → Act → World → Prop} (hq : ∀ e a w, Q e a w → Q' e a w) : LetsOut Q → LetsOut Q' := fun ⟨a, w, h⟩ => ⟨a, w, hq _ _ _ h⟩

theorem oper_wp_mono {F : Fence} {n : Nat} {P : Program} {o : Oper} {a : Act} {w : World} {K K' : Act → World → Prop} {Q Q' : Exit → Act → World → Prop} (h : ∀ a w, K a w → K' a w) (hq : ∀ e a w, Q e a w → Q' e a w)
    (hh : o.wpIn F n P a w K Q) : o.wpIn F n P a w K' Q' := by
  obtain ⟨ha, hh⟩ := hh
  refine ⟨ha, ?_⟩
  generalize (o.semAt F.round a.eval).run P w = r at *
  cases r with
  | ok x w' =>
    cases x <;> simp only [Oper.uponIn] at hh ⊢
    case value v => exact h _ _ hh
    case skip => exact h _ _ hh
    case defer d => exact h _ _ hh
    case enter f args =>
      refine ⟨hh.1, CallsIn.mono hh.2 fun e w'' he => ?_⟩
      cases e with
      | returned v => exact h _ _ he
      | panicked ch => exact hq _ _ _ he
      | outgrown => exact LetsOut.to hq he
    case round l f tmps assign body =>
      refine ⟨hh.1, RoundIn.mono hh.2 fun e w'' he => ?_⟩
      cases e with
      | returned v => exact h _ _ he
      | panicked ch => exact hq _ _ _ he
      | outgrown => exact LetsOut.to hq he
    case row row args => exact ⟨hh.1, RowsIn.mono hh.2 fun v w'' he => h _ _ he⟩
  | halt x w' =>
    cases x <;> simp only [Oper.uponIn] at hh ⊢
    case panic v => exact hq _ _ _ hh

theorem wpList_mono {F : Fence} {n : Nat} {P : Program} {ops : Array Oper} {Q Q' : Exit → Act → World → Prop} (hq : ∀ e a w, Q e a w → Q' e a w) : ∀ (l : List Oper) (a : Act) (w : World), wpListIn F n P ops Q l a w → wpListIn F n P ops Q' l a w
  | [], a, w, h => hq _ _ _ h
  | o :: rest, a, w, h => by
    unfold wpListIn at h ⊢
    split at h
    · rename_i hw
      rw [if_pos hw]
      exact oper_wp_mono (wpList_mono hq rest) hq h
    · rename_i hw
      rw [if_neg hw]
      exact ⟨h.1, wpList_mono hq rest _ _ h.2⟩

/-- Operations of a region, one behind the other. -/
def AList (P : Program) (N : Nat) (ops : Array Oper) (Q : APost) (l : List Oper) (σ : Nat → PV) (m : St) : Prop :=
  ∀ Γ a w, Sim Γ N σ m a w → wpListIn (FW Γ.x.rnd) 0 P ops (Post Γ w N Q) l a w

theorem AW.region {id : Nat} {ops : Array Oper} (h : AList P N ops Q ops.toList σ m) : AW P N (.region id ops false) Q σ m :=
  fun Γ a w hs => wpIn_region_list (h Γ a w hs)
theorem AW.regionL {id : Nat} {l : List Oper} (h : AList P N l.toArray Q l σ m) : AW P N (.region id l.toArray false) Q σ m := AW.region h
theorem AList.nil {ops : Array Oper} (h : Q .normal σ m) : AList P N ops Q [] σ m := fun Γ a w hs => wpListIn_nil (hs.post (x := .normal) trivial h)

/-- What one operation comes to. -/
def Up (P : Program) (K Kp : Value → World → Prop) : Result Next → Prop
  | .ok (.value v) w' => K v w'
  | .ok .skip w' => K undef w'
  | .ok (.enter f args) w' => Calls P f args w' fun e w'' => match e with
    | .returned v => K v w''
    | .panicked ch => ∃ v, ch = [{ v := v, recovered := false }] ∧ Kp v w''
    | .outgrown => False
  | .ok (.round l f tmps assign body) w' => RoundIn Fence.wide 0 P l f tmps assign body w' fun e w'' => match e with
    | .returned v => K v w''
    | .panicked ch => ∃ v, ch = [{ v := v, recovered := false }] ∧ Kp v w''
    | .outgrown => False
  | .halt (.panic v) w' => Kp v w'
  | _ => False

theorem Up.defer {P : Program} {K Kp : Value → World → Prop} {o : Oper} {c : Call} {ev : Operand → Value} {w : World} (ho : o.op = .defer c) : ¬ Up P K Kp ((execOp ev o).run P w) := by
  intro h
  obtain ⟨callee, args, ts⟩ := c
  cases callee with
  | value f =>
    simp only [execOp, ho, resolve] at h
    cases hf : ev f <;> simp [Deferred.ofValue, hf, stuck, Sem.run, Up, Result.andThen] at h
  | invoke r n => simp [execOp, ho, resolve, Up] at h
  | builtin b => simp [execOp, ho, resolve, Up] at h

/-- From what an operation comes to, to the machine's own word for it. -/
theorem Up.wpIn {P : Program} {K Kp : Value → World → Prop} {o : Oper} {a : Act} {w : World} {r : Option Nat} {next : Act → World → Prop} {Q : Exit → Act → World → Prop} (h : Up P K Kp ((execOp a.eval o).run P w))
    (hk : ∀ v w', K v w' → next (a.put o.dst v) w') (hp : ∀ v w', Kp v w' → Q (.panic [{ v := v, recovered := false }]) a w') : o.wpIn (FW r) 0 P a w next Q := by
  refine ⟨fun _ _ => trivial, ?_⟩
  have hd : ∀ c, o.op ≠ .defer c := fun c ho => Up.defer ho h
  rw [Oper.semAt_eq _ _ _ hd]
  generalize (execOp a.eval o).run P w = res at h
  cases res with
  | ok x w' =>
    cases x <;> simp only [Up] at h <;> simp only [Oper.uponIn]
    case value v => exact hk v w' h
    case skip => exact hk _ w' h
    case enter f args =>
      refine ⟨fun q => by simp [FW, Fence.wide] at q, ?_⟩
      have h2 : CallsIn Fence.wide 0 P f args w' _ := callsIn_wide.2 h
      refine CallsIn.mono (F := FW r) (n := 0) h2 fun e w'' he => ?_
      cases e with
      | returned v => exact hk v w'' he
      | panicked ch => obtain ⟨v, rfl, he⟩ := he; exact hp v w'' he
      | outgrown => exact he.elim
    case round l f tmps assign body =>
      refine ⟨fun q => by simp [FW, Fence.wide] at q, ?_⟩
      refine RoundIn.mono (F := FW r) (n := 0) h fun e w'' he => ?_
      cases e with
      | returned v => exact hk v w'' he
      | panicked ch => obtain ⟨v, rfl, he⟩ := he; exact hp v w'' he
      | outgrown => exact he.elim
  | halt x w' =>
    cases x <;> simp only [Up] at h <;> simp only [Oper.uponIn]
    case panic v => exact hp v w' h

def Then (Γ : Ctx) (w : World) (K : PV → St → Prop) (v : Value) (w' : World) : Prop :=
  ∃ p m' Γ', K p m' ∧ VRep Γ' w' p v ∧ Γ.le Γ' ∧ Keeps Γ w w' ∧ MemSim Γ' m' w'

/-- An operation, from whatever values its operands stand for. -/
def OpOK (P : Program) (o : Oper) (ρ : Operand → PV) (m : St) (K Kp : PV → St → Prop) : Prop :=
  ∀ Γ (ev : Operand → Value) w, MemSim Γ m w → (∀ x, VRep Γ w (ρ x) (ev x)) → Up P (Then Γ w K) (Then Γ w Kp) ((execOp ev o).run P w)

def put (σ : Nat → PV) (d : Option Tmp) (p : PV) : Nat → PV := match d with | some d => upd σ d p | none => σ
def dstOK (N : Nat) (d : Option Tmp) : Bool := match d with | some d => d < N | none => true

theorem Sim.put {Γ : Ctx} {a : Act} {w : World} (hs : Sim Γ N σ m a w) {d : Option Tmp} (hd : dstOK N d = true) {p : PV} {v : Value} (h : VRep Γ w p v) : Sim Γ N (put σ d p) m (a.put d v) w := by
  cases d with
  | none => exact hs
  | some d =>
    have hd' : d < a.tmps.size := by rw [hs.size]; simpa [dstOK] using hd
    refine ⟨by simp [Act.put, hs.size], hs.defers, hs.mem, fun t => ?_⟩
    simp only [Ab.put, Act.put]
    by_cases e : t = d
    · subst e; rw [upd_same]; simpa [Array.getD_eq_getD_getElem?, hd'] using h
    · rw [upd_ne _ _ _ _ e]
      have := hs.slots t
      rwa [Array.getD_eq_getD_getElem?, Array.getElem?_setIfInBounds_ne (by omega), ← Array.getD_eq_getD_getElem?]

theorem AList.step {ops : Array Oper} {o : Oper} {rest : List Oper} (hg : o.guard = none) (hd : dstOK N o.dst = true)
    (h : OpOK P o (Ab.opv σ) m (fun p m' => AList P N ops Q rest (put σ o.dst p) m') (fun p m' => Q (.pan p) σ m')) : AList P N ops Q (o :: rest) σ m := by
  intro Γ a w hs
  unfold wpListIn
  rw [if_pos (by simp [Region.wanted, hg])]
  refine (h Γ a.eval w hs.mem hs.opv).wpIn ?_ ?_
  · rintro v w' ⟨p, m', Γ', h1, h2, h3, h4, h5⟩
    have := wpList_mono (Post.later h3 h4) _ _ _ (h1 Γ' (a.put o.dst v) w' ((hs.mono h3 h4 h5).put hd h2))
    rwa [h3.x.rnd] at this
  · rintro v w' ⟨p, m', Γ', h1, h2, h3, h4, h5⟩
    exact ⟨.pan p, σ, m', Γ', h1, ⟨v, rfl, h2⟩, hs.mono h3 h4 h5, h3, h4⟩
end
end Go.Ab
/- The abstract layer, 5: what one operation comes to, by its operands' abstract values. Over any program. -/
namespace Go.Ab
open Go.RowKit

/-! what a program's tables say of a type, in short words -/
def tinfo (P : Program) (t : TypeId) : Bool := (P.info? t).isSome && (P.underlying t).isSome
def tsize (P : Program) (t : TypeId) : Nat := P.cellsOf t
def tbytes (P : Program) (t : TypeId) : Nat := P.bytesOf t
def tagg (P : Program) (t : TypeId) : Bool := match P.underlying t with | some (.struct _) | some (.array _ _) => true | _ => false
def tzero (P : Program) (t : TypeId) : Option Value := (P.info? t).bind (·.zero)
def tfield (P : Program) (s : TypeId) (f : Nat) : Option (Nat × TypeId) := match P.underlying s with | some (.struct fs) => (fs[f]?).map (fun x => (x.offset, x.type)) | _ => none
def telem (P : Program) (t : TypeId) : Option TypeId := match P.underlying t with | some (.slice e) => some e | _ => none
def tarr (P : Program) (t : TypeId) : Option (Nat × TypeId) := match P.underlying t with | some (.array n e) => some (n, e) | _ => none
def tkind (P : Program) (t : TypeId) : Option IntKind := match P.underlying t with | some (.int k) => some k | _ => none
def tstr (P : Program) (t : TypeId) : Bool := match P.underlying t with | some .string => true | _ => false
def tbool (P : Program) (t : TypeId) : Bool := match P.underlying t with | some .bool => true | _ => false
def tconc (P : Program) (t : TypeId) : Bool := match P.underlying t with | some (.interface _) => false | some _ => true | none => false
def tifc (P : Program) (t : TypeId) : Bool := match P.underlying t with | some (.interface _) => true | _ => false

section
variable {P : Program} {w : World}
theorem tinfo_und {t : TypeId} (h : tinfo P t = true) : ∃ d, P.underlying t = some d := by
  simp only [tinfo, Bool.and_eq_true, Option.isSome_iff_exists] at h; exact h.2
theorem tinfo_info {t : TypeId} (h : tinfo P t = true) : ∃ i, P.info? t = some i := by
  simp only [tinfo, Bool.and_eq_true, Option.isSome_iff_exists] at h; exact h.1
theorem run_size {t : TypeId} (h : tinfo P t = true) (w : World) : (sizeOf t).run P w = .ok (tsize P t) w := by
  obtain ⟨i, hi⟩ := tinfo_info h
  simp [sizeOf, typeInfo, hi, tsize, Program.cellsOf]
theorem run_agg {t : TypeId} (h : tinfo P t = true) (w : World) : (isAgg t).run P w = .ok (tagg P t) w := by
  obtain ⟨d, hd⟩ := tinfo_und h
  simp only [isAgg, Sem.run_bind, run_underlying hd, Result.andThen_ok, tagg, hd]
  cases d <;> rfl
theorem run_zero {t : TypeId} {z : Value} (h : tzero P t = some z) (w : World) : (zeroValue t).run P w = .ok z w := by
  unfold tzero at h
  cases hi : P.info? t with
  | none => simp [hi] at h
  | some i => simp [hi] at h; simp [zeroValue, typeInfo, hi, h]
theorem add_addr (b off n : Nat) : (⟨b, off, none⟩ : Addr).add n = ⟨b, off + n, none⟩ := by unfold Addr.add; split <;> simp_all
theorem run_cells {b off : Nat} {us : List Value} (h : ∀ (i : Nat) (u : Value), us[i]? = some u → cellAt w b (off + i) = some u) :
    (loadCells ⟨b, off, none⟩ us.length).run P w = .ok us.toArray w :=
  run_loadCells_list w ⟨b, off, none⟩ us fun j v hv => by rw [add_addr]; exact h j v hv
theorem run_load1 {b off : Nat} {u : Value} (h : cellAt w b off = some u) : (load ⟨b, off, none⟩).run P w = .ok u w := by
  unfold cellAt at h
  simp [load, Sem.run, h]
end

def cell1 : PV → Bool
  | .any | .agg _ | .tup _ => false
  | .v u => u.oneCell'
  | _ => true
def cells1 (x : PV) : Option (List PV) :=
  match x with
  | .agg cs => if cs.all cell1 then some cs else none
  | x => if cell1 x then some [x] else none
def ofV : Value → PV
  | .slice none 0 0 => .list .full []
  | v => .v v
def zcells (z : Value) : List PV := z.cells.toList.map ofV
def zOK (z : Value) : Bool := z.cells.toList.all Value.oneCell'

theorem cell1_one {Γ : Ctx} {w : World} {x : PV} {u : Value} (h : cell1 x = true) (r : VRep Γ w x u) : u.oneCell' = true := by
  cases x <;> simp only [cell1, Bool.false_eq_true] at h
  case v u' => rw [show u = u' from r]; exact h
  case list o rows => obtain ⟨a, cap, rfl, _⟩ := r; rfl
  case ro cs => obtain ⟨b, off, rfl, _⟩ := r; rfl
  case loc n off => obtain ⟨_, rfl⟩ := r; rfl
  case marr n off len cap => obtain ⟨_, _, _, rfl⟩ := r; rfl
  case clo f a b => obtain ⟨fs, us, rfl, _⟩ := r; rfl
  case iface t y => obtain ⟨u', rfl, _⟩ := r; rfl
  case yld n => obtain ⟨_, rfl⟩ := r; rfl
  case mtok k len => obtain ⟨_, _, a, cap, rfl, _⟩ := r; rfl
  case mptr k off gen => obtain ⟨_, _, a, rfl, _⟩ := r; rfl
theorem cell1_cells {Γ : Ctx} {w : World} {x : PV} {u : Value} (h : cell1 x = true) (r : VRep Γ w x u) : u.cells = #[u] := by
  have := cell1_one h r
  cases u <;> simp_all [Value.cells, Value.oneCell']
theorem all_cell1 {Γ : Ctx} {w : World} : ∀ (cs : List PV) (us : List Value), cs.all cell1 = true → LRep Γ w cs us → ∀ u ∈ us, u.oneCell' = true
  | [], us, _, r, u, hu => by rw [r] at hu; cases hu
  | x :: cs, us, h, r, u, hu => by
    obtain ⟨v, us', rfl, r1, r2⟩ := r
    simp only [List.all_cons, Bool.and_eq_true] at h
    rcases List.mem_cons.1 hu with rfl | hu
    · exact cell1_one h.1 r1
    · exact all_cell1 cs us' h.2 r2 u hu
theorem cells1_rep {Γ : Ctx} {w : World} {x : PV} {u : Value} {cs : List PV} (h : cells1 x = some cs) (r : VRep Γ w x u) :
    LRep Γ w cs u.cells.toList ∧ ∀ v ∈ u.cells.toList, v.oneCell' = true := by
  by_cases ha : ∃ cs', x = .agg cs'
  · obtain ⟨cs', rfl⟩ := ha
    simp only [cells1] at h
    split at h <;> cases h
    rename_i hc
    obtain ⟨us, rfl, r⟩ := r
    exact ⟨r, all_cell1 _ _ hc r⟩
  · have h' : (if cell1 x then some [x] else none) = some cs := by
      cases x <;> first | exact h | exact absurd ⟨_, rfl⟩ ha
    split at h' <;> cases h'
    rename_i hc
    rw [cell1_cells hc r]
    exact ⟨⟨u, [], rfl, r, rfl⟩, fun v hv => by simp at hv; subst hv; exact cell1_one hc r⟩
theorem ofV_rep (Γ : Ctx) (w : World) (v : Value) : VRep Γ w (ofV v) v := by
  unfold ofV
  split
  · exact ⟨none, 0, rfl, Nat.le_refl _, fun _ => rfl, (fun ad h => by cases h), rfl⟩
  · rfl
theorem ofVs_rep (Γ : Ctx) (w : World) : ∀ vs : List Value, LRep Γ w (vs.map ofV) vs
  | [] => rfl
  | v :: vs => ⟨v, vs, rfl, ofV_rep Γ w v, ofVs_rep Γ w vs⟩

/-! two-place operators on plain values -/
def abin : BinOp → Value → Value → Option Value
  | .shl, .int k a, .int _ b => if 0 ≤ b then some (.int k (k.wrap (a * 2 ^ (min b.toNat k.bits)))) else none
  | .shr, .int k a, .int _ b => if 0 ≤ b then some (.int k (a.fdiv (2 ^ (min b.toNat k.bits)))) else none
  | .add, .int k a, .int k' b => if k = k' then some (.int k (k.wrap (a + b))) else none
  | .sub, .int k a, .int k' b => if k = k' then some (.int k (k.wrap (a - b))) else none
  | .mul, .int k a, .int k' b => if k = k' then some (.int k (k.wrap (a * b))) else none
  | .quo, .int k a, .int k' b => if k = k' then (if b = 0 then none else some (.int k (k.wrap (a.tdiv b)))) else none
  | .rem, .int k a, .int k' b => if k = k' then (if b = 0 then none else some (.int k (a.tmod b))) else none
  | .and, .int k a, .int k' b => if k = k' then some (.int k (k.wrap (BitVec.ofInt k.bits a &&& BitVec.ofInt k.bits b).toNat)) else none
  | .or, .int k a, .int k' b => if k = k' then some (.int k (k.wrap (BitVec.ofInt k.bits a ||| BitVec.ofInt k.bits b).toNat)) else none
  | .xor, .int k a, .int k' b => if k = k' then some (.int k (k.wrap (BitVec.ofInt k.bits a ^^^ BitVec.ofInt k.bits b).toNat)) else none
  | .eql, .int k a, .int k' b => if k = k' then some (.bool (a == b)) else none
  | .neq, .int k a, .int k' b => if k = k' then some (.bool (a != b)) else none
  | .lss, .int k a, .int k' b => if k = k' then some (.bool (a < b)) else none
  | .leq, .int k a, .int k' b => if k = k' then some (.bool (a ≤ b)) else none
  | .gtr, .int k a, .int k' b => if k = k' then some (.bool (a > b)) else none
  | .geq, .int k a, .int k' b => if k = k' then some (.bool (a ≥ b)) else none
  | .eql, .string a, .string b => some (.bool (a.toList == b.toList))
  | .neq, .string a, .string b => some (.bool (!(a.toList == b.toList)))
  | .lss, .string a, .string b => some (.bool (Op.bytesLess a.toList b.toList))
  | .gtr, .string a, .string b => some (.bool (!(Op.bytesLess a.toList b.toList || a.toList == b.toList)))
  | _, _, _ => none

theorem run_abin {P : Program} {op : BinOp} {t : TypeId} {a b r : Value} (h : abin op a b = some r) (w : World) : (binOp op t a b).run P w = .ok r w := by
  unfold abin at h
  split at h <;> (try split at h) <;> (try split at h) <;> first
    | (cases h; done)
    | (cases h; simp_all [binOp, Op.intArith, Op.intCmp, Op.intDiv, Op.intBits, Op.shift, Op.stringOp, Int.not_lt.2]; done)
    | (cases h; simp_all [binOp, Op.intArith, Op.intCmp, Op.intDiv, Op.intBits, Op.shift, Op.stringOp]; omega)
end Go.Ab
/- The abstract layer, 6: one operation's abstract step, and that it is sound. Over any program. -/
namespace Go.Ab
open Go.RowKit

/-- A row of a slice. -/
def rowI (rows : List (List PV)) (i : Nat) : List PV := rows.getD i []

def RowsW (s : Nat) (rows : List (List PV)) : Prop := ∀ r ∈ rows, r.length = s

def aload (P : Program) (t : TypeId) (x : PV) (m : St) (K : PV → St → Prop) : Prop :=
  tinfo P t = true ∧
  match x with
  | .ro cs => if tagg P t then tsize P t ≤ cs.length ∧ K (.agg (cs.take (tsize P t))) m else match cs[0]? with | some c => K c m | none => False
  | .loc n off => match m.loc n with
    | some cs => n < m.nloc ∧ (if tagg P t then off + tsize P t ≤ cs.length ∧ K (.agg ((cs.drop off).take (tsize P t))) m else match cs[off]? with | some c => K c m | none => False)
    | none => False
  | _ => False

def astore (P : Program) (t : TypeId) (x y : PV) (m : St) (K : PV → St → Prop) : Prop :=
  tinfo P t = true ∧
  match x, cells1 y with
  | .loc n off, some xs => match m.loc n with
    | some cs => n < m.nloc ∧ xs.length = tsize P t ∧ off + tsize P t ≤ cs.length ∧ K .any (m.setLoc n (setL cs off xs))
    | none => False
  | _, _ => False

/-- The parts of a struct or an array put where they belong. -/
def afill (place : Nat → Option (Nat × Nat)) : List (Nat × PV) → List PV → Option (List PV)
  | [], cs => some cs
  | (i, x) :: rest, cs => match place i, cells1 x with
    | some (off, size), some xs => if xs.length = size ∧ off + size ≤ cs.length then afill place rest (setL cs off (PV.stripL xs)) else none
    | _, _ => none

def tplace (P : Program) (t : TypeId) : Nat → Option (Nat × Nat) := fun i => match tfield P t i with | some (o, ft) => if tinfo P ft then some (o, tsize P ft) else none | none => none
def aplace (P : Program) (t : TypeId) : Nat → Option (Nat × Nat) := fun i => match tarr P t with | some (_, e) => some (i * tsize P e, tsize P e) | none => none

/-- All fields of a struct type are known types. -/
def tfok (P : Program) (t : TypeId) : Bool := match P.underlying t with | some (.struct fs) => fs.all (fun f => tinfo P f.type) | _ => false

def abuild (P : Program) (t : TypeId) (parts : List (Nat × PV)) (m : St) (K : PV → St → Prop) : Prop :=
  match tzero P t with
  | some z => tinfo P t = true ∧ zOK z = true ∧ ((tfok P t = true ∧ match afill (tplace P t) parts (zcells z) with | some cs => K (.agg cs) m | none => False) ∨
      (∃ n e, tarr P t = some (n, e) ∧ tinfo P e = true ∧ match afill (aplace P t) parts (zcells z) with | some cs => K (.agg cs) m | none => False))
  | none => False

/-- n cells, the cells of a zero value again and again. -/
def zrow (zc : List PV) (n : Nat) : List PV := (List.range n).map (fun i => zc.getD (i % zc.length) .any)
def chunk {α : Type} (s : Nat) : Nat → List α → List (List α)
  | 0, _ => []
  | n + 1, l => l.take s :: chunk s n (l.drop s)
theorem chunk_flatten {α : Type} (s : Nat) : ∀ (n : Nat) (l : List α), l.length = n * s → (chunk s n l).flatten = l
  | 0, l, h => by simp at h; simp [chunk, h]
  | n + 1, l, h => by
    rw [chunk, List.flatten_cons, chunk_flatten s n _ (by rw [List.length_drop, h, Nat.add_mul]; omega), List.take_append_drop]
theorem chunk_length {α : Type} (s : Nat) : ∀ (n : Nat) (l : List α), (chunk s n l).length = n
  | 0, _ => rfl
  | n + 1, l => by simp [chunk, chunk_length s n]

def abuildSlice (P : Program) (t : TypeId) (len : Nat) (parts : List (Nat × PV)) (m : St) (K : PV → St → Prop) : Prop :=
  match telem P t with
  | some e => tinfo P e = true ∧ len * tsize P e ≤ 16777216 ∧
    match tzero P e with
    | some z => zOK z = true ∧ 0 < (zcells z).length ∧ match afill (fun i => some (i * tsize P e, tsize P e)) parts (zrow (zcells z) (len * tsize P e)) with
      | some cs => K (.list .full (chunk (tsize P e) len cs)) m
      | none => False
    | none => False
  | none => False

def apick (c a b : PV) (m : St) (K : PV → St → Prop) : Prop :=
  match c with
  | .v (.bool t) => match a, b with
    | .v (.bool x), .v (.bool y) => K (.v (.bool (if t then x else y))) m
    | _, _ => (t = true → K a m) ∧ (t = false → K b m)
  | _ => False

def abinop (P : Program) (op : BinOp) (t : TypeId) (x y : PV) (m : St) (K : PV → St → Prop) : Prop :=
  match x, y with
  | .v (.bool a), .v (.bool b) => tbool P t = true ∧ (match op with | .eql => K (.v (.bool (a == b))) m | .neq => K (.v (.bool (!(a == b)))) m | _ => False)
  | .v a, .v b => match abin op a b with | some r => K (.v r) m | none => False
  | .list _ rows, .v (.slice none 0 0) => (telem P t).isSome = true ∧ (match op with
    | .eql => ∀ b : Bool, (b = true → rows = []) → K (.v (.bool b)) m
    | .neq => ∀ b : Bool, (b = false → rows = []) → K (.v (.bool b)) m
    | _ => False)
  | _, _ => False

def anil : PV → St → (PV → St → Prop) → Prop
  | .ro cs, m, K => K (.ro cs) m
  | .loc n off, m, K => K (.loc n off) m
  | .clo f a b, m, K => K (.clo f a b) m
  | _, _, _ => False

def aunop (op : UnOp) (x : PV) (m : St) (K : PV → St → Prop) : Prop :=
  match op, x with
  | .not, .v (.bool b) => K (.v (.bool (!b))) m
  | .neg, .v (.int k n) => K (.v (.int k (k.wrap (0 - n)))) m
  | _, _ => False

def aconvert (P : Program) (s d : TypeId) (x : PV) (m : St) (K : PV → St → Prop) : Prop :=
  match x, tkind P d with
  | .v (.int _ n), some k => tinfo P s = true ∧ K (.v (.int k (k.wrap n))) m
  | _, _ => False

def afieldAddr (P : Program) (s : TypeId) (x : PV) (f : Nat) (m : St) (K : PV → St → Prop) : Prop :=
  match tfield P s f with
  | some (o, ft) => tinfo P ft = true ∧ tsize P ft ≠ 0 ∧ (match x with
    | .ro cs => K (.ro (cs.drop o)) m
    | .loc n off => K (.loc n (off + o)) m
    | _ => False)
  | none => False

def apart (P : Program) (t : TypeId) (cs : List PV) (off : Nat) (m : St) (K : PV → St → Prop) : Prop :=
  tinfo P t = true ∧ if tagg P t then K (.agg ((cs.drop off).take (tsize P t))) m else match cs[off]? with | some c => K c m | none => False

def afield (P : Program) (s : TypeId) (x : PV) (f : Nat) (m : St) (K : PV → St → Prop) : Prop :=
  match tfield P s f, x with
  | some (o, ft), .agg cs => apart P ft cs o m K
  | _, _ => False

def aindexAddr (P : Program) (t : TypeId) (x i : PV) (m : St) (K : PV → St → Prop) : Prop :=
  match telem P t, i with
  | some e, .v (.int _ n) => tinfo P e = true ∧ 0 ≤ n ∧ (match x with
    | .list _ rows => n < rows.length ∧ RowsW (tsize P e) rows ∧ K (.ro (rowI rows n.toNat)) m
    | .marr l off len _ => n < len ∧ K (.loc l (off + n.toNat * tsize P e)) m
    | _ => False)
  | _, _ => False

/-- A byte of a string. -/
def byteAt (s : ByteArray) (i : Nat) : Int := ((s.data.toList.getD i 0).toNat : Int)

def aindex (P : Program) (t : TypeId) (x i : PV) (m : St) (K : PV → St → Prop) : Prop :=
  match i, x with
  | .v (.int _ n), .agg cs => match tarr P t with
    | some (len, e) => 0 ≤ n ∧ n < len ∧ tinfo P e = true ∧ apart P e cs (n.toNat * tsize P e) m K
    | none => False
  | .v (.int _ n), .v (.string s) => tstr P t = true ∧ 0 ≤ n ∧ n < s.size ∧ K (.v (.int .u8 (byteAt s n.toNat))) m
  | _, _ => False

def aextract (x : PV) (i : Nat) (m : St) (K : PV → St → Prop) : Prop :=
  match x with
  | .tup xs => match xs[i]? with | some p => K p m | none => False
  | _ => False

/-- The bounds of a slice expression. -/
def abnd (x : Option PV) (d : Int) : Option Int := match x with | none => some d | some (.v (.int _ n)) => some n | _ => none

def aslice (P : Program) (t : TypeId) (x : PV) (lo hi mx : Option PV) (m : St) (K : PV → St → Prop) : Prop :=
  match x with
  | .list o rows => match telem P t, abnd lo 0, abnd hi rows.length, mx with
    | some e, some l, some h, none => tinfo P e = true ∧ RowsW (tsize P e) rows ∧ 0 ≤ l ∧ l ≤ h ∧ h ≤ rows.length ∧
        K (.list (if l = 0 ∧ h = rows.length then o else if h = rows.length ∧ o = .full then .full else .no) ((rows.take h.toNat).drop l.toNat)) m
    | some e, some l, some h, some (.v (.int _ q)) => tinfo P e = true ∧ RowsW (tsize P e) rows ∧ 0 ≤ l ∧ l ≤ h ∧ h = q ∧ hi.isSome = true ∧ h ≤ rows.length ∧ K (.list .full ((rows.take h.toNat).drop l.toNat)) m
    | _, _, _, _ => False
  | .marr n off len cap => match telem P t, abnd lo 0, abnd hi len, mx with
    | some e, some l, some h, none => tinfo P e = true ∧ 0 ≤ l ∧ l ≤ h ∧ h ≤ len ∧ len ≤ cap ∧ l < cap ∧ K (.marr n (off + l.toNat * tsize P e) (h - l).toNat (cap - l.toNat)) m
    | _, _, _, _ => False
  | .v (.string s) => match abnd lo 0, abnd hi s.size, mx with
    | some l, some h, none => tstr P t = true ∧ 0 ≤ l ∧ l ≤ h ∧ h ≤ s.size ∧ K (.v (.string (s.extract l.toNat h.toNat))) m
    | _, _, _ => False
  | _ => False

/-- What an append may make of the array that it appends to. -/
def AppRes (s : Nat) (m : St) (o : Own) (n q : Nat) (o' : Own) (m' : St) : Prop :=
  (q = 0 ∧ o' = o ∧ m' = m) ∨
  (0 < q ∧ o' = .tok m.ntok ∧ m' = m.newTok (n + q) s) ∨
  (0 < q ∧ ∃ k, o = .tok k ∧ o' = .tok k ∧ m' = m.growTok k q)

def appOK (s : Nat) (m : St) (o : Own) (n : Nat) : Prop :=
  match o with
  | .no => False
  | .full => True
  | .tok k => k < m.ntok ∧ m.top k = n ∧ m.wd k = s ∧ m.arr k = none

def aappend (P : Program) (ts : List TypeId) (x y : PV) (m : St) (K : PV → St → Prop) : Prop :=
  match ts, x, y with
  | [t, t'], .list o rows, .list _ news => t = t' ∧ (match telem P t with
    | some e => tinfo P e = true ∧ (tzero P e).map (fun z => z.cells.size) = some (tsize P e) ∧ 0 < tsize P e ∧ RowsW (tsize P e) rows ∧ RowsW (tsize P e) news ∧ (rows.length + news.length) * tbytes P e ≤ 140737488355328 ∧ rows.length + news.length ≤ 4611686018427387904 ∧
        appOK (tsize P e) m o rows.length ∧ ∀ o' m', AppRes (tsize P e) m o rows.length news.length o' m' → K (.list o' (rows ++ PV.stripR news)) m'
    | none => False)
  | _, _, _ => False

def alen (P : Program) (ts : List TypeId) (x : PV) (m : St) (K : PV → St → Prop) : Prop :=
  match ts, x with
  | [t], .list _ rows => (telem P t).isSome = true ∧ K (.v (.int .i64 rows.length)) m
  | [t], .marr _ _ len _ => (telem P t).isSome = true ∧ K (.v (.int .i64 len)) m
  | [t], .v (.string s) => tstr P t = true ∧ K (.v (.int .i64 s.size)) m
  | _, _ => False

def acall (P : Program) (c : Call) (ρ : Operand → PV) (m : St) (K Kp : PV → St → Prop) : Prop :=
  match c.callee with
  | .value f => match ρ f with
    | .clo g first caps => ACall P g (first ++ c.args.toList.map (fun x => (ρ x).strip) ++ caps) m (fun r m' => match r with | .ret p => K p m' | .pan p => Kp p m')
    | .yld n => YCall P n (c.args.toList.map (fun x => (ρ x).strip)) m (fun r m' => match r with | .ret p => K p m' | .pan p => Kp p m')
    | _ => False
  | .builtin .append => match c.args.toList with | [x, y] => aappend P c.argTypes.toList (ρ x) (ρ y) m K | _ => False
  | .builtin .len => match c.args.toList with | [x] => alen P c.argTypes.toList (ρ x) m K | _ => False
  | .builtin .max => match c.args.toList.map ρ with | [.v (.int k a), .v (.int _ b)] => K (.v (.int k (if a < b then b else a))) m | _ => False
  | .builtin .min => match c.args.toList.map ρ with | [.v (.int k a), .v (.int _ b)] => K (.v (.int k (if b < a then b else a))) m | _ => False
  | _ => False

def amakeSlice (P : Program) (t : TypeId) (l c : PV) (m : St) (K : PV → St → Prop) : Prop :=
  match l, c, telem P t with
  | .v (.int _ n), .v (.int _ n'), some e => n = n' ∧ 0 ≤ n ∧ n < 4611686018427387904 ∧ tinfo P e = true ∧ tbytes P e * n ≤ 140737488355328 ∧ (match tzero P e with
    | some z => zOK z = true ∧ 0 < (zcells z).length ∧ K (.marr m.nloc 0 n.toNat n.toNat) (m.newLoc (zrow (zcells z) (n.toNat * tsize P e)))
    | none => False)
  | _, _, _ => False

/-- One operation's abstract step. -/
def aop (P : Program) (op : Op) (ρ : Operand → PV) (m : St) (K Kp : PV → St → Prop) : Prop :=
  match op with
  | .move x => K (ρ x) m
  | .assign x => K (ρ x) m
  | .pick c a b => apick (ρ c) (ρ a) (ρ b) m K
  | .box _ x => match cells1 (ρ x) with | some cs => K (.loc m.nloc 0) (m.newLoc cs) | none => False
  | .alloc e => match tzero P e with | some z => zOK z = true ∧ K (.loc m.nloc 0) (m.newLoc (zcells z)) | none => False
  | .load t x => aload P t (ρ x) m K
  | .store t x y => astore P t (ρ x) (ρ y) m K
  | .build t parts => abuild P t (parts.toList.map (fun x => (x.1, ρ x.2))) m K
  | .buildSlice t len parts => abuildSlice P t len (parts.toList.map (fun x => (x.1, ρ x.2))) m K
  | .nilCheck x => anil (ρ x) m K
  | .binOp op t x y _ => abinop P op t (ρ x) (ρ y) m K
  | .unOp op _ x => aunop op (ρ x) m K
  | .convert s d x => aconvert P s d (ρ x) m K
  | .makeInterface t x => tconc P t = true ∧ K (.iface t (ρ x)) m
  | .makeFunc (.func f) first caps => K (.clo f (first.toList.map ρ) (caps.toList.map ρ)) m
  | .makeSlice t l c => amakeSlice P t (ρ l) (ρ c) m K
  | .slice t x lo hi mx => aslice P t (ρ x) (lo.map ρ) (hi.map ρ) (mx.map ρ) m K
  | .fieldAddr s x f => afieldAddr P s (ρ x) f m K
  | .field s x f => afield P s (ρ x) f m K
  | .indexAddr t x i => aindexAddr P t (ρ x) (ρ i) m K
  | .index t x i => aindex P t (ρ x) (ρ i) m K
  | .extract x i => aextract (ρ x) i m K
  | .call c => acall P c ρ m K Kp
  | .panic x => match ρ x with | .iface t y => Kp (.iface t y) m | _ => False
  | _ => False
end Go.Ab
/- The abstract layer, 7: one operation's abstract step is sound (what writes no new memory). Over any program. -/
namespace Go.Ab
open Go.RowKit

section
variable {P : Program} {m : St} {K Kp : PV → St → Prop} {Γ : Ctx} {w : World}

theorem Then.same (hm : MemSim Γ m w) {p : PV} {v : Value} (h : K p m) (hv : VRep Γ w p v) : Then Γ w K v w :=
  ⟨p, m, Γ, h, hv, Ctx.le.refl _, Keeps.refl _ _, hm⟩

theorem sureAddr_run (b off : Nat) : (Instr.sureAddr (.pointer (some ⟨b, off, none⟩))).run P w = .ok ⟨b, off, none⟩ w := rfl

theorem cells_of_read {cs : List PV} {b off : Nat} (h : CRep Γ w cs b off) : ∃ us : List Value, us.length = cs.length ∧ LRep Γ w cs us ∧ (∀ (i : Nat) (u : Value), us[i]? = some u → cellAt w b (off + i) = some u ∧ u.oneCell' = true ∧ Γ.imm b (off + i)) := by
  obtain ⟨us, h1, h2, h3⟩ := CRep.read cs b off h
  exact ⟨us, h1, h3, h2⟩

theorem sound_load0 {t : TypeId} {x : PV} {u : Value} (h : aload P t x m K) (hm : MemSim Γ m w) (hx : VRep Γ w x u) : ∃ ad v p, u = .pointer (some ad) ∧ (loadVar t ad).run P w = .ok v w ∧ K p m ∧ VRep Γ w p v := by
  obtain ⟨ht, h⟩ := h
  cases x <;> simp only at h
  case ro cs =>
    obtain ⟨b, off, rfl, hc⟩ := hx
    refine ⟨⟨b, off, none⟩, ?_⟩
    simp only [loadVar, Sem.run_bind, Result.andThen_ok, run_agg ht, run_size ht]
    split at h
    · rename_i ha
      obtain ⟨hl, hk⟩ := h
      obtain ⟨us, h1, h2, h3⟩ := cells_of_read (CRep.take (tsize P t) cs b off hc)
      have hn : us.length = tsize P t := by rw [h1, List.length_take]; omega
      have hr := run_cells (P := P) (w := w) (b := b) (off := off) (us := us) fun i u hu => (h3 i u hu).1
      rw [hn] at hr
      simp only [ha, if_true, hr, Sem.run_bind, run_size ht, Result.andThen_ok, Sem.run_pure]
      exact ⟨_, _, trivial, rfl, hk, ⟨_, rfl, h2⟩⟩
    · rename_i ha
      cases cs with
      | nil => exact h.elim
      | cons c cs =>
        obtain ⟨⟨_, u, e, _, hu⟩, _⟩ := hc
        simp only [ha, Bool.false_eq_true, if_false, run_load1 e]
        exact ⟨u, _, trivial, rfl, h, hu⟩
  case loc n off =>
    obtain ⟨hn, rfl⟩ := hx
    cases hl : m.loc n with
    | none => simp [hl] at h
    | some cs =>
      simp only [hl] at h
      obtain ⟨hn', h⟩ := h
      obtain ⟨c, hb, hr, h1⟩ := hm.locs n cs hn' hl
      refine ⟨⟨Γ.loc n, off, none⟩, ?_⟩
      simp only [loadVar, Sem.run_bind, Result.andThen_ok, run_agg ht, run_size ht]
      split at h
      · rename_i ha
        obtain ⟨hl, hk⟩ := h
        have hr2 := LRep.take (tsize P t) _ _ (LRep.drop off _ _ hr)
        have hcl := LRep.len _ _ hr
        have hn2 : ((c.drop off).take (tsize P t)).length = tsize P t := by simp; omega
        have hrun := run_cells (P := P) (w := w) (b := Γ.loc n) (off := off) (us := (c.drop off).take (tsize P t)) fun i u hu => by
          refine cellAt_blk' hb ?_
          rw [List.getElem?_take] at hu
          split at hu
          · rw [List.getElem?_drop] at hu; exact hu
          · cases hu
        rw [hn2] at hrun
        simp only [ha, if_true, hrun, Sem.run_bind, run_size ht, Result.andThen_ok, Sem.run_pure]
        exact ⟨_, _, trivial, rfl, hk, ⟨_, rfl, hr2⟩⟩
      · rename_i ha
        cases hcs : cs[off]? with
        | none => simp [hcs] at h
        | some p =>
          simp only [hcs] at h
          obtain ⟨u, hu1, hu2⟩ := LRep.get _ _ hr off p hcs
          simp only [ha, Bool.false_eq_true, if_false, run_load1 (cellAt_blk' hb hu1)]
          exact ⟨u, _, trivial, rfl, h, hu2⟩
theorem sound_load {t : TypeId} {x : PV} {u : Value} (h : aload P t x m K) (hm : MemSim Γ m w) (hx : VRep Γ w x u) : ∃ v, (Instr.loadAt t u).run P w = .ok v w ∧ Then Γ w K v w := by
  obtain ⟨ad, v, p, rfl, h1, h2, h3⟩ := sound_load0 h hm hx
  exact ⟨v, by simp only [Instr.loadAt, Sem.run_bind, Instr.sureAddr, Sem.run_pure, Result.andThen_ok, h1], .same hm h2 h3⟩

theorem sound_field_place {s f : Nat} {o : Nat} {ft : TypeId} (hf : tfield P s f = some (o, ft)) (ht : tinfo P ft = true) (hs : tsize P ft ≠ 0) (b off : Nat) :
    (Instr.fieldAt s (.pointer (some ⟨b, off, none⟩)) f).run P w = .ok (.pointer (some ⟨b, off + o, none⟩)) w := by
  unfold tfield at hf
  split at hf
  · rename_i fs hd
    cases hg : fs[f]? with
    | none => simp [hg] at hf
    | some fld =>
      simp [hg] at hf
      obtain ⟨rfl, rfl⟩ := hf
      simp [Instr.fieldAt, run_underlying hd, hg, Instr.sureAddr, fieldPlace, run_size ht, hs, add_addr]
  · cases hf

theorem sound_fieldAddr {s f : Nat} {x : PV} {u : Value} (h : afieldAddr P s x f m K) (hm : MemSim Γ m w) (hx : VRep Γ w x u) : ∃ v, (Instr.fieldAt s u f).run P w = .ok v w ∧ Then Γ w K v w := by
  unfold afieldAddr at h
  cases hf : tfield P s f with
  | none => simp [hf] at h
  | some q =>
    obtain ⟨o, ft⟩ := q
    simp only [hf] at h
    obtain ⟨ht, hs, h⟩ := h
    cases x <;> simp only at h
    case ro cs =>
      obtain ⟨b, off, rfl, hc⟩ := hx
      exact ⟨_, sound_field_place hf ht hs b off, .same hm h ⟨b, off + o, rfl, CRep.drop o cs b off hc⟩⟩
    case loc n off =>
      obtain ⟨hn, rfl⟩ := hx
      exact ⟨_, sound_field_place hf ht hs _ off, .same hm h ⟨hn, rfl⟩⟩

theorem sound_part {t : TypeId} {cs : List PV} {us : Array Value} {off : Nat} (h : apart P t cs off m K) (hm : MemSim Γ m w) (hx : LRep Γ w cs us.toList) : ∃ v, (part t us off).run P w = .ok v w ∧ Then Γ w K v w := by
  obtain ⟨ht, h⟩ := h
  simp only [part, Sem.run_bind, run_agg ht, Result.andThen_ok, run_size ht]
  split at h
  · rename_i ha
    simp only [ha, if_true, Sem.run_bind, run_size ht, Result.andThen_ok, Sem.run_pure]
    refine ⟨_, rfl, .same hm h ⟨_, rfl, ?_⟩⟩
    have := LRep.take (tsize P t) _ _ (LRep.drop off _ _ hx)
    rw [Array.toList_extract, List.extract_eq_take_drop]
    rwa [show off + tsize P t - off = tsize P t from by omega]
  · rename_i ha
    simp only [ha, Bool.false_eq_true, if_false]
    cases hc : cs[off]? with
    | none => simp [hc] at h
    | some p =>
      simp only [hc] at h
      obtain ⟨u, hu1, hu2⟩ := LRep.get _ _ hx off p hc
      have : us[off]? = some u := by simpa using hu1
      rw [this]
      exact ⟨u, rfl, .same hm h hu2⟩

theorem sound_field {s f : Nat} {x : PV} {u : Value} (h : afield P s x f m K) (hm : MemSim Γ m w) (hx : VRep Γ w x u) : ∃ v, (Instr.field s u f).run P w = .ok v w ∧ Then Γ w K v w := by
  unfold afield at h
  split at h
  · rename_i o ft cs hf
    obtain ⟨us, rfl, hr⟩ := hx
    unfold tfield at hf
    split at hf
    · rename_i fs hd
      cases hg : fs[f]? with
      | none => simp [hg] at hf
      | some fld =>
        simp [hg] at hf
        obtain ⟨rfl, rfl⟩ := hf
        obtain ⟨v, h1, h2⟩ := sound_part h hm hr
        refine ⟨v, ?_, h2⟩
        simp [Instr.field, run_underlying hd, hg, asAgg, h1]
    · cases hf
  · exact h.elim

theorem CRep.at {rows : List (List PV)} {s b : Nat} (hw : RowsW s rows) : ∀ (off i : Nat), i < rows.length → CRep Γ w rows.flatten b off → CRep Γ w (rows.getD i []) b (off + i * s) := by
  induction rows with
  | nil => intro off i hi; simp at hi
  | cons r rs ih =>
    intro off i hi h
    have hr : r.length = s := hw r (by simp)
    cases i with
    | zero =>
      have := CRep.take r.length _ _ _ h
      simpa using this
    | succ i =>
      have h2 := CRep.drop r.length _ _ _ h
      simp only [List.flatten_cons, List.drop_left] at h2
      have h3 := ih (fun r hr => hw r (by simp [hr])) (off + r.length) i (by simpa using hi) h2
      simp only [List.getD_cons_succ]
      rwa [hr, Nat.add_assoc, show s + i * s = (i + 1) * s from by rw [Nat.add_mul]; omega] at h3

theorem telem_und {t e : TypeId} (h : telem P t = some e) : P.underlying t = some (.slice e) := by
  unfold telem at h
  split at h
  · rename_i e' hd; cases h; exact hd
  · cases h

theorem sound_indexAddr {t : TypeId} {x i : PV} {u ui : Value} (h : aindexAddr P t x i m K) (hm : MemSim Γ m w) (hx : VRep Γ w x u) (hi : VRep Γ w i ui) :
    ∃ v, (Instr.indexAt t u ui).run P w = .ok v w ∧ Then Γ w K v w := by
  unfold aindexAddr at h
  split at h
  · rename_i e k n he
    replace hi : ui = .int k n := hi
    subst hi
    obtain ⟨ht, h0, h⟩ := h
    have hd := telem_und he
    cases x <;> simp only at h
    case list o rows =>
      obtain ⟨hlt, hw, hk⟩ := h
      obtain ⟨a, cap, rfl, h1, h2, h3, h4⟩ := hx
      have hn : n.toNat < rows.length := by omega
      cases a with
      | none => have := h2 rfl; omega
      | some ad =>
        obtain ⟨hs, hr⟩ := h3 ad rfl
        replace hs := hs.resolve_left (by omega)
        obtain ⟨b, off, sp⟩ := ad
        simp only at hs hr
        subst hs
        refine ⟨.pointer (some ⟨b, off + n.toNat * tsize P e, none⟩), ?_, .same hm hk ⟨b, _, rfl, CRep.at hw off n.toNat hn ((SRep.flat rows b off).1 hr)⟩⟩
        simp [Instr.indexAt, asIntOf, run_underlying hd, h0, hlt, run_size ht, add_addr]
    case marr l off len cap =>
      obtain ⟨hlt, hk⟩ := h
      obtain ⟨hn, cap', hcap, rfl⟩ := hx
      refine ⟨.pointer (some ⟨Γ.loc l, off + n.toNat * tsize P e, none⟩), ?_, .same hm hk ⟨hn, rfl⟩⟩
      simp [Instr.indexAt, asIntOf, run_underlying hd, h0, hlt, run_size ht, add_addr]
  · exact h.elim

theorem tarr_und {t e : TypeId} {n : Nat} (h : tarr P t = some (n, e)) : P.underlying t = some (.array n e) := by
  unfold tarr at h
  split at h
  · rename_i e' hd; cases h; exact hd
  · cases h
theorem tstr_und {t : TypeId} (h : tstr P t = true) : P.underlying t = some .string := by
  unfold tstr at h
  split at h
  · rename_i hd; exact hd
  · cases h
theorem tbool_und {t : TypeId} (h : tbool P t = true) : P.underlying t = some .bool := by
  unfold tbool at h
  split at h
  · rename_i hd; exact hd
  · cases h
theorem tkind_und {t : TypeId} {k : IntKind} (h : tkind P t = some k) : P.underlying t = some (.int k) := by
  unfold tkind at h
  split at h
  · rename_i hd; cases h; exact hd
  · cases h

theorem sound_index {t : TypeId} {x i : PV} {u ui : Value} (h : aindex P t x i m K) (hm : MemSim Γ m w) (hx : VRep Γ w x u) (hi : VRep Γ w i ui) :
    ∃ v, (Instr.index t u ui).run P w = .ok v w ∧ Then Γ w K v w := by
  unfold aindex at h
  split at h
  · rename_i k n cs
    replace hi : ui = .int k n := hi
    subst hi
    obtain ⟨us, rfl, hr⟩ := hx
    cases ha : tarr P t with
    | none => simp [ha] at h
    | some q =>
      obtain ⟨len, e⟩ := q
      simp only [ha] at h
      obtain ⟨h0, hlt, ht, h⟩ := h
      obtain ⟨v, h1, h2⟩ := sound_part h hm hr
      refine ⟨v, ?_, h2⟩
      simp [Instr.index, asIntOf, run_underlying (tarr_und ha), h0, hlt, run_size ht, h1]
  · rename_i k n s
    replace hi : ui = .int k n := hi
    subst hi
    replace hx : u = .string s := hx
    subst hx
    obtain ⟨hs, h0, hlt, hk⟩ := h
    have hlt' : n.toNat < s.size := by omega
    refine ⟨_, ?_, .same hm hk (v := .int .u8 ((s.data.toList.getD n.toNat 0).toNat)) rfl⟩
    have hg : s[n.toNat]? = some (s.data.toList.getD n.toNat 0) := by
      have hl : n.toNat < s.data.size := hlt'
      rw [getElem?_pos s n.toNat hlt']
      simp only [List.getD, Array.getElem?_toList, Array.getElem?_eq_getElem hl, Option.getD_some]
      rfl
    simp [Instr.index, asIntOf, run_underlying (tstr_und hs), h0, hg]
  · exact h.elim

theorem sound_extract {x : PV} {u : Value} {i : Nat} (h : aextract x i m K) (hm : MemSim Γ m w) (hx : VRep Γ w x u) : ∃ v, (Instr.extract u i).run P w = .ok v w ∧ Then Γ w K v w := by
  unfold aextract at h
  split at h
  · rename_i xs
    obtain ⟨us, rfl, hr⟩ := hx
    cases hc : xs[i]? with
    | none => simp [hc] at h
    | some p =>
      simp only [hc] at h
      obtain ⟨u, hu1, hu2⟩ := LRep.get _ _ hr i p hc
      have : us[i]? = some u := by simpa using hu1
      refine ⟨u, ?_, .same hm h hu2⟩
      simp [Instr.extract, this]
  · exact h.elim

theorem sound_pick {c a b : PV} {uc ua ub : Value} (h : apick c a b m K) (hm : MemSim Γ m w) (hc : VRep Γ w c uc) (ha : VRep Γ w a ua) (hb : VRep Γ w b ub) :
    ∃ v, (do pure (Next.value (if ← asBool uc then ua else ub)) : Sem Next).run P w = .ok (.value v) w ∧ Then Γ w K v w := by
  unfold apick at h
  split at h
  · rename_i t
    replace hc : uc = .bool t := hc
    subst hc
    split at h
    · rename_i x y
      replace ha : ua = .bool x := ha
      replace hb : ub = .bool y := hb
      subst ha hb
      exact ⟨_, rfl, .same hm h (by cases t <;> rfl)⟩
    · cases t
      · exact ⟨ub, rfl, .same hm (h.2 rfl) hb⟩
      · exact ⟨ua, rfl, .same hm (h.1 rfl) ha⟩
  · exact h.elim

theorem sound_unop {op : UnOp} {x : PV} {u : Value} (h : aunop op x m K) (hm : MemSim Γ m w) (hx : VRep Γ w x u) : ∃ v, (Op.unary op u).run P w = .ok v w ∧ Then Γ w K v w := by
  unfold aunop at h
  split at h
  · replace hx : u = _ := hx; subst hx; exact ⟨_, rfl, .same hm h rfl⟩
  · replace hx : u = _ := hx; subst hx; exact ⟨_, rfl, .same hm h rfl⟩
  · exact h.elim

theorem sound_convert {s d : TypeId} {x : PV} {u : Value} (h : aconvert P s d x m K) (hm : MemSim Γ m w) (hx : VRep Γ w x u) : ∃ v, (convert s d u).run P w = .ok v w ∧ Then Γ w K v w := by
  unfold aconvert at h
  split at h
  · rename_i k' n k hk
    replace hx : u = _ := hx
    subst hx
    obtain ⟨ds, hs⟩ := tinfo_und h.1
    refine ⟨.int k (k.wrap n), ?_, .same hm h.2 rfl⟩
    simp [convert, run_underlying hs, run_underlying (tkind_und hk), Conv.intToInt]
  · exact h.elim

theorem run_eqGuard_bool (op : BinOp) (t : TypeId) (x y : Operand) (a b : Value) (h1 : ∀ (_ : a = .nilIface) (_ : b = .nilIface), False) (h2 : ∀ us vs, a = .agg us → b = .agg vs → False) : (eqGuard op t x y a b).run P w = .ok () w := by
  unfold eqGuard
  cases op <;> first
    | rfl
    | (simp only [Bool.not_true, Bool.false_eq_true, if_false]
       first
       | rfl
       | (split
          · exact (h1 rfl rfl).elim
          · exact (h2 _ _ rfl rfl).elim
          · rfl))

theorem abin_plain {op : BinOp} {a b r : Value} (h : abin op a b = some r) : (∀ (_ : a = .nilIface) (_ : b = .nilIface), False) ∧ (∀ us vs, a = .agg us → b = .agg vs → False) := by
  refine ⟨?_, ?_⟩
  · intro h1 h2; subst h1 h2; cases op <;> simp [abin] at h
  · intro us vs h1 h2; subst h1 h2; cases op <;> simp [abin] at h

theorem sound_binop {op : BinOp} {t : TypeId} {x y : PV} {ox oy : Operand} {u v : Value} (h : abinop P op t x y m K) (hm : MemSim Γ m w) (hx : VRep Γ w x u) (hy : VRep Γ w y v) :
    ∃ r, (do eqGuard op t ox oy u v; binOp op t u v : Sem Value).run P w = .ok r w ∧ Then Γ w K r w := by
  unfold abinop at h
  split at h
  · rename_i a b
    replace hx : u = .bool a := hx
    replace hy : v = .bool b := hy
    subst hx hy
    obtain ⟨ht, h⟩ := h
    have hd := tbool_und ht
    have hg := run_eqGuard_bool (P := P) (w := w) op t ox oy (.bool a) (.bool b) (by simp) (by simp)
    split at h
    · refine ⟨.bool (a == b), ?_, .same hm h rfl⟩
      simp only [Sem.run_bind, hg, Result.andThen_ok, run_eql_bool w t a b hd]
    · refine ⟨.bool (!(a == b)), ?_, .same hm h rfl⟩
      simp only [Sem.run_bind, hg, Result.andThen_ok, run_neq_bool w t a b hd]
    · exact h.elim
  · rename_i a b _
    replace hx : u = a := hx
    replace hy : v = b := hy
    subst hx hy
    cases hr : abin op u v with
    | none => simp [hr] at h
    | some r =>
      simp only [hr] at h
      obtain ⟨h1, h2⟩ := abin_plain hr
      refine ⟨r, ?_, .same hm h rfl⟩
      simp only [Sem.run_bind, run_eqGuard_bool (P := P) (w := w) op t ox oy u v h1 h2, Result.andThen_ok, run_abin hr]
  · rename_i o rows
    replace hy : v = .slice none 0 0 := hy
    subst hy
    obtain ⟨a, cap, rfl, h1, h2, h3, h4⟩ := hx
    obtain ⟨ht, h⟩ := h
    obtain ⟨e, he⟩ := Option.isSome_iff_exists.1 ht
    have hd := telem_und he
    have hg := run_eqGuard_bool (P := P) (w := w) op t ox oy (.slice a rows.length cap) (.slice none 0 0) (by simp) (by simp)
    have hnil : a.isNone = true → rows = [] := fun ha => by
      have : a = none := by simpa using ha
      have := h2 this
      exact List.eq_nil_of_length_eq_zero (by omega)
    split at h
    · refine ⟨.bool a.isNone, ?_, .same hm (h a.isNone hnil) rfl⟩
      simp only [Sem.run_bind, hg, Result.andThen_ok, binOp, run_equal_slice_nil w t e a _ cap hd, Sem.run_pure]
    · refine ⟨.bool (!a.isNone), ?_, .same hm (h (!a.isNone) (fun q => hnil (by simpa using q))) rfl⟩
      simp only [Sem.run_bind, hg, Result.andThen_ok, binOp, run_equal_slice_nil w t e a _ cap hd, Sem.run_pure]
    · exact h.elim
  · exact h.elim
end
end Go.Ab
