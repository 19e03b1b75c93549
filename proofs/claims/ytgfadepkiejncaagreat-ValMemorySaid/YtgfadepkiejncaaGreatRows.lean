/-
  NARROWER THAN 'FOR EVERY INPUT', by the rows' own cells (each row's printed sentence says how): ValChecks: loops · ValCompares: loops · ValMeasures: loops · ValMakes: loops · ValOrder: loops · ValMaps: loops · ValRenames: loops · ValExchanged: loops · ValImages: loops · ValHashes: loops · ValSets: loops · ValElements: loops · ValMemory: loops · ValClosed: loops.
  DERIVED. THE GIVEN ROWS OF THIS SEAT. 14 by the template 'for every input the law returns true; each argument reads behind the call as it read before'; 0 by the template 'total and deterministic' (their statements: YtgfadepkiejncaaGreatTotals.lean).
  GIVEN WITH THE SEED: the statements are not yours to turn. If you find one false, say at which input.
  Laid BY PROGRAM, IN A SANDBOX (cutbox-rows.mjs): the forced cells as the released guide's own fill.sh prints them over the translation 4bccc09b695b8ba6… (all of the seat's roots in one cut). By AI agents, Wed Nov 11 2026. No macro, syntax, notation, axiom, sorry.
-/
import Derived.Test.YtgfadepkiejncaaGreatChecked
import GoSem.Claim
import GoSem.ClaimJoined
import GoSem.ClaimMapViews
import Derived.JoinedTies
import Derived.KernelRfl
namespace Go.Proofs.YtgfadepkiejncaaGreat
/- THE CELL 'sum', in the pinned program and in every row, IS THE sha256 OF THE DUMP (.gsa) THAT YtgfadepkiejncaaGreatProg.lean LOADS. Nothing in Lean hashes anything: it is a label: what it is worth is what the hold of that sum in a sandbox is worth. -/
noncomputable def Tryz.pinned : Pinned := { name := "ytgfadepkiejncaagreat", sum := "4bccc09b695b8ba600893bb8eb44240b9e1eba49abd8ba0b50d95644fa97ebb1", checked := Tryz.checked }
namespace Rows
def none {H : Type} : Left H := { results := [], args := [] }

/-- 'zermelolaw03.ValChecks': WHATEVER THE INPUT: true; the input reads as it did. -/
def valChecksSpec : ChangeSpec := { name := "valChecks", fn := fun _ => fun
  | [d] => { results := [.lit (.bool true)], args := [d] }
  | _ => none }
def valChecksRow : OpenClaim := { program := "ytgfadepkiejncaagreat", sum := "4bccc09b695b8ba600893bb8eb44240b9e1eba49abd8ba0b50d95644fa97ebb1", func := "zermelo/zermelolaw03.ValChecks", spec := "valChecks", inPlace := ["internal/bytealg.abigen_runtime_cmpstring"], unfollowed := true, recurses := true, loops := true, apart := false }
def ValChecksSaid : Prop := valChecksRow.holds Tryz.pinned (OpenSpec.ofChange valChecksSpec)

/-- ITS FALSE NEIGHBOUR: 'it returns false'. Refute it at one input. -/
def valChecksWrong : ChangeSpec := { name := "valChecks", fn := fun _ => fun
  | [d] => { results := [.lit (.bool false)], args := [d] }
  | _ => none }
def ValChecksWrongFalsely : Prop := valChecksRow.holds Tryz.pinned (OpenSpec.ofChange valChecksWrong)

/-- 'zermelolaw03.ValCompares': WHATEVER THE INPUT: true; the input reads as it did. -/
def valComparesSpec : ChangeSpec := { name := "valCompares", fn := fun _ => fun
  | [d1, d2, d3, d4] => { results := [.lit (.bool true)], args := [d1, d2, d3, d4] }
  | _ => none }
def valComparesRow : OpenClaim := { program := "ytgfadepkiejncaagreat", sum := "4bccc09b695b8ba600893bb8eb44240b9e1eba49abd8ba0b50d95644fa97ebb1", func := "zermelo/zermelolaw03.ValCompares", spec := "valCompares", inPlace := ["internal/bytealg.abigen_runtime_cmpstring"], unfollowed := true, recurses := true, loops := true, apart := false }
def ValComparesSaid : Prop := valComparesRow.holds Tryz.pinned (OpenSpec.ofChange valComparesSpec)

/-- ITS FALSE NEIGHBOUR: 'it returns false'. Refute it at one input. -/
def valComparesWrong : ChangeSpec := { name := "valCompares", fn := fun _ => fun
  | [d1, d2, d3, d4] => { results := [.lit (.bool false)], args := [d1, d2, d3, d4] }
  | _ => none }
def ValComparesWrongFalsely : Prop := valComparesRow.holds Tryz.pinned (OpenSpec.ofChange valComparesWrong)

/-- 'zermelolaw03.ValMeasures': WHATEVER THE INPUT: true; the input reads as it did. -/
def valMeasuresSpec : ChangeSpec := { name := "valMeasures", fn := fun _ => fun
  | [d] => { results := [.lit (.bool true)], args := [d] }
  | _ => none }
def valMeasuresRow : OpenClaim := { program := "ytgfadepkiejncaagreat", sum := "4bccc09b695b8ba600893bb8eb44240b9e1eba49abd8ba0b50d95644fa97ebb1", func := "zermelo/zermelolaw03.ValMeasures", spec := "valMeasures", inPlace := ["internal/bytealg.abigen_runtime_cmpstring"], unfollowed := true, recurses := true, loops := true, apart := false }
def ValMeasuresSaid : Prop := valMeasuresRow.holds Tryz.pinned (OpenSpec.ofChange valMeasuresSpec)

/-- ITS FALSE NEIGHBOUR: 'it returns false'. Refute it at one input. -/
def valMeasuresWrong : ChangeSpec := { name := "valMeasures", fn := fun _ => fun
  | [d] => { results := [.lit (.bool false)], args := [d] }
  | _ => none }
def ValMeasuresWrongFalsely : Prop := valMeasuresRow.holds Tryz.pinned (OpenSpec.ofChange valMeasuresWrong)

/-- 'zermelolaw03.ValMakes': WHATEVER THE INPUT: true; the input reads as it did. -/
def valMakesSpec : ChangeSpec := { name := "valMakes", fn := fun _ => fun
  | [d] => { results := [.lit (.bool true)], args := [d] }
  | _ => none }
def valMakesRow : OpenClaim := { program := "ytgfadepkiejncaagreat", sum := "4bccc09b695b8ba600893bb8eb44240b9e1eba49abd8ba0b50d95644fa97ebb1", func := "zermelo/zermelolaw03.ValMakes", spec := "valMakes", inPlace := ["internal/bytealg.abigen_runtime_cmpstring"], unfollowed := true, recurses := true, loops := true, apart := false }
def ValMakesSaid : Prop := valMakesRow.holds Tryz.pinned (OpenSpec.ofChange valMakesSpec)

/-- ITS FALSE NEIGHBOUR: 'it returns false'. Refute it at one input. -/
def valMakesWrong : ChangeSpec := { name := "valMakes", fn := fun _ => fun
  | [d] => { results := [.lit (.bool false)], args := [d] }
  | _ => none }
def ValMakesWrongFalsely : Prop := valMakesRow.holds Tryz.pinned (OpenSpec.ofChange valMakesWrong)

/-- 'zermelolaw03.ValOrder': WHATEVER THE INPUT: true; the input reads as it did. -/
def valOrderSpec : ChangeSpec := { name := "valOrder", fn := fun _ => fun
  | [d1, d2, d3] => { results := [.lit (.bool true)], args := [d1, d2, d3] }
  | _ => none }
def valOrderRow : OpenClaim := { program := "ytgfadepkiejncaagreat", sum := "4bccc09b695b8ba600893bb8eb44240b9e1eba49abd8ba0b50d95644fa97ebb1", func := "zermelo/zermelolaw03.ValOrder", spec := "valOrder", inPlace := ["internal/bytealg.abigen_runtime_cmpstring"], unfollowed := true, recurses := true, loops := true, apart := false }
def ValOrderSaid : Prop := valOrderRow.holds Tryz.pinned (OpenSpec.ofChange valOrderSpec)

/-- ITS FALSE NEIGHBOUR: 'it returns false'. Refute it at one input. -/
def valOrderWrong : ChangeSpec := { name := "valOrder", fn := fun _ => fun
  | [d1, d2, d3] => { results := [.lit (.bool false)], args := [d1, d2, d3] }
  | _ => none }
def ValOrderWrongFalsely : Prop := valOrderRow.holds Tryz.pinned (OpenSpec.ofChange valOrderWrong)

/-- 'zermelolaw03.ValMaps': WHATEVER THE INPUT: true; the input reads as it did. -/
def valMapsSpec : ChangeSpec := { name := "valMaps", fn := fun _ => fun
  | [d1, d2] => { results := [.lit (.bool true)], args := [d1, d2] }
  | _ => none }
def valMapsRow : OpenClaim := { program := "ytgfadepkiejncaagreat", sum := "4bccc09b695b8ba600893bb8eb44240b9e1eba49abd8ba0b50d95644fa97ebb1", func := "zermelo/zermelolaw03.ValMaps", spec := "valMaps", inPlace := ["internal/bytealg.abigen_runtime_cmpstring"], unfollowed := true, recurses := true, loops := true, apart := false }
def ValMapsSaid : Prop := valMapsRow.holds Tryz.pinned (OpenSpec.ofChange valMapsSpec)

/-- ITS FALSE NEIGHBOUR: 'it returns false'. Refute it at one input. -/
def valMapsWrong : ChangeSpec := { name := "valMaps", fn := fun _ => fun
  | [d1, d2] => { results := [.lit (.bool false)], args := [d1, d2] }
  | _ => none }
def ValMapsWrongFalsely : Prop := valMapsRow.holds Tryz.pinned (OpenSpec.ofChange valMapsWrong)

/-- 'zermelolaw03.ValRenames': WHATEVER THE INPUT: true; the input reads as it did. -/
def valRenamesSpec : ChangeSpec := { name := "valRenames", fn := fun _ => fun
  | [d1, d2, d3] => { results := [.lit (.bool true)], args := [d1, d2, d3] }
  | _ => none }
def valRenamesRow : OpenClaim := { program := "ytgfadepkiejncaagreat", sum := "4bccc09b695b8ba600893bb8eb44240b9e1eba49abd8ba0b50d95644fa97ebb1", func := "zermelo/zermelolaw03.ValRenames", spec := "valRenames", inPlace := ["internal/bytealg.abigen_runtime_cmpstring"], unfollowed := true, recurses := true, loops := true, apart := false }
def ValRenamesSaid : Prop := valRenamesRow.holds Tryz.pinned (OpenSpec.ofChange valRenamesSpec)

/-- ITS FALSE NEIGHBOUR: 'it returns false'. Refute it at one input. -/
def valRenamesWrong : ChangeSpec := { name := "valRenames", fn := fun _ => fun
  | [d1, d2, d3] => { results := [.lit (.bool false)], args := [d1, d2, d3] }
  | _ => none }
def ValRenamesWrongFalsely : Prop := valRenamesRow.holds Tryz.pinned (OpenSpec.ofChange valRenamesWrong)

/-- 'zermelolaw03.ValExchanged': WHATEVER THE INPUT: true; the input reads as it did. -/
def valExchangedSpec : ChangeSpec := { name := "valExchanged", fn := fun _ => fun
  | [d1, d2, d3, d4] => { results := [.lit (.bool true)], args := [d1, d2, d3, d4] }
  | _ => none }
def valExchangedRow : OpenClaim := { program := "ytgfadepkiejncaagreat", sum := "4bccc09b695b8ba600893bb8eb44240b9e1eba49abd8ba0b50d95644fa97ebb1", func := "zermelo/zermelolaw03.ValExchanged", spec := "valExchanged", inPlace := ["internal/bytealg.abigen_runtime_cmpstring"], unfollowed := true, recurses := true, loops := true, apart := false }
def ValExchangedSaid : Prop := valExchangedRow.holds Tryz.pinned (OpenSpec.ofChange valExchangedSpec)

/-- ITS FALSE NEIGHBOUR: 'it returns false'. Refute it at one input. -/
def valExchangedWrong : ChangeSpec := { name := "valExchanged", fn := fun _ => fun
  | [d1, d2, d3, d4] => { results := [.lit (.bool false)], args := [d1, d2, d3, d4] }
  | _ => none }
def ValExchangedWrongFalsely : Prop := valExchangedRow.holds Tryz.pinned (OpenSpec.ofChange valExchangedWrong)

/-- 'zermelolaw03.ValImages': WHATEVER THE INPUT: true; the input reads as it did. -/
def valImagesSpec : ChangeSpec := { name := "valImages", fn := fun _ => fun
  | [d1, d2, d3] => { results := [.lit (.bool true)], args := [d1, d2, d3] }
  | _ => none }
def valImagesRow : OpenClaim := { program := "ytgfadepkiejncaagreat", sum := "4bccc09b695b8ba600893bb8eb44240b9e1eba49abd8ba0b50d95644fa97ebb1", func := "zermelo/zermelolaw03.ValImages", spec := "valImages", inPlace := ["internal/bytealg.abigen_runtime_cmpstring"], unfollowed := true, recurses := true, loops := true, apart := false }
def ValImagesSaid : Prop := valImagesRow.holds Tryz.pinned (OpenSpec.ofChange valImagesSpec)

/-- ITS FALSE NEIGHBOUR: 'it returns false'. Refute it at one input. -/
def valImagesWrong : ChangeSpec := { name := "valImages", fn := fun _ => fun
  | [d1, d2, d3] => { results := [.lit (.bool false)], args := [d1, d2, d3] }
  | _ => none }
def ValImagesWrongFalsely : Prop := valImagesRow.holds Tryz.pinned (OpenSpec.ofChange valImagesWrong)

/-- 'zermelolaw03.ValHashes': WHATEVER THE INPUT: true; the input reads as it did. -/
def valHashesSpec : ChangeSpec := { name := "valHashes", fn := fun _ => fun
  | [d1, d2, d3] => { results := [.lit (.bool true)], args := [d1, d2, d3] }
  | _ => none }
def valHashesRow : OpenClaim := { program := "ytgfadepkiejncaagreat", sum := "4bccc09b695b8ba600893bb8eb44240b9e1eba49abd8ba0b50d95644fa97ebb1", func := "zermelo/zermelolaw03.ValHashes", spec := "valHashes", inPlace := ["internal/bytealg.abigen_runtime_cmpstring"], unfollowed := true, recurses := true, loops := true, apart := false }
def ValHashesSaid : Prop := valHashesRow.holds Tryz.pinned (OpenSpec.ofChange valHashesSpec)

/-- ITS FALSE NEIGHBOUR: 'it returns false'. Refute it at one input. -/
def valHashesWrong : ChangeSpec := { name := "valHashes", fn := fun _ => fun
  | [d1, d2, d3] => { results := [.lit (.bool false)], args := [d1, d2, d3] }
  | _ => none }
def ValHashesWrongFalsely : Prop := valHashesRow.holds Tryz.pinned (OpenSpec.ofChange valHashesWrong)

/-- 'zermelolaw03.ValSets': WHATEVER THE INPUT: true; the input reads as it did. -/
def valSetsSpec : ChangeSpec := { name := "valSets", fn := fun _ => fun
  | [d1, d2] => { results := [.lit (.bool true)], args := [d1, d2] }
  | _ => none }
def valSetsRow : OpenClaim := { program := "ytgfadepkiejncaagreat", sum := "4bccc09b695b8ba600893bb8eb44240b9e1eba49abd8ba0b50d95644fa97ebb1", func := "zermelo/zermelolaw03.ValSets", spec := "valSets", inPlace := ["internal/bytealg.abigen_runtime_cmpstring"], unfollowed := true, recurses := true, loops := true, apart := false }
def ValSetsSaid : Prop := valSetsRow.holds Tryz.pinned (OpenSpec.ofChange valSetsSpec)

/-- ITS FALSE NEIGHBOUR: 'it returns false'. Refute it at one input. -/
def valSetsWrong : ChangeSpec := { name := "valSets", fn := fun _ => fun
  | [d1, d2] => { results := [.lit (.bool false)], args := [d1, d2] }
  | _ => none }
def ValSetsWrongFalsely : Prop := valSetsRow.holds Tryz.pinned (OpenSpec.ofChange valSetsWrong)

/-- 'zermelolaw03.ValElements': WHATEVER THE INPUT: true; the input reads as it did. -/
def valElementsSpec : ChangeSpec := { name := "valElements", fn := fun _ => fun
  | [d1, d2, d3] => { results := [.lit (.bool true)], args := [d1, d2, d3] }
  | _ => none }
def valElementsRow : OpenClaim := { program := "ytgfadepkiejncaagreat", sum := "4bccc09b695b8ba600893bb8eb44240b9e1eba49abd8ba0b50d95644fa97ebb1", func := "zermelo/zermelolaw03.ValElements", spec := "valElements", inPlace := ["internal/bytealg.abigen_runtime_cmpstring"], unfollowed := true, recurses := true, loops := true, apart := false }
def ValElementsSaid : Prop := valElementsRow.holds Tryz.pinned (OpenSpec.ofChange valElementsSpec)

/-- ITS FALSE NEIGHBOUR: 'it returns false'. Refute it at one input. -/
def valElementsWrong : ChangeSpec := { name := "valElements", fn := fun _ => fun
  | [d1, d2, d3] => { results := [.lit (.bool false)], args := [d1, d2, d3] }
  | _ => none }
def ValElementsWrongFalsely : Prop := valElementsRow.holds Tryz.pinned (OpenSpec.ofChange valElementsWrong)

/-- 'zermelolaw03.ValMemory': WHATEVER THE INPUT: true; the input reads as it did. -/
def valMemorySpec : ChangeSpec := { name := "valMemory", fn := fun _ => fun
  | [d1, d2] => { results := [.lit (.bool true)], args := [d1, d2] }
  | _ => none }
def valMemoryRow : OpenClaim := { program := "ytgfadepkiejncaagreat", sum := "4bccc09b695b8ba600893bb8eb44240b9e1eba49abd8ba0b50d95644fa97ebb1", func := "zermelo/zermelolaw03.ValMemory", spec := "valMemory", inPlace := ["internal/bytealg.abigen_runtime_cmpstring"], unfollowed := true, recurses := true, loops := true, apart := false }
def ValMemorySaid : Prop := valMemoryRow.holds Tryz.pinned (OpenSpec.ofChange valMemorySpec)

/-- ITS FALSE NEIGHBOUR: 'it returns false'. Refute it at one input. -/
def valMemoryWrong : ChangeSpec := { name := "valMemory", fn := fun _ => fun
  | [d1, d2] => { results := [.lit (.bool false)], args := [d1, d2] }
  | _ => none }
def ValMemoryWrongFalsely : Prop := valMemoryRow.holds Tryz.pinned (OpenSpec.ofChange valMemoryWrong)

/-- 'zermelolaw03.ValClosed': WHATEVER THE INPUT: true; the input reads as it did. -/
def valClosedSpec : ChangeSpec := { name := "valClosed", fn := fun _ => fun
  | [d1, d2, d3] => { results := [.lit (.bool true)], args := [d1, d2, d3] }
  | _ => none }
def valClosedRow : OpenClaim := { program := "ytgfadepkiejncaagreat", sum := "4bccc09b695b8ba600893bb8eb44240b9e1eba49abd8ba0b50d95644fa97ebb1", func := "zermelo/zermelolaw03.ValClosed", spec := "valClosed", inPlace := ["internal/bytealg.abigen_runtime_cmpstring"], unfollowed := true, recurses := true, loops := true, apart := false }
def ValClosedSaid : Prop := valClosedRow.holds Tryz.pinned (OpenSpec.ofChange valClosedSpec)

/-- ITS FALSE NEIGHBOUR: 'it returns false'. Refute it at one input. -/
def valClosedWrong : ChangeSpec := { name := "valClosed", fn := fun _ => fun
  | [d1, d2, d3] => { results := [.lit (.bool false)], args := [d1, d2, d3] }
  | _ => none }
def ValClosedWrongFalsely : Prop := valClosedRow.holds Tryz.pinned (OpenSpec.ofChange valClosedWrong)

/- THE SECOND FORM. 'bulk': how many values and letters a reading holds, each counted each time it is reached (what is shared counts as often as it is met; a slice's spare places count too). A statement '..UptoSaid' is the law's where the arguments, and the package variables that the reading takes, are together of bulk at most 1048576: NARROWER than '..Said'. Prove '..Said' where nothing that the law and all that it calls make is longer than what came in: it says more and counts as full. Else prove '..UptoSaid'. A law counts once. -/
mutual
def uptoBulk {H : Type} : DataW H → Nat
  | .lit (.string bytes) => bytes.length + 1
  | .lit _ => 1
  | .nil => 1
  | .ptr d => uptoBulk d + 1
  | .slice elems spare => uptoBulkAll elems + uptoBulkAll spare + 1
  | .agg parts => uptoBulkAll parts + 1
  | .iface _ d => uptoBulk d + 1
  | .map entries => uptoBulkEntries entries + 1
  | .held _ => 1
def uptoBulkAll {H : Type} : List (DataW H) → Nat
  | [] => 0
  | d :: r => uptoBulk d + uptoBulkAll r
def uptoBulkEntries {H : Type} : List (Lit × DataW H) → Nat
  | [] => 0
  | x :: r => uptoBulkEntry x + uptoBulkEntries r
def uptoBulkEntry {H : Type} : Lit × DataW H → Nat
  | (.string bytes, d) => bytes.length + uptoBulk d + 1
  | (_, d) => uptoBulk d + 1
 end
def uptoSmall : (H : Type) → List (DataW H) → Bool := fun _ ds => decide (uptoBulkAll ds ≤ 1048576)
def OpenSpec.upto (s : _root_.Go.ChangeSpec) : _root_.Go.OpenSpec := { _root_.Go.OpenSpec.ofChange s with cond := some uptoSmall }

/-- 'zermelolaw03.ValChecks', WHERE WHAT IT READS IS OF BULK AT MOST 1048576: true; the input reads as it did. -/
def valChecksUptoRow : OpenClaim := { program := "ytgfadepkiejncaagreat", sum := "4bccc09b695b8ba600893bb8eb44240b9e1eba49abd8ba0b50d95644fa97ebb1", func := "zermelo/zermelolaw03.ValChecks", spec := "valChecks", inPlace := ["internal/bytealg.abigen_runtime_cmpstring"], unfollowed := true, recurses := true, loops := true, apart := false, narrowed := true }
def ValChecksUptoSaid : Prop := valChecksUptoRow.holds Tryz.pinned (OpenSpec.upto valChecksSpec)

/-- 'zermelolaw03.ValCompares', WHERE WHAT IT READS IS OF BULK AT MOST 1048576: true; the input reads as it did. -/
def valComparesUptoRow : OpenClaim := { program := "ytgfadepkiejncaagreat", sum := "4bccc09b695b8ba600893bb8eb44240b9e1eba49abd8ba0b50d95644fa97ebb1", func := "zermelo/zermelolaw03.ValCompares", spec := "valCompares", inPlace := ["internal/bytealg.abigen_runtime_cmpstring"], unfollowed := true, recurses := true, loops := true, apart := false, narrowed := true }
def ValComparesUptoSaid : Prop := valComparesUptoRow.holds Tryz.pinned (OpenSpec.upto valComparesSpec)

/-- 'zermelolaw03.ValMeasures', WHERE WHAT IT READS IS OF BULK AT MOST 1048576: true; the input reads as it did. -/
def valMeasuresUptoRow : OpenClaim := { program := "ytgfadepkiejncaagreat", sum := "4bccc09b695b8ba600893bb8eb44240b9e1eba49abd8ba0b50d95644fa97ebb1", func := "zermelo/zermelolaw03.ValMeasures", spec := "valMeasures", inPlace := ["internal/bytealg.abigen_runtime_cmpstring"], unfollowed := true, recurses := true, loops := true, apart := false, narrowed := true }
def ValMeasuresUptoSaid : Prop := valMeasuresUptoRow.holds Tryz.pinned (OpenSpec.upto valMeasuresSpec)

/-- 'zermelolaw03.ValMakes', WHERE WHAT IT READS IS OF BULK AT MOST 1048576: true; the input reads as it did. -/
def valMakesUptoRow : OpenClaim := { program := "ytgfadepkiejncaagreat", sum := "4bccc09b695b8ba600893bb8eb44240b9e1eba49abd8ba0b50d95644fa97ebb1", func := "zermelo/zermelolaw03.ValMakes", spec := "valMakes", inPlace := ["internal/bytealg.abigen_runtime_cmpstring"], unfollowed := true, recurses := true, loops := true, apart := false, narrowed := true }
def ValMakesUptoSaid : Prop := valMakesUptoRow.holds Tryz.pinned (OpenSpec.upto valMakesSpec)

/-- 'zermelolaw03.ValOrder', WHERE WHAT IT READS IS OF BULK AT MOST 1048576: true; the input reads as it did. -/
def valOrderUptoRow : OpenClaim := { program := "ytgfadepkiejncaagreat", sum := "4bccc09b695b8ba600893bb8eb44240b9e1eba49abd8ba0b50d95644fa97ebb1", func := "zermelo/zermelolaw03.ValOrder", spec := "valOrder", inPlace := ["internal/bytealg.abigen_runtime_cmpstring"], unfollowed := true, recurses := true, loops := true, apart := false, narrowed := true }
def ValOrderUptoSaid : Prop := valOrderUptoRow.holds Tryz.pinned (OpenSpec.upto valOrderSpec)

/-- 'zermelolaw03.ValMaps', WHERE WHAT IT READS IS OF BULK AT MOST 1048576: true; the input reads as it did. -/
def valMapsUptoRow : OpenClaim := { program := "ytgfadepkiejncaagreat", sum := "4bccc09b695b8ba600893bb8eb44240b9e1eba49abd8ba0b50d95644fa97ebb1", func := "zermelo/zermelolaw03.ValMaps", spec := "valMaps", inPlace := ["internal/bytealg.abigen_runtime_cmpstring"], unfollowed := true, recurses := true, loops := true, apart := false, narrowed := true }
def ValMapsUptoSaid : Prop := valMapsUptoRow.holds Tryz.pinned (OpenSpec.upto valMapsSpec)

/-- 'zermelolaw03.ValRenames', WHERE WHAT IT READS IS OF BULK AT MOST 1048576: true; the input reads as it did. -/
def valRenamesUptoRow : OpenClaim := { program := "ytgfadepkiejncaagreat", sum := "4bccc09b695b8ba600893bb8eb44240b9e1eba49abd8ba0b50d95644fa97ebb1", func := "zermelo/zermelolaw03.ValRenames", spec := "valRenames", inPlace := ["internal/bytealg.abigen_runtime_cmpstring"], unfollowed := true, recurses := true, loops := true, apart := false, narrowed := true }
def ValRenamesUptoSaid : Prop := valRenamesUptoRow.holds Tryz.pinned (OpenSpec.upto valRenamesSpec)

/-- 'zermelolaw03.ValExchanged', WHERE WHAT IT READS IS OF BULK AT MOST 1048576: true; the input reads as it did. -/
def valExchangedUptoRow : OpenClaim := { program := "ytgfadepkiejncaagreat", sum := "4bccc09b695b8ba600893bb8eb44240b9e1eba49abd8ba0b50d95644fa97ebb1", func := "zermelo/zermelolaw03.ValExchanged", spec := "valExchanged", inPlace := ["internal/bytealg.abigen_runtime_cmpstring"], unfollowed := true, recurses := true, loops := true, apart := false, narrowed := true }
def ValExchangedUptoSaid : Prop := valExchangedUptoRow.holds Tryz.pinned (OpenSpec.upto valExchangedSpec)

/-- 'zermelolaw03.ValImages', WHERE WHAT IT READS IS OF BULK AT MOST 1048576: true; the input reads as it did. -/
def valImagesUptoRow : OpenClaim := { program := "ytgfadepkiejncaagreat", sum := "4bccc09b695b8ba600893bb8eb44240b9e1eba49abd8ba0b50d95644fa97ebb1", func := "zermelo/zermelolaw03.ValImages", spec := "valImages", inPlace := ["internal/bytealg.abigen_runtime_cmpstring"], unfollowed := true, recurses := true, loops := true, apart := false, narrowed := true }
def ValImagesUptoSaid : Prop := valImagesUptoRow.holds Tryz.pinned (OpenSpec.upto valImagesSpec)

/-- 'zermelolaw03.ValHashes', WHERE WHAT IT READS IS OF BULK AT MOST 1048576: true; the input reads as it did. -/
def valHashesUptoRow : OpenClaim := { program := "ytgfadepkiejncaagreat", sum := "4bccc09b695b8ba600893bb8eb44240b9e1eba49abd8ba0b50d95644fa97ebb1", func := "zermelo/zermelolaw03.ValHashes", spec := "valHashes", inPlace := ["internal/bytealg.abigen_runtime_cmpstring"], unfollowed := true, recurses := true, loops := true, apart := false, narrowed := true }
def ValHashesUptoSaid : Prop := valHashesUptoRow.holds Tryz.pinned (OpenSpec.upto valHashesSpec)

/-- 'zermelolaw03.ValSets', WHERE WHAT IT READS IS OF BULK AT MOST 1048576: true; the input reads as it did. -/
def valSetsUptoRow : OpenClaim := { program := "ytgfadepkiejncaagreat", sum := "4bccc09b695b8ba600893bb8eb44240b9e1eba49abd8ba0b50d95644fa97ebb1", func := "zermelo/zermelolaw03.ValSets", spec := "valSets", inPlace := ["internal/bytealg.abigen_runtime_cmpstring"], unfollowed := true, recurses := true, loops := true, apart := false, narrowed := true }
def ValSetsUptoSaid : Prop := valSetsUptoRow.holds Tryz.pinned (OpenSpec.upto valSetsSpec)

/-- 'zermelolaw03.ValElements', WHERE WHAT IT READS IS OF BULK AT MOST 1048576: true; the input reads as it did. -/
def valElementsUptoRow : OpenClaim := { program := "ytgfadepkiejncaagreat", sum := "4bccc09b695b8ba600893bb8eb44240b9e1eba49abd8ba0b50d95644fa97ebb1", func := "zermelo/zermelolaw03.ValElements", spec := "valElements", inPlace := ["internal/bytealg.abigen_runtime_cmpstring"], unfollowed := true, recurses := true, loops := true, apart := false, narrowed := true }
def ValElementsUptoSaid : Prop := valElementsUptoRow.holds Tryz.pinned (OpenSpec.upto valElementsSpec)

/-- 'zermelolaw03.ValMemory', WHERE WHAT IT READS IS OF BULK AT MOST 1048576: true; the input reads as it did. -/
def valMemoryUptoRow : OpenClaim := { program := "ytgfadepkiejncaagreat", sum := "4bccc09b695b8ba600893bb8eb44240b9e1eba49abd8ba0b50d95644fa97ebb1", func := "zermelo/zermelolaw03.ValMemory", spec := "valMemory", inPlace := ["internal/bytealg.abigen_runtime_cmpstring"], unfollowed := true, recurses := true, loops := true, apart := false, narrowed := true }
def ValMemoryUptoSaid : Prop := valMemoryUptoRow.holds Tryz.pinned (OpenSpec.upto valMemorySpec)

/-- 'zermelolaw03.ValClosed', WHERE WHAT IT READS IS OF BULK AT MOST 1048576: true; the input reads as it did. -/
def valClosedUptoRow : OpenClaim := { program := "ytgfadepkiejncaagreat", sum := "4bccc09b695b8ba600893bb8eb44240b9e1eba49abd8ba0b50d95644fa97ebb1", func := "zermelo/zermelolaw03.ValClosed", spec := "valClosed", inPlace := ["internal/bytealg.abigen_runtime_cmpstring"], unfollowed := true, recurses := true, loops := true, apart := false, narrowed := true }
def ValClosedUptoSaid : Prop := valClosedUptoRow.holds Tryz.pinned (OpenSpec.upto valClosedSpec)

end Rows
end Go.Proofs.YtgfadepkiejncaaGreat
