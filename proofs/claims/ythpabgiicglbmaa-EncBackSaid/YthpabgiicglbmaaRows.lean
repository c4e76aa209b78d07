/-
  No cell of these rows narrows 'for every input' (looked for: loops, veiled, ifaces, maps, wideKeys, modest, calm, conditions, laid).
  DERIVED. THE GIVEN ROWS OF THIS SEAT. 12 by the template 'for every input the law returns true; each argument reads behind the call as it read before'; 0 by the template 'total and deterministic' (their statements: YthpabgiicglbmaaTotals.lean).
  GIVEN WITH THE SEED: the statements are not yours to turn. If you find one false, say at which input.
  Laid BY PROGRAM, IN A SANDBOX (cutbox-rows.mjs): the forced cells as the released guide's own fill.sh prints them over the translation 76a14d04d6d57767… (all of the seat's roots in one cut). By AI agents, Wed Nov 11 2026. No macro, syntax, notation, axiom, sorry.
-/
import Derived.Test.YthpabgiicglbmaaChecked
import GoSem.Claim
import GoSem.ClaimJoined
import GoSem.ClaimMapViews
import Derived.JoinedTies
import Derived.KernelRfl
namespace Go.Proofs.Ythpabgiicglbmaa
/- THE CELL 'sum', in the pinned program and in every row, IS THE sha256 OF THE DUMP (.gsa) THAT YthpabgiicglbmaaProg.lean LOADS. Nothing in Lean hashes anything: it is a label: what it is worth is what the hold of that sum in a sandbox is worth. -/
noncomputable def Try.pinned : Pinned := { name := "ythpabgiicglbmaa", sum := "76a14d04d6d57767c4acfc992db25eed3fe93fd8f0fd25832606ccaa0e9c1c5c", checked := Try.checked }
namespace Rows
def none {H : Type} : Left H := { results := [], args := [] }

/-- 'understorylaw01.EncBytes': WHATEVER THE INPUT: true; the input reads as it did. -/
def encBytesSpec : ChangeSpec := { name := "encBytes", fn := fun _ => fun
  | [d1, d2] => { results := [.lit (.bool true)], args := [d1, d2] }
  | _ => none }
def encBytesRow : OpenClaim := { program := "ythpabgiicglbmaa", sum := "76a14d04d6d57767c4acfc992db25eed3fe93fd8f0fd25832606ccaa0e9c1c5c", func := "understory/understorylaw01.EncBytes", spec := "encBytes", inPlace := ["internal/abi.NoEscape"], unfollowed := true, recurses := true, apart := false }
def EncBytesSaid : Prop := encBytesRow.holds Try.pinned (OpenSpec.ofChange encBytesSpec)

/-- ITS FALSE NEIGHBOUR: 'it returns false'. Refute it at one input. -/
def encBytesWrong : ChangeSpec := { name := "encBytes", fn := fun _ => fun
  | [d1, d2] => { results := [.lit (.bool false)], args := [d1, d2] }
  | _ => none }
def EncBytesWrongFalsely : Prop := encBytesRow.holds Try.pinned (OpenSpec.ofChange encBytesWrong)

/-- 'understorylaw01.EncTexts': WHATEVER THE INPUT: true; the input reads as it did. -/
def encTextsSpec : ChangeSpec := { name := "encTexts", fn := fun _ => fun
  | [d] => { results := [.lit (.bool true)], args := [d] }
  | _ => none }
def encTextsRow : OpenClaim := { program := "ythpabgiicglbmaa", sum := "76a14d04d6d57767c4acfc992db25eed3fe93fd8f0fd25832606ccaa0e9c1c5c", func := "understory/understorylaw01.EncTexts", spec := "encTexts", inPlace := ["internal/abi.NoEscape"], unfollowed := true, recurses := true, apart := false }
def EncTextsSaid : Prop := encTextsRow.holds Try.pinned (OpenSpec.ofChange encTextsSpec)

/-- ITS FALSE NEIGHBOUR: 'it returns false'. Refute it at one input. -/
def encTextsWrong : ChangeSpec := { name := "encTexts", fn := fun _ => fun
  | [d] => { results := [.lit (.bool false)], args := [d] }
  | _ => none }
def EncTextsWrongFalsely : Prop := encTextsRow.holds Try.pinned (OpenSpec.ofChange encTextsWrong)

/-- 'understorylaw01.EncData': WHATEVER THE INPUT: true; the input reads as it did. -/
def encDataSpec : ChangeSpec := { name := "encData", fn := fun _ => fun
  | [d1, d2, d3] => { results := [.lit (.bool true)], args := [d1, d2, d3] }
  | _ => none }
def encDataRow : OpenClaim := { program := "ythpabgiicglbmaa", sum := "76a14d04d6d57767c4acfc992db25eed3fe93fd8f0fd25832606ccaa0e9c1c5c", func := "understory/understorylaw01.EncData", spec := "encData", inPlace := ["internal/abi.NoEscape"], unfollowed := true, recurses := true, apart := false }
def EncDataSaid : Prop := encDataRow.holds Try.pinned (OpenSpec.ofChange encDataSpec)

/-- ITS FALSE NEIGHBOUR: 'it returns false'. Refute it at one input. -/
def encDataWrong : ChangeSpec := { name := "encData", fn := fun _ => fun
  | [d1, d2, d3] => { results := [.lit (.bool false)], args := [d1, d2, d3] }
  | _ => none }
def EncDataWrongFalsely : Prop := encDataRow.holds Try.pinned (OpenSpec.ofChange encDataWrong)

/-- 'understorylaw01.EncKeys': WHATEVER THE INPUT: true; the input reads as it did. -/
def encKeysSpec : ChangeSpec := { name := "encKeys", fn := fun _ => fun
  | [d1, d2, d3] => { results := [.lit (.bool true)], args := [d1, d2, d3] }
  | _ => none }
def encKeysRow : OpenClaim := { program := "ythpabgiicglbmaa", sum := "76a14d04d6d57767c4acfc992db25eed3fe93fd8f0fd25832606ccaa0e9c1c5c", func := "understory/understorylaw01.EncKeys", spec := "encKeys", inPlace := ["internal/abi.NoEscape"], unfollowed := true, recurses := true, apart := false }
def EncKeysSaid : Prop := encKeysRow.holds Try.pinned (OpenSpec.ofChange encKeysSpec)

/-- ITS FALSE NEIGHBOUR: 'it returns false'. Refute it at one input. -/
def encKeysWrong : ChangeSpec := { name := "encKeys", fn := fun _ => fun
  | [d1, d2, d3] => { results := [.lit (.bool false)], args := [d1, d2, d3] }
  | _ => none }
def EncKeysWrongFalsely : Prop := encKeysRow.holds Try.pinned (OpenSpec.ofChange encKeysWrong)

/-- 'understorylaw01.EncOrder': WHATEVER THE INPUT: true; the input reads as it did. -/
def encOrderSpec : ChangeSpec := { name := "encOrder", fn := fun _ => fun
  | [d1, d2, d3, d4] => { results := [.lit (.bool true)], args := [d1, d2, d3, d4] }
  | _ => none }
def encOrderRow : OpenClaim := { program := "ythpabgiicglbmaa", sum := "76a14d04d6d57767c4acfc992db25eed3fe93fd8f0fd25832606ccaa0e9c1c5c", func := "understory/understorylaw01.EncOrder", spec := "encOrder", inPlace := ["internal/abi.NoEscape"], unfollowed := true, recurses := true, apart := false }
def EncOrderSaid : Prop := encOrderRow.holds Try.pinned (OpenSpec.ofChange encOrderSpec)

/-- ITS FALSE NEIGHBOUR: 'it returns false'. Refute it at one input. -/
def encOrderWrong : ChangeSpec := { name := "encOrder", fn := fun _ => fun
  | [d1, d2, d3, d4] => { results := [.lit (.bool false)], args := [d1, d2, d3, d4] }
  | _ => none }
def EncOrderWrongFalsely : Prop := encOrderRow.holds Try.pinned (OpenSpec.ofChange encOrderWrong)

/-- 'understorylaw01.EncKeyOrder': WHATEVER THE INPUT: true; the input reads as it did. -/
def encKeyOrderSpec : ChangeSpec := { name := "encKeyOrder", fn := fun _ => fun
  | [d1, d2, d3] => { results := [.lit (.bool true)], args := [d1, d2, d3] }
  | _ => none }
def encKeyOrderRow : OpenClaim := { program := "ythpabgiicglbmaa", sum := "76a14d04d6d57767c4acfc992db25eed3fe93fd8f0fd25832606ccaa0e9c1c5c", func := "understory/understorylaw01.EncKeyOrder", spec := "encKeyOrder", inPlace := ["internal/abi.NoEscape"], unfollowed := true, recurses := true, apart := false }
def EncKeyOrderSaid : Prop := encKeyOrderRow.holds Try.pinned (OpenSpec.ofChange encKeyOrderSpec)

/-- ITS FALSE NEIGHBOUR: 'it returns false'. Refute it at one input. -/
def encKeyOrderWrong : ChangeSpec := { name := "encKeyOrder", fn := fun _ => fun
  | [d1, d2, d3] => { results := [.lit (.bool false)], args := [d1, d2, d3] }
  | _ => none }
def EncKeyOrderWrongFalsely : Prop := encKeyOrderRow.holds Try.pinned (OpenSpec.ofChange encKeyOrderWrong)

/-- 'understorylaw01.EncPrefixFree': WHATEVER THE INPUT: true; the input reads as it did. -/
def encPrefixFreeSpec : ChangeSpec := { name := "encPrefixFree", fn := fun _ => fun
  | [d1, d2, d3, d4, d5, d6, d7] => { results := [.lit (.bool true)], args := [d1, d2, d3, d4, d5, d6, d7] }
  | _ => none }
def encPrefixFreeRow : OpenClaim := { program := "ythpabgiicglbmaa", sum := "76a14d04d6d57767c4acfc992db25eed3fe93fd8f0fd25832606ccaa0e9c1c5c", func := "understory/understorylaw01.EncPrefixFree", spec := "encPrefixFree", inPlace := ["internal/abi.NoEscape"], unfollowed := true, recurses := true, apart := false }
def EncPrefixFreeSaid : Prop := encPrefixFreeRow.holds Try.pinned (OpenSpec.ofChange encPrefixFreeSpec)

/-- ITS FALSE NEIGHBOUR: 'it returns false'. Refute it at one input. -/
def encPrefixFreeWrong : ChangeSpec := { name := "encPrefixFree", fn := fun _ => fun
  | [d1, d2, d3, d4, d5, d6, d7] => { results := [.lit (.bool false)], args := [d1, d2, d3, d4, d5, d6, d7] }
  | _ => none }
def EncPrefixFreeWrongFalsely : Prop := encPrefixFreeRow.holds Try.pinned (OpenSpec.ofChange encPrefixFreeWrong)

/-- 'understorylaw01.EncConcatenates': WHATEVER THE INPUT: true; the input reads as it did. -/
def encConcatenatesSpec : ChangeSpec := { name := "encConcatenates", fn := fun _ => fun
  | [d1, d2, d3] => { results := [.lit (.bool true)], args := [d1, d2, d3] }
  | _ => none }
def encConcatenatesRow : OpenClaim := { program := "ythpabgiicglbmaa", sum := "76a14d04d6d57767c4acfc992db25eed3fe93fd8f0fd25832606ccaa0e9c1c5c", func := "understory/understorylaw01.EncConcatenates", spec := "encConcatenates", inPlace := ["internal/abi.NoEscape"], unfollowed := true, recurses := true, apart := false }
def EncConcatenatesSaid : Prop := encConcatenatesRow.holds Try.pinned (OpenSpec.ofChange encConcatenatesSpec)

/-- ITS FALSE NEIGHBOUR: 'it returns false'. Refute it at one input. -/
def encConcatenatesWrong : ChangeSpec := { name := "encConcatenates", fn := fun _ => fun
  | [d1, d2, d3] => { results := [.lit (.bool false)], args := [d1, d2, d3] }
  | _ => none }
def EncConcatenatesWrongFalsely : Prop := encConcatenatesRow.holds Try.pinned (OpenSpec.ofChange encConcatenatesWrong)

/-- 'understorylaw01.EncSeparates': WHATEVER THE INPUT: true; the input reads as it did. -/
def encSeparatesSpec : ChangeSpec := { name := "encSeparates", fn := fun _ => fun
  | [d1, d2, d3] => { results := [.lit (.bool true)], args := [d1, d2, d3] }
  | _ => none }
def encSeparatesRow : OpenClaim := { program := "ythpabgiicglbmaa", sum := "76a14d04d6d57767c4acfc992db25eed3fe93fd8f0fd25832606ccaa0e9c1c5c", func := "understory/understorylaw01.EncSeparates", spec := "encSeparates", inPlace := ["internal/abi.NoEscape"], unfollowed := true, recurses := true, apart := false }
def EncSeparatesSaid : Prop := encSeparatesRow.holds Try.pinned (OpenSpec.ofChange encSeparatesSpec)

/-- ITS FALSE NEIGHBOUR: 'it returns false'. Refute it at one input. -/
def encSeparatesWrong : ChangeSpec := { name := "encSeparates", fn := fun _ => fun
  | [d1, d2, d3] => { results := [.lit (.bool false)], args := [d1, d2, d3] }
  | _ => none }
def EncSeparatesWrongFalsely : Prop := encSeparatesRow.holds Try.pinned (OpenSpec.ofChange encSeparatesWrong)

/-- 'understorylaw01.EncRanges': WHATEVER THE INPUT: true; the input reads as it did. -/
def encRangesSpec : ChangeSpec := { name := "encRanges", fn := fun _ => fun
  | [d1, d2, d3] => { results := [.lit (.bool true)], args := [d1, d2, d3] }
  | _ => none }
def encRangesRow : OpenClaim := { program := "ythpabgiicglbmaa", sum := "76a14d04d6d57767c4acfc992db25eed3fe93fd8f0fd25832606ccaa0e9c1c5c", func := "understory/understorylaw01.EncRanges", spec := "encRanges", inPlace := ["internal/abi.NoEscape"], unfollowed := true, recurses := true, apart := false }
def EncRangesSaid : Prop := encRangesRow.holds Try.pinned (OpenSpec.ofChange encRangesSpec)

/-- ITS FALSE NEIGHBOUR: 'it returns false'. Refute it at one input. -/
def encRangesWrong : ChangeSpec := { name := "encRanges", fn := fun _ => fun
  | [d1, d2, d3] => { results := [.lit (.bool false)], args := [d1, d2, d3] }
  | _ => none }
def EncRangesWrongFalsely : Prop := encRangesRow.holds Try.pinned (OpenSpec.ofChange encRangesWrong)

/-- 'understorylaw01.EncNumbers': WHATEVER THE INPUT: true; the input reads as it did. -/
def encNumbersSpec : ChangeSpec := { name := "encNumbers", fn := fun _ => fun
  | [d1, d2, d3] => { results := [.lit (.bool true)], args := [d1, d2, d3] }
  | _ => none }
def encNumbersRow : OpenClaim := { program := "ythpabgiicglbmaa", sum := "76a14d04d6d57767c4acfc992db25eed3fe93fd8f0fd25832606ccaa0e9c1c5c", func := "understory/understorylaw01.EncNumbers", spec := "encNumbers", inPlace := ["internal/abi.NoEscape"], unfollowed := true, recurses := true, apart := false }
def EncNumbersSaid : Prop := encNumbersRow.holds Try.pinned (OpenSpec.ofChange encNumbersSpec)

/-- ITS FALSE NEIGHBOUR: 'it returns false'. Refute it at one input. -/
def encNumbersWrong : ChangeSpec := { name := "encNumbers", fn := fun _ => fun
  | [d1, d2, d3] => { results := [.lit (.bool false)], args := [d1, d2, d3] }
  | _ => none }
def EncNumbersWrongFalsely : Prop := encNumbersRow.holds Try.pinned (OpenSpec.ofChange encNumbersWrong)

/-- 'understorylaw01.EncBack': WHATEVER THE INPUT: true; the input reads as it did. -/
def encBackSpec : ChangeSpec := { name := "encBack", fn := fun _ => fun
  | [d1, d2, d3, d4, d5, d6] => { results := [.lit (.bool true)], args := [d1, d2, d3, d4, d5, d6] }
  | _ => none }
def encBackRow : OpenClaim := { program := "ythpabgiicglbmaa", sum := "76a14d04d6d57767c4acfc992db25eed3fe93fd8f0fd25832606ccaa0e9c1c5c", func := "understory/understorylaw01.EncBack", spec := "encBack", inPlace := ["internal/abi.NoEscape"], unfollowed := true, recurses := true, apart := false }
def EncBackSaid : Prop := encBackRow.holds Try.pinned (OpenSpec.ofChange encBackSpec)

/-- ITS FALSE NEIGHBOUR: 'it returns false'. Refute it at one input. -/
def encBackWrong : ChangeSpec := { name := "encBack", fn := fun _ => fun
  | [d1, d2, d3, d4, d5, d6] => { results := [.lit (.bool false)], args := [d1, d2, d3, d4, d5, d6] }
  | _ => none }
def EncBackWrongFalsely : Prop := encBackRow.holds Try.pinned (OpenSpec.ofChange encBackWrong)

/- THE SECOND FORM. 'bulk': how many values and letters a reading holds, each counted each time it is reached (what is shared counts as often as it is met; a slice's spare places count too). A statement '..UptoSaid' is the law's where the arguments, and the package variables that the reading takes, are together of bulk at most 1048576: NARROWER than '..Said'. Prove '..Said' where nothing that the law and all that it calls make is longer than what came in: it says more and counts as full. Else prove '..UptoSaid'. A law counts once. -/
mutual
def uptoBulk {H : Type} : DataW H → Nat
  | .lit (.string bytes) => bytes.length + 1
  | .lit _ => 1
  | .nil => 1
  | .ptr d => uptoBulk d + 1
  | .slice elems spare => uptoBulkAll elems + uptoBulkAll spare + 1
  | .agg parts => uptoBulkAll parts + 1
  | .iface _ d => uptoBulk d + 1
  | .map entries => uptoBulkEntries entries + 1
  | .held _ => 1
def uptoBulkAll {H : Type} : List (DataW H) → Nat
  | [] => 0
  | d :: r => uptoBulk d + uptoBulkAll r
def uptoBulkEntries {H : Type} : List (Lit × DataW H) → Nat
  | [] => 0
  | x :: r => uptoBulkEntry x + uptoBulkEntries r
def uptoBulkEntry {H : Type} : Lit × DataW H → Nat
  | (.string bytes, d) => bytes.length + uptoBulk d + 1
  | (_, d) => uptoBulk d + 1
 end
def uptoSmall : (H : Type) → List (DataW H) → Bool := fun _ ds => decide (uptoBulkAll ds ≤ 1048576)
def OpenSpec.upto (s : _root_.Go.ChangeSpec) : _root_.Go.OpenSpec := { _root_.Go.OpenSpec.ofChange s with cond := some uptoSmall }

/-- 'understorylaw01.EncBytes', WHERE WHAT IT READS IS OF BULK AT MOST 1048576: true; the input reads as it did. -/
def encBytesUptoRow : OpenClaim := { program := "ythpabgiicglbmaa", sum := "76a14d04d6d57767c4acfc992db25eed3fe93fd8f0fd25832606ccaa0e9c1c5c", func := "understory/understorylaw01.EncBytes", spec := "encBytes", inPlace := ["internal/abi.NoEscape"], unfollowed := true, recurses := true, apart := false, narrowed := true }
def EncBytesUptoSaid : Prop := encBytesUptoRow.holds Try.pinned (OpenSpec.upto encBytesSpec)

/-- 'understorylaw01.EncTexts', WHERE WHAT IT READS IS OF BULK AT MOST 1048576: true; the input reads as it did. -/
def encTextsUptoRow : OpenClaim := { program := "ythpabgiicglbmaa", sum := "76a14d04d6d57767c4acfc992db25eed3fe93fd8f0fd25832606ccaa0e9c1c5c", func := "understory/understorylaw01.EncTexts", spec := "encTexts", inPlace := ["internal/abi.NoEscape"], unfollowed := true, recurses := true, apart := false, narrowed := true }
def EncTextsUptoSaid : Prop := encTextsUptoRow.holds Try.pinned (OpenSpec.upto encTextsSpec)

/-- 'understorylaw01.EncData', WHERE WHAT IT READS IS OF BULK AT MOST 1048576: true; the input reads as it did. -/
def encDataUptoRow : OpenClaim := { program := "ythpabgiicglbmaa", sum := "76a14d04d6d57767c4acfc992db25eed3fe93fd8f0fd25832606ccaa0e9c1c5c", func := "understory/understorylaw01.EncData", spec := "encData", inPlace := ["internal/abi.NoEscape"], unfollowed := true, recurses := true, apart := false, narrowed := true }
def EncDataUptoSaid : Prop := encDataUptoRow.holds Try.pinned (OpenSpec.upto encDataSpec)

/-- 'understorylaw01.EncKeys', WHERE WHAT IT READS IS OF BULK AT MOST 1048576: true; the input reads as it did. -/
def encKeysUptoRow : OpenClaim := { program := "ythpabgiicglbmaa", sum := "76a14d04d6d57767c4acfc992db25eed3fe93fd8f0fd25832606ccaa0e9c1c5c", func := "understory/understorylaw01.EncKeys", spec := "encKeys", inPlace := ["internal/abi.NoEscape"], unfollowed := true, recurses := true, apart := false, narrowed := true }
def EncKeysUptoSaid : Prop := encKeysUptoRow.holds Try.pinned (OpenSpec.upto encKeysSpec)

/-- 'understorylaw01.EncOrder', WHERE WHAT IT READS IS OF BULK AT MOST 1048576: true; the input reads as it did. -/
def encOrderUptoRow : OpenClaim := { program := "ythpabgiicglbmaa", sum := "76a14d04d6d57767c4acfc992db25eed3fe93fd8f0fd25832606ccaa0e9c1c5c", func := "understory/understorylaw01.EncOrder", spec := "encOrder", inPlace := ["internal/abi.NoEscape"], unfollowed := true, recurses := true, apart := false, narrowed := true }
def EncOrderUptoSaid : Prop := encOrderUptoRow.holds Try.pinned (OpenSpec.upto encOrderSpec)

/-- 'understorylaw01.EncKeyOrder', WHERE WHAT IT READS IS OF BULK AT MOST 1048576: true; the input reads as it did. -/
def encKeyOrderUptoRow : OpenClaim := { program := "ythpabgiicglbmaa", sum := "76a14d04d6d57767c4acfc992db25eed3fe93fd8f0fd25832606ccaa0e9c1c5c", func := "understory/understorylaw01.EncKeyOrder", spec := "encKeyOrder", inPlace := ["internal/abi.NoEscape"], unfollowed := true, recurses := true, apart := false, narrowed := true }
def EncKeyOrderUptoSaid : Prop := encKeyOrderUptoRow.holds Try.pinned (OpenSpec.upto encKeyOrderSpec)

/-- 'understorylaw01.EncPrefixFree', WHERE WHAT IT READS IS OF BULK AT MOST 1048576: true; the input reads as it did. -/
def encPrefixFreeUptoRow : OpenClaim := { program := "ythpabgiicglbmaa", sum := "76a14d04d6d57767c4acfc992db25eed3fe93fd8f0fd25832606ccaa0e9c1c5c", func := "understory/understorylaw01.EncPrefixFree", spec := "encPrefixFree", inPlace := ["internal/abi.NoEscape"], unfollowed := true, recurses := true, apart := false, narrowed := true }
def EncPrefixFreeUptoSaid : Prop := encPrefixFreeUptoRow.holds Try.pinned (OpenSpec.upto encPrefixFreeSpec)

/-- 'understorylaw01.EncConcatenates', WHERE WHAT IT READS IS OF BULK AT MOST 1048576: true; the input reads as it did. -/
def encConcatenatesUptoRow : OpenClaim := { program := "ythpabgiicglbmaa", sum := "76a14d04d6d57767c4acfc992db25eed3fe93fd8f0fd25832606ccaa0e9c1c5c", func := "understory/understorylaw01.EncConcatenates", spec := "encConcatenates", inPlace := ["internal/abi.NoEscape"], unfollowed := true, recurses := true, apart := false, narrowed := true }
def EncConcatenatesUptoSaid : Prop := encConcatenatesUptoRow.holds Try.pinned (OpenSpec.upto encConcatenatesSpec)

/-- 'understorylaw01.EncSeparates', WHERE WHAT IT READS IS OF BULK AT MOST 1048576: true; the input reads as it did. -/
def encSeparatesUptoRow : OpenClaim := { program := "ythpabgiicglbmaa", sum := "76a14d04d6d57767c4acfc992db25eed3fe93fd8f0fd25832606ccaa0e9c1c5c", func := "understory/understorylaw01.EncSeparates", spec := "encSeparates", inPlace := ["internal/abi.NoEscape"], unfollowed := true, recurses := true, apart := false, narrowed := true }
def EncSeparatesUptoSaid : Prop := encSeparatesUptoRow.holds Try.pinned (OpenSpec.upto encSeparatesSpec)

/-- 'understorylaw01.EncRanges', WHERE WHAT IT READS IS OF BULK AT MOST 1048576: true; the input reads as it did. -/
def encRangesUptoRow : OpenClaim := { program := "ythpabgiicglbmaa", sum := "76a14d04d6d57767c4acfc992db25eed3fe93fd8f0fd25832606ccaa0e9c1c5c", func := "understory/understorylaw01.EncRanges", spec := "encRanges", inPlace := ["internal/abi.NoEscape"], unfollowed := true, recurses := true, apart := false, narrowed := true }
def EncRangesUptoSaid : Prop := encRangesUptoRow.holds Try.pinned (OpenSpec.upto encRangesSpec)

/-- 'understorylaw01.EncNumbers', WHERE WHAT IT READS IS OF BULK AT MOST 1048576: true; the input reads as it did. -/
def encNumbersUptoRow : OpenClaim := { program := "ythpabgiicglbmaa", sum := "76a14d04d6d57767c4acfc992db25eed3fe93fd8f0fd25832606ccaa0e9c1c5c", func := "understory/understorylaw01.EncNumbers", spec := "encNumbers", inPlace := ["internal/abi.NoEscape"], unfollowed := true, recurses := true, apart := false, narrowed := true }
def EncNumbersUptoSaid : Prop := encNumbersUptoRow.holds Try.pinned (OpenSpec.upto encNumbersSpec)

/-- 'understorylaw01.EncBack', WHERE WHAT IT READS IS OF BULK AT MOST 1048576: true; the input reads as it did. -/
def encBackUptoRow : OpenClaim := { program := "ythpabgiicglbmaa", sum := "76a14d04d6d57767c4acfc992db25eed3fe93fd8f0fd25832606ccaa0e9c1c5c", func := "understory/understorylaw01.EncBack", spec := "encBack", inPlace := ["internal/abi.NoEscape"], unfollowed := true, recurses := true, apart := false, narrowed := true }
def EncBackUptoSaid : Prop := encBackUptoRow.holds Try.pinned (OpenSpec.upto encBackSpec)

end Rows
end Go.Proofs.Ythpabgiicglbmaa
