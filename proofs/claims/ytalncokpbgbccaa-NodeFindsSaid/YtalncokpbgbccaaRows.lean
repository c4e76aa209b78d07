/-
  No cell of these rows narrows 'for every input' (looked for: loops, veiled, ifaces, maps, wideKeys, modest, calm, conditions, laid).
  DERIVED. THE GIVEN ROWS OF THIS SEAT. 11 by the template 'for every input the law returns true; each argument reads behind the call as it read before'; 0 by the template 'total and deterministic' (their statements: YtalncokpbgbccaaTotals.lean).
  GIVEN WITH THE SEED: the statements are not yours to turn. If you find one false, say at which input.
  Laid BY PROGRAM, IN A SANDBOX (cutbox-rows.mjs): the forced cells as the released guide's own fill.sh prints them over the translation 4b9e31d523245b17… (all of the seat's roots in one cut). By AI agents, Wed Nov 11 2026. No macro, syntax, notation, axiom, sorry.
-/
import Derived.Test.YtalncokpbgbccaaChecked
import GoSem.Claim
import GoSem.ClaimJoined
import GoSem.ClaimMapViews
import Derived.JoinedTies
import Derived.KernelRfl
namespace Go.Proofs.Ytalncokpbgbccaa
/- THE CELL 'sum', in the pinned program and in every row, IS THE sha256 OF THE DUMP (.gsa) THAT YtalncokpbgbccaaProg.lean LOADS. Nothing in Lean hashes anything: it is a label: what it is worth is what the hold of that sum in a sandbox is worth. -/
noncomputable def Try.pinned : Pinned := { name := "ytalncokpbgbccaa", sum := "4b9e31d523245b176dcb74b0ce830a3d7ec81a437892a4345a4b18f0ab8e6d79", checked := Try.checked }
namespace Rows
def none {H : Type} : Left H := { results := [], args := [] }

/-- 'understorylaw06.NodeOrders': WHATEVER THE INPUT: true; the input reads as it did. -/
def nodeOrdersSpec : ChangeSpec := { name := "nodeOrders", fn := fun _ => fun
  | [d1, d2, d3, d4] => { results := [.lit (.bool true)], args := [d1, d2, d3, d4] }
  | _ => none }
def nodeOrdersRow : OpenClaim := { program := "ytalncokpbgbccaa", sum := "4b9e31d523245b176dcb74b0ce830a3d7ec81a437892a4345a4b18f0ab8e6d79", func := "understory/understorylaw06.NodeOrders", spec := "nodeOrders", unfollowed := true, recurses := true, apart := false }
def NodeOrdersSaid : Prop := nodeOrdersRow.holds Try.pinned (OpenSpec.ofChange nodeOrdersSpec)

/-- ITS FALSE NEIGHBOUR: 'it returns false'. Refute it at one input. -/
def nodeOrdersWrong : ChangeSpec := { name := "nodeOrders", fn := fun _ => fun
  | [d1, d2, d3, d4] => { results := [.lit (.bool false)], args := [d1, d2, d3, d4] }
  | _ => none }
def NodeOrdersWrongFalsely : Prop := nodeOrdersRow.holds Try.pinned (OpenSpec.ofChange nodeOrdersWrong)

/-- 'understorylaw06.NodeSearches': WHATEVER THE INPUT: true; the input reads as it did. -/
def nodeSearchesSpec : ChangeSpec := { name := "nodeSearches", fn := fun _ => fun
  | [d1, d2, d3, d4, d5, d6] => { results := [.lit (.bool true)], args := [d1, d2, d3, d4, d5, d6] }
  | _ => none }
def nodeSearchesRow : OpenClaim := { program := "ytalncokpbgbccaa", sum := "4b9e31d523245b176dcb74b0ce830a3d7ec81a437892a4345a4b18f0ab8e6d79", func := "understory/understorylaw06.NodeSearches", spec := "nodeSearches", unfollowed := true, recurses := true, apart := false }
def NodeSearchesSaid : Prop := nodeSearchesRow.holds Try.pinned (OpenSpec.ofChange nodeSearchesSpec)

/-- ITS FALSE NEIGHBOUR: 'it returns false'. Refute it at one input. -/
def nodeSearchesWrong : ChangeSpec := { name := "nodeSearches", fn := fun _ => fun
  | [d1, d2, d3, d4, d5, d6] => { results := [.lit (.bool false)], args := [d1, d2, d3, d4, d5, d6] }
  | _ => none }
def NodeSearchesWrongFalsely : Prop := nodeSearchesRow.holds Try.pinned (OpenSpec.ofChange nodeSearchesWrong)

/-- 'understorylaw06.NodeReplaces': WHATEVER THE INPUT: true; the input reads as it did. -/
def nodeReplacesSpec : ChangeSpec := { name := "nodeReplaces", fn := fun _ => fun
  | [d1, d2, d3, d4, d5] => { results := [.lit (.bool true)], args := [d1, d2, d3, d4, d5] }
  | _ => none }
def nodeReplacesRow : OpenClaim := { program := "ytalncokpbgbccaa", sum := "4b9e31d523245b176dcb74b0ce830a3d7ec81a437892a4345a4b18f0ab8e6d79", func := "understory/understorylaw06.NodeReplaces", spec := "nodeReplaces", unfollowed := true, recurses := true, apart := false }
def NodeReplacesSaid : Prop := nodeReplacesRow.holds Try.pinned (OpenSpec.ofChange nodeReplacesSpec)

/-- ITS FALSE NEIGHBOUR: 'it returns false'. Refute it at one input. -/
def nodeReplacesWrong : ChangeSpec := { name := "nodeReplaces", fn := fun _ => fun
  | [d1, d2, d3, d4, d5] => { results := [.lit (.bool false)], args := [d1, d2, d3, d4, d5] }
  | _ => none }
def NodeReplacesWrongFalsely : Prop := nodeReplacesRow.holds Try.pinned (OpenSpec.ofChange nodeReplacesWrong)

/-- 'understorylaw06.NodePacks': WHATEVER THE INPUT: true; the input reads as it did. -/
def nodePacksSpec : ChangeSpec := { name := "nodePacks", fn := fun _ => fun
  | [d1, d2, d3, d4] => { results := [.lit (.bool true)], args := [d1, d2, d3, d4] }
  | _ => none }
def nodePacksRow : OpenClaim := { program := "ytalncokpbgbccaa", sum := "4b9e31d523245b176dcb74b0ce830a3d7ec81a437892a4345a4b18f0ab8e6d79", func := "understory/understorylaw06.NodePacks", spec := "nodePacks", unfollowed := true, recurses := true, apart := false }
def NodePacksSaid : Prop := nodePacksRow.holds Try.pinned (OpenSpec.ofChange nodePacksSpec)

/-- ITS FALSE NEIGHBOUR: 'it returns false'. Refute it at one input. -/
def nodePacksWrong : ChangeSpec := { name := "nodePacks", fn := fun _ => fun
  | [d1, d2, d3, d4] => { results := [.lit (.bool false)], args := [d1, d2, d3, d4] }
  | _ => none }
def NodePacksWrongFalsely : Prop := nodePacksRow.holds Try.pinned (OpenSpec.ofChange nodePacksWrong)

/-- 'understorylaw06.NodeSeparates': WHATEVER THE INPUT: true; the input reads as it did. -/
def nodeSeparatesSpec : ChangeSpec := { name := "nodeSeparates", fn := fun _ => fun
  | [d1, d2] => { results := [.lit (.bool true)], args := [d1, d2] }
  | _ => none }
def nodeSeparatesRow : OpenClaim := { program := "ytalncokpbgbccaa", sum := "4b9e31d523245b176dcb74b0ce830a3d7ec81a437892a4345a4b18f0ab8e6d79", func := "understory/understorylaw06.NodeSeparates", spec := "nodeSeparates", unfollowed := true, recurses := true, apart := false }
def NodeSeparatesSaid : Prop := nodeSeparatesRow.holds Try.pinned (OpenSpec.ofChange nodeSeparatesSpec)

/-- ITS FALSE NEIGHBOUR: 'it returns false'. Refute it at one input. -/
def nodeSeparatesWrong : ChangeSpec := { name := "nodeSeparates", fn := fun _ => fun
  | [d1, d2] => { results := [.lit (.bool false)], args := [d1, d2] }
  | _ => none }
def NodeSeparatesWrongFalsely : Prop := nodeSeparatesRow.holds Try.pinned (OpenSpec.ofChange nodeSeparatesWrong)

/-- 'understorylaw06.NodeRanks': WHATEVER THE INPUT: true; the input reads as it did. -/
def nodeRanksSpec : ChangeSpec := { name := "nodeRanks", fn := fun _ => fun
  | [d1, d2] => { results := [.lit (.bool true)], args := [d1, d2] }
  | _ => none }
def nodeRanksRow : OpenClaim := { program := "ytalncokpbgbccaa", sum := "4b9e31d523245b176dcb74b0ce830a3d7ec81a437892a4345a4b18f0ab8e6d79", func := "understory/understorylaw06.NodeRanks", spec := "nodeRanks", unfollowed := true, recurses := true, apart := false }
def NodeRanksSaid : Prop := nodeRanksRow.holds Try.pinned (OpenSpec.ofChange nodeRanksSpec)

/-- ITS FALSE NEIGHBOUR: 'it returns false'. Refute it at one input. -/
def nodeRanksWrong : ChangeSpec := { name := "nodeRanks", fn := fun _ => fun
  | [d1, d2] => { results := [.lit (.bool false)], args := [d1, d2] }
  | _ => none }
def NodeRanksWrongFalsely : Prop := nodeRanksRow.holds Try.pinned (OpenSpec.ofChange nodeRanksWrong)

/-- 'understorylaw06.NodeDivides': WHATEVER THE INPUT: true; the input reads as it did. -/
def nodeDividesSpec : ChangeSpec := { name := "nodeDivides", fn := fun _ => fun
  | [d1, d2] => { results := [.lit (.bool true)], args := [d1, d2] }
  | _ => none }
def nodeDividesRow : OpenClaim := { program := "ytalncokpbgbccaa", sum := "4b9e31d523245b176dcb74b0ce830a3d7ec81a437892a4345a4b18f0ab8e6d79", func := "understory/understorylaw06.NodeDivides", spec := "nodeDivides", unfollowed := true, recurses := true, apart := false }
def NodeDividesSaid : Prop := nodeDividesRow.holds Try.pinned (OpenSpec.ofChange nodeDividesSpec)

/-- ITS FALSE NEIGHBOUR: 'it returns false'. Refute it at one input. -/
def nodeDividesWrong : ChangeSpec := { name := "nodeDivides", fn := fun _ => fun
  | [d1, d2] => { results := [.lit (.bool false)], args := [d1, d2] }
  | _ => none }
def NodeDividesWrongFalsely : Prop := nodeDividesRow.holds Try.pinned (OpenSpec.ofChange nodeDividesWrong)

/-- 'understorylaw06.NodeNeighbours': WHATEVER THE INPUT: true; the input reads as it did. -/
def nodeNeighboursSpec : ChangeSpec := { name := "nodeNeighbours", fn := fun _ => fun
  | [d1, d2, d3, d4, d5] => { results := [.lit (.bool true)], args := [d1, d2, d3, d4, d5] }
  | _ => none }
def nodeNeighboursRow : OpenClaim := { program := "ytalncokpbgbccaa", sum := "4b9e31d523245b176dcb74b0ce830a3d7ec81a437892a4345a4b18f0ab8e6d79", func := "understory/understorylaw06.NodeNeighbours", spec := "nodeNeighbours", unfollowed := true, recurses := true, apart := false }
def NodeNeighboursSaid : Prop := nodeNeighboursRow.holds Try.pinned (OpenSpec.ofChange nodeNeighboursSpec)

/-- ITS FALSE NEIGHBOUR: 'it returns false'. Refute it at one input. -/
def nodeNeighboursWrong : ChangeSpec := { name := "nodeNeighbours", fn := fun _ => fun
  | [d1, d2, d3, d4, d5] => { results := [.lit (.bool false)], args := [d1, d2, d3, d4, d5] }
  | _ => none }
def NodeNeighboursWrongFalsely : Prop := nodeNeighboursRow.holds Try.pinned (OpenSpec.ofChange nodeNeighboursWrong)

/-- 'understorylaw06.NodeFinds': WHATEVER THE INPUT: true; the input reads as it did. -/
def nodeFindsSpec : ChangeSpec := { name := "nodeFinds", fn := fun _ => fun
  | [d1, d2, d3, d4, d5] => { results := [.lit (.bool true)], args := [d1, d2, d3, d4, d5] }
  | _ => none }
def nodeFindsRow : OpenClaim := { program := "ytalncokpbgbccaa", sum := "4b9e31d523245b176dcb74b0ce830a3d7ec81a437892a4345a4b18f0ab8e6d79", func := "understory/understorylaw06.NodeFinds", spec := "nodeFinds", inPlace := ["slices.overlaps[understory/api.Entry]"], unfollowed := true, recurses := true, apart := false }
def NodeFindsSaid : Prop := nodeFindsRow.holds Try.pinned (OpenSpec.ofChange nodeFindsSpec)

/-- ITS FALSE NEIGHBOUR: 'it returns false'. Refute it at one input. -/
def nodeFindsWrong : ChangeSpec := { name := "nodeFinds", fn := fun _ => fun
  | [d1, d2, d3, d4, d5] => { results := [.lit (.bool false)], args := [d1, d2, d3, d4, d5] }
  | _ => none }
def NodeFindsWrongFalsely : Prop := nodeFindsRow.holds Try.pinned (OpenSpec.ofChange nodeFindsWrong)

/-- 'understorylaw06.NodeCommutes': WHATEVER THE INPUT: true; the input reads as it did. -/
def nodeCommutesSpec : ChangeSpec := { name := "nodeCommutes", fn := fun _ => fun
  | [d1, d2, d3] => { results := [.lit (.bool true)], args := [d1, d2, d3] }
  | _ => none }
def nodeCommutesRow : OpenClaim := { program := "ytalncokpbgbccaa", sum := "4b9e31d523245b176dcb74b0ce830a3d7ec81a437892a4345a4b18f0ab8e6d79", func := "understory/understorylaw06.NodeCommutes", spec := "nodeCommutes", inPlace := ["slices.overlaps[understory/api.Entry]"], unfollowed := true, recurses := true, apart := false }
def NodeCommutesSaid : Prop := nodeCommutesRow.holds Try.pinned (OpenSpec.ofChange nodeCommutesSpec)

/-- ITS FALSE NEIGHBOUR: 'it returns false'. Refute it at one input. -/
def nodeCommutesWrong : ChangeSpec := { name := "nodeCommutes", fn := fun _ => fun
  | [d1, d2, d3] => { results := [.lit (.bool false)], args := [d1, d2, d3] }
  | _ => none }
def NodeCommutesWrongFalsely : Prop := nodeCommutesRow.holds Try.pinned (OpenSpec.ofChange nodeCommutesWrong)

/-- 'understorylaw06.NodeChanges': WHATEVER THE INPUT: true; the input reads as it did. -/
def nodeChangesSpec : ChangeSpec := { name := "nodeChanges", fn := fun _ => fun
  | [d1, d2, d3, d4, d5] => { results := [.lit (.bool true)], args := [d1, d2, d3, d4, d5] }
  | _ => none }
def nodeChangesRow : OpenClaim := { program := "ytalncokpbgbccaa", sum := "4b9e31d523245b176dcb74b0ce830a3d7ec81a437892a4345a4b18f0ab8e6d79", func := "understory/understorylaw06.NodeChanges", spec := "nodeChanges", inPlace := ["slices.overlaps[understory/api.Entry]"], unfollowed := true, recurses := true, apart := false }
def NodeChangesSaid : Prop := nodeChangesRow.holds Try.pinned (OpenSpec.ofChange nodeChangesSpec)

/-- ITS FALSE NEIGHBOUR: 'it returns false'. Refute it at one input. -/
def nodeChangesWrong : ChangeSpec := { name := "nodeChanges", fn := fun _ => fun
  | [d1, d2, d3, d4, d5] => { results := [.lit (.bool false)], args := [d1, d2, d3, d4, d5] }
  | _ => none }
def NodeChangesWrongFalsely : Prop := nodeChangesRow.holds Try.pinned (OpenSpec.ofChange nodeChangesWrong)

/- THE SECOND FORM. 'bulk': how many values and letters a reading holds, each counted each time it is reached (what is shared counts as often as it is met; a slice's spare places count too). A statement '..UptoSaid' is the law's where the arguments, and the package variables that the reading takes, are together of bulk at most 1048576: NARROWER than '..Said'. Prove '..Said' where nothing that the law and all that it calls make is longer than what came in: it says more and counts as full. Else prove '..UptoSaid'. A law counts once. -/
mutual
def uptoBulk {H : Type} : DataW H → Nat
  | .lit (.string bytes) => bytes.length + 1
  | .lit _ => 1
  | .nil => 1
  | .ptr d => uptoBulk d + 1
  | .slice elems spare => uptoBulkAll elems + uptoBulkAll spare + 1
  | .agg parts => uptoBulkAll parts + 1
  | .iface _ d => uptoBulk d + 1
  | .map entries => uptoBulkEntries entries + 1
  | .held _ => 1
def uptoBulkAll {H : Type} : List (DataW H) → Nat
  | [] => 0
  | d :: r => uptoBulk d + uptoBulkAll r
def uptoBulkEntries {H : Type} : List (Lit × DataW H) → Nat
  | [] => 0
  | x :: r => uptoBulkEntry x + uptoBulkEntries r
def uptoBulkEntry {H : Type} : Lit × DataW H → Nat
  | (.string bytes, d) => bytes.length + uptoBulk d + 1
  | (_, d) => uptoBulk d + 1
 end
def uptoSmall : (H : Type) → List (DataW H) → Bool := fun _ ds => decide (uptoBulkAll ds ≤ 1048576)
def OpenSpec.upto (s : _root_.Go.ChangeSpec) : _root_.Go.OpenSpec := { _root_.Go.OpenSpec.ofChange s with cond := some uptoSmall }

/-- 'understorylaw06.NodeOrders', WHERE WHAT IT READS IS OF BULK AT MOST 1048576: true; the input reads as it did. -/
def nodeOrdersUptoRow : OpenClaim := { program := "ytalncokpbgbccaa", sum := "4b9e31d523245b176dcb74b0ce830a3d7ec81a437892a4345a4b18f0ab8e6d79", func := "understory/understorylaw06.NodeOrders", spec := "nodeOrders", unfollowed := true, recurses := true, apart := false, narrowed := true }
def NodeOrdersUptoSaid : Prop := nodeOrdersUptoRow.holds Try.pinned (OpenSpec.upto nodeOrdersSpec)

/-- 'understorylaw06.NodeSearches', WHERE WHAT IT READS IS OF BULK AT MOST 1048576: true; the input reads as it did. -/
def nodeSearchesUptoRow : OpenClaim := { program := "ytalncokpbgbccaa", sum := "4b9e31d523245b176dcb74b0ce830a3d7ec81a437892a4345a4b18f0ab8e6d79", func := "understory/understorylaw06.NodeSearches", spec := "nodeSearches", unfollowed := true, recurses := true, apart := false, narrowed := true }
def NodeSearchesUptoSaid : Prop := nodeSearchesUptoRow.holds Try.pinned (OpenSpec.upto nodeSearchesSpec)

/-- 'understorylaw06.NodeReplaces', WHERE WHAT IT READS IS OF BULK AT MOST 1048576: true; the input reads as it did. -/
def nodeReplacesUptoRow : OpenClaim := { program := "ytalncokpbgbccaa", sum := "4b9e31d523245b176dcb74b0ce830a3d7ec81a437892a4345a4b18f0ab8e6d79", func := "understory/understorylaw06.NodeReplaces", spec := "nodeReplaces", unfollowed := true, recurses := true, apart := false, narrowed := true }
def NodeReplacesUptoSaid : Prop := nodeReplacesUptoRow.holds Try.pinned (OpenSpec.upto nodeReplacesSpec)

/-- 'understorylaw06.NodePacks', WHERE WHAT IT READS IS OF BULK AT MOST 1048576: true; the input reads as it did. -/
def nodePacksUptoRow : OpenClaim := { program := "ytalncokpbgbccaa", sum := "4b9e31d523245b176dcb74b0ce830a3d7ec81a437892a4345a4b18f0ab8e6d79", func := "understory/understorylaw06.NodePacks", spec := "nodePacks", unfollowed := true, recurses := true, apart := false, narrowed := true }
def NodePacksUptoSaid : Prop := nodePacksUptoRow.holds Try.pinned (OpenSpec.upto nodePacksSpec)

/-- 'understorylaw06.NodeSeparates', WHERE WHAT IT READS IS OF BULK AT MOST 1048576: true; the input reads as it did. -/
def nodeSeparatesUptoRow : OpenClaim := { program := "ytalncokpbgbccaa", sum := "4b9e31d523245b176dcb74b0ce830a3d7ec81a437892a4345a4b18f0ab8e6d79", func := "understory/understorylaw06.NodeSeparates", spec := "nodeSeparates", unfollowed := true, recurses := true, apart := false, narrowed := true }
def NodeSeparatesUptoSaid : Prop := nodeSeparatesUptoRow.holds Try.pinned (OpenSpec.upto nodeSeparatesSpec)

/-- 'understorylaw06.NodeRanks', WHERE WHAT IT READS IS OF BULK AT MOST 1048576: true; the input reads as it did. -/
def nodeRanksUptoRow : OpenClaim := { program := "ytalncokpbgbccaa", sum := "4b9e31d523245b176dcb74b0ce830a3d7ec81a437892a4345a4b18f0ab8e6d79", func := "understory/understorylaw06.NodeRanks", spec := "nodeRanks", unfollowed := true, recurses := true, apart := false, narrowed := true }
def NodeRanksUptoSaid : Prop := nodeRanksUptoRow.holds Try.pinned (OpenSpec.upto nodeRanksSpec)

/-- 'understorylaw06.NodeDivides', WHERE WHAT IT READS IS OF BULK AT MOST 1048576: true; the input reads as it did. -/
def nodeDividesUptoRow : OpenClaim := { program := "ytalncokpbgbccaa", sum := "4b9e31d523245b176dcb74b0ce830a3d7ec81a437892a4345a4b18f0ab8e6d79", func := "understory/understorylaw06.NodeDivides", spec := "nodeDivides", unfollowed := true, recurses := true, apart := false, narrowed := true }
def NodeDividesUptoSaid : Prop := nodeDividesUptoRow.holds Try.pinned (OpenSpec.upto nodeDividesSpec)

/-- 'understorylaw06.NodeNeighbours', WHERE WHAT IT READS IS OF BULK AT MOST 1048576: true; the input reads as it did. -/
def nodeNeighboursUptoRow : OpenClaim := { program := "ytalncokpbgbccaa", sum := "4b9e31d523245b176dcb74b0ce830a3d7ec81a437892a4345a4b18f0ab8e6d79", func := "understory/understorylaw06.NodeNeighbours", spec := "nodeNeighbours", unfollowed := true, recurses := true, apart := false, narrowed := true }
def NodeNeighboursUptoSaid : Prop := nodeNeighboursUptoRow.holds Try.pinned (OpenSpec.upto nodeNeighboursSpec)

/-- 'understorylaw06.NodeFinds', WHERE WHAT IT READS IS OF BULK AT MOST 1048576: true; the input reads as it did. -/
def nodeFindsUptoRow : OpenClaim := { program := "ytalncokpbgbccaa", sum := "4b9e31d523245b176dcb74b0ce830a3d7ec81a437892a4345a4b18f0ab8e6d79", func := "understory/understorylaw06.NodeFinds", spec := "nodeFinds", inPlace := ["slices.overlaps[understory/api.Entry]"], unfollowed := true, recurses := true, apart := false, narrowed := true }
def NodeFindsUptoSaid : Prop := nodeFindsUptoRow.holds Try.pinned (OpenSpec.upto nodeFindsSpec)

/-- 'understorylaw06.NodeCommutes', WHERE WHAT IT READS IS OF BULK AT MOST 1048576: true; the input reads as it did. -/
def nodeCommutesUptoRow : OpenClaim := { program := "ytalncokpbgbccaa", sum := "4b9e31d523245b176dcb74b0ce830a3d7ec81a437892a4345a4b18f0ab8e6d79", func := "understory/understorylaw06.NodeCommutes", spec := "nodeCommutes", inPlace := ["slices.overlaps[understory/api.Entry]"], unfollowed := true, recurses := true, apart := false, narrowed := true }
def NodeCommutesUptoSaid : Prop := nodeCommutesUptoRow.holds Try.pinned (OpenSpec.upto nodeCommutesSpec)

/-- 'understorylaw06.NodeChanges', WHERE WHAT IT READS IS OF BULK AT MOST 1048576: true; the input reads as it did. -/
def nodeChangesUptoRow : OpenClaim := { program := "ytalncokpbgbccaa", sum := "4b9e31d523245b176dcb74b0ce830a3d7ec81a437892a4345a4b18f0ab8e6d79", func := "understory/understorylaw06.NodeChanges", spec := "nodeChanges", inPlace := ["slices.overlaps[understory/api.Entry]"], unfollowed := true, recurses := true, apart := false, narrowed := true }
def NodeChangesUptoSaid : Prop := nodeChangesUptoRow.holds Try.pinned (OpenSpec.upto nodeChangesSpec)

end Rows
end Go.Proofs.Ytalncokpbgbccaa
