/-
  No cell of these rows narrows 'for every input' (looked for: loops, veiled, ifaces, maps, wideKeys, modest, calm, conditions, laid).
  DERIVED. THE GIVEN ROWS OF THIS SEAT. 12 by the template 'for every input the law returns true; each argument reads behind the call as it read before'; 0 by the template 'total and deterministic' (their statements: YtljofnmgddfljaaTotals.lean).
  GIVEN WITH THE SEED: the statements are not yours to turn. If you find one false, say at which input.
  Laid BY PROGRAM, IN A SANDBOX (cutbox-rows.mjs): the forced cells as the released guide's own fill.sh prints them over the translation 589613619fe9b4e5… (all of the seat's roots in one cut). By AI agents, Wed Nov 11 2026. No macro, syntax, notation, axiom, sorry.
-/
import Derived.Test.YtljofnmgddfljaaChecked
import GoSem.Claim
import GoSem.ClaimJoined
import GoSem.ClaimMapViews
import Derived.JoinedTies
import Derived.KernelRfl
namespace Go.Proofs.Ytljofnmgddfljaa
/- THE CELL 'sum', in the pinned program and in every row, IS THE sha256 OF THE DUMP (.gsa) THAT YtljofnmgddfljaaProg.lean LOADS. Nothing in Lean hashes anything: it is a label: what it is worth is what the hold of that sum in a sandbox is worth. -/
noncomputable def Try.pinned : Pinned := { name := "ytljofnmgddfljaa", sum := "589613619fe9b4e5aed32f1fef9d87efdf7d43ef1c1e4ace1d68ae97208941ce", checked := Try.checked }
namespace Rows
def none {H : Type} : Left H := { results := [], args := [] }

/-- 'wormtublaw07.HouseSplit': WHATEVER THE INPUT: true; the input reads as it did. -/
def houseSplitSpec : ChangeSpec := { name := "houseSplit", fn := fun _ => fun
  | [d1, d2, d3, d4, d5, d6] => { results := [.lit (.bool true)], args := [d1, d2, d3, d4, d5, d6] }
  | _ => none }
def houseSplitRow : OpenClaim := { program := "ytljofnmgddfljaa", sum := "589613619fe9b4e5aed32f1fef9d87efdf7d43ef1c1e4ace1d68ae97208941ce", func := "wormtub/wormtublaw07.HouseSplit", spec := "houseSplit", unfollowed := true, recurses := true, apart := false }
def HouseSplitSaid : Prop := houseSplitRow.holds Try.pinned (OpenSpec.ofChange houseSplitSpec)

/-- ITS FALSE NEIGHBOUR: 'it returns false'. Refute it at one input. -/
def houseSplitWrong : ChangeSpec := { name := "houseSplit", fn := fun _ => fun
  | [d1, d2, d3, d4, d5, d6] => { results := [.lit (.bool false)], args := [d1, d2, d3, d4, d5, d6] }
  | _ => none }
def HouseSplitWrongFalsely : Prop := houseSplitRow.holds Try.pinned (OpenSpec.ofChange houseSplitWrong)

/-- 'wormtublaw07.HouseMeasures': WHATEVER THE INPUT: true; the input reads as it did. -/
def houseMeasuresSpec : ChangeSpec := { name := "houseMeasures", fn := fun _ => fun
  | [d1, d2, d3, d4] => { results := [.lit (.bool true)], args := [d1, d2, d3, d4] }
  | _ => none }
def houseMeasuresRow : OpenClaim := { program := "ytljofnmgddfljaa", sum := "589613619fe9b4e5aed32f1fef9d87efdf7d43ef1c1e4ace1d68ae97208941ce", func := "wormtub/wormtublaw07.HouseMeasures", spec := "houseMeasures", unfollowed := true, recurses := true, apart := false }
def HouseMeasuresSaid : Prop := houseMeasuresRow.holds Try.pinned (OpenSpec.ofChange houseMeasuresSpec)

/-- ITS FALSE NEIGHBOUR: 'it returns false'. Refute it at one input. -/
def houseMeasuresWrong : ChangeSpec := { name := "houseMeasures", fn := fun _ => fun
  | [d1, d2, d3, d4] => { results := [.lit (.bool false)], args := [d1, d2, d3, d4] }
  | _ => none }
def HouseMeasuresWrongFalsely : Prop := houseMeasuresRow.holds Try.pinned (OpenSpec.ofChange houseMeasuresWrong)

/-- 'wormtublaw07.HouseFound': WHATEVER THE INPUT: true; the input reads as it did. -/
def houseFoundSpec : ChangeSpec := { name := "houseFound", fn := fun _ => fun
  | [d1, d2, d3, d4, d5, d6, d7, d8] => { results := [.lit (.bool true)], args := [d1, d2, d3, d4, d5, d6, d7, d8] }
  | _ => none }
def houseFoundRow : OpenClaim := { program := "ytljofnmgddfljaa", sum := "589613619fe9b4e5aed32f1fef9d87efdf7d43ef1c1e4ace1d68ae97208941ce", func := "wormtub/wormtublaw07.HouseFound", spec := "houseFound", unfollowed := true, recurses := true, apart := false }
def HouseFoundSaid : Prop := houseFoundRow.holds Try.pinned (OpenSpec.ofChange houseFoundSpec)

/-- ITS FALSE NEIGHBOUR: 'it returns false'. Refute it at one input. -/
def houseFoundWrong : ChangeSpec := { name := "houseFound", fn := fun _ => fun
  | [d1, d2, d3, d4, d5, d6, d7, d8] => { results := [.lit (.bool false)], args := [d1, d2, d3, d4, d5, d6, d7, d8] }
  | _ => none }
def HouseFoundWrongFalsely : Prop := houseFoundRow.holds Try.pinned (OpenSpec.ofChange houseFoundWrong)

/-- 'wormtublaw07.HouseWrong': WHATEVER THE INPUT: true; the input reads as it did. -/
def houseWrongSpec : ChangeSpec := { name := "houseWrong", fn := fun _ => fun
  | [d1, d2, d3, d4, d5] => { results := [.lit (.bool true)], args := [d1, d2, d3, d4, d5] }
  | _ => none }
def houseWrongRow : OpenClaim := { program := "ytljofnmgddfljaa", sum := "589613619fe9b4e5aed32f1fef9d87efdf7d43ef1c1e4ace1d68ae97208941ce", func := "wormtub/wormtublaw07.HouseWrong", spec := "houseWrong", unfollowed := true, recurses := true, apart := false }
def HouseWrongSaid : Prop := houseWrongRow.holds Try.pinned (OpenSpec.ofChange houseWrongSpec)

/-- ITS FALSE NEIGHBOUR: 'it returns false'. Refute it at one input. -/
def houseWrongWrong : ChangeSpec := { name := "houseWrong", fn := fun _ => fun
  | [d1, d2, d3, d4, d5] => { results := [.lit (.bool false)], args := [d1, d2, d3, d4, d5] }
  | _ => none }
def HouseWrongWrongFalsely : Prop := houseWrongRow.holds Try.pinned (OpenSpec.ofChange houseWrongWrong)

/-- 'wormtublaw07.HouseTrue': WHATEVER THE INPUT: true; the input reads as it did. -/
def houseTrueSpec : ChangeSpec := { name := "houseTrue", fn := fun _ => fun
  | [d1, d2, d3, d4, d5] => { results := [.lit (.bool true)], args := [d1, d2, d3, d4, d5] }
  | _ => none }
def houseTrueRow : OpenClaim := { program := "ytljofnmgddfljaa", sum := "589613619fe9b4e5aed32f1fef9d87efdf7d43ef1c1e4ace1d68ae97208941ce", func := "wormtub/wormtublaw07.HouseTrue", spec := "houseTrue", unfollowed := true, recurses := true, apart := false }
def HouseTrueSaid : Prop := houseTrueRow.holds Try.pinned (OpenSpec.ofChange houseTrueSpec)

/-- ITS FALSE NEIGHBOUR: 'it returns false'. Refute it at one input. -/
def houseTrueWrong : ChangeSpec := { name := "houseTrue", fn := fun _ => fun
  | [d1, d2, d3, d4, d5] => { results := [.lit (.bool false)], args := [d1, d2, d3, d4, d5] }
  | _ => none }
def HouseTrueWrongFalsely : Prop := houseTrueRow.holds Try.pinned (OpenSpec.ofChange houseTrueWrong)

/-- 'wormtublaw07.HouseAgain': WHATEVER THE INPUT: true; the input reads as it did. -/
def houseAgainSpec : ChangeSpec := { name := "houseAgain", fn := fun _ => fun
  | [d1, d2, d3, d4] => { results := [.lit (.bool true)], args := [d1, d2, d3, d4] }
  | _ => none }
def houseAgainRow : OpenClaim := { program := "ytljofnmgddfljaa", sum := "589613619fe9b4e5aed32f1fef9d87efdf7d43ef1c1e4ace1d68ae97208941ce", func := "wormtub/wormtublaw07.HouseAgain", spec := "houseAgain", unfollowed := true, recurses := true, apart := false }
def HouseAgainSaid : Prop := houseAgainRow.holds Try.pinned (OpenSpec.ofChange houseAgainSpec)

/-- ITS FALSE NEIGHBOUR: 'it returns false'. Refute it at one input. -/
def houseAgainWrong : ChangeSpec := { name := "houseAgain", fn := fun _ => fun
  | [d1, d2, d3, d4] => { results := [.lit (.bool false)], args := [d1, d2, d3, d4] }
  | _ => none }
def HouseAgainWrongFalsely : Prop := houseAgainRow.holds Try.pinned (OpenSpec.ofChange houseAgainWrong)

/-- 'wormtublaw07.HouseWeak': WHATEVER THE INPUT: true; the input reads as it did. -/
def houseWeakSpec : ChangeSpec := { name := "houseWeak", fn := fun _ => fun
  | [d1, d2, d3, d4, d5, d6] => { results := [.lit (.bool true)], args := [d1, d2, d3, d4, d5, d6] }
  | _ => none }
def houseWeakRow : OpenClaim := { program := "ytljofnmgddfljaa", sum := "589613619fe9b4e5aed32f1fef9d87efdf7d43ef1c1e4ace1d68ae97208941ce", func := "wormtub/wormtublaw07.HouseWeak", spec := "houseWeak", unfollowed := true, recurses := true, apart := false }
def HouseWeakSaid : Prop := houseWeakRow.holds Try.pinned (OpenSpec.ofChange houseWeakSpec)

/-- ITS FALSE NEIGHBOUR: 'it returns false'. Refute it at one input. -/
def houseWeakWrong : ChangeSpec := { name := "houseWeak", fn := fun _ => fun
  | [d1, d2, d3, d4, d5, d6] => { results := [.lit (.bool false)], args := [d1, d2, d3, d4, d5, d6] }
  | _ => none }
def HouseWeakWrongFalsely : Prop := houseWeakRow.holds Try.pinned (OpenSpec.ofChange houseWeakWrong)

/-- 'wormtublaw07.HouseDays': WHATEVER THE INPUT: true; the input reads as it did. -/
def houseDaysSpec : ChangeSpec := { name := "houseDays", fn := fun _ => fun
  | [d1, d2, d3, d4, d5, d6] => { results := [.lit (.bool true)], args := [d1, d2, d3, d4, d5, d6] }
  | _ => none }
def houseDaysRow : OpenClaim := { program := "ytljofnmgddfljaa", sum := "589613619fe9b4e5aed32f1fef9d87efdf7d43ef1c1e4ace1d68ae97208941ce", func := "wormtub/wormtublaw07.HouseDays", spec := "houseDays", unfollowed := true, recurses := true, apart := false }
def HouseDaysSaid : Prop := houseDaysRow.holds Try.pinned (OpenSpec.ofChange houseDaysSpec)

/-- ITS FALSE NEIGHBOUR: 'it returns false'. Refute it at one input. -/
def houseDaysWrong : ChangeSpec := { name := "houseDays", fn := fun _ => fun
  | [d1, d2, d3, d4, d5, d6] => { results := [.lit (.bool false)], args := [d1, d2, d3, d4, d5, d6] }
  | _ => none }
def HouseDaysWrongFalsely : Prop := houseDaysRow.holds Try.pinned (OpenSpec.ofChange houseDaysWrong)

/-- 'wormtublaw07.HouseFloors': WHATEVER THE INPUT: true; the input reads as it did. -/
def houseFloorsSpec : ChangeSpec := { name := "houseFloors", fn := fun _ => fun
  | [d1, d2, d3] => { results := [.lit (.bool true)], args := [d1, d2, d3] }
  | _ => none }
def houseFloorsRow : OpenClaim := { program := "ytljofnmgddfljaa", sum := "589613619fe9b4e5aed32f1fef9d87efdf7d43ef1c1e4ace1d68ae97208941ce", func := "wormtub/wormtublaw07.HouseFloors", spec := "houseFloors", unfollowed := true, recurses := true, apart := false }
def HouseFloorsSaid : Prop := houseFloorsRow.holds Try.pinned (OpenSpec.ofChange houseFloorsSpec)

/-- ITS FALSE NEIGHBOUR: 'it returns false'. Refute it at one input. -/
def houseFloorsWrong : ChangeSpec := { name := "houseFloors", fn := fun _ => fun
  | [d1, d2, d3] => { results := [.lit (.bool false)], args := [d1, d2, d3] }
  | _ => none }
def HouseFloorsWrongFalsely : Prop := houseFloorsRow.holds Try.pinned (OpenSpec.ofChange houseFloorsWrong)

/-- 'wormtublaw07.HouseFollows': WHATEVER THE INPUT: true; the input reads as it did. -/
def houseFollowsSpec : ChangeSpec := { name := "houseFollows", fn := fun _ => fun
  | [d1, d2, d3, d4, d5] => { results := [.lit (.bool true)], args := [d1, d2, d3, d4, d5] }
  | _ => none }
def houseFollowsRow : OpenClaim := { program := "ytljofnmgddfljaa", sum := "589613619fe9b4e5aed32f1fef9d87efdf7d43ef1c1e4ace1d68ae97208941ce", func := "wormtub/wormtublaw07.HouseFollows", spec := "houseFollows", unfollowed := true, recurses := true, apart := false }
def HouseFollowsSaid : Prop := houseFollowsRow.holds Try.pinned (OpenSpec.ofChange houseFollowsSpec)

/-- ITS FALSE NEIGHBOUR: 'it returns false'. Refute it at one input. -/
def houseFollowsWrong : ChangeSpec := { name := "houseFollows", fn := fun _ => fun
  | [d1, d2, d3, d4, d5] => { results := [.lit (.bool false)], args := [d1, d2, d3, d4, d5] }
  | _ => none }
def HouseFollowsWrongFalsely : Prop := houseFollowsRow.holds Try.pinned (OpenSpec.ofChange houseFollowsWrong)

/-- 'wormtublaw07.HouseOwns': WHATEVER THE INPUT: true; the input reads as it did. -/
def houseOwnsSpec : ChangeSpec := { name := "houseOwns", fn := fun _ => fun
  | [d1, d2, d3, d4, d5] => { results := [.lit (.bool true)], args := [d1, d2, d3, d4, d5] }
  | _ => none }
def houseOwnsRow : OpenClaim := { program := "ytljofnmgddfljaa", sum := "589613619fe9b4e5aed32f1fef9d87efdf7d43ef1c1e4ace1d68ae97208941ce", func := "wormtub/wormtublaw07.HouseOwns", spec := "houseOwns", unfollowed := true, recurses := true, apart := false }
def HouseOwnsSaid : Prop := houseOwnsRow.holds Try.pinned (OpenSpec.ofChange houseOwnsSpec)

/-- ITS FALSE NEIGHBOUR: 'it returns false'. Refute it at one input. -/
def houseOwnsWrong : ChangeSpec := { name := "houseOwns", fn := fun _ => fun
  | [d1, d2, d3, d4, d5] => { results := [.lit (.bool false)], args := [d1, d2, d3, d4, d5] }
  | _ => none }
def HouseOwnsWrongFalsely : Prop := houseOwnsRow.holds Try.pinned (OpenSpec.ofChange houseOwnsWrong)

/-- 'wormtublaw07.HouseNames': WHATEVER THE INPUT: true; the input reads as it did. -/
def houseNamesSpec : ChangeSpec := { name := "houseNames", fn := fun _ => fun
  | [] => { results := [.lit (.bool true)], args := [] }
  | _ => none }
def houseNamesRow : OpenClaim := { program := "ytljofnmgddfljaa", sum := "589613619fe9b4e5aed32f1fef9d87efdf7d43ef1c1e4ace1d68ae97208941ce", func := "wormtub/wormtublaw07.HouseNames", spec := "houseNames", unfollowed := true, recurses := true, apart := false }
def HouseNamesSaid : Prop := houseNamesRow.holds Try.pinned (OpenSpec.ofChange houseNamesSpec)

/-- ITS FALSE NEIGHBOUR: 'it returns false'. Refute it at one input. -/
def houseNamesWrong : ChangeSpec := { name := "houseNames", fn := fun _ => fun
  | [] => { results := [.lit (.bool false)], args := [] }
  | _ => none }
def HouseNamesWrongFalsely : Prop := houseNamesRow.holds Try.pinned (OpenSpec.ofChange houseNamesWrong)

/- THE SECOND FORM. 'bulk': how many values and letters a reading holds, each counted each time it is reached (what is shared counts as often as it is met; a slice's spare places count too). A statement '..UptoSaid' is the law's where the arguments, and the package variables that the reading takes, are together of bulk at most 1048576: NARROWER than '..Said'. Prove '..Said' where nothing that the law and all that it calls make is longer than what came in: it says more and counts as full. Else prove '..UptoSaid'. A law counts once. -/
mutual
def uptoBulk {H : Type} : DataW H → Nat
  | .lit (.string bytes) => bytes.length + 1
  | .lit _ => 1
  | .nil => 1
  | .ptr d => uptoBulk d + 1
  | .slice elems spare => uptoBulkAll elems + uptoBulkAll spare + 1
  | .agg parts => uptoBulkAll parts + 1
  | .iface _ d => uptoBulk d + 1
  | .map entries => uptoBulkEntries entries + 1
  | .held _ => 1
def uptoBulkAll {H : Type} : List (DataW H) → Nat
  | [] => 0
  | d :: r => uptoBulk d + uptoBulkAll r
def uptoBulkEntries {H : Type} : List (Lit × DataW H) → Nat
  | [] => 0
  | x :: r => uptoBulkEntry x + uptoBulkEntries r
def uptoBulkEntry {H : Type} : Lit × DataW H → Nat
  | (.string bytes, d) => bytes.length + uptoBulk d + 1
  | (_, d) => uptoBulk d + 1
 end
def uptoSmall : (H : Type) → List (DataW H) → Bool := fun _ ds => decide (uptoBulkAll ds ≤ 1048576)
def OpenSpec.upto (s : _root_.Go.ChangeSpec) : _root_.Go.OpenSpec := { _root_.Go.OpenSpec.ofChange s with cond := some uptoSmall }

/-- 'wormtublaw07.HouseSplit', WHERE WHAT IT READS IS OF BULK AT MOST 1048576: true; the input reads as it did. -/
def houseSplitUptoRow : OpenClaim := { program := "ytljofnmgddfljaa", sum := "589613619fe9b4e5aed32f1fef9d87efdf7d43ef1c1e4ace1d68ae97208941ce", func := "wormtub/wormtublaw07.HouseSplit", spec := "houseSplit", unfollowed := true, recurses := true, apart := false, narrowed := true }
def HouseSplitUptoSaid : Prop := houseSplitUptoRow.holds Try.pinned (OpenSpec.upto houseSplitSpec)

/-- 'wormtublaw07.HouseMeasures', WHERE WHAT IT READS IS OF BULK AT MOST 1048576: true; the input reads as it did. -/
def houseMeasuresUptoRow : OpenClaim := { program := "ytljofnmgddfljaa", sum := "589613619fe9b4e5aed32f1fef9d87efdf7d43ef1c1e4ace1d68ae97208941ce", func := "wormtub/wormtublaw07.HouseMeasures", spec := "houseMeasures", unfollowed := true, recurses := true, apart := false, narrowed := true }
def HouseMeasuresUptoSaid : Prop := houseMeasuresUptoRow.holds Try.pinned (OpenSpec.upto houseMeasuresSpec)

/-- 'wormtublaw07.HouseFound', WHERE WHAT IT READS IS OF BULK AT MOST 1048576: true; the input reads as it did. -/
def houseFoundUptoRow : OpenClaim := { program := "ytljofnmgddfljaa", sum := "589613619fe9b4e5aed32f1fef9d87efdf7d43ef1c1e4ace1d68ae97208941ce", func := "wormtub/wormtublaw07.HouseFound", spec := "houseFound", unfollowed := true, recurses := true, apart := false, narrowed := true }
def HouseFoundUptoSaid : Prop := houseFoundUptoRow.holds Try.pinned (OpenSpec.upto houseFoundSpec)

/-- 'wormtublaw07.HouseWrong', WHERE WHAT IT READS IS OF BULK AT MOST 1048576: true; the input reads as it did. -/
def houseWrongUptoRow : OpenClaim := { program := "ytljofnmgddfljaa", sum := "589613619fe9b4e5aed32f1fef9d87efdf7d43ef1c1e4ace1d68ae97208941ce", func := "wormtub/wormtublaw07.HouseWrong", spec := "houseWrong", unfollowed := true, recurses := true, apart := false, narrowed := true }
def HouseWrongUptoSaid : Prop := houseWrongUptoRow.holds Try.pinned (OpenSpec.upto houseWrongSpec)

/-- 'wormtublaw07.HouseTrue', WHERE WHAT IT READS IS OF BULK AT MOST 1048576: true; the input reads as it did. -/
def houseTrueUptoRow : OpenClaim := { program := "ytljofnmgddfljaa", sum := "589613619fe9b4e5aed32f1fef9d87efdf7d43ef1c1e4ace1d68ae97208941ce", func := "wormtub/wormtublaw07.HouseTrue", spec := "houseTrue", unfollowed := true, recurses := true, apart := false, narrowed := true }
def HouseTrueUptoSaid : Prop := houseTrueUptoRow.holds Try.pinned (OpenSpec.upto houseTrueSpec)

/-- 'wormtublaw07.HouseAgain', WHERE WHAT IT READS IS OF BULK AT MOST 1048576: true; the input reads as it did. -/
def houseAgainUptoRow : OpenClaim := { program := "ytljofnmgddfljaa", sum := "589613619fe9b4e5aed32f1fef9d87efdf7d43ef1c1e4ace1d68ae97208941ce", func := "wormtub/wormtublaw07.HouseAgain", spec := "houseAgain", unfollowed := true, recurses := true, apart := false, narrowed := true }
def HouseAgainUptoSaid : Prop := houseAgainUptoRow.holds Try.pinned (OpenSpec.upto houseAgainSpec)

/-- 'wormtublaw07.HouseWeak', WHERE WHAT IT READS IS OF BULK AT MOST 1048576: true; the input reads as it did. -/
def houseWeakUptoRow : OpenClaim := { program := "ytljofnmgddfljaa", sum := "589613619fe9b4e5aed32f1fef9d87efdf7d43ef1c1e4ace1d68ae97208941ce", func := "wormtub/wormtublaw07.HouseWeak", spec := "houseWeak", unfollowed := true, recurses := true, apart := false, narrowed := true }
def HouseWeakUptoSaid : Prop := houseWeakUptoRow.holds Try.pinned (OpenSpec.upto houseWeakSpec)

/-- 'wormtublaw07.HouseDays', WHERE WHAT IT READS IS OF BULK AT MOST 1048576: true; the input reads as it did. -/
def houseDaysUptoRow : OpenClaim := { program := "ytljofnmgddfljaa", sum := "589613619fe9b4e5aed32f1fef9d87efdf7d43ef1c1e4ace1d68ae97208941ce", func := "wormtub/wormtublaw07.HouseDays", spec := "houseDays", unfollowed := true, recurses := true, apart := false, narrowed := true }
def HouseDaysUptoSaid : Prop := houseDaysUptoRow.holds Try.pinned (OpenSpec.upto houseDaysSpec)

/-- 'wormtublaw07.HouseFloors', WHERE WHAT IT READS IS OF BULK AT MOST 1048576: true; the input reads as it did. -/
def houseFloorsUptoRow : OpenClaim := { program := "ytljofnmgddfljaa", sum := "589613619fe9b4e5aed32f1fef9d87efdf7d43ef1c1e4ace1d68ae97208941ce", func := "wormtub/wormtublaw07.HouseFloors", spec := "houseFloors", unfollowed := true, recurses := true, apart := false, narrowed := true }
def HouseFloorsUptoSaid : Prop := houseFloorsUptoRow.holds Try.pinned (OpenSpec.upto houseFloorsSpec)

/-- 'wormtublaw07.HouseFollows', WHERE WHAT IT READS IS OF BULK AT MOST 1048576: true; the input reads as it did. -/
def houseFollowsUptoRow : OpenClaim := { program := "ytljofnmgddfljaa", sum := "589613619fe9b4e5aed32f1fef9d87efdf7d43ef1c1e4ace1d68ae97208941ce", func := "wormtub/wormtublaw07.HouseFollows", spec := "houseFollows", unfollowed := true, recurses := true, apart := false, narrowed := true }
def HouseFollowsUptoSaid : Prop := houseFollowsUptoRow.holds Try.pinned (OpenSpec.upto houseFollowsSpec)

/-- 'wormtublaw07.HouseOwns', WHERE WHAT IT READS IS OF BULK AT MOST 1048576: true; the input reads as it did. -/
def houseOwnsUptoRow : OpenClaim := { program := "ytljofnmgddfljaa", sum := "589613619fe9b4e5aed32f1fef9d87efdf7d43ef1c1e4ace1d68ae97208941ce", func := "wormtub/wormtublaw07.HouseOwns", spec := "houseOwns", unfollowed := true, recurses := true, apart := false, narrowed := true }
def HouseOwnsUptoSaid : Prop := houseOwnsUptoRow.holds Try.pinned (OpenSpec.upto houseOwnsSpec)

/-- 'wormtublaw07.HouseNames', WHERE WHAT IT READS IS OF BULK AT MOST 1048576: true; the input reads as it did. -/
def houseNamesUptoRow : OpenClaim := { program := "ytljofnmgddfljaa", sum := "589613619fe9b4e5aed32f1fef9d87efdf7d43ef1c1e4ace1d68ae97208941ce", func := "wormtub/wormtublaw07.HouseNames", spec := "houseNames", unfollowed := true, recurses := true, apart := false, narrowed := true }
def HouseNamesUptoSaid : Prop := houseNamesUptoRow.holds Try.pinned (OpenSpec.upto houseNamesSpec)

end Rows
end Go.Proofs.Ytljofnmgddfljaa
