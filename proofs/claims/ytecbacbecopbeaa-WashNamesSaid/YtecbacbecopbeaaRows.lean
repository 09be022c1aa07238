/-
  No cell of these rows narrows 'for every input' (looked for: loops, veiled, ifaces, maps, wideKeys, modest, calm, conditions, laid).
  DERIVED. THE GIVEN ROWS OF THIS SEAT. 13 by the template 'for every input the law returns true; each argument reads behind the call as it read before'; 0 by the template 'total and deterministic' (their statements: YtecbacbecopbeaaTotals.lean).
  GIVEN WITH THE SEED: the statements are not yours to turn. If you find one false, say at which input.
  Laid BY PROGRAM, IN A SANDBOX (cutbox-rows.mjs): the forced cells as the released guide's own fill.sh prints them over the translation 5da7045bf9c9402d… (all of the seat's roots in one cut). By AI agents, Wed Nov 11 2026. No macro, syntax, notation, axiom, sorry.
-/
import Derived.Test.YtecbacbecopbeaaChecked
import GoSem.Claim
import GoSem.ClaimJoined
import GoSem.ClaimMapViews
import Derived.JoinedTies
import Derived.KernelRfl
namespace Go.Proofs.Ytecbacbecopbeaa
/- THE CELL 'sum', in the pinned program and in every row, IS THE sha256 OF THE DUMP (.gsa) THAT YtecbacbecopbeaaProg.lean LOADS. Nothing in Lean hashes anything: it is a label: what it is worth is what the hold of that sum in a sandbox is worth. -/
noncomputable def Try.pinned : Pinned := { name := "ytecbacbecopbeaa", sum := "5da7045bf9c9402dca8297099081efcd23d7cebea400b0b3e6fb4c06f0513c59", checked := Try.checked }
namespace Rows
def none {H : Type} : Left H := { results := [], args := [] }

/-- 'wormtublaw03.WashMashes': WHATEVER THE INPUT: true; the input reads as it did. -/
def washMashesSpec : ChangeSpec := { name := "washMashes", fn := fun _ => fun
  | [d] => { results := [.lit (.bool true)], args := [d] }
  | _ => none }
def washMashesRow : OpenClaim := { program := "ytecbacbecopbeaa", sum := "5da7045bf9c9402dca8297099081efcd23d7cebea400b0b3e6fb4c06f0513c59", func := "wormtub/wormtublaw03.WashMashes", spec := "washMashes", unfollowed := true, recurses := true, apart := false }
def WashMashesSaid : Prop := washMashesRow.holds Try.pinned (OpenSpec.ofChange washMashesSpec)

/-- ITS FALSE NEIGHBOUR: 'it returns false'. Refute it at one input. -/
def washMashesWrong : ChangeSpec := { name := "washMashes", fn := fun _ => fun
  | [d] => { results := [.lit (.bool false)], args := [d] }
  | _ => none }
def WashMashesWrongFalsely : Prop := washMashesRow.holds Try.pinned (OpenSpec.ofChange washMashesWrong)

/-- 'wormtublaw03.WashTrue': WHATEVER THE INPUT: true; the input reads as it did. -/
def washTrueSpec : ChangeSpec := { name := "washTrue", fn := fun _ => fun
  | [d1, d2, d3, d4] => { results := [.lit (.bool true)], args := [d1, d2, d3, d4] }
  | _ => none }
def washTrueRow : OpenClaim := { program := "ytecbacbecopbeaa", sum := "5da7045bf9c9402dca8297099081efcd23d7cebea400b0b3e6fb4c06f0513c59", func := "wormtub/wormtublaw03.WashTrue", spec := "washTrue", unfollowed := true, recurses := true, apart := false }
def WashTrueSaid : Prop := washTrueRow.holds Try.pinned (OpenSpec.ofChange washTrueSpec)

/-- ITS FALSE NEIGHBOUR: 'it returns false'. Refute it at one input. -/
def washTrueWrong : ChangeSpec := { name := "washTrue", fn := fun _ => fun
  | [d1, d2, d3, d4] => { results := [.lit (.bool false)], args := [d1, d2, d3, d4] }
  | _ => none }
def WashTrueWrongFalsely : Prop := washTrueRow.holds Try.pinned (OpenSpec.ofChange washTrueWrong)

/-- 'wormtublaw03.WashNarrower': WHATEVER THE INPUT: true; the input reads as it did. -/
def washNarrowerSpec : ChangeSpec := { name := "washNarrower", fn := fun _ => fun
  | [d1, d2, d3, d4] => { results := [.lit (.bool true)], args := [d1, d2, d3, d4] }
  | _ => none }
def washNarrowerRow : OpenClaim := { program := "ytecbacbecopbeaa", sum := "5da7045bf9c9402dca8297099081efcd23d7cebea400b0b3e6fb4c06f0513c59", func := "wormtub/wormtublaw03.WashNarrower", spec := "washNarrower", unfollowed := true, recurses := true, apart := false }
def WashNarrowerSaid : Prop := washNarrowerRow.holds Try.pinned (OpenSpec.ofChange washNarrowerSpec)

/-- ITS FALSE NEIGHBOUR: 'it returns false'. Refute it at one input. -/
def washNarrowerWrong : ChangeSpec := { name := "washNarrower", fn := fun _ => fun
  | [d1, d2, d3, d4] => { results := [.lit (.bool false)], args := [d1, d2, d3, d4] }
  | _ => none }
def WashNarrowerWrongFalsely : Prop := washNarrowerRow.holds Try.pinned (OpenSpec.ofChange washNarrowerWrong)

/-- 'wormtublaw03.WashMade': WHATEVER THE INPUT: true; the input reads as it did. -/
def washMadeSpec : ChangeSpec := { name := "washMade", fn := fun _ => fun
  | [d1, d2, d3] => { results := [.lit (.bool true)], args := [d1, d2, d3] }
  | _ => none }
def washMadeRow : OpenClaim := { program := "ytecbacbecopbeaa", sum := "5da7045bf9c9402dca8297099081efcd23d7cebea400b0b3e6fb4c06f0513c59", func := "wormtub/wormtublaw03.WashMade", spec := "washMade", unfollowed := true, recurses := true, apart := false }
def WashMadeSaid : Prop := washMadeRow.holds Try.pinned (OpenSpec.ofChange washMadeSpec)

/-- ITS FALSE NEIGHBOUR: 'it returns false'. Refute it at one input. -/
def washMadeWrong : ChangeSpec := { name := "washMade", fn := fun _ => fun
  | [d1, d2, d3] => { results := [.lit (.bool false)], args := [d1, d2, d3] }
  | _ => none }
def WashMadeWrongFalsely : Prop := washMadeRow.holds Try.pinned (OpenSpec.ofChange washMadeWrong)

/-- 'wormtublaw03.WashVent': WHATEVER THE INPUT: true; the input reads as it did. -/
def washVentSpec : ChangeSpec := { name := "washVent", fn := fun _ => fun
  | [d1, d2] => { results := [.lit (.bool true)], args := [d1, d2] }
  | _ => none }
def washVentRow : OpenClaim := { program := "ytecbacbecopbeaa", sum := "5da7045bf9c9402dca8297099081efcd23d7cebea400b0b3e6fb4c06f0513c59", func := "wormtub/wormtublaw03.WashVent", spec := "washVent", unfollowed := true, recurses := true, apart := false }
def WashVentSaid : Prop := washVentRow.holds Try.pinned (OpenSpec.ofChange washVentSpec)

/-- ITS FALSE NEIGHBOUR: 'it returns false'. Refute it at one input. -/
def washVentWrong : ChangeSpec := { name := "washVent", fn := fun _ => fun
  | [d1, d2] => { results := [.lit (.bool false)], args := [d1, d2] }
  | _ => none }
def WashVentWrongFalsely : Prop := washVentRow.holds Try.pinned (OpenSpec.ofChange washVentWrong)

/-- 'wormtublaw03.WashHours': WHATEVER THE INPUT: true; the input reads as it did. -/
def washHoursSpec : ChangeSpec := { name := "washHours", fn := fun _ => fun
  | [d1, d2, d3, d4, d5] => { results := [.lit (.bool true)], args := [d1, d2, d3, d4, d5] }
  | _ => none }
def washHoursRow : OpenClaim := { program := "ytecbacbecopbeaa", sum := "5da7045bf9c9402dca8297099081efcd23d7cebea400b0b3e6fb4c06f0513c59", func := "wormtub/wormtublaw03.WashHours", spec := "washHours", unfollowed := true, recurses := true, apart := false }
def WashHoursSaid : Prop := washHoursRow.holds Try.pinned (OpenSpec.ofChange washHoursSpec)

/-- ITS FALSE NEIGHBOUR: 'it returns false'. Refute it at one input. -/
def washHoursWrong : ChangeSpec := { name := "washHours", fn := fun _ => fun
  | [d1, d2, d3, d4, d5] => { results := [.lit (.bool false)], args := [d1, d2, d3, d4, d5] }
  | _ => none }
def WashHoursWrongFalsely : Prop := washHoursRow.holds Try.pinned (OpenSpec.ofChange washHoursWrong)

/-- 'wormtublaw03.WashSplit': WHATEVER THE INPUT: true; the input reads as it did. -/
def washSplitSpec : ChangeSpec := { name := "washSplit", fn := fun _ => fun
  | [d1, d2, d3, d4, d5] => { results := [.lit (.bool true)], args := [d1, d2, d3, d4, d5] }
  | _ => none }
def washSplitRow : OpenClaim := { program := "ytecbacbecopbeaa", sum := "5da7045bf9c9402dca8297099081efcd23d7cebea400b0b3e6fb4c06f0513c59", func := "wormtub/wormtublaw03.WashSplit", spec := "washSplit", unfollowed := true, recurses := true, apart := false }
def WashSplitSaid : Prop := washSplitRow.holds Try.pinned (OpenSpec.ofChange washSplitSpec)

/-- ITS FALSE NEIGHBOUR: 'it returns false'. Refute it at one input. -/
def washSplitWrong : ChangeSpec := { name := "washSplit", fn := fun _ => fun
  | [d1, d2, d3, d4, d5] => { results := [.lit (.bool false)], args := [d1, d2, d3, d4, d5] }
  | _ => none }
def WashSplitWrongFalsely : Prop := washSplitRow.holds Try.pinned (OpenSpec.ofChange washSplitWrong)

/-- 'wormtublaw03.WashRooms': WHATEVER THE INPUT: true; the input reads as it did. -/
def washRoomsSpec : ChangeSpec := { name := "washRooms", fn := fun _ => fun
  | [d1, d2, d3, d4, d5] => { results := [.lit (.bool true)], args := [d1, d2, d3, d4, d5] }
  | _ => none }
def washRoomsRow : OpenClaim := { program := "ytecbacbecopbeaa", sum := "5da7045bf9c9402dca8297099081efcd23d7cebea400b0b3e6fb4c06f0513c59", func := "wormtub/wormtublaw03.WashRooms", spec := "washRooms", unfollowed := true, recurses := true, apart := false }
def WashRoomsSaid : Prop := washRoomsRow.holds Try.pinned (OpenSpec.ofChange washRoomsSpec)

/-- ITS FALSE NEIGHBOUR: 'it returns false'. Refute it at one input. -/
def washRoomsWrong : ChangeSpec := { name := "washRooms", fn := fun _ => fun
  | [d1, d2, d3, d4, d5] => { results := [.lit (.bool false)], args := [d1, d2, d3, d4, d5] }
  | _ => none }
def WashRoomsWrongFalsely : Prop := washRoomsRow.holds Try.pinned (OpenSpec.ofChange washRoomsWrong)

/-- 'wormtublaw03.WashBound': WHATEVER THE INPUT: true; the input reads as it did. -/
def washBoundSpec : ChangeSpec := { name := "washBound", fn := fun _ => fun
  | [d1, d2, d3, d4] => { results := [.lit (.bool true)], args := [d1, d2, d3, d4] }
  | _ => none }
def washBoundRow : OpenClaim := { program := "ytecbacbecopbeaa", sum := "5da7045bf9c9402dca8297099081efcd23d7cebea400b0b3e6fb4c06f0513c59", func := "wormtub/wormtublaw03.WashBound", spec := "washBound", unfollowed := true, recurses := true, apart := false }
def WashBoundSaid : Prop := washBoundRow.holds Try.pinned (OpenSpec.ofChange washBoundSpec)

/-- ITS FALSE NEIGHBOUR: 'it returns false'. Refute it at one input. -/
def washBoundWrong : ChangeSpec := { name := "washBound", fn := fun _ => fun
  | [d1, d2, d3, d4] => { results := [.lit (.bool false)], args := [d1, d2, d3, d4] }
  | _ => none }
def WashBoundWrongFalsely : Prop := washBoundRow.holds Try.pinned (OpenSpec.ofChange washBoundWrong)

/-- 'wormtublaw03.WashCools': WHATEVER THE INPUT: true; the input reads as it did. -/
def washCoolsSpec : ChangeSpec := { name := "washCools", fn := fun _ => fun
  | [d1, d2, d3, d4, d5] => { results := [.lit (.bool true)], args := [d1, d2, d3, d4, d5] }
  | _ => none }
def washCoolsRow : OpenClaim := { program := "ytecbacbecopbeaa", sum := "5da7045bf9c9402dca8297099081efcd23d7cebea400b0b3e6fb4c06f0513c59", func := "wormtub/wormtublaw03.WashCools", spec := "washCools", unfollowed := true, recurses := true, apart := false }
def WashCoolsSaid : Prop := washCoolsRow.holds Try.pinned (OpenSpec.ofChange washCoolsSpec)

/-- ITS FALSE NEIGHBOUR: 'it returns false'. Refute it at one input. -/
def washCoolsWrong : ChangeSpec := { name := "washCools", fn := fun _ => fun
  | [d1, d2, d3, d4, d5] => { results := [.lit (.bool false)], args := [d1, d2, d3, d4, d5] }
  | _ => none }
def WashCoolsWrongFalsely : Prop := washCoolsRow.holds Try.pinned (OpenSpec.ofChange washCoolsWrong)

/-- 'wormtublaw03.WashCheapest': WHATEVER THE INPUT: true; the input reads as it did. -/
def washCheapestSpec : ChangeSpec := { name := "washCheapest", fn := fun _ => fun
  | [d1, d2, d3, d4, d5, d6] => { results := [.lit (.bool true)], args := [d1, d2, d3, d4, d5, d6] }
  | _ => none }
def washCheapestRow : OpenClaim := { program := "ytecbacbecopbeaa", sum := "5da7045bf9c9402dca8297099081efcd23d7cebea400b0b3e6fb4c06f0513c59", func := "wormtub/wormtublaw03.WashCheapest", spec := "washCheapest", unfollowed := true, recurses := true, apart := false }
def WashCheapestSaid : Prop := washCheapestRow.holds Try.pinned (OpenSpec.ofChange washCheapestSpec)

/-- ITS FALSE NEIGHBOUR: 'it returns false'. Refute it at one input. -/
def washCheapestWrong : ChangeSpec := { name := "washCheapest", fn := fun _ => fun
  | [d1, d2, d3, d4, d5, d6] => { results := [.lit (.bool false)], args := [d1, d2, d3, d4, d5, d6] }
  | _ => none }
def WashCheapestWrongFalsely : Prop := washCheapestRow.holds Try.pinned (OpenSpec.ofChange washCheapestWrong)

/-- 'wormtublaw03.WashOwns': WHATEVER THE INPUT: true; the input reads as it did. -/
def washOwnsSpec : ChangeSpec := { name := "washOwns", fn := fun _ => fun
  | [d1, d2, d3] => { results := [.lit (.bool true)], args := [d1, d2, d3] }
  | _ => none }
def washOwnsRow : OpenClaim := { program := "ytecbacbecopbeaa", sum := "5da7045bf9c9402dca8297099081efcd23d7cebea400b0b3e6fb4c06f0513c59", func := "wormtub/wormtublaw03.WashOwns", spec := "washOwns", unfollowed := true, recurses := true, apart := false }
def WashOwnsSaid : Prop := washOwnsRow.holds Try.pinned (OpenSpec.ofChange washOwnsSpec)

/-- ITS FALSE NEIGHBOUR: 'it returns false'. Refute it at one input. -/
def washOwnsWrong : ChangeSpec := { name := "washOwns", fn := fun _ => fun
  | [d1, d2, d3] => { results := [.lit (.bool false)], args := [d1, d2, d3] }
  | _ => none }
def WashOwnsWrongFalsely : Prop := washOwnsRow.holds Try.pinned (OpenSpec.ofChange washOwnsWrong)

/-- 'wormtublaw03.WashNames': WHATEVER THE INPUT: true; the input reads as it did. -/
def washNamesSpec : ChangeSpec := { name := "washNames", fn := fun _ => fun
  | [] => { results := [.lit (.bool true)], args := [] }
  | _ => none }
def washNamesRow : OpenClaim := { program := "ytecbacbecopbeaa", sum := "5da7045bf9c9402dca8297099081efcd23d7cebea400b0b3e6fb4c06f0513c59", func := "wormtub/wormtublaw03.WashNames", spec := "washNames", unfollowed := true, recurses := true, apart := false }
def WashNamesSaid : Prop := washNamesRow.holds Try.pinned (OpenSpec.ofChange washNamesSpec)

/-- ITS FALSE NEIGHBOUR: 'it returns false'. Refute it at one input. -/
def washNamesWrong : ChangeSpec := { name := "washNames", fn := fun _ => fun
  | [] => { results := [.lit (.bool false)], args := [] }
  | _ => none }
def WashNamesWrongFalsely : Prop := washNamesRow.holds Try.pinned (OpenSpec.ofChange washNamesWrong)

/- THE SECOND FORM. 'bulk': how many values and letters a reading holds, each counted each time it is reached (what is shared counts as often as it is met; a slice's spare places count too). A statement '..UptoSaid' is the law's where the arguments, and the package variables that the reading takes, are together of bulk at most 1048576: NARROWER than '..Said'. Prove '..Said' where nothing that the law and all that it calls make is longer than what came in: it says more and counts as full. Else prove '..UptoSaid'. A law counts once. -/
mutual
def uptoBulk {H : Type} : DataW H → Nat
  | .lit (.string bytes) => bytes.length + 1
  | .lit _ => 1
  | .nil => 1
  | .ptr d => uptoBulk d + 1
  | .slice elems spare => uptoBulkAll elems + uptoBulkAll spare + 1
  | .agg parts => uptoBulkAll parts + 1
  | .iface _ d => uptoBulk d + 1
  | .map entries => uptoBulkEntries entries + 1
  | .held _ => 1
def uptoBulkAll {H : Type} : List (DataW H) → Nat
  | [] => 0
  | d :: r => uptoBulk d + uptoBulkAll r
def uptoBulkEntries {H : Type} : List (Lit × DataW H) → Nat
  | [] => 0
  | x :: r => uptoBulkEntry x + uptoBulkEntries r
def uptoBulkEntry {H : Type} : Lit × DataW H → Nat
  | (.string bytes, d) => bytes.length + uptoBulk d + 1
  | (_, d) => uptoBulk d + 1
 end
def uptoSmall : (H : Type) → List (DataW H) → Bool := fun _ ds => decide (uptoBulkAll ds ≤ 1048576)
def OpenSpec.upto (s : _root_.Go.ChangeSpec) : _root_.Go.OpenSpec := { _root_.Go.OpenSpec.ofChange s with cond := some uptoSmall }

/-- 'wormtublaw03.WashMashes', WHERE WHAT IT READS IS OF BULK AT MOST 1048576: true; the input reads as it did. -/
def washMashesUptoRow : OpenClaim := { program := "ytecbacbecopbeaa", sum := "5da7045bf9c9402dca8297099081efcd23d7cebea400b0b3e6fb4c06f0513c59", func := "wormtub/wormtublaw03.WashMashes", spec := "washMashes", unfollowed := true, recurses := true, apart := false, narrowed := true }
def WashMashesUptoSaid : Prop := washMashesUptoRow.holds Try.pinned (OpenSpec.upto washMashesSpec)

/-- 'wormtublaw03.WashTrue', WHERE WHAT IT READS IS OF BULK AT MOST 1048576: true; the input reads as it did. -/
def washTrueUptoRow : OpenClaim := { program := "ytecbacbecopbeaa", sum := "5da7045bf9c9402dca8297099081efcd23d7cebea400b0b3e6fb4c06f0513c59", func := "wormtub/wormtublaw03.WashTrue", spec := "washTrue", unfollowed := true, recurses := true, apart := false, narrowed := true }
def WashTrueUptoSaid : Prop := washTrueUptoRow.holds Try.pinned (OpenSpec.upto washTrueSpec)

/-- 'wormtublaw03.WashNarrower', WHERE WHAT IT READS IS OF BULK AT MOST 1048576: true; the input reads as it did. -/
def washNarrowerUptoRow : OpenClaim := { program := "ytecbacbecopbeaa", sum := "5da7045bf9c9402dca8297099081efcd23d7cebea400b0b3e6fb4c06f0513c59", func := "wormtub/wormtublaw03.WashNarrower", spec := "washNarrower", unfollowed := true, recurses := true, apart := false, narrowed := true }
def WashNarrowerUptoSaid : Prop := washNarrowerUptoRow.holds Try.pinned (OpenSpec.upto washNarrowerSpec)

/-- 'wormtublaw03.WashMade', WHERE WHAT IT READS IS OF BULK AT MOST 1048576: true; the input reads as it did. -/
def washMadeUptoRow : OpenClaim := { program := "ytecbacbecopbeaa", sum := "5da7045bf9c9402dca8297099081efcd23d7cebea400b0b3e6fb4c06f0513c59", func := "wormtub/wormtublaw03.WashMade", spec := "washMade", unfollowed := true, recurses := true, apart := false, narrowed := true }
def WashMadeUptoSaid : Prop := washMadeUptoRow.holds Try.pinned (OpenSpec.upto washMadeSpec)

/-- 'wormtublaw03.WashVent', WHERE WHAT IT READS IS OF BULK AT MOST 1048576: true; the input reads as it did. -/
def washVentUptoRow : OpenClaim := { program := "ytecbacbecopbeaa", sum := "5da7045bf9c9402dca8297099081efcd23d7cebea400b0b3e6fb4c06f0513c59", func := "wormtub/wormtublaw03.WashVent", spec := "washVent", unfollowed := true, recurses := true, apart := false, narrowed := true }
def WashVentUptoSaid : Prop := washVentUptoRow.holds Try.pinned (OpenSpec.upto washVentSpec)

/-- 'wormtublaw03.WashHours', WHERE WHAT IT READS IS OF BULK AT MOST 1048576: true; the input reads as it did. -/
def washHoursUptoRow : OpenClaim := { program := "ytecbacbecopbeaa", sum := "5da7045bf9c9402dca8297099081efcd23d7cebea400b0b3e6fb4c06f0513c59", func := "wormtub/wormtublaw03.WashHours", spec := "washHours", unfollowed := true, recurses := true, apart := false, narrowed := true }
def WashHoursUptoSaid : Prop := washHoursUptoRow.holds Try.pinned (OpenSpec.upto washHoursSpec)

/-- 'wormtublaw03.WashSplit', WHERE WHAT IT READS IS OF BULK AT MOST 1048576: true; the input reads as it did. -/
def washSplitUptoRow : OpenClaim := { program := "ytecbacbecopbeaa", sum := "5da7045bf9c9402dca8297099081efcd23d7cebea400b0b3e6fb4c06f0513c59", func := "wormtub/wormtublaw03.WashSplit", spec := "washSplit", unfollowed := true, recurses := true, apart := false, narrowed := true }
def WashSplitUptoSaid : Prop := washSplitUptoRow.holds Try.pinned (OpenSpec.upto washSplitSpec)

/-- 'wormtublaw03.WashRooms', WHERE WHAT IT READS IS OF BULK AT MOST 1048576: true; the input reads as it did. -/
def washRoomsUptoRow : OpenClaim := { program := "ytecbacbecopbeaa", sum := "5da7045bf9c9402dca8297099081efcd23d7cebea400b0b3e6fb4c06f0513c59", func := "wormtub/wormtublaw03.WashRooms", spec := "washRooms", unfollowed := true, recurses := true, apart := false, narrowed := true }
def WashRoomsUptoSaid : Prop := washRoomsUptoRow.holds Try.pinned (OpenSpec.upto washRoomsSpec)

/-- 'wormtublaw03.WashBound', WHERE WHAT IT READS IS OF BULK AT MOST 1048576: true; the input reads as it did. -/
def washBoundUptoRow : OpenClaim := { program := "ytecbacbecopbeaa", sum := "5da7045bf9c9402dca8297099081efcd23d7cebea400b0b3e6fb4c06f0513c59", func := "wormtub/wormtublaw03.WashBound", spec := "washBound", unfollowed := true, recurses := true, apart := false, narrowed := true }
def WashBoundUptoSaid : Prop := washBoundUptoRow.holds Try.pinned (OpenSpec.upto washBoundSpec)

/-- 'wormtublaw03.WashCools', WHERE WHAT IT READS IS OF BULK AT MOST 1048576: true; the input reads as it did. -/
def washCoolsUptoRow : OpenClaim := { program := "ytecbacbecopbeaa", sum := "5da7045bf9c9402dca8297099081efcd23d7cebea400b0b3e6fb4c06f0513c59", func := "wormtub/wormtublaw03.WashCools", spec := "washCools", unfollowed := true, recurses := true, apart := false, narrowed := true }
def WashCoolsUptoSaid : Prop := washCoolsUptoRow.holds Try.pinned (OpenSpec.upto washCoolsSpec)

/-- 'wormtublaw03.WashCheapest', WHERE WHAT IT READS IS OF BULK AT MOST 1048576: true; the input reads as it did. -/
def washCheapestUptoRow : OpenClaim := { program := "ytecbacbecopbeaa", sum := "5da7045bf9c9402dca8297099081efcd23d7cebea400b0b3e6fb4c06f0513c59", func := "wormtub/wormtublaw03.WashCheapest", spec := "washCheapest", unfollowed := true, recurses := true, apart := false, narrowed := true }
def WashCheapestUptoSaid : Prop := washCheapestUptoRow.holds Try.pinned (OpenSpec.upto washCheapestSpec)

/-- 'wormtublaw03.WashOwns', WHERE WHAT IT READS IS OF BULK AT MOST 1048576: true; the input reads as it did. -/
def washOwnsUptoRow : OpenClaim := { program := "ytecbacbecopbeaa", sum := "5da7045bf9c9402dca8297099081efcd23d7cebea400b0b3e6fb4c06f0513c59", func := "wormtub/wormtublaw03.WashOwns", spec := "washOwns", unfollowed := true, recurses := true, apart := false, narrowed := true }
def WashOwnsUptoSaid : Prop := washOwnsUptoRow.holds Try.pinned (OpenSpec.upto washOwnsSpec)

/-- 'wormtublaw03.WashNames', WHERE WHAT IT READS IS OF BULK AT MOST 1048576: true; the input reads as it did. -/
def washNamesUptoRow : OpenClaim := { program := "ytecbacbecopbeaa", sum := "5da7045bf9c9402dca8297099081efcd23d7cebea400b0b3e6fb4c06f0513c59", func := "wormtub/wormtublaw03.WashNames", spec := "washNames", unfollowed := true, recurses := true, apart := false, narrowed := true }
def WashNamesUptoSaid : Prop := washNamesUptoRow.holds Try.pinned (OpenSpec.upto washNamesSpec)

end Rows
end Go.Proofs.Ytecbacbecopbeaa
