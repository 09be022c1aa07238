/-
  No cell of these rows narrows 'for every input' (looked for: loops, veiled, ifaces, maps, wideKeys, modest, calm, conditions, laid).
  DERIVED. THE GIVEN ROWS OF THIS SEAT. 11 by the template 'for every input the law returns true; each argument reads behind the call as it read before'; 0 by the template 'total and deterministic' (their statements: YtohcopdfdmjhnaaTotals.lean).
  GIVEN WITH THE SEED: the statements are not yours to turn. If you find one false, say at which input.
  Laid BY PROGRAM, IN A SANDBOX (cutbox-rows.mjs): the forced cells as the released guide's own fill.sh prints them over the translation a32b10e0b3ecb084… (all of the seat's roots in one cut). By AI agents, Wed Nov 11 2026. No macro, syntax, notation, axiom, sorry.
-/
import Derived.Test.YtohcopdfdmjhnaaChecked
import GoSem.Claim
import GoSem.ClaimJoined
import GoSem.ClaimMapViews
import Derived.JoinedTies
import Derived.KernelRfl
namespace Go.Proofs.Ytohcopdfdmjhnaa
/- THE CELL 'sum', in the pinned program and in every row, IS THE sha256 OF THE DUMP (.gsa) THAT YtohcopdfdmjhnaaProg.lean LOADS. Nothing in Lean hashes anything: it is a label: what it is worth is what the hold of that sum in a sandbox is worth. -/
noncomputable def Try.pinned : Pinned := { name := "ytohcopdfdmjhnaa", sum := "a32b10e0b3ecb08448d5e4d7de9803024ad319ce5d22f8ba587e8f7399e2f3a4", checked := Try.checked }
namespace Rows
def none {H : Type} : Left H := { results := [], args := [] }

/-- 'wormtublaw01.StrengthTight': WHATEVER THE INPUT: true; the input reads as it did. -/
def strengthTightSpec : ChangeSpec := { name := "strengthTight", fn := fun _ => fun
  | [d1, d2, d3] => { results := [.lit (.bool true)], args := [d1, d2, d3] }
  | _ => none }
def strengthTightRow : OpenClaim := { program := "ytohcopdfdmjhnaa", sum := "a32b10e0b3ecb08448d5e4d7de9803024ad319ce5d22f8ba587e8f7399e2f3a4", func := "wormtub/wormtublaw01.StrengthTight", spec := "strengthTight", unfollowed := true, recurses := true, named := ["math/bits.divideError", "math/bits.overflowError"], apart := false }
def StrengthTightSaid : Prop := strengthTightRow.holds Try.pinned (OpenSpec.ofChange strengthTightSpec)

/-- ITS FALSE NEIGHBOUR: 'it returns false'. Refute it at one input. -/
def strengthTightWrong : ChangeSpec := { name := "strengthTight", fn := fun _ => fun
  | [d1, d2, d3] => { results := [.lit (.bool false)], args := [d1, d2, d3] }
  | _ => none }
def StrengthTightWrongFalsely : Prop := strengthTightRow.holds Try.pinned (OpenSpec.ofChange strengthTightWrong)

/-- 'wormtublaw01.StrengthSums': WHATEVER THE INPUT: true; the input reads as it did. -/
def strengthSumsSpec : ChangeSpec := { name := "strengthSums", fn := fun _ => fun
  | [d1, d2, d3, d4] => { results := [.lit (.bool true)], args := [d1, d2, d3, d4] }
  | _ => none }
def strengthSumsRow : OpenClaim := { program := "ytohcopdfdmjhnaa", sum := "a32b10e0b3ecb08448d5e4d7de9803024ad319ce5d22f8ba587e8f7399e2f3a4", func := "wormtub/wormtublaw01.StrengthSums", spec := "strengthSums", unfollowed := true, recurses := true, named := ["math/bits.divideError", "math/bits.overflowError"], apart := false }
def StrengthSumsSaid : Prop := strengthSumsRow.holds Try.pinned (OpenSpec.ofChange strengthSumsSpec)

/-- ITS FALSE NEIGHBOUR: 'it returns false'. Refute it at one input. -/
def strengthSumsWrong : ChangeSpec := { name := "strengthSums", fn := fun _ => fun
  | [d1, d2, d3, d4] => { results := [.lit (.bool false)], args := [d1, d2, d3, d4] }
  | _ => none }
def StrengthSumsWrongFalsely : Prop := strengthSumsRow.holds Try.pinned (OpenSpec.ofChange strengthSumsWrong)

/-- 'wormtublaw01.StrengthShows': WHATEVER THE INPUT: true; the input reads as it did. -/
def strengthShowsSpec : ChangeSpec := { name := "strengthShows", fn := fun _ => fun
  | [d1, d2, d3, d4] => { results := [.lit (.bool true)], args := [d1, d2, d3, d4] }
  | _ => none }
def strengthShowsRow : OpenClaim := { program := "ytohcopdfdmjhnaa", sum := "a32b10e0b3ecb08448d5e4d7de9803024ad319ce5d22f8ba587e8f7399e2f3a4", func := "wormtub/wormtublaw01.StrengthShows", spec := "strengthShows", unfollowed := true, recurses := true, named := ["math/bits.divideError", "math/bits.overflowError"], apart := false }
def StrengthShowsSaid : Prop := strengthShowsRow.holds Try.pinned (OpenSpec.ofChange strengthShowsSpec)

/-- ITS FALSE NEIGHBOUR: 'it returns false'. Refute it at one input. -/
def strengthShowsWrong : ChangeSpec := { name := "strengthShows", fn := fun _ => fun
  | [d1, d2, d3, d4] => { results := [.lit (.bool false)], args := [d1, d2, d3, d4] }
  | _ => none }
def StrengthShowsWrongFalsely : Prop := strengthShowsRow.holds Try.pinned (OpenSpec.ofChange strengthShowsWrong)

/-- 'wormtublaw01.StrengthBack': WHATEVER THE INPUT: true; the input reads as it did. -/
def strengthBackSpec : ChangeSpec := { name := "strengthBack", fn := fun _ => fun
  | [d1, d2, d3, d4, d5] => { results := [.lit (.bool true)], args := [d1, d2, d3, d4, d5] }
  | _ => none }
def strengthBackRow : OpenClaim := { program := "ytohcopdfdmjhnaa", sum := "a32b10e0b3ecb08448d5e4d7de9803024ad319ce5d22f8ba587e8f7399e2f3a4", func := "wormtub/wormtublaw01.StrengthBack", spec := "strengthBack", unfollowed := true, recurses := true, named := ["math/bits.divideError", "math/bits.overflowError"], apart := false }
def StrengthBackSaid : Prop := strengthBackRow.holds Try.pinned (OpenSpec.ofChange strengthBackSpec)

/-- ITS FALSE NEIGHBOUR: 'it returns false'. Refute it at one input. -/
def strengthBackWrong : ChangeSpec := { name := "strengthBack", fn := fun _ => fun
  | [d1, d2, d3, d4, d5] => { results := [.lit (.bool false)], args := [d1, d2, d3, d4, d5] }
  | _ => none }
def StrengthBackWrongFalsely : Prop := strengthBackRow.holds Try.pinned (OpenSpec.ofChange strengthBackWrong)

/-- 'wormtublaw01.StrengthOwns': WHATEVER THE INPUT: true; the input reads as it did. -/
def strengthOwnsSpec : ChangeSpec := { name := "strengthOwns", fn := fun _ => fun
  | [d1, d2, d3, d4] => { results := [.lit (.bool true)], args := [d1, d2, d3, d4] }
  | _ => none }
def strengthOwnsRow : OpenClaim := { program := "ytohcopdfdmjhnaa", sum := "a32b10e0b3ecb08448d5e4d7de9803024ad319ce5d22f8ba587e8f7399e2f3a4", func := "wormtub/wormtublaw01.StrengthOwns", spec := "strengthOwns", unfollowed := true, recurses := true, named := ["math/bits.divideError", "math/bits.overflowError"], apart := false }
def StrengthOwnsSaid : Prop := strengthOwnsRow.holds Try.pinned (OpenSpec.ofChange strengthOwnsSpec)

/-- ITS FALSE NEIGHBOUR: 'it returns false'. Refute it at one input. -/
def strengthOwnsWrong : ChangeSpec := { name := "strengthOwns", fn := fun _ => fun
  | [d1, d2, d3, d4] => { results := [.lit (.bool false)], args := [d1, d2, d3, d4] }
  | _ => none }
def StrengthOwnsWrongFalsely : Prop := strengthOwnsRow.holds Try.pinned (OpenSpec.ofChange strengthOwnsWrong)

/-- 'wormtublaw01.StrengthWater': WHATEVER THE INPUT: true; the input reads as it did. -/
def strengthWaterSpec : ChangeSpec := { name := "strengthWater", fn := fun _ => fun
  | [d1, d2, d3, d4] => { results := [.lit (.bool true)], args := [d1, d2, d3, d4] }
  | _ => none }
def strengthWaterRow : OpenClaim := { program := "ytohcopdfdmjhnaa", sum := "a32b10e0b3ecb08448d5e4d7de9803024ad319ce5d22f8ba587e8f7399e2f3a4", func := "wormtub/wormtublaw01.StrengthWater", spec := "strengthWater", unfollowed := true, recurses := true, named := ["math/bits.divideError", "math/bits.overflowError"], apart := false }
def StrengthWaterSaid : Prop := strengthWaterRow.holds Try.pinned (OpenSpec.ofChange strengthWaterSpec)

/-- ITS FALSE NEIGHBOUR: 'it returns false'. Refute it at one input. -/
def strengthWaterWrong : ChangeSpec := { name := "strengthWater", fn := fun _ => fun
  | [d1, d2, d3, d4] => { results := [.lit (.bool false)], args := [d1, d2, d3, d4] }
  | _ => none }
def StrengthWaterWrongFalsely : Prop := strengthWaterRow.holds Try.pinned (OpenSpec.ofChange strengthWaterWrong)

/-- 'wormtublaw01.StrengthVolumes': WHATEVER THE INPUT: true; the input reads as it did. -/
def strengthVolumesSpec : ChangeSpec := { name := "strengthVolumes", fn := fun _ => fun
  | [d1, d2, d3, d4, d5] => { results := [.lit (.bool true)], args := [d1, d2, d3, d4, d5] }
  | _ => none }
def strengthVolumesRow : OpenClaim := { program := "ytohcopdfdmjhnaa", sum := "a32b10e0b3ecb08448d5e4d7de9803024ad319ce5d22f8ba587e8f7399e2f3a4", func := "wormtub/wormtublaw01.StrengthVolumes", spec := "strengthVolumes", unfollowed := true, recurses := true, named := ["math/bits.divideError", "math/bits.overflowError"], apart := false }
def StrengthVolumesSaid : Prop := strengthVolumesRow.holds Try.pinned (OpenSpec.ofChange strengthVolumesSpec)

/-- ITS FALSE NEIGHBOUR: 'it returns false'. Refute it at one input. -/
def strengthVolumesWrong : ChangeSpec := { name := "strengthVolumes", fn := fun _ => fun
  | [d1, d2, d3, d4, d5] => { results := [.lit (.bool false)], args := [d1, d2, d3, d4, d5] }
  | _ => none }
def StrengthVolumesWrongFalsely : Prop := strengthVolumesRow.holds Try.pinned (OpenSpec.ofChange strengthVolumesWrong)

/-- 'wormtublaw01.StrengthNarrower': WHATEVER THE INPUT: true; the input reads as it did. -/
def strengthNarrowerSpec : ChangeSpec := { name := "strengthNarrower", fn := fun _ => fun
  | [d1, d2, d3, d4, d5] => { results := [.lit (.bool true)], args := [d1, d2, d3, d4, d5] }
  | _ => none }
def strengthNarrowerRow : OpenClaim := { program := "ytohcopdfdmjhnaa", sum := "a32b10e0b3ecb08448d5e4d7de9803024ad319ce5d22f8ba587e8f7399e2f3a4", func := "wormtub/wormtublaw01.StrengthNarrower", spec := "strengthNarrower", unfollowed := true, recurses := true, named := ["math/bits.divideError", "math/bits.overflowError"], apart := false }
def StrengthNarrowerSaid : Prop := strengthNarrowerRow.holds Try.pinned (OpenSpec.ofChange strengthNarrowerSpec)

/-- ITS FALSE NEIGHBOUR: 'it returns false'. Refute it at one input. -/
def strengthNarrowerWrong : ChangeSpec := { name := "strengthNarrower", fn := fun _ => fun
  | [d1, d2, d3, d4, d5] => { results := [.lit (.bool false)], args := [d1, d2, d3, d4, d5] }
  | _ => none }
def StrengthNarrowerWrongFalsely : Prop := strengthNarrowerRow.holds Try.pinned (OpenSpec.ofChange strengthNarrowerWrong)

/-- 'wormtublaw01.StrengthTrue': WHATEVER THE INPUT: true; the input reads as it did. -/
def strengthTrueSpec : ChangeSpec := { name := "strengthTrue", fn := fun _ => fun
  | [d1, d2, d3, d4, d5] => { results := [.lit (.bool true)], args := [d1, d2, d3, d4, d5] }
  | _ => none }
def strengthTrueRow : OpenClaim := { program := "ytohcopdfdmjhnaa", sum := "a32b10e0b3ecb08448d5e4d7de9803024ad319ce5d22f8ba587e8f7399e2f3a4", func := "wormtub/wormtublaw01.StrengthTrue", spec := "strengthTrue", unfollowed := true, recurses := true, named := ["math/bits.divideError", "math/bits.overflowError"], apart := false }
def StrengthTrueSaid : Prop := strengthTrueRow.holds Try.pinned (OpenSpec.ofChange strengthTrueSpec)

/-- ITS FALSE NEIGHBOUR: 'it returns false'. Refute it at one input. -/
def strengthTrueWrong : ChangeSpec := { name := "strengthTrue", fn := fun _ => fun
  | [d1, d2, d3, d4, d5] => { results := [.lit (.bool false)], args := [d1, d2, d3, d4, d5] }
  | _ => none }
def StrengthTrueWrongFalsely : Prop := strengthTrueRow.holds Try.pinned (OpenSpec.ofChange strengthTrueWrong)

/-- 'wormtublaw01.StrengthMixes': WHATEVER THE INPUT: true; the input reads as it did. -/
def strengthMixesSpec : ChangeSpec := { name := "strengthMixes", fn := fun _ => fun
  | [d1, d2, d3, d4] => { results := [.lit (.bool true)], args := [d1, d2, d3, d4] }
  | _ => none }
def strengthMixesRow : OpenClaim := { program := "ytohcopdfdmjhnaa", sum := "a32b10e0b3ecb08448d5e4d7de9803024ad319ce5d22f8ba587e8f7399e2f3a4", func := "wormtub/wormtublaw01.StrengthMixes", spec := "strengthMixes", unfollowed := true, recurses := true, named := ["math/bits.divideError", "math/bits.overflowError"], apart := false }
def StrengthMixesSaid : Prop := strengthMixesRow.holds Try.pinned (OpenSpec.ofChange strengthMixesSpec)

/-- ITS FALSE NEIGHBOUR: 'it returns false'. Refute it at one input. -/
def strengthMixesWrong : ChangeSpec := { name := "strengthMixes", fn := fun _ => fun
  | [d1, d2, d3, d4] => { results := [.lit (.bool false)], args := [d1, d2, d3, d4] }
  | _ => none }
def StrengthMixesWrongFalsely : Prop := strengthMixesRow.holds Try.pinned (OpenSpec.ofChange strengthMixesWrong)

/-- 'wormtublaw01.StrengthNames': WHATEVER THE INPUT: true; the input reads as it did. -/
def strengthNamesSpec : ChangeSpec := { name := "strengthNames", fn := fun _ => fun
  | [] => { results := [.lit (.bool true)], args := [] }
  | _ => none }
def strengthNamesRow : OpenClaim := { program := "ytohcopdfdmjhnaa", sum := "a32b10e0b3ecb08448d5e4d7de9803024ad319ce5d22f8ba587e8f7399e2f3a4", func := "wormtub/wormtublaw01.StrengthNames", spec := "strengthNames", unfollowed := true, recurses := true, named := ["math/bits.divideError", "math/bits.overflowError"], apart := false }
def StrengthNamesSaid : Prop := strengthNamesRow.holds Try.pinned (OpenSpec.ofChange strengthNamesSpec)

/-- ITS FALSE NEIGHBOUR: 'it returns false'. Refute it at one input. -/
def strengthNamesWrong : ChangeSpec := { name := "strengthNames", fn := fun _ => fun
  | [] => { results := [.lit (.bool false)], args := [] }
  | _ => none }
def StrengthNamesWrongFalsely : Prop := strengthNamesRow.holds Try.pinned (OpenSpec.ofChange strengthNamesWrong)

/- THE SECOND FORM. 'bulk': how many values and letters a reading holds, each counted each time it is reached (what is shared counts as often as it is met; a slice's spare places count too). A statement '..UptoSaid' is the law's where the arguments, and the package variables that the reading takes, are together of bulk at most 1048576: NARROWER than '..Said'. Prove '..Said' where nothing that the law and all that it calls make is longer than what came in: it says more and counts as full. Else prove '..UptoSaid'. A law counts once. -/
mutual
def uptoBulk {H : Type} : DataW H → Nat
  | .lit (.string bytes) => bytes.length + 1
  | .lit _ => 1
  | .nil => 1
  | .ptr d => uptoBulk d + 1
  | .slice elems spare => uptoBulkAll elems + uptoBulkAll spare + 1
  | .agg parts => uptoBulkAll parts + 1
  | .iface _ d => uptoBulk d + 1
  | .map entries => uptoBulkEntries entries + 1
  | .held _ => 1
def uptoBulkAll {H : Type} : List (DataW H) → Nat
  | [] => 0
  | d :: r => uptoBulk d + uptoBulkAll r
def uptoBulkEntries {H : Type} : List (Lit × DataW H) → Nat
  | [] => 0
  | x :: r => uptoBulkEntry x + uptoBulkEntries r
def uptoBulkEntry {H : Type} : Lit × DataW H → Nat
  | (.string bytes, d) => bytes.length + uptoBulk d + 1
  | (_, d) => uptoBulk d + 1
 end
def uptoSmall : (H : Type) → List (DataW H) → Bool := fun _ ds => decide (uptoBulkAll ds ≤ 1048576)
def OpenSpec.upto (s : _root_.Go.ChangeSpec) : _root_.Go.OpenSpec := { _root_.Go.OpenSpec.ofChange s with cond := some uptoSmall }

/-- 'wormtublaw01.StrengthTight', WHERE WHAT IT READS IS OF BULK AT MOST 1048576: true; the input reads as it did. -/
def strengthTightUptoRow : OpenClaim := { program := "ytohcopdfdmjhnaa", sum := "a32b10e0b3ecb08448d5e4d7de9803024ad319ce5d22f8ba587e8f7399e2f3a4", func := "wormtub/wormtublaw01.StrengthTight", spec := "strengthTight", unfollowed := true, recurses := true, named := ["math/bits.divideError", "math/bits.overflowError"], apart := false, narrowed := true }
def StrengthTightUptoSaid : Prop := strengthTightUptoRow.holds Try.pinned (OpenSpec.upto strengthTightSpec)

/-- 'wormtublaw01.StrengthSums', WHERE WHAT IT READS IS OF BULK AT MOST 1048576: true; the input reads as it did. -/
def strengthSumsUptoRow : OpenClaim := { program := "ytohcopdfdmjhnaa", sum := "a32b10e0b3ecb08448d5e4d7de9803024ad319ce5d22f8ba587e8f7399e2f3a4", func := "wormtub/wormtublaw01.StrengthSums", spec := "strengthSums", unfollowed := true, recurses := true, named := ["math/bits.divideError", "math/bits.overflowError"], apart := false, narrowed := true }
def StrengthSumsUptoSaid : Prop := strengthSumsUptoRow.holds Try.pinned (OpenSpec.upto strengthSumsSpec)

/-- 'wormtublaw01.StrengthShows', WHERE WHAT IT READS IS OF BULK AT MOST 1048576: true; the input reads as it did. -/
def strengthShowsUptoRow : OpenClaim := { program := "ytohcopdfdmjhnaa", sum := "a32b10e0b3ecb08448d5e4d7de9803024ad319ce5d22f8ba587e8f7399e2f3a4", func := "wormtub/wormtublaw01.StrengthShows", spec := "strengthShows", unfollowed := true, recurses := true, named := ["math/bits.divideError", "math/bits.overflowError"], apart := false, narrowed := true }
def StrengthShowsUptoSaid : Prop := strengthShowsUptoRow.holds Try.pinned (OpenSpec.upto strengthShowsSpec)

/-- 'wormtublaw01.StrengthBack', WHERE WHAT IT READS IS OF BULK AT MOST 1048576: true; the input reads as it did. -/
def strengthBackUptoRow : OpenClaim := { program := "ytohcopdfdmjhnaa", sum := "a32b10e0b3ecb08448d5e4d7de9803024ad319ce5d22f8ba587e8f7399e2f3a4", func := "wormtub/wormtublaw01.StrengthBack", spec := "strengthBack", unfollowed := true, recurses := true, named := ["math/bits.divideError", "math/bits.overflowError"], apart := false, narrowed := true }
def StrengthBackUptoSaid : Prop := strengthBackUptoRow.holds Try.pinned (OpenSpec.upto strengthBackSpec)

/-- 'wormtublaw01.StrengthOwns', WHERE WHAT IT READS IS OF BULK AT MOST 1048576: true; the input reads as it did. -/
def strengthOwnsUptoRow : OpenClaim := { program := "ytohcopdfdmjhnaa", sum := "a32b10e0b3ecb08448d5e4d7de9803024ad319ce5d22f8ba587e8f7399e2f3a4", func := "wormtub/wormtublaw01.StrengthOwns", spec := "strengthOwns", unfollowed := true, recurses := true, named := ["math/bits.divideError", "math/bits.overflowError"], apart := false, narrowed := true }
def StrengthOwnsUptoSaid : Prop := strengthOwnsUptoRow.holds Try.pinned (OpenSpec.upto strengthOwnsSpec)

/-- 'wormtublaw01.StrengthWater', WHERE WHAT IT READS IS OF BULK AT MOST 1048576: true; the input reads as it did. -/
def strengthWaterUptoRow : OpenClaim := { program := "ytohcopdfdmjhnaa", sum := "a32b10e0b3ecb08448d5e4d7de9803024ad319ce5d22f8ba587e8f7399e2f3a4", func := "wormtub/wormtublaw01.StrengthWater", spec := "strengthWater", unfollowed := true, recurses := true, named := ["math/bits.divideError", "math/bits.overflowError"], apart := false, narrowed := true }
def StrengthWaterUptoSaid : Prop := strengthWaterUptoRow.holds Try.pinned (OpenSpec.upto strengthWaterSpec)

/-- 'wormtublaw01.StrengthVolumes', WHERE WHAT IT READS IS OF BULK AT MOST 1048576: true; the input reads as it did. -/
def strengthVolumesUptoRow : OpenClaim := { program := "ytohcopdfdmjhnaa", sum := "a32b10e0b3ecb08448d5e4d7de9803024ad319ce5d22f8ba587e8f7399e2f3a4", func := "wormtub/wormtublaw01.StrengthVolumes", spec := "strengthVolumes", unfollowed := true, recurses := true, named := ["math/bits.divideError", "math/bits.overflowError"], apart := false, narrowed := true }
def StrengthVolumesUptoSaid : Prop := strengthVolumesUptoRow.holds Try.pinned (OpenSpec.upto strengthVolumesSpec)

/-- 'wormtublaw01.StrengthNarrower', WHERE WHAT IT READS IS OF BULK AT MOST 1048576: true; the input reads as it did. -/
def strengthNarrowerUptoRow : OpenClaim := { program := "ytohcopdfdmjhnaa", sum := "a32b10e0b3ecb08448d5e4d7de9803024ad319ce5d22f8ba587e8f7399e2f3a4", func := "wormtub/wormtublaw01.StrengthNarrower", spec := "strengthNarrower", unfollowed := true, recurses := true, named := ["math/bits.divideError", "math/bits.overflowError"], apart := false, narrowed := true }
def StrengthNarrowerUptoSaid : Prop := strengthNarrowerUptoRow.holds Try.pinned (OpenSpec.upto strengthNarrowerSpec)

/-- 'wormtublaw01.StrengthTrue', WHERE WHAT IT READS IS OF BULK AT MOST 1048576: true; the input reads as it did. -/
def strengthTrueUptoRow : OpenClaim := { program := "ytohcopdfdmjhnaa", sum := "a32b10e0b3ecb08448d5e4d7de9803024ad319ce5d22f8ba587e8f7399e2f3a4", func := "wormtub/wormtublaw01.StrengthTrue", spec := "strengthTrue", unfollowed := true, recurses := true, named := ["math/bits.divideError", "math/bits.overflowError"], apart := false, narrowed := true }
def StrengthTrueUptoSaid : Prop := strengthTrueUptoRow.holds Try.pinned (OpenSpec.upto strengthTrueSpec)

/-- 'wormtublaw01.StrengthMixes', WHERE WHAT IT READS IS OF BULK AT MOST 1048576: true; the input reads as it did. -/
def strengthMixesUptoRow : OpenClaim := { program := "ytohcopdfdmjhnaa", sum := "a32b10e0b3ecb08448d5e4d7de9803024ad319ce5d22f8ba587e8f7399e2f3a4", func := "wormtub/wormtublaw01.StrengthMixes", spec := "strengthMixes", unfollowed := true, recurses := true, named := ["math/bits.divideError", "math/bits.overflowError"], apart := false, narrowed := true }
def StrengthMixesUptoSaid : Prop := strengthMixesUptoRow.holds Try.pinned (OpenSpec.upto strengthMixesSpec)

/-- 'wormtublaw01.StrengthNames', WHERE WHAT IT READS IS OF BULK AT MOST 1048576: true; the input reads as it did. -/
def strengthNamesUptoRow : OpenClaim := { program := "ytohcopdfdmjhnaa", sum := "a32b10e0b3ecb08448d5e4d7de9803024ad319ce5d22f8ba587e8f7399e2f3a4", func := "wormtub/wormtublaw01.StrengthNames", spec := "strengthNames", unfollowed := true, recurses := true, named := ["math/bits.divideError", "math/bits.overflowError"], apart := false, narrowed := true }
def StrengthNamesUptoSaid : Prop := strengthNamesUptoRow.holds Try.pinned (OpenSpec.upto strengthNamesSpec)

end Rows
end Go.Proofs.Ytohcopdfdmjhnaa
