/- The library sort at a floor and what is left there, laid at this program. No conditions beyond each theorem own. Contracts of cmp.Or at two numbers, of place.before, of the library sort at places. Contract of ordered at places. Contract of Floors. No conditions beyond each theorem's own. -/
import Derived.Test.YtljofnmgddfljaaProg
import Derived.Test.YtljofnmgddfljaaFm
import Derived.Test.YtljofnmgddfljaaCa
import Derived.Shelf.SlGeneric
import Derived.Shelf.SlSortCmp.NoneTotal
set_option linter.unusedVariables false
set_option linter.unusedSimpArgs false
set_option linter.unusedSectionVars false
set_option linter.constructorNameAsVariable false
namespace Go.Proofs.Ytljofnmgddfljaa
open Go.Shelf
def sortP_ren : Go.Shelf.Ren := ⟨fun | 6 => 92 | 15 => 98 | 14 => 97 | 28 => 107 | 29 => 108 | 20 => 99 | 21 => 100 | 22 => 101 | 23 => 102 | 24 => 103 | 25 => 104 | 26 => 105 | 27 => 106 | 46 => 109 | 47 => 110 | 48 => 111 | 49 => 112 | 50 => 113 | 57 => 114 | n => n, fun | 22 => 112 | 24 => 114 | 25 => 116 | 3 => 3 | 39 => 135 | 0 => 0 | 53 => 31 | 55 => 151 | 4 => 4 | 46 => 144 | 45 => 143 | 50 => 105 | 5 => 5 | 9 => 9 | 66 => 152 | 70 => 156 | 76 => 158 | 77 => 159 | n => n, fun | n => n⟩
theorem sortP : Go.Proofs.SlLaysF0.n6 Try.prog sortP_ren := {
  mixed := by kernel_rfl
  f6 := ⟨Try.f92.name, by decide, Try.func92.trans (congrArg some (by kernel_rfl))⟩
  f14 := ⟨Try.f97.name, by decide, Try.func97.trans (congrArg some (by kernel_rfl))⟩
  f15 := Try.func98.trans (congrArg some (by kernel_rfl))
  f20 := ⟨Try.f99.name, by decide, Try.func99.trans (congrArg some (by kernel_rfl))⟩
  f21 := ⟨Try.f100.name, by decide, Try.func100.trans (congrArg some (by kernel_rfl))⟩
  f22 := ⟨Try.f101.name, by decide, Try.func101.trans (congrArg some (by kernel_rfl))⟩
  f23 := ⟨Try.f102.name, by decide, Try.func102.trans (congrArg some (by kernel_rfl))⟩
  f24 := ⟨Try.f103.name, by decide, Try.func103.trans (congrArg some (by kernel_rfl))⟩
  f25 := ⟨Try.f104.name, by decide, Try.func104.trans (congrArg some (by kernel_rfl))⟩
  f26 := ⟨Try.f105.name, by decide, Try.func105.trans (congrArg some (by kernel_rfl))⟩
  f27 := ⟨Try.f106.name, by decide, Try.func106.trans (congrArg some (by kernel_rfl))⟩
  f28 := Try.func107.trans (congrArg some (by kernel_rfl))
  f29 := Try.func108.trans (congrArg some (by kernel_rfl))
  f46 := ⟨Try.f109.name, by decide, Try.func109.trans (congrArg some (by kernel_rfl))⟩
  f47 := Try.func110.trans (congrArg some (by kernel_rfl))
  f48 := Try.func111.trans (congrArg some (by kernel_rfl))
  f49 := ⟨Try.f112.name, by decide, Try.func112.trans (congrArg some (by kernel_rfl))⟩
  f50 := ⟨Try.f113.name, by decide, Try.func113.trans (congrArg some (by kernel_rfl))⟩
  f57 := ⟨Try.f114.name, by decide, Try.func114.trans (congrArg some (by kernel_rfl))⟩
  t0 := Try.underlying0
  a0 := Try.isAgg0
  z0 := Try.sizeOf0
  v0 := Try.zeroValue0
  t3 := Try.underlying3
  a3 := Try.isAgg3
  z3 := Try.sizeOf3
  v3 := Try.zeroValue3
  t4 := Try.underlying4
  a4 := Try.isAgg4
  z4 := Try.sizeOf4
  v4 := Try.zeroValue4
  t5 := Try.underlying5
  a5 := Try.isAgg5
  z5 := Try.sizeOf5
  v5 := Try.zeroValue5
  t9 := Try.underlying9
  a9 := Try.isAgg9
  z9 := Try.sizeOf9
  v9 := Try.zeroValue9
  t22 := Try.underlying112
  a22 := Try.isAgg112
  z22 := Try.sizeOf112
  v22 := Try.zeroValue112
  t25 := Try.underlying116
  a25 := Try.isAgg116
  z25 := Try.sizeOf116
  v25 := Try.zeroValue116
  t39 := Try.underlying135
  a39 := Try.isAgg135
  z39 := Try.sizeOf135
  v39 := Try.zeroValue135
  t45 := Try.underlying143
  a45 := Try.isAgg143
  z45 := Try.sizeOf143
  v45 := Try.zeroValue143
  t46 := Try.underlying144
  a46 := Try.isAgg144
  z46 := Try.sizeOf144
  v46 := Try.zeroValue144
  t50 := Try.underlying105
  a50 := Try.isAgg105
  z50 := Try.sizeOf105
  v50 := Try.zeroValue105
  t53 := Try.underlying31
  a53 := Try.isAgg31
  z53 := Try.sizeOf31
  v53 := Try.zeroValue31
  t55 := Try.underlying151
  a55 := Try.isAgg151
  z55 := Try.sizeOf151
  v55 := Try.zeroValue151
  t66 := Try.underlying152
  a66 := Try.isAgg152
  z66 := Try.sizeOf152
  v66 := Try.zeroValue152
  t70 := Try.underlying156
  a70 := Try.isAgg156
  z70 := Try.sizeOf156
  v70 := Try.zeroValue156
  t76 := Try.underlying158
  a76 := Try.isAgg158
  z76 := Try.sizeOf158
  v76 := Try.zeroValue158
  t77 := Try.underlying159
  a77 := Try.isAgg159
  z77 := Try.sizeOf159
  v77 := Try.zeroValue159 }
end Go.Proofs.Ytljofnmgddfljaa

namespace Go.Proofs.Ytljofnmgddfljaa
open Go.Shelf Go.RowKit Go.Lib Go.Sort

attribute [local go_sem] gw_cell gw_frozen gw_size

/-- a floor, and what is left there -/
structure Plc where
  f : Nat
  l : Nat
  hf : f ≤ 1000
  hl : l ≤ 1000000000000
instance : Inhabited Plc := ⟨⟨0, 0, by omega, by omega⟩⟩
theorem Plc.ext' {x y : Plc} (h1 : x.f = y.f) (h2 : x.l = y.l) : x = y := by cases x; cases y; cases h1; cases h2; rfl
def encP (x : Plc) : List Value := [.int .i64 x.f, .int .i64 x.l]
def orZ (a b : Int) : Int := if a = 0 then b else a
def cfP (x y : Plc) : Int := orZ ((y.l : Int) - x.l) ((x.f : Int) - y.f)
theorem ltP (x y : Plc) : ltOf cfP x y = decide (y.l < x.l ∨ y.l = x.l ∧ x.f < y.f) := by
  unfold ltOf cfP orZ
  split <;> (congr 1; apply propext; omega)
theorem swoP : SWO (ltOf cfP) where
  irrefl x := by rw [ltP]; simp
  trans x y z h1 h2 := by rw [ltP] at *; simp at *; omega
  ntrans x y z h1 h2 := by rw [ltP] at *; simp at *; omega
theorem totP (x y : Plc) (h1 : ltOf cfP x y = false) (h2 : ltOf cfP y x = false) : x = y := by
  rw [ltP] at h1 h2
  simp at h1 h2
  exact Plc.ext' (by omega) (by omega)

set_option maxRecDepth 100000 in
set_option maxHeartbeats 1000000 in
theorem or_any (b : Nat) (x y : Int) (w : World) (h0 : w.cell? ⟨b, 0, none⟩ = some (.int .i64 x)) (h1 : w.cell? ⟨b, 1, none⟩ = some (.int .i64 y)) :
    Calls Try.prog 93 #[.slice (some ⟨b, 0, none⟩) 2 2] w fun e w' => e = .returned (.int .i64 (orZ x y)) ∧ w = w' := by
  have OE : orZ x y = if x = 0 then y else x := rfl
  have HO := Lib.hid OE; clear OE
  generalize orZ x y = r at *
  go_enter Try.func93, Try.ntmps93
  go_wp2_with fail
  go_loop [8] (fun t => ∃ j : Nat, j ≤ 2 ∧ t = .int .i64 j ∧ Hid (1 ≤ j → x = 0) ∧ Hid (2 ≤ j → y = 0)) (fun t => 2 - (intOf t).toNat)
  case atStart => exact ⟨0, by omega, rfl, Lib.hid (fun h => by omega), Lib.hid (fun h => by omega)⟩
  case round =>
    obtain ⟨j, hj, rfl, hx, hy⟩ := hrel
    match j, hj with
    | 0, _ =>
      by_cases hz : x = 0
      · have ne : (x != 0) = false := by simp [hz]
        have HZ := Lib.hid hz; clear hz
        go_wp2_with fail
        go_round
        case rel => exact ⟨1, by omega, rfl, Lib.hid (fun _ => HZ.out), Lib.hid (fun h => by omega)⟩
        case measure => simp [intOf]
      · have ne : (x != 0) = true := by simpa using hz
        have HZ := Lib.hid hz; clear hz
        go_wp2_with fail
        go_ret
        exact ⟨by rw [HO.out, if_neg HZ.out]; rfl, rfl⟩
    | 1, _ =>
      by_cases hz : y = 0
      · have ne : (y != 0) = false := by simp [hz]
        have HZ := Lib.hid hz; clear hz
        go_wp2_with fail
        go_round
        case rel => exact ⟨2, by omega, rfl, Lib.hid (fun _ => hx.out (by omega)), Lib.hid (fun _ => HZ.out)⟩
        case measure => simp [intOf]
      · have ne : (y != 0) = true := by simpa using hz
        have HZ := Lib.hid hz; clear hz
        go_wp2_with fail
        go_ret
        exact ⟨by rw [HO.out, if_pos (hx.out (by omega))]; rfl, rfl⟩
    | 2, _ =>
      go_wp2_with fail
      go_ret
      exact ⟨by rw [HO.out, if_pos (hx.out (by omega)), hy.out (by omega)]; rfl, rfl⟩

set_option maxRecDepth 100000 in
set_option maxHeartbeats 1000000 in
theorem before_any (x y : Plc) (W : World) :
    Calls Try.prog 72 #[.agg (encP x).toArray, .agg (encP y).toArray] W fun e w' => e = .returned (.int .i64 (cfP x y)) ∧ ∃ q os', w' = grow (W.drewN q) os' := by
  show Calls Try.prog 72 #[.agg #[.int .i64 x.f, .int .i64 x.l], .agg #[.int .i64 y.f, .int .i64 y.l]] W _
  unfold cfP
  have b1 := x.hf
  have b2 := x.hl
  have b3 := y.hf
  have b4 := y.hl
  generalize x.f = xf at *
  generalize x.l = xl at *
  generalize y.f = yf at *
  generalize y.l = yl at *
  clear x y
  have OR := fun W' b h0 h1 => or_any b ((yl : Int) - xl) ((xf : Int) - yf) W' h0 h1
  generalize orZ ((yl : Int) - xl) ((xf : Int) - yf) = r at *
  have OR' := Lib.hid OR; clear OR
  go_enter Try.func72, Try.ntmps72
  go_wp2_with fail
  refine (OR'.out _ _ (by simp [go_sem]) (by simp [go_sem])).mono ?_
  rintro e w1 ⟨rfl, rfl⟩
  go_wp2_with fail
  go_ret
  exact ⟨rfl, 0, _, by rw [alloc_eq_grow, alloc_eq_grow, alloc_eq_grow, grow_grow, grow_grow]; rfl⟩
theorem cmpP (blk off size : Nat) (w : World) : CmpLays Try.prog 72 #[] encP 2 cfP blk off size w :=
  fun _ _ _ _ x y => before_any x y _

/-- places in order -/
def sortPl (d : Array Plc) : Array Plc := (d.toList.mergeSort fun x y => !ltOf cfP y x).toArray
theorem sortPl_perm (d : Array Plc) : (sortPl d).toList.Perm d.toList := by
  unfold sortPl; exact List.mergeSort_perm _ _
theorem sortPl_size (d : Array Plc) : (sortPl d).size = d.size := by
  have := (sortPl_perm d).length_eq; simpa using this
theorem sortPl_sorted (d : Array Plc) : (sortPl d).toList.Pairwise fun x y => ltOf cfP y x = false := by
  unfold sortPl
  have := List.pairwise_mergeSort (le := fun x y : Plc => !ltOf cfP y x) (fun a b c h1 h2 => by
    simp only [Bool.not_eq_true'] at h1 h2 ⊢
    exact swoP.ntrans c b a h2 h1) (fun a b => by
    rw [ltP, ltP]; simp; omega) d.toList
  exact this.imp (fun h => by simpa using h)

theorem sortWorld_keep {enc : Plc → List Value} {k : Nat} {w : World} {blk off n : Nat} {d' : Array Plc} {os : Array Obj} (hb : blk < w.heap.size) : w.grownBy (sortWorldK enc k w blk off n d' os) (some blk) := by
  refine ⟨rfl, rfl, rfl, ?_, fun b hb2 hne => ?_⟩
  · unfold sortWorldK grow
    simp [size_putRowK]
  · have hne' : b ≠ blk := fun h => hne (by rw [h])
    unfold sortWorldK grow putRowK putRow mapBlock Sort.ahead
    simp only
    rw [Array.getElem?_append_left (by simpa using hb2)]
    rw [Array.getElem?_modify]
    rw [if_neg (Ne.symm hne')]
theorem sortWorld_holds {enc : Plc → List Value} {k : Nat} {w : World} {blk off n : Nat} {d d' : Array Plc} {os : Array Obj} (hb : blk < w.heap.size) (h : HoldsK enc k w blk off d) (hs : d'.size = d.size) : HoldsK enc k (sortWorldK enc k w blk off n d' os) blk off d' := by
  unfold sortWorldK
  exact holdsK_grow enc k _ _ _ _ _ (by rw [size_putRowK]; exact hb) (holdsK_putRowK enc k _ _ _ _ _ (holdsK_ahead enc k w n blk off d h) hs)

theorem sort_any (blk off cap : Nat) (d : Array Plc) (w : World) (hH : HoldsK encP 2 w blk off d) (hblk : blk < w.heap.size) (hsz : d.size ≤ 1000) :
    Calls Try.prog 92 #[.slice (some ⟨blk, off, none⟩) d.size cap, .func (.func 72) #[] #[]] w fun e w' => e = .returned (.tuple #[]) ∧ w.grownBy w' (some blk) ∧ HoldsK encP 2 w' blk off (sortPl d) := by
  have eg : ∀ args w, (callFunc 72 args).run Try.prog w = .ok (.enter 72 args) w := enters_of Try.func72 (by kernel_rfl) rfl
  have hcon := AnyQ.slices_SortFunc_total sortP 2 Try.isAgg114 Try.sizeOf114 encP (fun _ => rfl) (fun x v hv => by simp [encP] at hv; rcases hv with rfl | rfl <;> rfl) cfP swoP 72 #[] blk off cap d w eg (cmpP blk off d.size w) hH hblk (by omega) totP
  change Calls Try.prog 92 _ _ _ at hcon
  exact hcon.mono fun e w' ⟨he, n, os, hw⟩ => by
    subst hw
    exact ⟨he, sortWorld_keep hblk, sortWorld_holds hblk hH (sortPl_size d)⟩
end Go.Proofs.Ytljofnmgddfljaa

namespace Go.Proofs.Ytljofnmgddfljaa
open Go.Shelf Go.RowKit Go.Lib Go.Sort

attribute [local go_sem] gw_cell gw_frozen gw_size

theorem infoInt : (Try.prog.info? 3).map (fun i => (i.zero, i.size, i.bytes)) = some (some (.int .i64 0), 1, 8) := by kernel_rfl
theorem infoPlc : (Try.prog.info? 114).map (fun i => (i.zero, i.size, i.bytes)) = some (some (.agg #[.int .i64 0, .int .i64 0]), 2, 16) := by kernel_rfl
theorem enters_floorOf : ∀ args w, (callFunc 73 args).run Try.prog w = .ok (.enter 73 args) w := enters_of Try.func73 (by kernel_rfl) rfl

set_option maxRecDepth 100000 in
theorem placeFloor (f l : Int) (w : World) : Calls Try.prog 73 #[.agg #[.int .i64 f, .int .i64 l]] w fun e w' => e = .returned (.int .i64 f) ∧ Below w.heap.size w w' := by
  go_enter Try.func73, Try.ntmps73
  go_wp2_with fail
  go_ret
  exact ⟨rfl, below_alloc _ _⟩

/-- the floors of places -/
def flrs (d : Array Plc) (j : Nat) : List Value := (d.toList.take j).map fun p => .int .i64 p.f
theorem flrs_zero (d : Array Plc) : flrs d 0 = [] := rfl
theorem flrs_succ {d : Array Plc} {j : Nat} (h : j < d.size) : flrs d (j + 1) = flrs d j ++ [.int .i64 d[j]!.f] := by
  unfold flrs
  rw [List.take_succ_eq_append_getElem (by simpa using h), List.map_append]
  simp [h]

theorem grownBy_below {w w1 w2 : World} {b : Nat} (h : w.grownBy w1 (some b)) (hb : Below w1.heap.size w1 w2) : w.grownBy w2 (some b) :=
  ⟨hb.os.trans h.os, hb.tape.trans h.tape, hb.output.trans h.output, Nat.le_trans h.size hb.size, fun k hk hne => (hb.block k (Nat.lt_of_lt_of_le hk h.size)).trans (h.block k hk hne)⟩

set_option maxRecDepth 100000 in
set_option maxHeartbeats 2000000 in
theorem ordered_any (blk cap : Nat) (d : Array Plc) (w : World) (hH : HoldsK encP 2 w blk 0 d) (hblk : blk < w.heap.size) (hsz : d.size ≤ 1000) (hcap : cap ≤ 9223372036854775807) :
    Calls Try.prog 71 #[.slice (some ⟨blk, 0, none⟩) d.size cap, .func (.func 72) #[] #[], .func (.func 73) #[] #[]] w fun e w' =>
      ∃ v, e = .returned v ∧ w'.ownsRow w.heap.size 3 1 v d.size (flrs (sortPl d) d.size) ∧ w.grownBy w' (some blk) := by
  obtain ⟨i0, hi, hz0, hz1, hz2⟩ := info_parts infoInt
  have HI := Lib.hid hi
  have Z0 := Lib.hid hz0
  have Z1 := Lib.hid hz1
  have Z2 := Lib.hid hz2
  clear hi hz0 hz1 hz2
  have SO := Lib.hid (sort_any blk 0 cap d w hH hblk hsz)
  have EF := Lib.hid enters_floorOf
  have SS := Lib.hid (sortPl_size d)
  clear hH
  generalize sortPl d = s at *
  obtain ⟨n, hn⟩ : ∃ n, d.size = n := ⟨_, rfl⟩
  rw [hn] at SO SS hsz ⊢
  clear hn
  go_enter Try.func71, Try.ntmps71
  go_wp2_with fail
  refine SO.out.mono ?_
  rintro e w1 ⟨rfl, hg, hs⟩
  have HG := Lib.hid hg; clear hg
  have HS := Lib.hid hs; clear hs
  go_wp2_with fail
  go_loopw [7, 15] (fun v t wr => ∃ j : Nat, j ≤ n ∧ t = .int .i64 j ∧ Hid (wr.ownsRow w1.heap.size 3 1 v j (flrs s j)) ∧ Hid (Below w1.heap.size w1 wr)) (fun _ t _ => n - (intOf t).toNat)
  case atStart => exact ⟨0, Nat.zero_le _, rfl, Lib.hid ⟨rfl, .inl ⟨rfl, rfl⟩⟩, Lib.hid (Below.refl _ _)⟩
  case round =>
    obtain ⟨j, hj, rfl, HR, HB⟩ := hrel
    by_cases hlt : j < n
    · have g0 := (HS.out.cell (i := j) (c := 0) (by rw [SS.out]; omega) (by omega)).1
      have g1 := (HS.out.cell (i := j) (c := 1) (by rw [SS.out]; omega) (by omega)).1
      have lb1 := Nat.lt_of_lt_of_le hblk HG.out.size
      have FS := Lib.hid (flrs_succ (d := s) (j := j) (by rw [SS.out]; omega))
      have q0 := below_cell HB.out g0
      have q1 := below_cell HB.out g1
      have lb := Nat.lt_of_lt_of_le lb1 HB.out.size
      obtain ⟨p, hp⟩ : ∃ p, s[j]! = p := ⟨_, rfl⟩
      rw [hp] at q0 q1 FS
      simp [encP] at q0 q1
      clear g0 g1 hp lb1
      go_wp2_with fail
      obtain ⟨V, hV⟩ : ∃ V, wr.alloc (.cells #[.int .i64 p.f, .int .i64 p.l] 114) = V := ⟨_, rfl⟩
      have BV := Lib.hid (show Below wr.heap.size wr V by rw [← hV]; exact below_alloc _ _)
      rw [hV]
      refine (placeFloor p.f p.l V).mono ?_
      rintro e w2 ⟨rfl, hb2⟩
      have RW := Lib.hid (own_below HR.out (thru hb2 BV.out))
      have BW := Lib.hid (thru (thru hb2 BV.out) HB.out)
      have LW := Lib.hid (show w1.heap.size ≤ w2.heap.size from BW.out.size)
      clear hb2 hV
      go_wp2_with (at_builtin; refine wpList_append_own _ rfl _ _ 74 rfl w1.heap.size 3 i0 (.int .i64 0) 1 8 Try.underlying74 HI.out Z0.out Z1.out Z2.out rfl (by decide) _ j (flrs s j) rfl (RW.out.alloc _) ⟨w2.heap.size, 0, none⟩ 1 1 [.int .i64 p.f] rfl rfl (cell_one_new _ _ _) (by simp [Value.oneCell']) (by unfold maxLen; omega) (by omega) (by have := LW.out; simp; omega) ?_; intro v' w' hown' hgrow _)
      have hrow' : w'.ownsRow w1.heap.size 3 1 v' (j + 1) (flrs s (j + 1)) := by rw [FS.out]; exact hown'
      have low' := (BW.out.alloc (by have := BW.out.size; omega) _).grown hgrow (by have := BW.out.size; simp; omega) (fun g hg => (RW.out.lt g hg).1)
      have HR' := Lib.hid hrow'
      have HL' := Lib.hid low'
      clear hrow' low' hown' hgrow
      go_wp2_with fail
      go_roundw
      case rel => exact ⟨j + 1, by omega, by go_num, HR', HL'⟩
      case measure => simp [intOf]; omega
    · obtain rfl : n = j := by omega
      go_wp2_with fail
      go_ret
      exact ⟨_, rfl, HR.out.base HG.out.size, grownBy_below HG.out HB.out⟩
end Go.Proofs.Ytljofnmgddfljaa

namespace Go.Proofs.Ytljofnmgddfljaa
open Go.Shelf Go.RowKit Go.Lib Go.Sort

attribute [local go_sem] gw_cell gw_frozen gw_size
attribute [local go_sem ↓] run_minZ run_maxZ

theorem spans_one {W : World} {b : Nat} {x y : Int} (hb : b < W.heap.size) (h0 : W.cell? ⟨b, 0, none⟩ = some (.int .i64 x)) (h1 : W.cell? ⟨b, 1, none⟩ = some (.int .i64 y)) : SpansAt W (some ⟨b, 0, none⟩) 1 (fun _ => x) (fun _ => y) :=
  .inr ⟨b, 0, rfl, hb, fun i hi => by
    obtain rfl : i = 0 := by omega
    exact ⟨h0, h1⟩⟩
theorem news2 (w : World) (x y : Value) (t : TypeId) : ∀ (i : Nat) (u : Value), [x, y][i]? = some u → (w.alloc (.cells #[x, y] t)).cell? ((⟨w.heap.size, 0, none⟩ : Addr).add i) = some u := by
  intro i u h
  have hb := World.alloc_heap_new w (.cells #[x, y] t)
  match i, h with
  | 0, h => exact (cell_of_block hb 0 (by simp)).trans (by simpa using h)
  | 1, h => exact (cell_of_block hb 1 (by simp)).trans (by simpa using h)

section
variable (C : Clim) (x : Cont) (day : Int)
/-- the error of a day, when there is one stay from the first day on -/
def flE : Int := errH C x 1 (fun _ => 0) (fun _ => 0) day
def flX (i : Nat) : Cont := atV C x 1 (fun _ => 0) (fun _ => (i : Int)) day
def flP (i : Nat) : Plc := ⟨min i 1000, min (flX C x day i).alo.toNat 1000000000000, by omega, by omega⟩
def flA (n : Nat) : Array Plc := ((List.range n).map (flP C x day)).toArray
def flN : Nat := if flE C x day = 0 then C.nA else 0
def flD (j : Nat) : Int := ((sortPl (flA C x day C.nA))[j]!).f
def flC (j : Nat) : List Value := (List.range (j * 2)).map fun t => (encP (flP C x day (t / 2)))[t % 2]!
variable {C x day}
theorem stays_floor {i : Nat} (hi : i < C.nA) : staysB C.nA 1 (fun _ => 0) (fun _ => (i : Int)) = true := by
  unfold staysB
  rw [allB_t.2 (fun j hj => by
    obtain rfl : j = 0 := by omega
    unfold stayB
    rw [inB_t.2 (by show 0 ≤ (0 : Int) ∧ (0 : Int) ≤ 65536; omega), inB_t.2 (by show 0 ≤ (i : Int) ∧ (i : Int) ≤ (C.nA : Int) - 1; omega)]
    simp)]
  rw [inB_t.2 (by omega)]
  rfl
theorem flE_zero (h : flE C x day = 0) : climB C = true ∧ contB x = true ∧ (1 ≤ C.nA ∧ C.nA ≤ 8) ∧ x.day ≤ day ∧ day ≤ 65536 := by
  obtain ⟨g1, g2, g3, g4, g5, g6⟩ := errH_zero h
  exact ⟨g1, g2, (climB_t g1).2.1, g4, g5⟩
theorem flE_all (h : flE C x day = 0) {i : Nat} (hi : i < C.nA) : errH C x 1 (fun _ => 0) (fun _ => (i : Int)) day = 0 := by
  obtain ⟨g1, g2, g3, g4, g5⟩ := flE_zero h
  obtain ⟨⟨d0, d1⟩, -⟩ := contB_t g2
  unfold errH
  rw [if_pos ⟨g1, g2, stays_floor hi⟩, if_pos (inB_t.2 (by omega)), if_neg (by omega), if_neg (by show ¬ (x.day < (0 : Int) ∧ x.day < day); omega)]
theorem flX_ok (h : flE C x day = 0) {i : Nat} (hi : i < C.nA) : contB (flX C x day i) = true ∧ 0 ≤ (flX C x day i).alo ∧ (flX C x day i).alo ≤ 2147483648 := by
  have := (atV_cont (flE_all h hi)).1
  have h2 : contB (flX C x day i) = true := this
  obtain ⟨-, ⟨a0, a1, a2⟩, -⟩ := contB_t h2
  exact ⟨h2, a0, by omega⟩
theorem flP_eq (h : flE C x day = 0) {i : Nat} (hi : i < C.nA) : ((flP C x day i).f : Int) = i ∧ ((flP C x day i).l : Int) = (flX C x day i).alo := by
  have h1 := (flE_zero h).2.2.1
  have h2 := (flX_ok h hi).2
  unfold flP
  simp only
  omega
theorem flC_succ (j : Nat) : flC C x day (j + 1) = flC C x day j ++ [.int .i64 (flP C x day j).f, .int .i64 (flP C x day j).l] := by
  unfold flC
  rw [show (j + 1) * 2 = j * 2 + 1 + 1 by omega, List.range_succ, List.range_succ, List.map_append, List.map_append, List.append_assoc]
  congr 1
  simp only [List.map_cons, List.map_nil, List.cons_append, List.nil_append]
  rw [show j * 2 / 2 = j by omega, show j * 2 % 2 = 0 by omega, show (j * 2 + 1) / 2 = j by omega, show (j * 2 + 1) % 2 = 1 by omega]
  rfl
theorem flA_size (n : Nat) : (flA C x day n).size = n := by simp [flA]
theorem flA_get {n i : Nat} (hi : i < n) : (flA C x day n)[i]! = flP C x day i := by simp [flA, hi]
theorem fl_holds {w : World} {base g n cap : Nat} (h : w.ownsRow base 114 2 (.slice (some ⟨g, 0, none⟩) n cap) n (flC C x day n)) (hn : 0 < n) : HoldsK encP 2 w g 0 (flA C x day n) ∧ g < w.heap.size ∧ base ≤ g ∧ cap ≤ 9223372036854775807 := by
  have hc := h.cells (g := g) rfl
  rcases h.2 with ⟨h0, _⟩ | ⟨g', cap', cur, e, hb, hg, hnc, hcm, hcs, _⟩
  · cases h0
  · cases e
    refine ⟨fun t ht => ?_, (Array.getElem?_eq_some_iff.1 hg).1, hb, hcm⟩
    rw [size_flatK, flA_size] at ht
    refine ⟨?_, frozen_of_block hg _⟩
    rw [get_flatK _ _ _ _ (by rw [flA_size]; exact ht), flA_get (by omega)]
    have := hc t ((encP (flP C x day (t / 2)))[t % 2]!) (by unfold flC; simp [ht])
    have hadd : (⟨g, 0, none⟩ : Addr).add t = ⟨g, t, none⟩ := by unfold Addr.add; split <;> simp_all
    rw [hadd] at this
    simpa using this
theorem flrs_eq {d : Array Plc} {n : Nat} (h : d.size = n) : flrs d n = (List.range n).map fun j => Value.int .i64 ((d[j]!).f : Int) := by
  unfold flrs
  apply List.ext_getElem?
  intro j
  simp only [List.getElem?_map, List.getElem?_take, List.getElem?_range']
  by_cases hj : j < n
  · have hj' : j < d.size := by omega
    simp [hj, hj']
  · have : d.size ≤ j := by omega
    simp [hj]
end

set_option maxRecDepth 100000 in
set_option maxHeartbeats 4000000 in
theorem Floors_any (C : Clim) (x : Cont) (day : Int) (w : World) (hC : C.In w) (hf : C.Fits) :
    Calls Try.prog 41 #[.agg #[.int .i64 C.days, .slice C.aA C.nA C.cA, .slice C.aW C.nW C.cW], x.val, .int .i64 day] w fun e w' => ∃ v, e = .returned (.tuple #[v, .int .i64 (flE C x day)]) ∧ w'.ownsRow w.heap.size 3 1 v (flN C x day) ((List.range (flN C x day)).map fun j => .int .i64 (flD C x day j)) ∧ Below w.heap.size w w' := by
  unfold Cont.val
  obtain ⟨W1, hW1⟩ : ∃ W1, (w.alloc (.cells #[.int .i64 C.days, .slice C.aA C.nA C.cA, .slice C.aW C.nW C.cW] 24)).alloc (.cells #[.int .i64 x.day, .int .i64 x.alo, .int .i64 x.ahi, .int .i64 x.wlo, .int .i64 x.whi] 28) = W1 := ⟨_, rfl⟩
  have hBc : Below w.heap.size w W1 := by rw [← hW1]; exact (below_alloc _ _).alloc (by simp) _
  have zc0 : W1.heap[w.heap.size]? = some (.cells #[.int .i64 C.days, .slice C.aA C.nA C.cA, .slice C.aW C.nW C.cW] 24 (0, 0)) := by rw [← hW1]; exact alloc_keep (alloc_at rfl)
  have zc1 : W1.heap[w.heap.size + 1]? = some (.cells #[.int .i64 x.day, .int .i64 x.alo, .int .i64 x.ahi, .int .i64 x.wlo, .int .i64 x.whi] 28 (0, 0)) := by rw [← hW1]; exact alloc_at (by simp)
  have c00 : W1.cell? ⟨w.heap.size, 0, none⟩ = some (.int .i64 C.days) := cell_of_block zc0 0 (by simp)
  have c01 : W1.cell? ⟨w.heap.size, 1, none⟩ = some (.slice C.aA C.nA C.cA) := cell_of_block zc0 1 (by simp)
  have c02 : W1.cell? ⟨w.heap.size, 2, none⟩ = some (.slice C.aW C.nW C.cW) := cell_of_block zc0 2 (by simp)
  have c10 : W1.cell? ⟨w.heap.size + 1, 0, none⟩ = some (.int .i64 x.day) := cell_of_block zc1 0 (by simp)
  have c11 : W1.cell? ⟨w.heap.size + 1, 1, none⟩ = some (.int .i64 x.alo) := cell_of_block zc1 1 (by simp)
  have c12 : W1.cell? ⟨w.heap.size + 1, 2, none⟩ = some (.int .i64 x.ahi) := cell_of_block zc1 2 (by simp)
  have c13 : W1.cell? ⟨w.heap.size + 1, 3, none⟩ = some (.int .i64 x.wlo) := cell_of_block zc1 3 (by simp)
  have c14 : W1.cell? ⟨w.heap.size + 1, 4, none⟩ = some (.int .i64 x.whi) := cell_of_block zc1 4 (by simp)
  have lc0 := (Array.getElem?_eq_some_iff.1 zc0).1
  have lc1 := (Array.getElem?_eq_some_iff.1 zc1).1
  have Zc0 := Lib.hid zc0
  have Zc1 := Lib.hid zc1
  clear zc0 zc1
  have HBc := Lib.hid hBc; clear hBc
  have HWc := Lib.hid hW1; clear hW1
  obtain ⟨i0, hi, hz0, hz1, hz2⟩ := info_parts infoPlc
  have HI := Lib.hid hi
  have Z0 := Lib.hid hz0
  have Z1 := Lib.hid hz1
  have Z2 := Lib.hid hz2
  clear hi hz0 hz1 hz2
  have HC := Lib.hid (hC.below HBc.out); clear hC
  have AT := fun (i : Nat) W b (hb : Below W1.heap.size W1 W) (lb : b < W.heap.size) (h0 : W.cell? ⟨b, 0, none⟩ = some (.int .i64 0)) (h1 : W.cell? ⟨b, 1, none⟩ = some (.int .i64 (i : Int))) => At_any C x (some ⟨b, 0, none⟩) 1 1 (fun _ => 0) (fun _ => (i : Int)) day W (HC.out.below hb) hf (by omega) (spans_one lb h0 h1)
  unfold Cont.val at AT
  have AT' := Lib.hid AT; clear AT
  have Y0 := Lib.hid Zc0.out
  have Y1 := Lib.hid Zc1.out
  by_cases h0 : flE C x day = 0
  · have hN : flN C x day = C.nA := if_pos h0
    rw [hN, h0]
    clear hN
    have MX : maxZ 1 (C.nA : Int) = C.nA := by rw [maxZ_eq]; have := (flE_zero h0).2.2.1; omega
    have hna := (flE_zero h0).2.2.1
    have HMX := Lib.hid MX; clear MX
    have H0 := Lib.hid h0; clear h0
    go_enter Try.func41, Try.ntmps41
    go_wp2_with fail
    rw [HWc.out]
    go_wp2_with fail
    rw [HMX.out]
    go_loopw [8, 16] (fun v t wr => ∃ j : Nat, j ≤ C.nA ∧ t = .int .i64 j ∧ Hid (wr.ownsRow W1.heap.size 114 2 v j (flC C x day j)) ∧ Hid (Below W1.heap.size W1 wr)) (fun _ t _ => C.nA - (intOf t).toNat)
    case atStart => exact ⟨0, Nat.zero_le _, rfl, Lib.hid ⟨rfl, .inl ⟨rfl, rfl⟩⟩, Lib.hid (Below.refl _ _)⟩
    case round =>
      obtain ⟨j, hj, rfl, HR, SB⟩ := hrel
      have HBw := Lib.hid (thru SB.out HBc.out)
      have Y0 := Lib.hid ((SB.out.block _ lc0).trans Zc0.out)
      have Y1 := Lib.hid ((SB.out.block _ lc1).trans Zc1.out)
      clear c00 c01 c02 c10 c11 c12 c13 c14
      by_cases hlt : j < C.nA
      · have PE := flP_eq H0.out (i := j) (by omega)
        have EA := flE_all H0.out (i := j) (by omega)
        have FSC := flC_succ (C := C) (x := x) (day := day) j
        rw [PE.1, PE.2] at FSC
        have ATJ := AT'.out j
        rw [EA, show atV C x 1 (fun _ => 0) (fun _ => (j : Int)) day = flX C x day j from rfl] at ATJ
        obtain ⟨y, hy⟩ : ∃ y, flX C x day j = y := ⟨_, rfl⟩
        rw [hy] at FSC ATJ
        clear PE EA hy
        have FSC := Lib.hid FSC
        have ATJ := Lib.hid ATJ
        have ec0wr : wr.cell? ⟨w.heap.size, 0, none⟩ = some (.int .i64 C.days) := cell_of_block Y0.out 0 (by simp)
        have ec1wr : wr.cell? ⟨w.heap.size, 1, none⟩ = some (.slice C.aA C.nA C.cA) := cell_of_block Y0.out 1 (by simp)
        have ec2wr : wr.cell? ⟨w.heap.size, 2, none⟩ = some (.slice C.aW C.nW C.cW) := cell_of_block Y0.out 2 (by simp)
        have lcwr := (Array.getElem?_eq_some_iff.1 Y0.out).1
        have ex0wr : wr.cell? ⟨w.heap.size + 1, 0, none⟩ = some (.int .i64 x.day) := cell_of_block Y1.out 0 (by simp)
        have ex1wr : wr.cell? ⟨w.heap.size + 1, 1, none⟩ = some (.int .i64 x.alo) := cell_of_block Y1.out 1 (by simp)
        have ex2wr : wr.cell? ⟨w.heap.size + 1, 2, none⟩ = some (.int .i64 x.ahi) := cell_of_block Y1.out 2 (by simp)
        have ex3wr : wr.cell? ⟨w.heap.size + 1, 3, none⟩ = some (.int .i64 x.wlo) := cell_of_block Y1.out 3 (by simp)
        have ex4wr : wr.cell? ⟨w.heap.size + 1, 4, none⟩ = some (.int .i64 x.whi) := cell_of_block Y1.out 4 (by simp)
        have lxwr := (Array.getElem?_eq_some_iff.1 Y1.out).1
        go_wp2_with fail
        obtain ⟨W2, hW2⟩ : ∃ W2, ((wr)).alloc (.cells #[.int .i64 0, .int .i64 j] 53) = W2 := ⟨_, rfl⟩
        have hbW2 : Below wr.heap.size wr W2 := by rw [← hW2]; exact (Below.refl _ wr).alloc (by simp [gw_size]) _
        have ZcW2 := Lib.hid ((hbW2.block _ (Array.getElem?_eq_some_iff.1 Y0.out).1).trans Y0.out)
        have ZxW2 := Lib.hid ((hbW2.block _ (Array.getElem?_eq_some_iff.1 Y1.out).1).trans Y1.out)
        have zsW2 : W2.heap[wr.heap.size]? = some (.cells #[.int .i64 0, .int .i64 j] 53 (0, 0)) := by rw [← hW2]; exact alloc_at (by simp [gw_size])
        have ZsW2 := Lib.hid zsW2; clear zsW2
        have HBW2 := Lib.hid (thru hbW2 HBw.out)
        have SBW2 := Lib.hid hbW2; clear hbW2
        have HWW2 := Lib.hid hW2; clear hW2
        rw [HWW2.out]
        clear ec0wr ec1wr ec2wr ex0wr ex1wr ex2wr ex3wr ex4wr
        have S2 := Lib.hid (SB.out.trans (SBW2.out.mono SB.out.size))
        have es0W2 : W2.cell? ⟨wr.heap.size, 0, none⟩ = some (.int .i64 0) := cell_of_block ZsW2.out 0 (by simp)
        have es1W2 : W2.cell? ⟨wr.heap.size, 1, none⟩ = some (.int .i64 j) := cell_of_block ZsW2.out 1 (by simp)
        have lsW2 := (Array.getElem?_eq_some_iff.1 ZsW2.out).1
        have ATW := Lib.hid (ATJ.out _ _ S2.out lsW2 es0W2 es1W2)
        refine (Calls.grown (ATW.out)).mono ?_
        rintro e w1 ⟨rfl, z1, rfl⟩
        go_upto_region 6 with (fail)
        obtain ⟨W3, hW3⟩ : ∃ W3, ((gw W2 z1)).alloc (.cells #[.int .i64 y.day, .int .i64 y.alo, .int .i64 y.ahi, .int .i64 y.wlo, .int .i64 y.whi] 28) = W3 := ⟨_, rfl⟩
        have hbW3 : Below W2.heap.size W2 W3 := by rw [← hW3]; exact (below_gw W2 z1).alloc (by simp [gw_size]) _
        have ZcW3 := Lib.hid ((hbW3.block _ (Array.getElem?_eq_some_iff.1 ZcW2.out).1).trans ZcW2.out)
        have ZxW3 := Lib.hid ((hbW3.block _ (Array.getElem?_eq_some_iff.1 ZxW2.out).1).trans ZxW2.out)
        have ZsW3 := Lib.hid ((hbW3.block _ (Array.getElem?_eq_some_iff.1 ZsW2.out).1).trans ZsW2.out)
        have zyW3 : W3.heap[W2.heap.size + z1.bs.size]? = some (.cells #[.int .i64 y.day, .int .i64 y.alo, .int .i64 y.ahi, .int .i64 y.wlo, .int .i64 y.whi] 28 (0, 0)) := by rw [← hW3]; exact alloc_at (by simp [gw_size])
        have ZyW3 := Lib.hid zyW3; clear zyW3
        have HBW3 := Lib.hid (thru hbW3 HBW2.out)
        have SBW3 := Lib.hid hbW3; clear hbW3
        have HWW3 := Lib.hid hW3; clear hW3
        rw [HWW3.out]
        clear es0W2 es1W2
        have S3 := Lib.hid (S2.out.trans (SBW3.out.mono S2.out.size))
        have ey0W3 : W3.cell? ⟨W2.heap.size + z1.bs.size, 0, none⟩ = some (.int .i64 y.day) := cell_of_block ZyW3.out 0 (by simp)
        have ey1W3 : W3.cell? ⟨W2.heap.size + z1.bs.size, 1, none⟩ = some (.int .i64 y.alo) := cell_of_block ZyW3.out 1 (by simp)
        have ey2W3 : W3.cell? ⟨W2.heap.size + z1.bs.size, 2, none⟩ = some (.int .i64 y.ahi) := cell_of_block ZyW3.out 2 (by simp)
        have ey3W3 : W3.cell? ⟨W2.heap.size + z1.bs.size, 3, none⟩ = some (.int .i64 y.wlo) := cell_of_block ZyW3.out 3 (by simp)
        have ey4W3 : W3.cell? ⟨W2.heap.size + z1.bs.size, 4, none⟩ = some (.int .i64 y.whi) := cell_of_block ZyW3.out 4 (by simp)
        have lyW3 := (Array.getElem?_eq_some_iff.1 ZyW3.out).1
        have RW := Lib.hid (own_below HR.out (thru SBW3.out SBW2.out))
        have LW := Lib.hid (show W1.heap.size ≤ W3.heap.size from S3.out.size)
        go_wp2_with (at_builtin; refine wpList_append_own _ rfl _ _ 112 rfl W1.heap.size 114 i0 (.agg #[.int .i64 0, .int .i64 0]) 2 16 Try.underlying112 HI.out Z0.out Z1.out Z2.out rfl (by decide) _ j (flC C x day j) rfl (RW.out.alloc _) ⟨W3.heap.size, 0, none⟩ 1 1 [.int .i64 j, .int .i64 y.alo] rfl rfl (news2 _ _ _ _) (by simp [Value.oneCell']) (by unfold maxLen; omega) (by omega) (by have := LW.out; simp; omega) ?_; intro v' w' hown' hgrow _)
        have hrow' : w'.ownsRow W1.heap.size 114 2 v' (j + 1) (flC C x day (j + 1)) := by rw [FSC.out]; exact hown'
        have low' := (S3.out.alloc (by have := S3.out.size; omega) _).grown hgrow (by have := S3.out.size; simp; omega) (fun g hg => (RW.out.lt g hg).1)
        have HR' := Lib.hid hrow'
        have HL' := Lib.hid low'
        clear hrow' low' hown' hgrow
        go_wp2_with fail
        go_roundw
        case rel => exact ⟨j + 1, by omega, by go_num, HR', HL'⟩
        case measure => simp [intOf]; omega
      · obtain rfl : j = C.nA := by omega
        rcases HR.out.2 with ⟨rfl, h1⟩ | ⟨g, cap, cur, rfl, -⟩
        · omega
        · obtain ⟨hh, hg, hb, hcap⟩ := fl_holds HR.out (by omega)
          have OC := ordered_any g cap (flA C x day C.nA) wr hh hg (by rw [flA_size]; omega) hcap
          rw [flA_size] at OC
          have OC := Lib.hid OC; clear hh
          go_wp2_with fail
          refine OC.out.mono ?_
          rintro e w2 ⟨v2, rfl, hown, hgr⟩
          have HO := Lib.hid hown; clear hown
          have HL := Lib.hid (HBw.out.grown hgr HBw.out.size (fun k e => by cases e; have := HBc.out.size; omega)); clear hgr
          go_wp2_with fail
          go_ret2
          refine ⟨_, rfl, ?_, HL.out⟩
          have := HO.out.base (show w.heap.size ≤ wr.heap.size from HBw.out.size)
          rw [flrs_eq ((sortPl_size _).trans (flA_size C.nA))] at this
          exact this
  · have hN : flN C x day = 0 := if_neg h0
    rw [hN]
    clear hN
    have AT0 := AT'.out 0
    rw [show errH C x 1 (fun _ => 0) (fun _ => ((0 : Nat) : Int)) day = flE C x day from rfl, show atV C x 1 (fun _ => 0) (fun _ => ((0 : Nat) : Int)) day = zeroCont from atV_err h0] at AT0
    obtain ⟨E, hE⟩ : ∃ E, flE C x day = E := ⟨_, rfl⟩
    rw [hE] at AT0 h0 ⊢
    clear hE
    have AT0 := Lib.hid AT0
    have ne : (E != 0) = true := by simpa using h0
    clear h0
    have m1 : (0 : Int) < maxZ 1 (C.nA : Int) := by rw [maxZ_eq]; omega
    have m2 : decide ((0 : Int) < maxZ 1 (C.nA : Int)) = true := decide_eq_true m1
    go_enter Try.func41, Try.ntmps41
    go_wp2_with fail
    rw [HWc.out]
    go_wp2_with fail
    go_loopw [8, 16] (fun v t wr => t = .int .i64 0 ∧ v = .slice none 0 0 ∧ Hid (Below W1.heap.size W1 wr)) (fun _ _ _ => 0)
    case atStart => exact ⟨rfl, rfl, Lib.hid (Below.refl _ _)⟩
    case round =>
      obtain ⟨rfl, rfl, SB⟩ := hrel
      have HBw := Lib.hid (thru SB.out HBc.out)
      have Y0 := Lib.hid ((SB.out.block _ lc0).trans Zc0.out)
      have Y1 := Lib.hid ((SB.out.block _ lc1).trans Zc1.out)
      clear c00 c01 c02 c10 c11 c12 c13 c14
      have ec0wr : wr.cell? ⟨w.heap.size, 0, none⟩ = some (.int .i64 C.days) := cell_of_block Y0.out 0 (by simp)
      have ec1wr : wr.cell? ⟨w.heap.size, 1, none⟩ = some (.slice C.aA C.nA C.cA) := cell_of_block Y0.out 1 (by simp)
      have ec2wr : wr.cell? ⟨w.heap.size, 2, none⟩ = some (.slice C.aW C.nW C.cW) := cell_of_block Y0.out 2 (by simp)
      have lcwr := (Array.getElem?_eq_some_iff.1 Y0.out).1
      have ex0wr : wr.cell? ⟨w.heap.size + 1, 0, none⟩ = some (.int .i64 x.day) := cell_of_block Y1.out 0 (by simp)
      have ex1wr : wr.cell? ⟨w.heap.size + 1, 1, none⟩ = some (.int .i64 x.alo) := cell_of_block Y1.out 1 (by simp)
      have ex2wr : wr.cell? ⟨w.heap.size + 1, 2, none⟩ = some (.int .i64 x.ahi) := cell_of_block Y1.out 2 (by simp)
      have ex3wr : wr.cell? ⟨w.heap.size + 1, 3, none⟩ = some (.int .i64 x.wlo) := cell_of_block Y1.out 3 (by simp)
      have ex4wr : wr.cell? ⟨w.heap.size + 1, 4, none⟩ = some (.int .i64 x.whi) := cell_of_block Y1.out 4 (by simp)
      have lxwr := (Array.getElem?_eq_some_iff.1 Y1.out).1
      go_wp2_with fail
      obtain ⟨W2, hW2⟩ : ∃ W2, ((wr)).alloc (.cells #[.int .i64 0, .int .i64 0] 53) = W2 := ⟨_, rfl⟩
      have hbW2 : Below wr.heap.size wr W2 := by rw [← hW2]; exact (Below.refl _ wr).alloc (by simp [gw_size]) _
      have ZcW2 := Lib.hid ((hbW2.block _ (Array.getElem?_eq_some_iff.1 Y0.out).1).trans Y0.out)
      have ZxW2 := Lib.hid ((hbW2.block _ (Array.getElem?_eq_some_iff.1 Y1.out).1).trans Y1.out)
      have zsW2 : W2.heap[wr.heap.size]? = some (.cells #[.int .i64 0, .int .i64 0] 53 (0, 0)) := by rw [← hW2]; exact alloc_at (by simp [gw_size])
      have ZsW2 := Lib.hid zsW2; clear zsW2
      have HBW2 := Lib.hid (thru hbW2 HBw.out)
      have SBW2 := Lib.hid hbW2; clear hbW2
      have HWW2 := Lib.hid hW2; clear hW2
      rw [HWW2.out]
      clear ec0wr ec1wr ec2wr ex0wr ex1wr ex2wr ex3wr ex4wr
      have S2 := Lib.hid (SB.out.trans (SBW2.out.mono SB.out.size))
      have es0W2 : W2.cell? ⟨wr.heap.size, 0, none⟩ = some (.int .i64 0) := cell_of_block ZsW2.out 0 (by simp)
      have es1W2 : W2.cell? ⟨wr.heap.size, 1, none⟩ = some (.int .i64 0) := cell_of_block ZsW2.out 1 (by simp)
      have lsW2 := (Array.getElem?_eq_some_iff.1 ZsW2.out).1
      have ATW := Lib.hid (AT0.out _ _ S2.out lsW2 es0W2 es1W2)
      refine (Calls.grown (ATW.out)).mono ?_
      rintro e w1 ⟨rfl, z1, rfl⟩
      go_upto_region 6 with (fail)
      obtain ⟨W3, hW3⟩ : ∃ W3, ((gw W2 z1)).alloc (.cells #[.int .i64 zeroCont.day, .int .i64 zeroCont.alo, .int .i64 zeroCont.ahi, .int .i64 zeroCont.wlo, .int .i64 zeroCont.whi] 28) = W3 := ⟨_, rfl⟩
      have hbW3 : Below W2.heap.size W2 W3 := by rw [← hW3]; exact (below_gw W2 z1).alloc (by simp [gw_size]) _
      have ZcW3 := Lib.hid ((hbW3.block _ (Array.getElem?_eq_some_iff.1 ZcW2.out).1).trans ZcW2.out)
      have ZxW3 := Lib.hid ((hbW3.block _ (Array.getElem?_eq_some_iff.1 ZxW2.out).1).trans ZxW2.out)
      have ZsW3 := Lib.hid ((hbW3.block _ (Array.getElem?_eq_some_iff.1 ZsW2.out).1).trans ZsW2.out)
      have zyW3 : W3.heap[W2.heap.size + z1.bs.size]? = some (.cells #[.int .i64 zeroCont.day, .int .i64 zeroCont.alo, .int .i64 zeroCont.ahi, .int .i64 zeroCont.wlo, .int .i64 zeroCont.whi] 28 (0, 0)) := by rw [← hW3]; exact alloc_at (by simp [gw_size])
      have ZyW3 := Lib.hid zyW3; clear zyW3
      have HBW3 := Lib.hid (thru hbW3 HBW2.out)
      have SBW3 := Lib.hid hbW3; clear hbW3
      have HWW3 := Lib.hid hW3; clear hW3
      rw [HWW3.out]
      clear es0W2 es1W2
      have S3 := Lib.hid (S2.out.trans (SBW3.out.mono S2.out.size))
      have ey0W3 : W3.cell? ⟨W2.heap.size + z1.bs.size, 0, none⟩ = some (.int .i64 zeroCont.day) := cell_of_block ZyW3.out 0 (by simp)
      have ey1W3 : W3.cell? ⟨W2.heap.size + z1.bs.size, 1, none⟩ = some (.int .i64 zeroCont.alo) := cell_of_block ZyW3.out 1 (by simp)
      have ey2W3 : W3.cell? ⟨W2.heap.size + z1.bs.size, 2, none⟩ = some (.int .i64 zeroCont.ahi) := cell_of_block ZyW3.out 2 (by simp)
      have ey3W3 : W3.cell? ⟨W2.heap.size + z1.bs.size, 3, none⟩ = some (.int .i64 zeroCont.wlo) := cell_of_block ZyW3.out 3 (by simp)
      have ey4W3 : W3.cell? ⟨W2.heap.size + z1.bs.size, 4, none⟩ = some (.int .i64 zeroCont.whi) := cell_of_block ZyW3.out 4 (by simp)
      have lyW3 := (Array.getElem?_eq_some_iff.1 ZyW3.out).1
      go_wp2_with fail
      go_ret2
      exact ⟨_, rfl, ⟨rfl, .inl ⟨rfl, rfl⟩⟩, HBW3.out⟩
end Go.Proofs.Ytljofnmgddfljaa
