/- Contracts of cmp.Or at two numbers, of place.before, of the library sort at places. No conditions beyond each theorem's own. -/
import Derived.Test.YtljofnmgddfljaaFr
import Derived.Test.YtljofnmgddfljaaFm
import Derived.Shelf.SlSortCmp.NoneTotal
set_option linter.unusedVariables false
set_option linter.unusedSimpArgs false
set_option linter.unusedSectionVars false
set_option linter.constructorNameAsVariable false
namespace Go.Proofs.Ytljofnmgddfljaa
open Go.Shelf Go.RowKit Go.Lib Go.Sort

attribute [local go_sem] gw_cell gw_frozen gw_size

/-- a floor, and what is left there -/
structure Plc where
  f : Nat
  l : Nat
  hf : f ≤ 1000
  hl : l ≤ 1000000000000
instance : Inhabited Plc := ⟨⟨0, 0, by omega, by omega⟩⟩
theorem Plc.ext' {x y : Plc} (h1 : x.f = y.f) (h2 : x.l = y.l) : x = y := by cases x; cases y; cases h1; cases h2; rfl
def encP (x : Plc) : List Value := [.int .i64 x.f, .int .i64 x.l]
def orZ (a b : Int) : Int := if a = 0 then b else a
def cfP (x y : Plc) : Int := orZ ((y.l : Int) - x.l) ((x.f : Int) - y.f)
theorem ltP (x y : Plc) : ltOf cfP x y = decide (y.l < x.l ∨ y.l = x.l ∧ x.f < y.f) := by
  unfold ltOf cfP orZ
  split <;> (congr 1; apply propext; omega)
theorem swoP : SWO (ltOf cfP) where
  irrefl x := by rw [ltP]; simp
  trans x y z h1 h2 := by rw [ltP] at *; simp at *; omega
  ntrans x y z h1 h2 := by rw [ltP] at *; simp at *; omega
theorem totP (x y : Plc) (h1 : ltOf cfP x y = false) (h2 : ltOf cfP y x = false) : x = y := by
  rw [ltP] at h1 h2
  simp at h1 h2
  exact Plc.ext' (by omega) (by omega)

set_option maxRecDepth 100000 in
set_option maxHeartbeats 1000000 in
theorem or_any (b : Nat) (x y : Int) (w : World) (h0 : w.cell? ⟨b, 0, none⟩ = some (.int .i64 x)) (h1 : w.cell? ⟨b, 1, none⟩ = some (.int .i64 y)) :
    Calls Try.prog 93 #[.slice (some ⟨b, 0, none⟩) 2 2] w fun e w' => e = .returned (.int .i64 (orZ x y)) ∧ w = w' := by
  have OE : orZ x y = if x = 0 then y else x := rfl
  have HO := Lib.hid OE; clear OE
  generalize orZ x y = r at *
  go_enter Try.func93, Try.ntmps93
  go_wp2_with fail
  go_loop [8] (fun t => ∃ j : Nat, j ≤ 2 ∧ t = .int .i64 j ∧ Hid (1 ≤ j → x = 0) ∧ Hid (2 ≤ j → y = 0)) (fun t => 2 - (intOf t).toNat)
  case atStart => exact ⟨0, by omega, rfl, Lib.hid (fun h => by omega), Lib.hid (fun h => by omega)⟩
  case round =>
    obtain ⟨j, hj, rfl, hx, hy⟩ := hrel
    match j, hj with
    | 0, _ =>
      by_cases hz : x = 0
      · have ne : (x != 0) = false := by simp [hz]
        have HZ := Lib.hid hz; clear hz
        go_wp2_with fail
        go_round
        case rel => exact ⟨1, by omega, rfl, Lib.hid (fun _ => HZ.out), Lib.hid (fun h => by omega)⟩
        case measure => simp [intOf]
      · have ne : (x != 0) = true := by simpa using hz
        have HZ := Lib.hid hz; clear hz
        go_wp2_with fail
        go_ret
        exact ⟨by rw [HO.out, if_neg HZ.out]; rfl, rfl⟩
    | 1, _ =>
      by_cases hz : y = 0
      · have ne : (y != 0) = false := by simp [hz]
        have HZ := Lib.hid hz; clear hz
        go_wp2_with fail
        go_round
        case rel => exact ⟨2, by omega, rfl, Lib.hid (fun _ => hx.out (by omega)), Lib.hid (fun _ => HZ.out)⟩
        case measure => simp [intOf]
      · have ne : (y != 0) = true := by simpa using hz
        have HZ := Lib.hid hz; clear hz
        go_wp2_with fail
        go_ret
        exact ⟨by rw [HO.out, if_pos (hx.out (by omega))]; rfl, rfl⟩
    | 2, _ =>
      go_wp2_with fail
      go_ret
      exact ⟨by rw [HO.out, if_pos (hx.out (by omega)), hy.out (by omega)]; rfl, rfl⟩

set_option maxRecDepth 100000 in
set_option maxHeartbeats 1000000 in
theorem before_any (x y : Plc) (W : World) :
    Calls Try.prog 72 #[.agg (encP x).toArray, .agg (encP y).toArray] W fun e w' => e = .returned (.int .i64 (cfP x y)) ∧ ∃ q os', w' = grow (W.drewN q) os' := by
  show Calls Try.prog 72 #[.agg #[.int .i64 x.f, .int .i64 x.l], .agg #[.int .i64 y.f, .int .i64 y.l]] W _
  unfold cfP
  have b1 := x.hf
  have b2 := x.hl
  have b3 := y.hf
  have b4 := y.hl
  generalize x.f = xf at *
  generalize x.l = xl at *
  generalize y.f = yf at *
  generalize y.l = yl at *
  clear x y
  have OR := fun W' b h0 h1 => or_any b ((yl : Int) - xl) ((xf : Int) - yf) W' h0 h1
  generalize orZ ((yl : Int) - xl) ((xf : Int) - yf) = r at *
  have OR' := Lib.hid OR; clear OR
  go_enter Try.func72, Try.ntmps72
  go_wp2_with fail
  refine (OR'.out _ _ (by simp [go_sem]) (by simp [go_sem])).mono ?_
  rintro e w1 ⟨rfl, rfl⟩
  go_wp2_with fail
  go_ret
  exact ⟨rfl, 0, _, by rw [alloc_eq_grow, alloc_eq_grow, alloc_eq_grow, grow_grow, grow_grow]; rfl⟩
theorem cmpP (blk off size : Nat) (w : World) : CmpLays Try.prog 72 #[] encP 2 cfP blk off size w :=
  fun _ _ _ _ x y => before_any x y _

/-- places in order -/
def sortPl (d : Array Plc) : Array Plc := (d.toList.mergeSort fun x y => !ltOf cfP y x).toArray
theorem sortPl_perm (d : Array Plc) : (sortPl d).toList.Perm d.toList := by
  unfold sortPl; exact List.mergeSort_perm _ _
theorem sortPl_size (d : Array Plc) : (sortPl d).size = d.size := by
  have := (sortPl_perm d).length_eq; simpa using this
theorem sortPl_sorted (d : Array Plc) : (sortPl d).toList.Pairwise fun x y => ltOf cfP y x = false := by
  unfold sortPl
  have := List.pairwise_mergeSort (le := fun x y : Plc => !ltOf cfP y x) (fun a b c h1 h2 => by
    simp only [Bool.not_eq_true'] at h1 h2 ⊢
    exact swoP.ntrans c b a h2 h1) (fun a b => by
    rw [ltP, ltP]; simp; omega) d.toList
  exact this.imp (fun h => by simpa using h)

theorem sortWorld_keep {enc : Plc → List Value} {k : Nat} {w : World} {blk off n : Nat} {d' : Array Plc} {os : Array Obj} (hb : blk < w.heap.size) : w.grownBy (sortWorldK enc k w blk off n d' os) (some blk) := by
  refine ⟨rfl, rfl, rfl, ?_, fun b hb2 hne => ?_⟩
  · unfold sortWorldK grow
    simp [size_putRowK]
  · have hne' : b ≠ blk := fun h => hne (by rw [h])
    unfold sortWorldK grow putRowK putRow mapBlock Sort.ahead
    simp only
    rw [Array.getElem?_append_left (by simpa using hb2)]
    rw [Array.getElem?_modify]
    rw [if_neg (Ne.symm hne')]
theorem sortWorld_holds {enc : Plc → List Value} {k : Nat} {w : World} {blk off n : Nat} {d d' : Array Plc} {os : Array Obj} (hb : blk < w.heap.size) (h : HoldsK enc k w blk off d) (hs : d'.size = d.size) : HoldsK enc k (sortWorldK enc k w blk off n d' os) blk off d' := by
  unfold sortWorldK
  exact holdsK_grow enc k _ _ _ _ _ (by rw [size_putRowK]; exact hb) (holdsK_putRowK enc k _ _ _ _ _ (holdsK_ahead enc k w n blk off d h) hs)

theorem sort_any (blk off cap : Nat) (d : Array Plc) (w : World) (hH : HoldsK encP 2 w blk off d) (hblk : blk < w.heap.size) (hsz : d.size ≤ 1000) :
    Calls Try.prog 92 #[.slice (some ⟨blk, off, none⟩) d.size cap, .func (.func 72) #[] #[]] w fun e w' => e = .returned (.tuple #[]) ∧ w.grownBy w' (some blk) ∧ HoldsK encP 2 w' blk off (sortPl d) := by
  have eg : ∀ args w, (callFunc 72 args).run Try.prog w = .ok (.enter 72 args) w := enters_of Try.func72 (by kernel_rfl) rfl
  have hcon := AnyQ.slices_SortFunc_total sortP 2 Try.isAgg114 Try.sizeOf114 encP (fun _ => rfl) (fun x v hv => by simp [encP] at hv; rcases hv with rfl | rfl <;> rfl) cfP swoP 72 #[] blk off cap d w eg (cmpP blk off d.size w) hH hblk (by omega) totP
  change Calls Try.prog 92 _ _ _ at hcon
  exact hcon.mono fun e w' ⟨he, n, os, hw⟩ => by
    subst hw
    exact ⟨he, sortWorld_keep hblk, sortWorld_holds hblk hH (sortPl_size d)⟩
end Go.Proofs.Ytljofnmgddfljaa
