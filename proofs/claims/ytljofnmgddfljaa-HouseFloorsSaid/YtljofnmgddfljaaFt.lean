/- Contract of ordered at places. No conditions beyond each theorem's own. -/
import Derived.Test.YtljofnmgddfljaaFs
set_option linter.unusedVariables false
set_option linter.unusedSimpArgs false
set_option linter.unusedSectionVars false
set_option linter.constructorNameAsVariable false
namespace Go.Proofs.Ytljofnmgddfljaa
open Go.Shelf Go.RowKit Go.Lib Go.Sort

attribute [local go_sem] gw_cell gw_frozen gw_size

theorem infoInt : (Try.prog.info? 3).map (fun i => (i.zero, i.size, i.bytes)) = some (some (.int .i64 0), 1, 8) := by kernel_rfl
theorem infoPlc : (Try.prog.info? 114).map (fun i => (i.zero, i.size, i.bytes)) = some (some (.agg #[.int .i64 0, .int .i64 0]), 2, 16) := by kernel_rfl
theorem enters_floorOf : ∀ args w, (callFunc 73 args).run Try.prog w = .ok (.enter 73 args) w := enters_of Try.func73 (by kernel_rfl) rfl

set_option maxRecDepth 100000 in
theorem placeFloor (f l : Int) (w : World) : Calls Try.prog 73 #[.agg #[.int .i64 f, .int .i64 l]] w fun e w' => e = .returned (.int .i64 f) ∧ Below w.heap.size w w' := by
  go_enter Try.func73, Try.ntmps73
  go_wp2_with fail
  go_ret
  exact ⟨rfl, below_alloc _ _⟩

/-- the floors of places -/
def flrs (d : Array Plc) (j : Nat) : List Value := (d.toList.take j).map fun p => .int .i64 p.f
theorem flrs_zero (d : Array Plc) : flrs d 0 = [] := rfl
theorem flrs_succ {d : Array Plc} {j : Nat} (h : j < d.size) : flrs d (j + 1) = flrs d j ++ [.int .i64 d[j]!.f] := by
  unfold flrs
  rw [List.take_succ_eq_append_getElem (by simpa using h), List.map_append]
  simp [h]

theorem grownBy_below {w w1 w2 : World} {b : Nat} (h : w.grownBy w1 (some b)) (hb : Below w1.heap.size w1 w2) : w.grownBy w2 (some b) :=
  ⟨hb.os.trans h.os, hb.tape.trans h.tape, hb.output.trans h.output, Nat.le_trans h.size hb.size, fun k hk hne => (hb.block k (Nat.lt_of_lt_of_le hk h.size)).trans (h.block k hk hne)⟩

set_option maxRecDepth 100000 in
set_option maxHeartbeats 2000000 in
theorem ordered_any (blk cap : Nat) (d : Array Plc) (w : World) (hH : HoldsK encP 2 w blk 0 d) (hblk : blk < w.heap.size) (hsz : d.size ≤ 1000) (hcap : cap ≤ 9223372036854775807) :
    Calls Try.prog 71 #[.slice (some ⟨blk, 0, none⟩) d.size cap, .func (.func 72) #[] #[], .func (.func 73) #[] #[]] w fun e w' =>
      ∃ v, e = .returned v ∧ w'.ownsRow w.heap.size 3 1 v d.size (flrs (sortPl d) d.size) ∧ w.grownBy w' (some blk) := by
  obtain ⟨i0, hi, hz0, hz1, hz2⟩ := info_parts infoInt
  have HI := Lib.hid hi
  have Z0 := Lib.hid hz0
  have Z1 := Lib.hid hz1
  have Z2 := Lib.hid hz2
  clear hi hz0 hz1 hz2
  have SO := Lib.hid (sort_any blk 0 cap d w hH hblk hsz)
  have EF := Lib.hid enters_floorOf
  have SS := Lib.hid (sortPl_size d)
  clear hH
  generalize sortPl d = s at *
  obtain ⟨n, hn⟩ : ∃ n, d.size = n := ⟨_, rfl⟩
  rw [hn] at SO SS hsz ⊢
  clear hn
  go_enter Try.func71, Try.ntmps71
  go_wp2_with fail
  refine SO.out.mono ?_
  rintro e w1 ⟨rfl, hg, hs⟩
  have HG := Lib.hid hg; clear hg
  have HS := Lib.hid hs; clear hs
  go_wp2_with fail
  go_loopw [7, 15] (fun v t wr => ∃ j : Nat, j ≤ n ∧ t = .int .i64 j ∧ Hid (wr.ownsRow w1.heap.size 3 1 v j (flrs s j)) ∧ Hid (Below w1.heap.size w1 wr)) (fun _ t _ => n - (intOf t).toNat)
  case atStart => exact ⟨0, Nat.zero_le _, rfl, Lib.hid ⟨rfl, .inl ⟨rfl, rfl⟩⟩, Lib.hid (Below.refl _ _)⟩
  case round =>
    obtain ⟨j, hj, rfl, HR, HB⟩ := hrel
    by_cases hlt : j < n
    · have g0 := (HS.out.cell (i := j) (c := 0) (by rw [SS.out]; omega) (by omega)).1
      have g1 := (HS.out.cell (i := j) (c := 1) (by rw [SS.out]; omega) (by omega)).1
      have lb1 := Nat.lt_of_lt_of_le hblk HG.out.size
      have FS := Lib.hid (flrs_succ (d := s) (j := j) (by rw [SS.out]; omega))
      have q0 := below_cell HB.out g0
      have q1 := below_cell HB.out g1
      have lb := Nat.lt_of_lt_of_le lb1 HB.out.size
      obtain ⟨p, hp⟩ : ∃ p, s[j]! = p := ⟨_, rfl⟩
      rw [hp] at q0 q1 FS
      simp [encP] at q0 q1
      clear g0 g1 hp lb1
      go_wp2_with fail
      obtain ⟨V, hV⟩ : ∃ V, wr.alloc (.cells #[.int .i64 p.f, .int .i64 p.l] 114) = V := ⟨_, rfl⟩
      have BV := Lib.hid (show Below wr.heap.size wr V by rw [← hV]; exact below_alloc _ _)
      rw [hV]
      refine (placeFloor p.f p.l V).mono ?_
      rintro e w2 ⟨rfl, hb2⟩
      have RW := Lib.hid (own_below HR.out (thru hb2 BV.out))
      have BW := Lib.hid (thru (thru hb2 BV.out) HB.out)
      have LW := Lib.hid (show w1.heap.size ≤ w2.heap.size from BW.out.size)
      clear hb2 hV
      go_wp2_with (at_builtin; refine wpList_append_own _ rfl _ _ 74 rfl w1.heap.size 3 i0 (.int .i64 0) 1 8 Try.underlying74 HI.out Z0.out Z1.out Z2.out rfl (by decide) _ j (flrs s j) rfl (RW.out.alloc _) ⟨w2.heap.size, 0, none⟩ 1 1 [.int .i64 p.f] rfl rfl (cell_one_new _ _ _) (by simp [Value.oneCell']) (by unfold maxLen; omega) (by omega) (by have := LW.out; simp; omega) ?_; intro v' w' hown' hgrow _)
      have hrow' : w'.ownsRow w1.heap.size 3 1 v' (j + 1) (flrs s (j + 1)) := by rw [FS.out]; exact hown'
      have low' := (BW.out.alloc (by have := BW.out.size; omega) _).grown hgrow (by have := BW.out.size; simp; omega) (fun g hg => (RW.out.lt g hg).1)
      have HR' := Lib.hid hrow'
      have HL' := Lib.hid low'
      clear hrow' low' hown' hgrow
      go_wp2_with fail
      go_roundw
      case rel => exact ⟨j + 1, by omega, by go_num, HR', HL'⟩
      case measure => simp [intOf]; omega
    · obtain rfl : n = j := by omega
      go_wp2_with fail
      go_ret
      exact ⟨_, rfl, HR.out.base HG.out.size, grownBy_below HG.out HB.out⟩
end Go.Proofs.Ytljofnmgddfljaa
