/- Contract of the reference's marks. No conditions beyond each theorem's own. -/
import Derived.Test.YtohcopdfdmjhnaaSi
import Derived.Test.YtohcopdfdmjhnaaSa
import Derived.Test.YtohcopdfdmjhnaaAl
set_option linter.unusedVariables false
set_option linter.unusedSimpArgs false
set_option linter.unusedSectionVars false
set_option linter.constructorNameAsVariable false
namespace Go.Proofs.Ytohcopdfdmjhnaa.L1
open Go.RowKit
open Go.Proofs.Ytohcopdfdmjhnaa

attribute [local go_sem] gw_cell gw_frozen gw_size

theorem marksR_t {L : Nat → Int} {k : Nat} {lo hi : Int} (h : inB (L k) lo hi = true) : marksR L (k + 1) lo hi = marksR L k lo hi ++ [L k] := by
  unfold marksR; simp [List.range_succ, h]
theorem marksR_f {L : Nat → Int} {k : Nat} {lo hi : Int} (h : inB (L k) lo hi = false) : marksR L (k + 1) lo hi = marksR L k lo hi := by
  unfold marksR; simp [List.range_succ, h]
/-- marks in memory -/
def RMarkAt (L : Nat → Int) (n : Nat) (lo hi : Int) (N : Nat) (v : Value) (w : World) : Prop :=
  ∃ g c, v = .slice (some ⟨g, 0, none⟩) (marksR L n lo hi).length c ∧ N ≤ g ∧ g < w.heap.size ∧ ∀ i, i < (marksR L n lo hi).length → w.cell? ⟨g, i, none⟩ = some (.int .i64 ((marksR L n lo hi).getD i 0))
theorem rmark_stable {L : Nat → Int} {n : Nat} {lo hi : Int} {N : Nat} {v : Value} : StableW (RMarkAt L n lo hi N v) := fun w w' hb ⟨g, c, h1, h2, h3, h4⟩ =>
  ⟨g, c, h1, h2, Nat.lt_of_lt_of_le h3 hb.size, fun i hi => (hb.cell (p := ⟨g, i, none⟩) h3).trans (h4 i hi)⟩
theorem rmark_of_own {L : Nat → Int} {n : Nat} {lo hi : Int} {N base : Nat} {e : TypeId} {v : Value} {w : World} (h : w.ownsRow base e 1 v (marksR L n lo hi).length ((marksR L n lo hi).map (Value.int .i64))) (hN : N ≤ base) : RMarkAt L n lo hi N v w := by
  have l2 := (marksR_len L n lo hi).1
  rcases h.2 with ⟨_, h0⟩ | ⟨g', cap', cur', rfl, hg', hgb', _⟩
  · omega
  · exact ⟨g', cap', rfl, by omega, (Array.getElem?_eq_some_iff.1 hgb').1, fun i hi => row_cells h i _ (by simp [hi])⟩
def RMarked (L : Nat → Int) (n : Nat) (lo hi : Int) (w : World) (e : Ending) (w' : World) : Prop := ∃ v, e = .returned v ∧ Below w.heap.size w w' ∧ RMarkAt L n lo hi w.heap.size v w'

set_option maxRecDepth 100000 in
set_option maxHeartbeats 4000000 in
theorem rmarks_any (a : Option Addr) (n c : Nat) (L : Nat → Int) (lo hi : Int) (w : World) (hn : n ≤ 32) (hI : IntsAt w a n L) : Calls Try.prog 83 #[.slice a n c, .agg #[.int .i64 lo, .int .i64 hi]] w (RMarked L n lo hi w) := by
  obtain ⟨i0, hi0, hx0, hx1, hx2⟩ := info_parts infoI
  have II := Lib.hid hi0; have IZ0 := Lib.hid hx0; have IZ1 := Lib.hid hx1; have IZ2 := Lib.hid hx2
  clear hi0 hx0 hx1 hx2
  obtain ⟨W1, hW1⟩ : ∃ W1, w.alloc (.cells #[.int .i64 lo, .int .i64 hi] 27) = W1 := ⟨_, rfl⟩
  have hBc : Below w.heap.size w W1 := by rw [← hW1]; exact below_alloc _ _
  have zc0 : W1.heap[w.heap.size]? = some (.cells #[.int .i64 lo, .int .i64 hi] 27 (0, 0)) := by rw [← hW1]; exact alloc_at rfl
  have c00 : W1.cell? ⟨w.heap.size, 0, none⟩ = some (.int .i64 lo) := cell_of_block zc0 0 (by simp)
  have c01 : W1.cell? ⟨w.heap.size, 1, none⟩ = some (.int .i64 hi) := cell_of_block zc0 1 (by simp)
  have lc0 := (Array.getElem?_eq_some_iff.1 zc0).1
  clear zc0
  have HBc := Lib.hid hBc; clear hBc
  have HWc := Lib.hid hW1; clear hW1
  have HI := Lib.hid (hI.below HBc.out)
  have s1 := HBc.out.size
  clear hI
  go_enter Try.func83, Try.ntmps83
  go_upto_region 1 with (fail)
  rw [HWc.out]
  go_upto_region 2 with (fail)
  obtain ⟨W2, hW2⟩ : ∃ W2, W1.alloc (.cells #[.int .i64 lo, .int .i64 hi] 3) = W2 := ⟨_, rfl⟩
  rw [hW2]
  have R0 : W2.ownsRow W1.heap.size 3 1 (.slice (some ⟨W1.heap.size, 0, none⟩) 2 2) 2 [.int .i64 lo, .int .i64 hi] := by
    rw [← hW2]
    exact ⟨rfl, .inr ⟨W1.heap.size, 2, #[.int .i64 lo, .int .i64 hi], rfl, Nat.le_refl _, alloc_at rfl, Nat.le_refl _, by unfold maxLen; omega, rfl, rfl⟩⟩
  have HR0 := Lib.hid R0
  have HB2 := Lib.hid (show Below W1.heap.size W1 W2 by rw [← hW2]; exact below_alloc _ _)
  clear hW2 R0
  go_wp2_with fail
  go_loopw [5, 6] (fun v t wr => ∃ k : Nat, k ≤ n ∧ t = .int .i64 k ∧ Hid (wr.ownsRow W1.heap.size 3 1 v (marksR L k lo hi).length ((marksR L k lo hi).map (Value.int .i64))) ∧ Hid (Below W1.heap.size W1 wr)) (fun _ t _ => n - (intOf t).toNat)
  case atStart => exact ⟨0, Nat.zero_le _, rfl, HR0, HB2⟩
  case round =>
    obtain ⟨k, hk, rfl, RO, BR⟩ := hrel
    clear HR0 HB2
    have ln := (marksR_len L k lo hi).2
    by_cases hlt : k < n
    · have hi_ : (k : Int) < (n : Int) := by omega
      obtain ⟨b, off, rfl, lb0, hc⟩ := (HI.out.below BR.out).resolve_left (by omega)
      have x1 := hc k hlt
      clear hc
      have d0 := below_cell BR.out c00
      have d1 := below_cell BR.out c01
      have ld := Nat.lt_of_lt_of_le lc0 BR.out.size
      have IN := Lib.hid (fun w => rin_any (L k) lo hi w)
      cases hb : inB (L k) lo hi with
      | false =>
        have ST := Lib.hid (marksR_f hb)
        simp only [hb] at IN
        clear hb
        generalize L k = x at *
        obtain ⟨ff, hff⟩ : ∃ f : Bool, f = false := ⟨_, rfl⟩
        go_upto_region 5 with (fail)
        refine wp_region_gw (by kernel_rfl) (by kernel_rfl) ?_
        repeat (go_big_quiet_step ((go_at_call 56; with_reducible exact Calls.gw_of_same ((IN.out _).mono (by rintro e w' ⟨rfl, rfl⟩; exact ⟨rfl, rfl⟩)))))
        refine wpQuiet_nil ?_
        rintro _ ⟨z, rfl⟩
        clear hff
        go_wp2_with fail
        go_roundw
        case rel => exact ⟨k + 1, by omega, by go_num, Lib.hid (by rw [ST.out]; exact own_below RO.out (below_gw _ z)), Lib.hid (BR.out.trans ((below_gw _ z).mono BR.out.size))⟩
        case measure => simp [intOf]; omega
      | true =>
        have ST := Lib.hid (marksR_t hb)
        simp only [hb] at IN
        clear hb
        generalize L k = x at *
        go_upto_region 5 with (fail)
        refine wp_region_gw (by kernel_rfl) (by kernel_rfl) ?_
        repeat (go_big_quiet_step ((go_at_call 56; with_reducible exact Calls.gw_of_same ((IN.out _).mono (by rintro e w' ⟨rfl, rfl⟩; exact ⟨rfl, rfl⟩)))))
        refine wpQuiet_nil ?_
        rintro _ ⟨z, rfl⟩
        obtain ⟨V, hV⟩ : ∃ V, gw wr z = V := ⟨_, rfl⟩
        have BV := Lib.hid (show Below wr.heap.size wr V by rw [← hV]; exact below_gw _ z)
        rw [hV]
        clear hV
        replace x1 := below_cell BV.out x1
        replace lb0 := Nat.lt_of_lt_of_le lb0 BV.out.size
        have RW := Lib.hid (own_below RO.out BV.out)
        have BW := Lib.hid (thru BV.out BR.out)
        have LW := Lib.hid (show W1.heap.size ≤ V.heap.size from BW.out.size)
        clear d0 d1 ld IN
        obtain ⟨q, hq⟩ : ∃ q, (marksR L k lo hi).length = q := ⟨_, rfl⟩
        have RW2 := RW.out
        rw [hq] at RW2 ln
        obtain ⟨ao, co, hv⟩ := own_form RW2
        have RW3 := Lib.hid RW2
        clear RW2
        subst hv
        go_wp2_with (at_builtin; refine wpList_append_own _ rfl _ _ 22 rfl W1.heap.size 3 i0 (.int .i64 0) 1 8 Try.underlying22 II.out IZ0.out IZ1.out IZ2.out rfl (by decide) _ q ((marksR L k lo hi).map (Value.int .i64)) rfl (RW3.out.alloc _) ⟨V.heap.size, 0, none⟩ 1 1 [.int .i64 x] rfl rfl (news_lit _ _ _) (by simp [Value.oneCell']) (by unfold maxLen; omega) (by omega) (by have := LW.out; simp; omega) ?_; intro v9 w9 hown9 hgrow9 _)
        have HO9 := Lib.hid hown9
        have HB9 := Lib.hid ((BW.out.alloc BW.out.size (.cells #[.int .i64 x] 3)).grown hgrow9 (by have := BW.out.size; simp; omega) (fun b hb => (RW3.out.lt b hb).1))
        have HQ := Lib.hid hq
        clear hown9 hgrow9 hq
        go_wp2_with fail
        go_roundw
        case rel => exact ⟨k + 1, by omega, by go_num, Lib.hid (by rw [ST.out, List.length_append, HQ.out, List.map_append]; exact HO9.out), HB9⟩
        case measure => simp [intOf]; omega
    · obtain rfl : n = k := by omega
      have hi_ : ¬ (n : Int) < (n : Int) := by omega
      go_wp2_with fail
      go_ret
      exact ⟨_, rfl, thru BR.out HBc.out, rmark_of_own RO.out (by omega)⟩
end Go.Proofs.Ytohcopdfdmjhnaa.L1
