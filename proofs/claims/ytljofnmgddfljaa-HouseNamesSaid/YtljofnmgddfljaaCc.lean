/- Contracts of one, sample. No conditions beyond each theorem's own. -/
import Derived.Test.YtljofnmgddfljaaCa
import Derived.Test.YtljofnmgddfljaaAh
set_option linter.unusedVariables false
set_option linter.unusedSimpArgs false
set_option linter.unusedSectionVars false
set_option linter.constructorNameAsVariable false
namespace Go.Proofs.Ytljofnmgddfljaa
open Go.RowKit

attribute [local go_sem] gw_cell gw_frozen gw_size

set_option maxHeartbeats 400000 in
theorem one_any (n : Int) (w : World) :
    Calls Try.prog 47 #[.int .i64 n] w fun e w' => e = .returned (.agg #[.int .i64 n, .int .i64 n]) ∧ w.alloc (.cells #[.int .i64 n, .int .i64 n] 26) = w' := by
  go_enter Try.func47, Try.ntmps47
  go_wp2
  exact bodyPost_ret (v := .agg #[.int .i64 n, .int .i64 n]) (by simp [results, Try.results47, go_sem]) rfl ⟨rfl, rfl⟩
theorem one_b (n : Int) (w : World) :
    Calls Try.prog 47 #[.int .i64 n] w fun e w' => e = .returned (.agg #[.int .i64 n, .int .i64 n]) ∧ Below w.heap.size w w' := (one_any n w).mono fun _ _ ⟨h1, h2⟩ => ⟨h1, h2 ▸ below_alloc _ _⟩

/-- the sample's climate, content, stays -/
def sampR (bs : List Nat) (A B : List (List Int)) (i : Nat) : RowD := ⟨some ⟨bs.getD i 0, 0, none⟩, 2, 2, fun s => (A.getD i []).getD s 0, fun s => (B.getD i []).getD s 0⟩
def sampC (bA bW : Nat) (ba bw : List Nat) : Clim := ⟨10, some ⟨bA, 0, none⟩, 2, 2, some ⟨bW, 0, none⟩, 2, 2, sampR ba [[1000000, 1000000], [0, 5000000]] [[2000000, 1000000], [0, 5000000]], sampR bw [[0, 0], [1000000, 0]] [[1000000, 0], [1000000, 1000000]]⟩
def sampX : Cont := ⟨9, 600000, 600000, 400000, 400000⟩
def sampF (i : Nat) : Int := [0, 11].getD i 0
def sampG (i : Nat) : Int := [0, 1].getD i 0
def SampS (N : Nat) (v : Value) (w : World) : Prop := ∃ B, N ≤ B ∧ v = .slice (some ⟨B, 0, none⟩) 2 2 ∧ w.heap[B]? = some (.cells #[.int .i64 0, .int .i64 0, .int .i64 11, .int .i64 1] 53 (0, 0))
theorem sampS_stable {N : Nat} {v : Value} : StableW (SampS N v) := fun w w' hb ⟨B, h1, h2, h3⟩ => ⟨B, h1, h2, (hb.block B (Array.getElem?_eq_some_iff.1 h3).1).trans h3⟩
def Sampled (w : World) (e : Ending) (w' : World) : Prop :=
  ∃ bA bW ba bw bS, e = .returned (.tuple #[.agg #[.int .i64 10, .slice (some ⟨bA, 0, none⟩) 2 2, .slice (some ⟨bW, 0, none⟩) 2 2], sampX.val, .slice (some ⟨bS, 0, none⟩) 2 2]) ∧ (sampC bA bW ba bw).In w' ∧ SpansAt w' (some ⟨bS, 0, none⟩) 2 sampF sampG ∧ Below w.heap.size w w'
theorem rows_two {w : World} {b b0 b1 : Nat} {A0 A1 B0 B1 C0 C1 D0 D1 : Int} (h : w.heap[b]? = some (.cells #[.slice (some ⟨b0, 0, none⟩) 2 2, .slice (some ⟨b1, 0, none⟩) 2 2] 81 (0, 0)))
    (h0 : w.heap[b0]? = some (.cells #[.int .i64 A0, .int .i64 B0, .int .i64 A1, .int .i64 B1] 26 (0, 0))) (h1 : w.heap[b1]? = some (.cells #[.int .i64 C0, .int .i64 D0, .int .i64 C1, .int .i64 D1] 26 (0, 0))) :
    RowsAt w (some ⟨b, 0, none⟩) 2 (sampR [b0, b1] [[A0, A1], [C0, C1]] [[B0, B1], [D0, D1]]) := by
  refine .inr ⟨b, 0, rfl, (Array.getElem?_eq_some_iff.1 h).1, fun i hi => ?_⟩
  match i, hi with
  | 0, _ =>
    refine ⟨cell_of_block h 0 (by simp), .inr ⟨b0, 0, rfl, (Array.getElem?_eq_some_iff.1 h0).1, fun s hs => ?_⟩⟩
    match s, (show s < 2 from hs) with
    | 0, _ => exact ⟨cell_of_block h0 0 (by simp), cell_of_block h0 1 (by simp)⟩
    | 1, _ => exact ⟨cell_of_block h0 2 (by simp), cell_of_block h0 3 (by simp)⟩
  | 1, _ =>
    refine ⟨cell_of_block h 1 (by simp), .inr ⟨b1, 0, rfl, (Array.getElem?_eq_some_iff.1 h1).1, fun s hs => ?_⟩⟩
    match s, (show s < 2 from hs) with
    | 0, _ => exact ⟨cell_of_block h1 0 (by simp), cell_of_block h1 1 (by simp)⟩
    | 1, _ => exact ⟨cell_of_block h1 2 (by simp), cell_of_block h1 3 (by simp)⟩

set_option maxRecDepth 100000 in
set_option maxHeartbeats 4000000 in
theorem sample_any (w : World) : Calls Try.prog 46 #[] w (Sampled w) := by
  obtain ⟨W1, hW1⟩ : ∃ W1, (((((((((((w.alloc (.cells #[.int .i64 0, .slice none 0 0, .slice none 0 0] 24)).alloc (.cells #[.int .i64 0, .int .i64 0, .int .i64 0, .int .i64 0, .int .i64 0] 28)).alloc (.cells #[.int .i64 1000000, .int .i64 1000000] 26)).alloc (.cells #[.int .i64 1000000, .int .i64 2000000, .int .i64 1000000, .int .i64 1000000] 26)).alloc (.cells #[.int .i64 5000000, .int .i64 5000000] 26)).alloc (.cells #[.int .i64 0, .int .i64 0, .int .i64 5000000, .int .i64 5000000] 26)).alloc (.cells #[.slice (some ⟨w.heap.size + 1 + 1 + 1, 0, none⟩) 2 2, .slice (some ⟨w.heap.size + 1 + 1 + 1 + 1 + 1, 0, none⟩) 2 2] 81)).alloc (.cells #[.int .i64 0, .int .i64 1000000, .int .i64 0, .int .i64 0] 26)).alloc (.cells #[.int .i64 1000000, .int .i64 1000000] 26)).alloc (.cells #[.int .i64 1000000, .int .i64 1000000, .int .i64 0, .int .i64 1000000] 26)).alloc (.cells #[.slice (some ⟨w.heap.size + 1 + 1 + 1 + 1 + 1 + 1 + 1, 0, none⟩) 2 2, .slice (some ⟨w.heap.size + 1 + 1 + 1 + 1 + 1 + 1 + 1 + 1 + 1, 0, none⟩) 2 2] 81)).alloc (.cells #[.int .i64 10, .slice (some ⟨w.heap.size + 1 + 1 + 1 + 1 + 1 + 1, 0, none⟩) 2 2, .slice (some ⟨w.heap.size + 1 + 1 + 1 + 1 + 1 + 1 + 1 + 1 + 1 + 1, 0, none⟩) 2 2] 24) = W1 := ⟨_, rfl⟩
  have hBc : Below w.heap.size w W1 := by rw [← hW1]; exact (((((((((((below_alloc _ _).alloc (by simp) _).alloc (by simp <;> omega) _).alloc (by simp <;> omega) _).alloc (by simp <;> omega) _).alloc (by simp <;> omega) _).alloc (by simp <;> omega) _).alloc (by simp <;> omega) _).alloc (by simp <;> omega) _).alloc (by simp <;> omega) _).alloc (by simp <;> omega) _).alloc (by simp <;> omega) _
  have zc0 : W1.heap[w.heap.size]? = some (.cells #[.int .i64 0, .slice none 0 0, .slice none 0 0] 24 (0, 0)) := by rw [← hW1]; exact alloc_keep (alloc_keep (alloc_keep (alloc_keep (alloc_keep (alloc_keep (alloc_keep (alloc_keep (alloc_keep (alloc_keep (alloc_keep (alloc_at rfl)))))))))))
  have zc1 : W1.heap[w.heap.size + 1]? = some (.cells #[.int .i64 0, .int .i64 0, .int .i64 0, .int .i64 0, .int .i64 0] 28 (0, 0)) := by rw [← hW1]; exact alloc_keep (alloc_keep (alloc_keep (alloc_keep (alloc_keep (alloc_keep (alloc_keep (alloc_keep (alloc_keep (alloc_keep (alloc_at (by simp)))))))))))
  have zc2 : W1.heap[w.heap.size + 1 + 1]? = some (.cells #[.int .i64 1000000, .int .i64 1000000] 26 (0, 0)) := by rw [← hW1]; exact alloc_keep (alloc_keep (alloc_keep (alloc_keep (alloc_keep (alloc_keep (alloc_keep (alloc_keep (alloc_keep (alloc_at (by simp <;> omega))))))))))
  have zc3 : W1.heap[w.heap.size + 1 + 1 + 1]? = some (.cells #[.int .i64 1000000, .int .i64 2000000, .int .i64 1000000, .int .i64 1000000] 26 (0, 0)) := by rw [← hW1]; exact alloc_keep (alloc_keep (alloc_keep (alloc_keep (alloc_keep (alloc_keep (alloc_keep (alloc_keep (alloc_at (by simp <;> omega)))))))))
  have zc4 : W1.heap[w.heap.size + 1 + 1 + 1 + 1]? = some (.cells #[.int .i64 5000000, .int .i64 5000000] 26 (0, 0)) := by rw [← hW1]; exact alloc_keep (alloc_keep (alloc_keep (alloc_keep (alloc_keep (alloc_keep (alloc_keep (alloc_at (by simp <;> omega))))))))
  have zc5 : W1.heap[w.heap.size + 1 + 1 + 1 + 1 + 1]? = some (.cells #[.int .i64 0, .int .i64 0, .int .i64 5000000, .int .i64 5000000] 26 (0, 0)) := by rw [← hW1]; exact alloc_keep (alloc_keep (alloc_keep (alloc_keep (alloc_keep (alloc_keep (alloc_at (by simp <;> omega)))))))
  have zc6 : W1.heap[w.heap.size + 1 + 1 + 1 + 1 + 1 + 1]? = some (.cells #[.slice (some ⟨w.heap.size + 1 + 1 + 1, 0, none⟩) 2 2, .slice (some ⟨w.heap.size + 1 + 1 + 1 + 1 + 1, 0, none⟩) 2 2] 81 (0, 0)) := by rw [← hW1]; exact alloc_keep (alloc_keep (alloc_keep (alloc_keep (alloc_keep (alloc_at (by simp <;> omega))))))
  have zc7 : W1.heap[w.heap.size + 1 + 1 + 1 + 1 + 1 + 1 + 1]? = some (.cells #[.int .i64 0, .int .i64 1000000, .int .i64 0, .int .i64 0] 26 (0, 0)) := by rw [← hW1]; exact alloc_keep (alloc_keep (alloc_keep (alloc_keep (alloc_at (by simp <;> omega)))))
  have zc8 : W1.heap[w.heap.size + 1 + 1 + 1 + 1 + 1 + 1 + 1 + 1]? = some (.cells #[.int .i64 1000000, .int .i64 1000000] 26 (0, 0)) := by rw [← hW1]; exact alloc_keep (alloc_keep (alloc_keep (alloc_at (by simp <;> omega))))
  have zc9 : W1.heap[w.heap.size + 1 + 1 + 1 + 1 + 1 + 1 + 1 + 1 + 1]? = some (.cells #[.int .i64 1000000, .int .i64 1000000, .int .i64 0, .int .i64 1000000] 26 (0, 0)) := by rw [← hW1]; exact alloc_keep (alloc_keep (alloc_at (by simp <;> omega)))
  have zc10 : W1.heap[w.heap.size + 1 + 1 + 1 + 1 + 1 + 1 + 1 + 1 + 1 + 1]? = some (.cells #[.slice (some ⟨w.heap.size + 1 + 1 + 1 + 1 + 1 + 1 + 1, 0, none⟩) 2 2, .slice (some ⟨w.heap.size + 1 + 1 + 1 + 1 + 1 + 1 + 1 + 1 + 1, 0, none⟩) 2 2] 81 (0, 0)) := by rw [← hW1]; exact alloc_keep (alloc_at (by simp <;> omega))
  have zc11 : W1.heap[w.heap.size + 1 + 1 + 1 + 1 + 1 + 1 + 1 + 1 + 1 + 1 + 1]? = some (.cells #[.int .i64 10, .slice (some ⟨w.heap.size + 1 + 1 + 1 + 1 + 1 + 1, 0, none⟩) 2 2, .slice (some ⟨w.heap.size + 1 + 1 + 1 + 1 + 1 + 1 + 1 + 1 + 1 + 1, 0, none⟩) 2 2] 24 (0, 0)) := by rw [← hW1]; exact alloc_at (by simp <;> omega)
  have lc0 := (Array.getElem?_eq_some_iff.1 zc0).1
  have lc1 := (Array.getElem?_eq_some_iff.1 zc1).1
  have lc2 := (Array.getElem?_eq_some_iff.1 zc2).1
  have lc3 := (Array.getElem?_eq_some_iff.1 zc3).1
  have lc4 := (Array.getElem?_eq_some_iff.1 zc4).1
  have lc5 := (Array.getElem?_eq_some_iff.1 zc5).1
  have lc6 := (Array.getElem?_eq_some_iff.1 zc6).1
  have lc7 := (Array.getElem?_eq_some_iff.1 zc7).1
  have lc8 := (Array.getElem?_eq_some_iff.1 zc8).1
  have lc9 := (Array.getElem?_eq_some_iff.1 zc9).1
  have lc10 := (Array.getElem?_eq_some_iff.1 zc10).1
  have lc11 := (Array.getElem?_eq_some_iff.1 zc11).1
  have Zc0 := Lib.hid zc0
  have Zc1 := Lib.hid zc1
  have Zc2 := Lib.hid zc2
  have Zc3 := Lib.hid zc3
  have Zc4 := Lib.hid zc4
  have Zc5 := Lib.hid zc5
  have Zc6 := Lib.hid zc6
  have Zc7 := Lib.hid zc7
  have Zc8 := Lib.hid zc8
  have Zc9 := Lib.hid zc9
  have Zc10 := Lib.hid zc10
  have Zc11 := Lib.hid zc11
  clear zc0 zc1 zc2 zc3 zc4 zc5 zc6 zc7 zc8 zc9 zc10 zc11
  have HBc := Lib.hid hBc; clear hBc
  have HWc := Lib.hid hW1; clear hW1
  go_enter Try.func46, Try.ntmps46
  go_wp2_with (go_at_call 47; refine (one_any _ _).mono ?_; rintro e w1 ⟨rfl, rfl⟩)
  rw [HWc.out]
  have two : ∀ {p : PutD}, p ∈ [⟨7, 0, 19, 24, w.heap.size, #[.int .i64 0, .slice none 0 0, .slice none 0 0], #[.int .i64 10, .slice (some ⟨w.heap.size + 1 + 1 + 1 + 1 + 1 + 1, 0, none⟩) 2 2, .slice (some ⟨w.heap.size + 1 + 1 + 1 + 1 + 1 + 1 + 1 + 1 + 1 + 1, 0, none⟩) 2 2]⟩, ⟨8, 1, 22, 28, w.heap.size + 1, #[.int .i64 0, .int .i64 0, .int .i64 0, .int .i64 0, .int .i64 0], #[.int .i64 9, .int .i64 600000, .int .i64 600000, .int .i64 400000, .int .i64 400000]⟩] → p = (⟨7, 0, 19, 24, w.heap.size, #[.int .i64 0, .slice none 0 0, .slice none 0 0], #[.int .i64 10, .slice (some ⟨w.heap.size + 1 + 1 + 1 + 1 + 1 + 1, 0, none⟩) 2 2, .slice (some ⟨w.heap.size + 1 + 1 + 1 + 1 + 1 + 1 + 1 + 1 + 1 + 1, 0, none⟩) 2 2]⟩ : PutD) ∨ p = (⟨8, 1, 22, 28, w.heap.size + 1, #[.int .i64 0, .int .i64 0, .int .i64 0, .int .i64 0, .int .i64 0], #[.int .i64 9, .int .i64 600000, .int .i64 600000, .int .i64 400000, .int .i64 400000]⟩ : PutD) := fun h => by simpa using h
  refine wp_region_puts [true, true, true, true, true, true, false, false, false, false] [⟨6, 25, SampS W1.heap.size⟩, ⟨9, 2, SampS W1.heap.size⟩] [⟨7, 0, 19, 24, w.heap.size, #[.int .i64 0, .slice none 0 0, .slice none 0 0], #[.int .i64 10, .slice (some ⟨w.heap.size + 1 + 1 + 1 + 1 + 1 + 1, 0, none⟩) 2 2, .slice (some ⟨w.heap.size + 1 + 1 + 1 + 1 + 1 + 1 + 1 + 1 + 1 + 1, 0, none⟩) 2 2]⟩, ⟨8, 1, 22, 28, w.heap.size + 1, #[.int .i64 0, .int .i64 0, .int .i64 0, .int .i64 0, .int .i64 0], #[.int .i64 9, .int .i64 600000, .int .i64 600000, .int .i64 400000, .int .i64 400000]⟩] (by kernel_rfl) rfl (by kernel_rfl) (by kernel_rfl) ?_ ?_ ?_ ?_ ?_ ?_ ?_ ?_ ?_
  · intro b hb v
    simp only [List.mem_cons, List.not_mem_nil, or_false] at hb
    rcases hb with rfl | rfl <;> exact sampS_stable
  · intro b hb v p hp w0 w1 hΦ hpt
    have hB : p.B < W1.heap.size := by rcases two hp with rfl | rfl <;> (dsimp only; omega)
    have go : ∀ v, SampS W1.heap.size v w0 → SampS W1.heap.size v w1 := fun v ⟨B, h1, h2, h3⟩ => ⟨B, h1, h2, (hpt.far B (by omega)).trans h3⟩
    simp only [List.mem_cons, List.not_mem_nil, or_false] at hb
    rcases hb with rfl | rfl <;> exact go _ hΦ
  · intro p hp s hs
    rcases two hp with rfl | rfl <;> (injection (show some _ = some s from hs) with hs; subst hs; rfl)
  · intro p hp q hq e
    rcases two hp with rfl | rfl <;> rcases two hq with rfl | rfl <;> first | rfl | (dsimp only at e; omega)
  · intro p hp
    rcases two hp with rfl | rfl
    · exact Zc0.out
    · exact Zc1.out
  · intro p hp
    rcases two hp with rfl | rfl <;> kernel_rfl
  · intro p hp
    rcases two hp with rfl | rfl <;> rfl
  · intro p hp
    rcases two hp with rfl | rfl <;> (simp [Value.oneCell'])
  · apply Exists.intro
    refine ⟨fun Wx hN S hS hx => ?_, ?_, ?_, ?_⟩
    · obtain ⟨x0, hx0⟩ := hx
      haveI : Nonempty (GrewS Wx S) := ⟨⟨x0, hx0⟩⟩
      have z11 : Wx.heap[w.heap.size + 1 + 1 + 1 + 1 + 1 + 1 + 1 + 1 + 1 + 1 + 1]? = _ := (hN.far _ (fun p hp => by rcases two hp with rfl | rfl <;> (dsimp only; omega))).trans Zc11.out
      have l11 := (Array.getElem?_eq_some_iff.1 z11).1
      have c0 := cell_of_block z11 0 (by simp)
      have c1 := cell_of_block z11 1 (by simp)
      have c2 := cell_of_block z11 2 (by simp)
      simp at c0 c1 c2
      clear z11
      simp only [pickM]
      repeat (go_big_quiet_step ((go_at_call 47; exact Calls.gwS hS (one_b _ _))))
      exact wpQuiet_nil rfl
    · intro p hp
      rcases two hp with rfl | rfl <;> exact ⟨rfl, rfl⟩
    · intro b hb
      simp only [List.mem_cons, List.not_mem_nil, or_false] at hb
      rcases hb with rfl | rfl <;> (intro o ho a Wx wx hN hbw e1 e2; injection (show some _ = some o from ho) with ho; subst ho; refine .inl ?_)
      · have h3 := e1 23 (List.contains_iff_mem.1 (by kernel_rfl)) (by simp)
        have h4 := e1 24 (List.contains_iff_mem.1 (by kernel_rfl)) (by simp)
        simp at h3 h4
        have v3 : a.eval (.tmp 23) = .agg #[.int .i64 0, .int .i64 0] := eval_of h3
        have v4 : a.eval (.tmp 24) = .agg #[.int .i64 11, .int .i64 1] := eval_of h4
        have hsz : W1.heap.size ≤ wx.heap.size := by have := hbw.size; rw [hN.size] at this; exact this
        have hrun : (Instr.buildSlice 29 2 #[(0, .agg #[.int .i64 0, .int .i64 0]), (1, .agg #[.int .i64 11, .int .i64 1])]).run Try.prog wx = .ok (.slice (some ⟨wx.heap.size, 0, none⟩) 2 2) (wx.alloc (.cells #[.int .i64 0, .int .i64 0, .int .i64 11, .int .i64 1] 53)) := by go_simp
        unfold Oper.wp
        simp [execOp, v3, v4, hrun, Result.andThen, Oper.upon]
        exact ⟨_, rfl, below_alloc _ _, _, hsz, rfl, alloc_at rfl⟩
      · obtain ⟨v0, h1, h2⟩ := e2 ⟨6, 25, SampS W1.heap.size⟩ (by simp) (List.contains_iff_mem.1 (by kernel_rfl))
        exact move_wp (.tmp 25) rfl v0 (eval_of h1) h2
    · intro β wx Wx hN hown hbx hΦ
      have q2 := hΦ ⟨9, 2, SampS W1.heap.size⟩ (by simp)
      have r0 := hown (⟨7, 0, 19, 24, w.heap.size, #[.int .i64 0, .slice none 0 0, .slice none 0 0], #[.int .i64 10, .slice (some ⟨w.heap.size + 1 + 1 + 1 + 1 + 1 + 1, 0, none⟩) 2 2, .slice (some ⟨w.heap.size + 1 + 1 + 1 + 1 + 1 + 1 + 1 + 1 + 1 + 1, 0, none⟩) 2 2]⟩ : PutD) (by simp)
      have r1 := hown (⟨8, 1, 22, 28, w.heap.size + 1, #[.int .i64 0, .int .i64 0, .int .i64 0, .int .i64 0, .int .i64 0], #[.int .i64 9, .int .i64 600000, .int .i64 600000, .int .i64 400000, .int .i64 400000]⟩ : PutD) (by simp)
      dsimp only at q2 r0 r1
      obtain ⟨bS, hS0, hS1, hS2⟩ := q2
      have nf : ∀ k, k ≠ w.heap.size → k ≠ w.heap.size + 1 → Wx.heap[k]? = W1.heap[k]? := fun k h1 h2 => hN.far k (fun p hp => by rcases two hp with rfl | rfl <;> (dsimp only; omega))
      have kb : ∀ (k : Nat) (o : Obj), k ≠ w.heap.size → k ≠ w.heap.size + 1 → W1.heap[k]? = some o → wx.heap[k]? = some o := fun k o h1 h2 h3 => (hbx.block k (Array.getElem?_eq_some_iff.1 h3).1).trans ((nf k h1 h2).trans h3)
      have t0 := (hbx.block _ lc0).trans r0
      have t1 := (hbx.block _ lc1).trans r1
      have a0 := cell_of_block t0 0 (by simp)
      have a1 := cell_of_block t0 1 (by simp)
      have a2 := cell_of_block t0 2 (by simp)
      have b0 := cell_of_block t1 0 (by simp)
      have b1 := cell_of_block t1 1 (by simp)
      have b2 := cell_of_block t1 2 (by simp)
      have b3 := cell_of_block t1 3 (by simp)
      have b4 := cell_of_block t1 4 (by simp)
      simp at a0 a1 a2 b0 b1 b2 b3 b4
      have LOW : Below w.heap.size w wx := by
        have := HBc.out
        refine ⟨hbx.os.trans (hN.os.trans this.os), hbx.tape.trans (hN.tape.trans this.tape), hbx.output.trans (hN.output.trans this.output), ?_, fun k hk => ?_⟩
        · have h1 := hbx.size; rw [hN.size] at h1; have := this.size; omega
        · rw [hbx.block k (by omega), nf k (by omega) (by omega)]; exact this.block k hk
      have IN : (sampC (w.heap.size + 1 + 1 + 1 + 1 + 1 + 1) (w.heap.size + 1 + 1 + 1 + 1 + 1 + 1 + 1 + 1 + 1 + 1) [w.heap.size + 1 + 1 + 1, w.heap.size + 1 + 1 + 1 + 1 + 1] [w.heap.size + 1 + 1 + 1 + 1 + 1 + 1 + 1, w.heap.size + 1 + 1 + 1 + 1 + 1 + 1 + 1 + 1 + 1]).In wx := ⟨rows_two (kb _ _ (by omega) (by omega) Zc6.out) (kb _ _ (by omega) (by omega) Zc3.out) (kb _ _ (by omega) (by omega) Zc5.out), rows_two (kb _ _ (by omega) (by omega) Zc10.out) (kb _ _ (by omega) (by omega) Zc7.out) (kb _ _ (by omega) (by omega) Zc9.out)⟩
      have ST : SpansAt wx (some ⟨bS, 0, none⟩) 2 sampF sampG := .inr ⟨bS, 0, rfl, (Array.getElem?_eq_some_iff.1 hS2).1, fun i hi => by
        match i, hi with
        | 0, _ => exact ⟨cell_of_block hS2 0 (by simp), cell_of_block hS2 1 (by simp)⟩
        | 1, _ => exact ⟨cell_of_block hS2 2 (by simp), cell_of_block hS2 3 (by simp)⟩⟩
      have LOW' := Lib.hid LOW; clear LOW
      have IN' := Lib.hid IN; clear IN
      have ST' := Lib.hid ST; clear ST
      clear kb nf t0 t1 r0 r1 hbx hN hown hΦ
      simp only [loosePut, List.foldl, Act.put, hS1, List.setIfInBounds_toArray, List.set_cons_succ, List.set_cons_zero]
      go_wp2_with fail
      exact bodyPost_ret (v := .tuple #[.agg #[.int .i64 10, .slice (some ⟨w.heap.size + 1 + 1 + 1 + 1 + 1 + 1, 0, none⟩) 2 2, .slice (some ⟨w.heap.size + 1 + 1 + 1 + 1 + 1 + 1 + 1 + 1 + 1 + 1, 0, none⟩) 2 2], sampX.val, .slice (some ⟨bS, 0, none⟩) 2 2]) (by simp [results, Try.results46, go_sem, *, sampX, Cont.val]) rfl ⟨_, _, _, _, _, rfl, IN'.out, ST'.out, LOW'.out⟩
end Go.Proofs.Ytljofnmgddfljaa
