/- Contracts of the reference's Draw. No conditions beyond each theorem's own. -/
import Derived.Test.YtnmldophadanbaaNh
import Derived.Test.YtnmldophadanbaaGj
import Derived.Test.YtnmldophadanbaaGh
set_option linter.unusedVariables false
set_option linter.unusedSimpArgs false
set_option linter.unusedSectionVars false
set_option linter.constructorNameAsVariable false
namespace Go.Proofs.Ytnmldophadanbaa
open Go.RowKit

attribute [local go_sem] gw_cell gw_frozen gw_size

/-- the boxes of Draw -/
structure FB (w W : World) (aL aV : Option Addr) (n m cL cV : Nat) (v lo hi : Int) : Prop where
  b1 : W.heap[w.heap.size]? = some (.cells #[.slice aL n cL, .slice aV m cV] 25 (0, 0))
  b2 : W.heap[w.heap.size + 1]? = some (.cells #[.int .i64 v, .int .i64 lo, .int .i64 hi] 29 (0, 0))
  b3 : W.heap[w.heap.size + 2]? = some (.cells #[.int .i64 0, .int .i64 0, .int .i64 0] 41 (0, 0))
  b4 : W.heap[w.heap.size + 3]? = some (.cells #[.int .i64 0, .int .i64 0, .int .i64 0] 29 (0, 0))
  sz : w.heap.size + 4 ≤ W.heap.size
  low : Below w.heap.size w W
theorem fb_of (w : World) (aL aV : Option Addr) (n m cL cV : Nat) (v lo hi : Int) :
    FB w ((((w.alloc (.cells #[.slice aL n cL, .slice aV m cV] 25)).alloc (.cells #[.int .i64 v, .int .i64 lo, .int .i64 hi] 29)).alloc (.cells #[.int .i64 0, .int .i64 0, .int .i64 0] 41)).alloc (.cells #[.int .i64 0, .int .i64 0, .int .i64 0] 29)) aL aV n m cL cV v lo hi := by
  obtain ⟨W1, hW1⟩ : ∃ W1, (((w.alloc (.cells #[.slice aL n cL, .slice aV m cV] 25)).alloc (.cells #[.int .i64 v, .int .i64 lo, .int .i64 hi] 29)).alloc (.cells #[.int .i64 0, .int .i64 0, .int .i64 0] 41)).alloc (.cells #[.int .i64 0, .int .i64 0, .int .i64 0] 29) = W1 := ⟨_, rfl⟩
  obtain ⟨y0, y1, y2, y3, y4, _⟩ := five_blocks w (.cells #[.slice aL n cL, .slice aV m cV] 25) (.cells #[.int .i64 v, .int .i64 lo, .int .i64 hi] 29) (.cells #[.int .i64 0, .int .i64 0, .int .i64 0] 41) (.cells #[.int .i64 0, .int .i64 0, .int .i64 0] 29) (.cells #[] 3)
  have hz : W1.heap.size = w.heap.size + 4 := by rw [← hW1]; simp
  have back : ∀ k, k < w.heap.size + 4 → (W1.alloc (.cells #[] 3)).heap[k]? = W1.heap[k]? := fun k hk => Below.heap_alloc _ _ _ (by omega)
  rw [hW1] at y1 y2 y3 y4 ⊢
  exact ⟨(back _ (by omega)).symm.trans y1, (back _ (by omega)).symm.trans y2, (back _ (by omega)).symm.trans y3, (back _ (by omega)).symm.trans y4, by omega, by rw [← hW1]; exact (((below_alloc _ _).alloc (by simp) _).alloc (by simp; omega) _).alloc (by simp; omega) _⟩

/-- why an amount cannot be drawn from a pot -/
def drawErr (m : Nat) (c : Crv) (p : Pot3) (d : Int) : Int := if curveB c.n m c.L c.A c.B && potB p.v p.lo p.hi then errD p d else 1

section
variable (aL aV : Option Addr) (m cL cV : Nat) (c : Crv) (p : Pot3) (d : Int) (w : World)

set_option maxRecDepth 100000 in
set_option maxHeartbeats 4000000 in
theorem rDraw_err (hn : c.n ≤ 1000000000000) (hm : m ≤ 1000000000000) (hL : IntsAt w aL c.n c.L) (hV : SpansAt w aV m c.A c.B) (x : Int) (hx : drawErr m c p d = x) (h0 : x ≠ 0) :
    Calls Try.prog 29 #[.agg #[.slice aL c.n cL, .slice aV m cV], .agg #[.int .i64 p.v, .int .i64 p.lo, .int .i64 p.hi], .int .i64 d] w fun e w' =>
      e = .returned (.tuple #[.agg #[.int .i64 0, .int .i64 0, .int .i64 0], .agg #[.int .i64 0, .int .i64 0, .int .i64 0], .int .i64 x]) ∧ Below w.heap.size w w' := by
  obtain ⟨W1, hW1⟩ : ∃ W1, (((w.alloc (.cells #[.slice aL c.n cL, .slice aV m cV] 25)).alloc (.cells #[.int .i64 p.v, .int .i64 p.lo, .int .i64 p.hi] 29)).alloc (.cells #[.int .i64 0, .int .i64 0, .int .i64 0] 41)).alloc (.cells #[.int .i64 0, .int .i64 0, .int .i64 0] 29) = W1 := ⟨_, rfl⟩
  have fb : FB w W1 aL aV c.n m cL cV p.v p.lo p.hi := by rw [← hW1]; exact fb_of w aL aV c.n m cL cV p.v p.lo p.hi
  have HL := Lib.hid (hL.below fb.low); clear hL
  have HV := Lib.hid (hV.below fb.low); clear hV
  have HW1 := Lib.hid hW1; clear hW1
  have FBH := Lib.hid fb
  have c0 : W1.cell? ⟨w.heap.size, 0, none⟩ = some (.slice aL c.n cL) := cell_of_block fb.b1 0 (by simp)
  have c1 : W1.cell? ⟨w.heap.size, 1, none⟩ = some (.slice aV m cV) := cell_of_block fb.b1 1 (by simp)
  have p0 : W1.cell? ⟨w.heap.size + 1, 0, none⟩ = some (.int .i64 p.v) := cell_of_block fb.b2 0 (by simp)
  have p1 : W1.cell? ⟨w.heap.size + 1, 1, none⟩ = some (.int .i64 p.lo) := cell_of_block fb.b2 1 (by simp)
  have p2 : W1.cell? ⟨w.heap.size + 1, 2, none⟩ = some (.int .i64 p.hi) := cell_of_block fb.b2 2 (by simp)
  have R0 : W1.cell? ⟨w.heap.size + 1 + 1, 0, none⟩ = some (.int .i64 0) := cell_of_block fb.b3 0 (by simp)
  have F0 : W1.frozen? ⟨w.heap.size + 1 + 1, 0, none⟩ = false := frozen_of_block fb.b3 0
  have T0 : W1.cell? ⟨w.heap.size + 1 + 1 + 1, 0, none⟩ = some (.int .i64 0) := cell_of_block fb.b4 0 (by simp)
  have G0 : W1.frozen? ⟨w.heap.size + 1 + 1 + 1, 0, none⟩ = false := frozen_of_block fb.b4 0
  have R1 : W1.cell? ⟨w.heap.size + 1 + 1, 1, none⟩ = some (.int .i64 0) := cell_of_block fb.b3 1 (by simp)
  have F1 : W1.frozen? ⟨w.heap.size + 1 + 1, 1, none⟩ = false := frozen_of_block fb.b3 1
  have T1 : W1.cell? ⟨w.heap.size + 1 + 1 + 1, 1, none⟩ = some (.int .i64 0) := cell_of_block fb.b4 1 (by simp)
  have G1 : W1.frozen? ⟨w.heap.size + 1 + 1 + 1, 1, none⟩ = false := frozen_of_block fb.b4 1
  have R2 : W1.cell? ⟨w.heap.size + 1 + 1, 2, none⟩ = some (.int .i64 0) := cell_of_block fb.b3 2 (by simp)
  have F2 : W1.frozen? ⟨w.heap.size + 1 + 1, 2, none⟩ = false := frozen_of_block fb.b3 2
  have T2 : W1.cell? ⟨w.heap.size + 1 + 1 + 1, 2, none⟩ = some (.int .i64 0) := cell_of_block fb.b4 2 (by simp)
  have G2 : W1.frozen? ⟨w.heap.size + 1 + 1 + 1, 2, none⟩ = false := frozen_of_block fb.b4 2
  have s0 : w.heap.size < W1.heap.size := by have := fb.sz; omega
  have s1 : w.heap.size + 1 < W1.heap.size := by have := fb.sz; omega
  have s2 : w.heap.size + 1 + 1 < W1.heap.size := by have := fb.sz; omega
  have s3 : w.heap.size + 1 + 1 + 1 < W1.heap.size := by have := fb.sz; omega
  clear fb
  cases hc : curveB c.n m c.L c.A c.B with
  | false =>
    obtain rfl : x = 1 := by rw [← hx]; unfold drawErr; rw [hc]; rfl
    have H1 := Lib.hid hc; clear hc hx h0
    go_enter Try.func29, Try.ntmps29
    go_upto_region 1 with (fail)
    rw [HW1.out]
    go_wp2_with fail
    refine (Calls.grown (rcurve_b aL aV c.n m cL cV c.L c.A c.B W1 hn hm HL.out HV.out H1.out)).mono ?_
    rintro e w1 ⟨rfl, y0, rfl⟩
    go_wp2_with fail
    refine bodyPost_ret (v := .tuple #[.agg #[.int .i64 0, .int .i64 0, .int .i64 0], .agg #[.int .i64 0, .int .i64 0, .int .i64 0], .int .i64 1]) (by simp [results, Try.results29, go_sem, R0, R1, R2, T0, T1, T2, s2, s3]) rfl ⟨rfl, ?_⟩
    exact (((((((FBH.out.low.gw y0).setCell (by simp <;> omega) _).setCell (by simp <;> omega) _).setCell (by simp <;> omega) _).setCell (by simp <;> omega) _).setCell (by simp <;> omega) _).setCell (by simp <;> omega) _)
  | true =>
    cases hp : potB p.v p.lo p.hi with
    | false =>
      obtain rfl : x = 1 := by rw [← hx]; unfold drawErr; rw [hc, hp]; rfl
      have H1 := Lib.hid hc; clear hc
      have H2 := Lib.hid hp; clear hp hx h0
      go_enter Try.func29, Try.ntmps29
      go_upto_region 1 with (fail)
      rw [HW1.out]
      go_wp2_with fail
      refine (Calls.grown (rcurve_b aL aV c.n m cL cV c.L c.A c.B W1 hn hm HL.out HV.out H1.out)).mono ?_
      rintro e w1 ⟨rfl, y0, rfl⟩
      go_wp2_with fail
      refine (Calls.gw_of (rpot_b _ _ _ _ H2.out)).mono ?_
      rintro e w1 ⟨rfl, y, rfl⟩
      go_wp2_with fail
      refine bodyPost_ret (v := .tuple #[.agg #[.int .i64 0, .int .i64 0, .int .i64 0], .agg #[.int .i64 0, .int .i64 0, .int .i64 0], .int .i64 1]) (by simp [results, Try.results29, go_sem, R0, R1, R2, T0, T1, T2, s2, s3]) rfl ⟨rfl, ?_⟩
      exact (((((((FBH.out.low.gw y).setCell (by simp <;> omega) _).setCell (by simp <;> omega) _).setCell (by simp <;> omega) _).setCell (by simp <;> omega) _).setCell (by simp <;> omega) _).setCell (by simp <;> omega) _)
    | true =>
      have ed : errD p d = x := by rw [← hx]; unfold drawErr; rw [hc, hp]; rfl
      have H1 := Lib.hid hc; clear hc
      have H2 := Lib.hid hp; clear hp hx
      rcases errD_cases p d with h | ⟨h1, h2⟩ | ⟨h1, h2, h3⟩
      · omega
      · obtain rfl : x = 2 := by omega
        have H3 := Lib.hid h2; clear h1 h2 ed h0
        go_enter Try.func29, Try.ntmps29
        go_upto_region 1 with (fail)
        rw [HW1.out]
        go_wp2_with fail
        refine (Calls.grown (rcurve_b aL aV c.n m cL cV c.L c.A c.B W1 hn hm HL.out HV.out H1.out)).mono ?_
        rintro e w1 ⟨rfl, y0, rfl⟩
        go_wp2_with fail
        refine (Calls.gw_of (rpot_b _ _ _ _ H2.out)).mono ?_
        rintro e w1 ⟨rfl, y, rfl⟩
        go_wp2_with fail
        refine (rin_b _ _ _ _ H3.out).mono ?_
        rintro e w1 ⟨rfl, rfl⟩
        go_wp2_with fail
        refine bodyPost_ret (v := .tuple #[.agg #[.int .i64 0, .int .i64 0, .int .i64 0], .agg #[.int .i64 0, .int .i64 0, .int .i64 0], .int .i64 2]) (by simp [results, Try.results29, go_sem, R0, R1, R2, T0, T1, T2, s2, s3]) rfl ⟨rfl, ?_⟩
        exact (((((((FBH.out.low.gw y).setCell (by simp <;> omega) _).setCell (by simp <;> omega) _).setCell (by simp <;> omega) _).setCell (by simp <;> omega) _).setCell (by simp <;> omega) _).setCell (by simp <;> omega) _)
      · obtain rfl : x = 10 := by omega
        have H3 := Lib.hid h2; clear h1 h2 ed h0
        go_enter Try.func29, Try.ntmps29
        go_upto_region 1 with (fail)
        rw [HW1.out]
        go_wp2_with fail
        refine (Calls.grown (rcurve_b aL aV c.n m cL cV c.L c.A c.B W1 hn hm HL.out HV.out H1.out)).mono ?_
        rintro e w1 ⟨rfl, y0, rfl⟩
        go_wp2_with fail
        refine (Calls.gw_of (rpot_b _ _ _ _ H2.out)).mono ?_
        rintro e w1 ⟨rfl, y, rfl⟩
        go_wp2_with fail
        refine (rin_b _ _ _ _ H3.out).mono ?_
        rintro e w1 ⟨rfl, rfl⟩
        go_wp2_with fail
        refine bodyPost_ret (v := .tuple #[.agg #[.int .i64 0, .int .i64 0, .int .i64 0], .agg #[.int .i64 0, .int .i64 0, .int .i64 0], .int .i64 10]) (by simp [results, Try.results29, go_sem, R0, R1, R2, T0, T1, T2, s2, s3]) rfl ⟨rfl, ?_⟩
        exact (((((((FBH.out.low.gw y).setCell (by simp <;> omega) _).setCell (by simp <;> omega) _).setCell (by simp <;> omega) _).setCell (by simp <;> omega) _).setCell (by simp <;> omega) _).setCell (by simp <;> omega) _)

set_option maxRecDepth 100000 in
set_option maxHeartbeats 4000000 in
theorem rDraw_ok (hn : c.n ≤ 1000000000000) (hm : m ≤ 1000000000000) (hL : IntsAt w aL c.n c.L) (hV : SpansAt w aV m c.A c.B) (hx : drawErr m c p d = 0) (X : Dr3) (Y : Pot3) (eX : X = c.out p d) (eY : Y = c.next p d) :
    Calls Try.prog 29 #[.agg #[.slice aL c.n cL, .slice aV m cV], .agg #[.int .i64 p.v, .int .i64 p.lo, .int .i64 p.hi], .int .i64 d] w fun e w' =>
      e = .returned (.tuple #[.agg #[.int .i64 X.d, .int .i64 X.lo, .int .i64 X.hi], .agg #[.int .i64 Y.v, .int .i64 Y.lo, .int .i64 Y.hi], .int .i64 0]) ∧ Below w.heap.size w w' := by
  obtain ⟨hc, hp, ed⟩ : curveB c.n m c.L c.A c.B = true ∧ potB p.v p.lo p.hi = true ∧ errD p d = 0 := by
    unfold drawErr at hx
    split at hx
    · rename_i h; simp only [Bool.and_eq_true] at h; exact ⟨h.1, h.2, hx⟩
    · omega
  obtain ⟨em, g⟩ := good_of hc
  obtain ⟨hd, hv⟩ := errD_zero ed
  have ok : p.ok := by
    simp only [potB, Bool.and_eq_true] at hp
    have a := inB_t.1 hp.1
    have b := spanB_t.1 hp.2
    exact ⟨by omega, by omega, by omega, by omega⟩
  obtain ⟨o0, o1, o2, o3⟩ := ok
  subst em
  have DC := Lib.hid (fun (W : World) (hL : IntsAt W aL c.n c.L) (hV : SpansAt W aV c.n c.A c.B) => show Calls Try.prog 57 #[.agg #[.slice aL c.n cL, .slice aV c.n cV], .agg #[.int .i64 p.v, .int .i64 p.lo, .int .i64 p.hi], .int .i64 d] W fun e w' =>
      e = .returned (.tuple #[.agg #[.int .i64 X.d, .int .i64 X.lo, .int .i64 X.hi], .agg #[.int .i64 Y.v, .int .i64 Y.lo, .int .i64 Y.hi]]) ∧ Below W.heap.size W w' by
    rw [eX, eY]
    exact rdraw_ok aL aV c.n cL cV c.L c.A c.B p.v p.lo p.hi d W hd g hL hV hv o0 o1 o2 o3 _ _ _ _ _ _ _ _ _ _ _ (Lib.hid rfl) (Lib.hid rfl) (Lib.hid rfl) (Lib.hid rfl) (Lib.hid rfl) (Lib.hid rfl) (Lib.hid rfl) (Lib.hid rfl) (Lib.hid rfl) (Lib.hid rfl) (Lib.hid rfl))
  clear eX eY hx ed g
  obtain ⟨W1, hW1⟩ : ∃ W1, (((w.alloc (.cells #[.slice aL c.n cL, .slice aV c.n cV] 25)).alloc (.cells #[.int .i64 p.v, .int .i64 p.lo, .int .i64 p.hi] 29)).alloc (.cells #[.int .i64 0, .int .i64 0, .int .i64 0] 41)).alloc (.cells #[.int .i64 0, .int .i64 0, .int .i64 0] 29) = W1 := ⟨_, rfl⟩
  have fb : FB w W1 aL aV c.n c.n cL cV p.v p.lo p.hi := by rw [← hW1]; exact fb_of w aL aV c.n c.n cL cV p.v p.lo p.hi
  have HL := Lib.hid (hL.below fb.low); clear hL
  have HV := Lib.hid (hV.below fb.low); clear hV
  have HW1 := Lib.hid hW1; clear hW1
  have FBH := Lib.hid fb
  have c0 : W1.cell? ⟨w.heap.size, 0, none⟩ = some (.slice aL c.n cL) := cell_of_block fb.b1 0 (by simp)
  have c1 : W1.cell? ⟨w.heap.size, 1, none⟩ = some (.slice aV c.n cV) := cell_of_block fb.b1 1 (by simp)
  have p0 : W1.cell? ⟨w.heap.size + 1, 0, none⟩ = some (.int .i64 p.v) := cell_of_block fb.b2 0 (by simp)
  have p1 : W1.cell? ⟨w.heap.size + 1, 1, none⟩ = some (.int .i64 p.lo) := cell_of_block fb.b2 1 (by simp)
  have p2 : W1.cell? ⟨w.heap.size + 1, 2, none⟩ = some (.int .i64 p.hi) := cell_of_block fb.b2 2 (by simp)
  have R0 : W1.cell? ⟨w.heap.size + 1 + 1, 0, none⟩ = some (.int .i64 0) := cell_of_block fb.b3 0 (by simp)
  have F0 : W1.frozen? ⟨w.heap.size + 1 + 1, 0, none⟩ = false := frozen_of_block fb.b3 0
  have T0 : W1.cell? ⟨w.heap.size + 1 + 1 + 1, 0, none⟩ = some (.int .i64 0) := cell_of_block fb.b4 0 (by simp)
  have G0 : W1.frozen? ⟨w.heap.size + 1 + 1 + 1, 0, none⟩ = false := frozen_of_block fb.b4 0
  have R1 : W1.cell? ⟨w.heap.size + 1 + 1, 1, none⟩ = some (.int .i64 0) := cell_of_block fb.b3 1 (by simp)
  have F1 : W1.frozen? ⟨w.heap.size + 1 + 1, 1, none⟩ = false := frozen_of_block fb.b3 1
  have T1 : W1.cell? ⟨w.heap.size + 1 + 1 + 1, 1, none⟩ = some (.int .i64 0) := cell_of_block fb.b4 1 (by simp)
  have G1 : W1.frozen? ⟨w.heap.size + 1 + 1 + 1, 1, none⟩ = false := frozen_of_block fb.b4 1
  have R2 : W1.cell? ⟨w.heap.size + 1 + 1, 2, none⟩ = some (.int .i64 0) := cell_of_block fb.b3 2 (by simp)
  have F2 : W1.frozen? ⟨w.heap.size + 1 + 1, 2, none⟩ = false := frozen_of_block fb.b3 2
  have T2 : W1.cell? ⟨w.heap.size + 1 + 1 + 1, 2, none⟩ = some (.int .i64 0) := cell_of_block fb.b4 2 (by simp)
  have G2 : W1.frozen? ⟨w.heap.size + 1 + 1 + 1, 2, none⟩ = false := frozen_of_block fb.b4 2
  have s0 : w.heap.size < W1.heap.size := by have := fb.sz; omega
  have s1 : w.heap.size + 1 < W1.heap.size := by have := fb.sz; omega
  have s2 : w.heap.size + 1 + 1 < W1.heap.size := by have := fb.sz; omega
  have s3 : w.heap.size + 1 + 1 + 1 < W1.heap.size := by have := fb.sz; omega
  clear fb
  have H1 := Lib.hid hc; clear hc
  have H2 := Lib.hid hp; clear hp
  have H3 := Lib.hid hd; clear hd
  go_enter Try.func29, Try.ntmps29
  go_upto_region 1 with (fail)
  rw [HW1.out]
  go_wp2_with fail
  refine (Calls.grown (rcurve_b aL aV c.n c.n cL cV c.L c.A c.B W1 hn hm HL.out HV.out H1.out)).mono ?_
  rintro e w1 ⟨rfl, y0, rfl⟩
  go_wp2_with fail
  refine (Calls.gw_of (rpot_b _ _ _ _ H2.out)).mono ?_
  rintro e w1 ⟨rfl, y, rfl⟩
  go_wp2_with fail
  refine (rin_b _ _ _ _ H3.out).mono ?_
  rintro e w1 ⟨rfl, rfl⟩
  go_wp2_with fail
  refine (Calls.gw_of (DC.out (gw W1 y) (HL.out.below (below_gw W1 y)) (HV.out.below (below_gw W1 y)))).mono ?_
  rintro e w1 ⟨rfl, z, rfl⟩
  have k3 := (gw_block W1 z _ (Array.getElem?_eq_some_iff.1 FBH.out.b3).1).trans FBH.out.b3
  have k4 := (gw_block W1 z _ (Array.getElem?_eq_some_iff.1 FBH.out.b4).1).trans FBH.out.b4
  have LOWU := Lib.hid (FBH.out.low.gw z)
  have zU : W1.heap.size ≤ (gw W1 z).heap.size := by simp [gw_size]
  clear R0 R1 R2 F0 F1 F2 T0 T1 T2 G0 G1 G2 c0 c1 p0 p1 p2
  generalize gw W1 z = U at *
  have r0 : U.cell? ⟨w.heap.size + 1 + 1, 0, none⟩ = some (.int .i64 0) := cell_of_block k3 0 (by simp)
  have f0 : U.frozen? ⟨w.heap.size + 1 + 1, 0, none⟩ = false := frozen_of_block k3 0
  have t0 : U.cell? ⟨w.heap.size + 1 + 1 + 1, 0, none⟩ = some (.int .i64 0) := cell_of_block k4 0 (by simp)
  have h0 : U.frozen? ⟨w.heap.size + 1 + 1 + 1, 0, none⟩ = false := frozen_of_block k4 0
  have r1 : U.cell? ⟨w.heap.size + 1 + 1, 1, none⟩ = some (.int .i64 0) := cell_of_block k3 1 (by simp)
  have f1 : U.frozen? ⟨w.heap.size + 1 + 1, 1, none⟩ = false := frozen_of_block k3 1
  have t1 : U.cell? ⟨w.heap.size + 1 + 1 + 1, 1, none⟩ = some (.int .i64 0) := cell_of_block k4 1 (by simp)
  have h1 : U.frozen? ⟨w.heap.size + 1 + 1 + 1, 1, none⟩ = false := frozen_of_block k4 1
  have r2 : U.cell? ⟨w.heap.size + 1 + 1, 2, none⟩ = some (.int .i64 0) := cell_of_block k3 2 (by simp)
  have f2 : U.frozen? ⟨w.heap.size + 1 + 1, 2, none⟩ = false := frozen_of_block k3 2
  have t2 : U.cell? ⟨w.heap.size + 1 + 1 + 1, 2, none⟩ = some (.int .i64 0) := cell_of_block k4 2 (by simp)
  have h2 : U.frozen? ⟨w.heap.size + 1 + 1 + 1, 2, none⟩ = false := frozen_of_block k4 2
  have u2 : w.heap.size + 1 + 1 < U.heap.size := by omega
  have u3 : w.heap.size + 1 + 1 + 1 < U.heap.size := by omega
  have n2 : w.heap.size + 1 + 1 ≠ U.heap.size := by omega
  have n3 : w.heap.size + 1 + 1 + 1 ≠ U.heap.size := by omega
  have n4 : w.heap.size + 1 + 1 ≠ U.heap.size + 1 := by omega
  have n5 : w.heap.size + 1 + 1 + 1 ≠ U.heap.size + 1 := by omega
  clear s0 s1 s2 s3 k3 k4
  go_wp2_with fail
  obtain ⟨V, hV⟩ : ∃ V, (U.alloc (.cells #[.int .i64 X.d, .int .i64 X.lo, .int .i64 X.hi] 41)).alloc (.cells #[.int .i64 Y.v, .int .i64 Y.lo, .int .i64 Y.hi] 29) = V := ⟨_, rfl⟩
  have BV : Below U.heap.size U V := by rw [← hV]; exact (below_alloc _ _).alloc (by simp) _
  have bD : V.heap[U.heap.size]? = some (.cells #[.int .i64 X.d, .int .i64 X.lo, .int .i64 X.hi] 41 (0, 0)) := by rw [← hV]; exact (Below.heap_alloc _ _ _ (by simp)).trans (World.alloc_heap_new U _)
  have bP : V.heap[U.heap.size + 1]? = some (.cells #[.int .i64 Y.v, .int .i64 Y.lo, .int .i64 Y.hi] 29 (0, 0)) := by rw [← hV]; have := World.alloc_heap_new (U.alloc (.cells #[.int .i64 X.d, .int .i64 X.lo, .int .i64 X.hi] 41)) (.cells #[.int .i64 Y.v, .int .i64 Y.lo, .int .i64 Y.hi] 29); rwa [World.size_alloc] at this
  rw [hV]
  have LOWV := Lib.hid (thru BV LOWU.out)
  have a0 := cell_of_block bD 0 (by simp)
  have b0 := cell_of_block bP 0 (by simp)
  replace r0 := below_cell' BV r0
  replace t0 := below_cell' BV t0
  replace f0 := (BV.frozen (p := ⟨w.heap.size + 1 + 1, 0, none⟩) u2).trans f0
  replace h0 := (BV.frozen (p := ⟨w.heap.size + 1 + 1 + 1, 0, none⟩) u3).trans h0
  have a1 := cell_of_block bD 1 (by simp)
  have b1 := cell_of_block bP 1 (by simp)
  replace r1 := below_cell' BV r1
  replace t1 := below_cell' BV t1
  replace f1 := (BV.frozen (p := ⟨w.heap.size + 1 + 1, 1, none⟩) u2).trans f1
  replace h1 := (BV.frozen (p := ⟨w.heap.size + 1 + 1 + 1, 1, none⟩) u3).trans h1
  have a2 := cell_of_block bD 2 (by simp)
  have b2 := cell_of_block bP 2 (by simp)
  replace r2 := below_cell' BV r2
  replace t2 := below_cell' BV t2
  replace f2 := (BV.frozen (p := ⟨w.heap.size + 1 + 1, 2, none⟩) u2).trans f2
  replace h2 := (BV.frozen (p := ⟨w.heap.size + 1 + 1 + 1, 2, none⟩) u3).trans h2
  simp at a0 a1 a2 b0 b1 b2
  have v2 := Nat.lt_of_lt_of_le u2 BV.size
  have v3 := Nat.lt_of_lt_of_le u3 BV.size
  clear hV BV bD bP
  go_region
  all_goals
    go_wp2_with fail
    refine bodyPost_ret (v := .tuple #[.agg #[.int .i64 X.d, .int .i64 X.lo, .int .i64 X.hi], .agg #[.int .i64 Y.v, .int .i64 Y.lo, .int .i64 Y.hi], .int .i64 0]) (by simp [results, Try.results29, go_sem, r0, r1, r2, t0, t1, t2]) rfl ⟨rfl, ?_⟩
    exact ((((((LOWV.out.setCell (by simp <;> omega) _).setCell (by simp <;> omega) _).setCell (by simp <;> omega) _).setCell (by simp <;> omega) _).setCell (by simp <;> omega) _).setCell (by simp <;> omega) _).drew
end
end Go.Proofs.Ytnmldophadanbaa
