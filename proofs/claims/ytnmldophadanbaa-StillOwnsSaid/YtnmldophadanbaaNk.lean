/- Contracts of the reference's Run. No conditions beyond each theorem's own. -/
import Derived.Test.YtnmldophadanbaaNj
import Derived.Deep.RegionHeld3
import Derived.Deep.DeepCutAuto
set_option linter.unusedVariables false
set_option linter.unusedSimpArgs false
set_option linter.unusedSectionVars false
set_option linter.constructorNameAsVariable false
namespace Go.Proofs.Ytnmldophadanbaa
open Go.RowKit Go.Deep

attribute [local go_sem] gw_cell gw_frozen gw_size

/-- the boxes of Run -/
structure GB (w W : World) (aL aV : Option Addr) (n m cL cV : Nat) (v lo hi : Int) : Prop where
  b1 : W.heap[w.heap.size]? = some (.cells #[.slice aL n cL, .slice aV m cV] 25 (0, 0))
  b2 : W.heap[w.heap.size + 1]? = some (.cells #[.int .i64 v, .int .i64 lo, .int .i64 hi] 29 (0, 0))
  b3 : W.heap[w.heap.size + 2]? = some (.cells #[.int .i64 0, .int .i64 0, .int .i64 0] 29 (0, 0))
  sz : w.heap.size + 3 ≤ W.heap.size
  low : Below w.heap.size w W
theorem gb_of (w : World) (aL aV : Option Addr) (n m cL cV : Nat) (v lo hi : Int) :
    GB w (((w.alloc (.cells #[.slice aL n cL, .slice aV m cV] 25)).alloc (.cells #[.int .i64 v, .int .i64 lo, .int .i64 hi] 29)).alloc (.cells #[.int .i64 0, .int .i64 0, .int .i64 0] 29)) aL aV n m cL cV v lo hi := by
  obtain ⟨W1, hW1⟩ : ∃ W1, ((w.alloc (.cells #[.slice aL n cL, .slice aV m cV] 25)).alloc (.cells #[.int .i64 v, .int .i64 lo, .int .i64 hi] 29)).alloc (.cells #[.int .i64 0, .int .i64 0, .int .i64 0] 29) = W1 := ⟨_, rfl⟩
  obtain ⟨y0, y1, y2, y3, _, _⟩ := five_blocks w (.cells #[.slice aL n cL, .slice aV m cV] 25) (.cells #[.int .i64 v, .int .i64 lo, .int .i64 hi] 29) (.cells #[.int .i64 0, .int .i64 0, .int .i64 0] 29) (.cells #[] 3) (.cells #[] 3)
  have hz : W1.heap.size = w.heap.size + 3 := by rw [← hW1]; simp
  have back : ∀ k, k < w.heap.size + 3 → ((W1.alloc (.cells #[] 3)).alloc (.cells #[] 3)).heap[k]? = W1.heap[k]? := fun k hk => (Below.heap_alloc _ _ _ (by simp; omega)).trans (Below.heap_alloc _ _ _ (by omega))
  rw [hW1] at y1 y2 y3 ⊢
  exact ⟨(back _ (by omega)).symm.trans y1, (back _ (by omega)).symm.trans y2, (back _ (by omega)).symm.trans y3, by omega, by rw [← hW1]; exact ((below_alloc _ _).alloc (by simp) _).alloc (by simp; omega) _⟩

section
variable (aL aV aM : Option Addr) (m cL cV k cM : Nat) (c : Crv) (p : Pot3) (M : Nat → Int) (w : World)

set_option maxRecDepth 100000 in
set_option maxHeartbeats 4000000 in
theorem rrun_early (hn : c.n ≤ 1000000000000) (hm : m ≤ 1000000000000) (hk : k ≤ 1000000000000) (hL : IntsAt w aL c.n c.L) (hV : SpansAt w aV m c.A c.B) (x : Int) (hx : earlyE c.n m c.L c.A c.B p.v p.lo p.hi k = x) (h0 : x ≠ 0) :
    Calls Try.prog 30 #[.agg #[.slice aL c.n cL, .slice aV m cV], .agg #[.int .i64 p.v, .int .i64 p.lo, .int .i64 p.hi], .slice aM k cM] w fun e w' => e = .returned (.tuple #[.slice none 0 0, .agg #[.int .i64 0, .int .i64 0, .int .i64 0], .int .i64 x]) ∧ Below w.heap.size w w' := by
  obtain ⟨W1, hW1⟩ : ∃ W1, ((w.alloc (.cells #[.slice aL c.n cL, .slice aV m cV] 25)).alloc (.cells #[.int .i64 p.v, .int .i64 p.lo, .int .i64 p.hi] 29)).alloc (.cells #[.int .i64 0, .int .i64 0, .int .i64 0] 29) = W1 := ⟨_, rfl⟩
  have gb : GB w W1 aL aV c.n m cL cV p.v p.lo p.hi := by rw [← hW1]; exact gb_of w aL aV c.n m cL cV p.v p.lo p.hi
  have HL := Lib.hid (hL.below gb.low); clear hL
  have HV := Lib.hid (hV.below gb.low); clear hV
  have HW1 := Lib.hid hW1; clear hW1
  have GBH := Lib.hid gb
  have c0 : W1.cell? ⟨w.heap.size, 0, none⟩ = some (.slice aL c.n cL) := cell_of_block gb.b1 0 (by simp)
  have c1 : W1.cell? ⟨w.heap.size, 1, none⟩ = some (.slice aV m cV) := cell_of_block gb.b1 1 (by simp)
  have p0 : W1.cell? ⟨w.heap.size + 1, 0, none⟩ = some (.int .i64 p.v) := cell_of_block gb.b2 0 (by simp)
  have p1 : W1.cell? ⟨w.heap.size + 1, 1, none⟩ = some (.int .i64 p.lo) := cell_of_block gb.b2 1 (by simp)
  have p2 : W1.cell? ⟨w.heap.size + 1, 2, none⟩ = some (.int .i64 p.hi) := cell_of_block gb.b2 2 (by simp)
  have T0 : W1.cell? ⟨w.heap.size + 1 + 1, 0, none⟩ = some (.int .i64 0) := cell_of_block gb.b3 0 (by simp)
  have G0 : W1.frozen? ⟨w.heap.size + 1 + 1, 0, none⟩ = false := frozen_of_block gb.b3 0
  have T1 : W1.cell? ⟨w.heap.size + 1 + 1, 1, none⟩ = some (.int .i64 0) := cell_of_block gb.b3 1 (by simp)
  have G1 : W1.frozen? ⟨w.heap.size + 1 + 1, 1, none⟩ = false := frozen_of_block gb.b3 1
  have T2 : W1.cell? ⟨w.heap.size + 1 + 1, 2, none⟩ = some (.int .i64 0) := cell_of_block gb.b3 2 (by simp)
  have G2 : W1.frozen? ⟨w.heap.size + 1 + 1, 2, none⟩ = false := frozen_of_block gb.b3 2
  have s0 : w.heap.size < W1.heap.size := by have := gb.sz; omega
  have s1 : w.heap.size + 1 < W1.heap.size := by have := gb.sz; omega
  have s2 : w.heap.size + 1 + 1 < W1.heap.size := by have := gb.sz; omega
  clear gb
  by_cases hk64 : 64 < k
  · obtain rfl : x = 3 := by rw [← hx]; unfold earlyE; rw [if_pos hk64]
    clear hx h0
    go_enter Try.func30, Try.ntmps30
    go_upto_region 1 with (fail)
    rw [HW1.out]
    go_wp2_with fail
    refine bodyPost_ret (v := .tuple #[.slice none 0 0, .agg #[.int .i64 0, .int .i64 0, .int .i64 0], .int .i64 3]) (by simp [results, Try.results30, go_sem, T0, T1, T2, s2]) rfl ⟨rfl, ?_⟩
    exact (((GBH.out.low.setCell (by simp <;> omega) _).setCell (by simp <;> omega) _).setCell (by simp <;> omega) _)
  · cases hc : curveB c.n m c.L c.A c.B with
    | false =>
      obtain rfl : x = 1 := by rw [← hx]; unfold earlyE; rw [if_neg hk64, hc]; rfl
      have H1 := Lib.hid hc; clear hc hx h0
      go_enter Try.func30, Try.ntmps30
      go_upto_region 1 with (fail)
      rw [HW1.out]
      go_wp2_with fail
      refine (Calls.grown (rcurve_b aL aV c.n m cL cV c.L c.A c.B W1 hn hm HL.out HV.out H1.out)).mono ?_
      rintro e w1 ⟨rfl, y0, rfl⟩
      go_wp2_with fail
      refine bodyPost_ret (v := .tuple #[.slice none 0 0, .agg #[.int .i64 0, .int .i64 0, .int .i64 0], .int .i64 1]) (by simp [results, Try.results30, go_sem, T0, T1, T2, s2]) rfl ⟨rfl, ?_⟩
      exact ((((GBH.out.low.gw y0).setCell (by simp <;> omega) _).setCell (by simp <;> omega) _).setCell (by simp <;> omega) _)
    | true =>
      cases hp : potB p.v p.lo p.hi with
      | false =>
        obtain rfl : x = 1 := by rw [← hx]; unfold earlyE; rw [if_neg hk64, hc, hp]; rfl
        have H1 := Lib.hid hc; clear hc
        have H2 := Lib.hid hp; clear hp hx h0
        go_enter Try.func30, Try.ntmps30
        go_upto_region 1 with (fail)
        rw [HW1.out]
        go_wp2_with fail
        refine (Calls.grown (rcurve_b aL aV c.n m cL cV c.L c.A c.B W1 hn hm HL.out HV.out H1.out)).mono ?_
        rintro e w1 ⟨rfl, y0, rfl⟩
        go_wp2_with fail
        refine (Calls.gw_of (rpot_b _ _ _ _ H2.out)).mono ?_
        rintro e w1 ⟨rfl, y, rfl⟩
        go_wp2_with fail
        refine bodyPost_ret (v := .tuple #[.slice none 0 0, .agg #[.int .i64 0, .int .i64 0, .int .i64 0], .int .i64 1]) (by simp [results, Try.results30, go_sem, T0, T1, T2, s2]) rfl ⟨rfl, ?_⟩
        exact ((((GBH.out.low.gw y).setCell (by simp <;> omega) _).setCell (by simp <;> omega) _).setCell (by simp <;> omega) _)
      | true => exact absurd (by rw [← hx]; unfold earlyE; rw [if_neg hk64, hc, hp]; rfl) h0
end

set_option maxRecDepth 100000 in
set_option maxHeartbeats 16000000 in
theorem rrun_main (aL aV aM : Option Addr) (cL cV k cM : Nat) (c : Crv) (p : Pot3) (M : Nat → Int) (m : Nat) (w : World) (hn : c.n ≤ 1000000000000) (hk : k ≤ 64) (hmk : m ≤ k) (hL : IntsAt w aL c.n c.L) (hV : SpansAt w aV c.n c.A c.B) (hM : IntsAt w aM k M)
    (hE : earlyE c.n c.n c.L c.A c.B p.v p.lo p.hi k = 0) (hgo : ∀ j, j < m → c.errAt p M j = 0) (hst : m < k → c.errAt p M m ≠ 0) (hok : ∀ j, j ≤ m → (c.potAt p M j).ok) :
    Calls Try.prog 30 #[.agg #[.slice aL c.n cL, .slice aV c.n cV], .agg #[.int .i64 p.v, .int .i64 p.lo, .int .i64 p.hi], .slice aM k cM] w (RunEnds c p M k m w) := by
  have hm := hn
  obtain ⟨hc, hp⟩ : curveB c.n c.n c.L c.A c.B = true ∧ potB p.v p.lo p.hi = true := by
    unfold earlyE at hE
    rw [if_neg (by omega)] at hE
    split at hE
    · rename_i h; simpa only [Bool.and_eq_true] using h
    · omega
  have DE := Lib.hid (fun j (hj : j ≤ m) => show drawErr c.n c (c.potAt p M j) (M j) = c.errAt p M j by
    have o := hok j hj
    obtain ⟨o0, o1, o2, o3⟩ := o
    unfold drawErr
    rw [hc, show potB (c.potAt p M j).v (c.potAt p M j).lo (c.potAt p M j).hi = true by unfold potB; rw [inB_t.2 ⟨by omega, by omega⟩, spanB_t.2 ⟨by omega, by omega, by omega⟩]; rfl]
    rfl)
  have HL0 := Lib.hid hL
  have HV0 := Lib.hid hV
  have HM0 := Lib.hid hM
  clear hM
  obtain ⟨W1, hW1⟩ : ∃ W1, ((w.alloc (.cells #[.slice aL c.n cL, .slice aV c.n cV] 25)).alloc (.cells #[.int .i64 p.v, .int .i64 p.lo, .int .i64 p.hi] 29)).alloc (.cells #[.int .i64 0, .int .i64 0, .int .i64 0] 29) = W1 := ⟨_, rfl⟩
  have gb : GB w W1 aL aV c.n c.n cL cV p.v p.lo p.hi := by rw [← hW1]; exact gb_of w aL aV c.n c.n cL cV p.v p.lo p.hi
  have HL := Lib.hid (hL.below gb.low); clear hL
  have HV := Lib.hid (hV.below gb.low); clear hV
  have HW1 := Lib.hid hW1; clear hW1
  have GBH := Lib.hid gb
  have c0 : W1.cell? ⟨w.heap.size, 0, none⟩ = some (.slice aL c.n cL) := cell_of_block gb.b1 0 (by simp)
  have c1 : W1.cell? ⟨w.heap.size, 1, none⟩ = some (.slice aV c.n cV) := cell_of_block gb.b1 1 (by simp)
  have p0 : W1.cell? ⟨w.heap.size + 1, 0, none⟩ = some (.int .i64 p.v) := cell_of_block gb.b2 0 (by simp)
  have p1 : W1.cell? ⟨w.heap.size + 1, 1, none⟩ = some (.int .i64 p.lo) := cell_of_block gb.b2 1 (by simp)
  have p2 : W1.cell? ⟨w.heap.size + 1, 2, none⟩ = some (.int .i64 p.hi) := cell_of_block gb.b2 2 (by simp)
  have T0 : W1.cell? ⟨w.heap.size + 1 + 1, 0, none⟩ = some (.int .i64 0) := cell_of_block gb.b3 0 (by simp)
  have G0 : W1.frozen? ⟨w.heap.size + 1 + 1, 0, none⟩ = false := frozen_of_block gb.b3 0
  have T1 : W1.cell? ⟨w.heap.size + 1 + 1, 1, none⟩ = some (.int .i64 0) := cell_of_block gb.b3 1 (by simp)
  have G1 : W1.frozen? ⟨w.heap.size + 1 + 1, 1, none⟩ = false := frozen_of_block gb.b3 1
  have T2 : W1.cell? ⟨w.heap.size + 1 + 1, 2, none⟩ = some (.int .i64 0) := cell_of_block gb.b3 2 (by simp)
  have G2 : W1.frozen? ⟨w.heap.size + 1 + 1, 2, none⟩ = false := frozen_of_block gb.b3 2
  have s0 : w.heap.size < W1.heap.size := by have := gb.sz; omega
  have s1 : w.heap.size + 1 < W1.heap.size := by have := gb.sz; omega
  have s2 : w.heap.size + 1 + 1 < W1.heap.size := by have := gb.sz; omega
  clear gb
  have GO := Lib.hid hgo; clear hgo
  have ST := Lib.hid hst; clear hst
  have OK := Lib.hid hok; clear hok
  have H1 := Lib.hid hc; clear hc
  have H2 := Lib.hid hp; clear hp hE
  go_enter Try.func30, Try.ntmps30
  go_upto_region 1 with (fail)
  rw [HW1.out]
  go_wp2_with fail
  refine (Calls.grown (rcurve_b aL aV c.n c.n cL cV c.L c.A c.B W1 hn hm HL.out HV.out H1.out)).mono ?_
  rintro e w1 ⟨rfl, y0, rfl⟩
  go_wp2_with fail
  refine (Calls.gw_of (rpot_b _ _ _ _ H2.out)).mono ?_
  rintro e w1 ⟨rfl, y, rfl⟩
  have B01 := Lib.hid (below_gw W1 y)
  have k1 := (gw_block W1 y _ (Array.getElem?_eq_some_iff.1 GBH.out.b1).1).trans GBH.out.b1
  have k2 := (gw_block W1 y _ (Array.getElem?_eq_some_iff.1 GBH.out.b2).1).trans GBH.out.b2
  have k3 := (gw_block W1 y _ (Array.getElem?_eq_some_iff.1 GBH.out.b3).1).trans GBH.out.b3
  clear c0 c1 p0 p1 p2 T0 T1 T2 G0 G1 G2
  obtain ⟨W0, hW0⟩ : ∃ W0, gw W1 y = W0 := ⟨_, rfl⟩
  rw [hW0] at k1 k2 k3 B01
  have z0 : w.heap.size + 3 ≤ W0.heap.size := by have := B01.out.size; have := GBH.out.sz; omega
  have KB1 := Lib.hid k1
  have KB2 := Lib.hid k2
  have KB3 := Lib.hid k3
  have LOW0 := Lib.hid (thru B01.out GBH.out.low)
  have HW0 := Lib.hid hW0
  clear hW0 k1 k2 k3 s0 s1 s2
  obtain ⟨i0, hi, hz0, hz1, hz2⟩ := info_parts infoD
  have HI := Lib.hid hi; clear hi
  have Z0 := Lib.hid hz0; clear hz0
  have Z1 := Lib.hid hz1; clear hz1
  have Z2 := Lib.hid hz2; clear hz2
  go_wp2_with fail
  rw [HW0.out]
  have nP : w.heap.size + 1 < W0.heap.size := by omega
  go_loopw [9, 10] (fun v i wr => ∃ j : Nat, j ≤ m ∧ i = .int .i64 j ∧ RunAt c p M W0 (w.heap.size + 1) j v wr) (fun _ i _ => k - (intOf i).toNat)
  case atStart => exact ⟨0, by omega, rfl, World.ownsRow_nil _ _ _ _, KB2.out, ⟨rfl, rfl, rfl, Nat.le_refl _, fun _ _ _ => rfl⟩⟩
  case round =>
    obtain ⟨j, hj, rfl, hR⟩ := hrel
    have HR := Lib.hid hR
    have zR := hR.grown.size
    have c0 := hR.old (cell_of_block KB1.out 0 (by simp)) (by omega)
    have c1 := hR.old (cell_of_block KB1.out 1 (by simp)) (by omega)
    simp at c0 c1
    have p0 := cell_of_block hR.pot 0 (by simp)
    have p1 := cell_of_block hR.pot 1 (by simp)
    have p2 := cell_of_block hR.pot 2 (by simp)
    simp at p0 p1 p2
    have g0 := frozen_of_block hR.pot 0
    have g1 := frozen_of_block hR.pot 1
    have g2 := frozen_of_block hR.pot 2
    have T0 := hR.old (cell_of_block KB3.out 0 (by simp)) (by omega)
    have T1 := hR.old (cell_of_block KB3.out 1 (by simp)) (by omega)
    have T2 := hR.old (cell_of_block KB3.out 2 (by simp)) (by omega)
    simp at T0 T1 T2
    have G0 : wr.frozen? ⟨w.heap.size + 1 + 1, 0, none⟩ = false := frozen_of_block ((hR.grown.block (w.heap.size + 2) (by omega) (by simp)).trans KB3.out) 0
    have G1 : wr.frozen? ⟨w.heap.size + 1 + 1, 1, none⟩ = false := frozen_of_block ((hR.grown.block (w.heap.size + 2) (by omega) (by simp)).trans KB3.out) 1
    have G2 : wr.frozen? ⟨w.heap.size + 1 + 1, 2, none⟩ = false := frozen_of_block ((hR.grown.block (w.heap.size + 2) (by omega) (by simp)).trans KB3.out) 2
    have KT := Lib.hid ((hR.grown.block (w.heap.size + 2) (by omega) (by simp)).trans KB3.out)
    have LOWR := Lib.hid (below_of_grown LOW0.out hR.grown (by omega))
    have s0 : w.heap.size < wr.heap.size := by omega
    have s1 : w.heap.size + 1 < wr.heap.size := by omega
    have s2 : w.heap.size + 1 + 1 < wr.heap.size := by omega
    clear hR
    have HLr := Lib.hid (HL0.out.below LOWR.out)
    have HVr := Lib.hid (HV0.out.below LOWR.out)
    by_cases hlt : j < k
    · obtain ⟨bm, offm, rfl, lbm, hm0⟩ := ints_get (HM0.out.below LOWR.out) (by omega)
      have dm := hm0 j hlt
      clear hm0
      have lbw : bm < w.heap.size := by
        rcases HM0.out with h | ⟨b', o', h1, h2, _⟩
        · omega
        · cases h1; exact h2
      have DX : ∃ (X : Dr3) (Y : Pot3) (e : Int), (∀ W, Below wr.heap.size wr W → Calls Try.prog 29 #[.agg #[.slice aL c.n cL, .slice aV c.n cV], .agg #[.int .i64 (c.potAt p M j).v, .int .i64 (c.potAt p M j).lo, .int .i64 (c.potAt p M j).hi], .int .i64 (M j)] W fun e' w' =>
            e' = .returned (.tuple #[.agg #[.int .i64 X.d, .int .i64 X.lo, .int .i64 X.hi], .agg #[.int .i64 Y.v, .int .i64 Y.lo, .int .i64 Y.hi], .int .i64 e]) ∧ Below W.heap.size W w') ∧
          ((c.errAt p M j = 0 ∧ e = 0 ∧ X = c.outAt p M j ∧ Y = c.potAt p M (j + 1)) ∨ (c.errAt p M j ≠ 0 ∧ e = c.errAt p M j)) := by
        by_cases e0 : c.errAt p M j = 0
        · exact ⟨_, _, 0, fun W hb => rDraw_ok aL aV c.n cL cV c (c.potAt p M j) (M j) W hn hm (HLr.out.below hb) (HVr.out.below hb) (by rw [DE.out j hj]; exact e0) _ _ rfl rfl, .inl ⟨e0, rfl, rfl, rfl⟩⟩
        · exact ⟨⟨0, 0, 0⟩, ⟨0, 0, 0⟩, _, fun W hb => rDraw_err aL aV c.n cL cV c (c.potAt p M j) (M j) W hn hm (HLr.out.below hb) (HVr.out.below hb) _ (DE.out j hj) e0, .inr ⟨e0, rfl⟩⟩
      obtain ⟨X, Y, ee, DC0, CS0⟩ := DX
      have DC := Lib.hid DC0
      have CS := Lib.hid CS0
      clear DC0 CS0
      generalize c.potAt p M j = Pj at *
      have ne0 : w.heap.size ≠ wr.heap.size := by omega
      have ne1 : w.heap.size + 1 ≠ wr.heap.size := by omega
      have ne2 : bm ≠ wr.heap.size := by omega
      have nr0 := ne0.symm
      have nr1 := ne1.symm
      have nr2 := ne2.symm
      have nt0 : wr.heap.size + 1 ≠ w.heap.size := by omega
      have nt1 : wr.heap.size + 1 ≠ w.heap.size + 1 := by omega
      have nt2 : wr.heap.size + 1 ≠ bm := by omega
      go_wp2_with fail
      go_cut [11, 12, 13] (fun s11 s12 s13 wx => Out4 X Y ee wr s11 s12 s13 wx)
      case first =>
        go_region_held3 (fun w' => w'.cell? ⟨w.heap.size, 0, none⟩ = some (.slice aL c.n cL) ∧ w'.cell? ⟨w.heap.size, 1, none⟩ = some (.slice aV c.n cV) ∧ w'.cell? ⟨w.heap.size + 1, 0, none⟩ = some (.int .i64 Pj.v) ∧ w'.cell? ⟨w.heap.size + 1, 1, none⟩ = some (.int .i64 Pj.lo) ∧ w'.cell? ⟨w.heap.size + 1, 2, none⟩ = some (.int .i64 Pj.hi) ∧ w'.cell? ⟨bm, offm + j, none⟩ = some (.int .i64 (M j)))
          (first | go_keep)
          (first
            | (go_at_call 29; refine (DC.out (wr.drew) ((Below.refl _ wr).drew)).mono ?_; rintro e w1 ⟨rfl, hb1⟩
               have HB1 := Lib.hid (thru hb1 (show Below wr.heap.size wr (wr.drew) from (Below.refl _ wr).drew))
               have k0 := below_cell HB1.out c0
               have k1 := below_cell HB1.out c1
               have k2 := below_cell HB1.out p0
               have k3 := below_cell HB1.out p1
               have k4 := below_cell HB1.out p2
               have k5 := below_cell HB1.out dm
               have hz1 := HB1.out.size)
            | (go_at_call 29; refine (DC.out ((wr.alloc (.cells #[.int .i64 0, .int .i64 0, .int .i64 0] 41)).drew) (((Below.refl _ wr).alloc (by simp) (.cells #[.int .i64 0, .int .i64 0, .int .i64 0] 41)).drew)).mono ?_; rintro e w1 ⟨rfl, hb1⟩
               have HB1 := Lib.hid (thru hb1 (show Below wr.heap.size wr ((wr.alloc (.cells #[.int .i64 0, .int .i64 0, .int .i64 0] 41)).drew) from ((Below.refl _ wr).alloc (by simp) (.cells #[.int .i64 0, .int .i64 0, .int .i64 0] 41)).drew))
               have k0 := below_cell HB1.out c0
               have k1 := below_cell HB1.out c1
               have k2 := below_cell HB1.out p0
               have k3 := below_cell HB1.out p1
               have k4 := below_cell HB1.out p2
               have k5 := below_cell HB1.out dm
               have kb0 := Lib.hid (show w1.heap[wr.heap.size]? = some (.cells #[.int .i64 0, .int .i64 0, .int .i64 0] 41 (0, 0)) from (hb1.block (wr.heap.size) (by simp)).trans (World.alloc_heap_new wr (.cells #[.int .i64 0, .int .i64 0, .int .i64 0] 41)))
               have n00 := cell_of_block kb0.out 0 (by simp)
               have n01 := cell_of_block kb0.out 1 (by simp)
               have n02 := cell_of_block kb0.out 2 (by simp)
               simp at n00 n01 n02
               have hl0 := (Array.getElem?_eq_some_iff.1 kb0.out).1
               have f00 := frozen_of_block kb0.out 0
               have f01 := frozen_of_block kb0.out 1
               have f02 := frozen_of_block kb0.out 2
               have hz1 := HB1.out.size)
            | (go_at_call 29; refine (DC.out ((wr.alloc (.cells #[.int .i64 0, .int .i64 0, .int .i64 0] 29)).drew) (((Below.refl _ wr).alloc (by simp) (.cells #[.int .i64 0, .int .i64 0, .int .i64 0] 29)).drew)).mono ?_; rintro e w1 ⟨rfl, hb1⟩
               have HB1 := Lib.hid (thru hb1 (show Below wr.heap.size wr ((wr.alloc (.cells #[.int .i64 0, .int .i64 0, .int .i64 0] 29)).drew) from ((Below.refl _ wr).alloc (by simp) (.cells #[.int .i64 0, .int .i64 0, .int .i64 0] 29)).drew))
               have k0 := below_cell HB1.out c0
               have k1 := below_cell HB1.out c1
               have k2 := below_cell HB1.out p0
               have k3 := below_cell HB1.out p1
               have k4 := below_cell HB1.out p2
               have k5 := below_cell HB1.out dm
               have kb0 := Lib.hid (show w1.heap[wr.heap.size]? = some (.cells #[.int .i64 0, .int .i64 0, .int .i64 0] 29 (0, 0)) from (hb1.block (wr.heap.size) (by simp)).trans (World.alloc_heap_new wr (.cells #[.int .i64 0, .int .i64 0, .int .i64 0] 29)))
               have n00 := cell_of_block kb0.out 0 (by simp)
               have n01 := cell_of_block kb0.out 1 (by simp)
               have n02 := cell_of_block kb0.out 2 (by simp)
               simp at n00 n01 n02
               have hl0 := (Array.getElem?_eq_some_iff.1 kb0.out).1
               have f00 := frozen_of_block kb0.out 0
               have f01 := frozen_of_block kb0.out 1
               have f02 := frozen_of_block kb0.out 2
               have hz1 := HB1.out.size)
            | (go_at_call 29; refine (DC.out (((wr.alloc (.cells #[.int .i64 0, .int .i64 0, .int .i64 0] 41)).alloc (.cells #[.int .i64 0, .int .i64 0, .int .i64 0] 29)).drew) ((((Below.refl _ wr).alloc (by simp) (.cells #[.int .i64 0, .int .i64 0, .int .i64 0] 41)).alloc (by simp) (.cells #[.int .i64 0, .int .i64 0, .int .i64 0] 29)).drew)).mono ?_; rintro e w1 ⟨rfl, hb1⟩
               have HB1 := Lib.hid (thru hb1 (show Below wr.heap.size wr (((wr.alloc (.cells #[.int .i64 0, .int .i64 0, .int .i64 0] 41)).alloc (.cells #[.int .i64 0, .int .i64 0, .int .i64 0] 29)).drew) from (((Below.refl _ wr).alloc (by simp) (.cells #[.int .i64 0, .int .i64 0, .int .i64 0] 41)).alloc (by simp) (.cells #[.int .i64 0, .int .i64 0, .int .i64 0] 29)).drew))
               have k0 := below_cell HB1.out c0
               have k1 := below_cell HB1.out c1
               have k2 := below_cell HB1.out p0
               have k3 := below_cell HB1.out p1
               have k4 := below_cell HB1.out p2
               have k5 := below_cell HB1.out dm
               have kb0 := Lib.hid (show w1.heap[wr.heap.size]? = some (.cells #[.int .i64 0, .int .i64 0, .int .i64 0] 41 (0, 0)) from (hb1.block (wr.heap.size) (by simp <;> omega)).trans ((Below.heap_alloc (wr.alloc (.cells #[.int .i64 0, .int .i64 0, .int .i64 0] 41)) (.cells #[.int .i64 0, .int .i64 0, .int .i64 0] 29) (wr.heap.size) (by simp)).trans (World.alloc_heap_new wr (.cells #[.int .i64 0, .int .i64 0, .int .i64 0] 41))))
               have n00 := cell_of_block kb0.out 0 (by simp)
               have n01 := cell_of_block kb0.out 1 (by simp)
               have n02 := cell_of_block kb0.out 2 (by simp)
               simp at n00 n01 n02
               have hl0 := (Array.getElem?_eq_some_iff.1 kb0.out).1
               have f00 := frozen_of_block kb0.out 0
               have f01 := frozen_of_block kb0.out 1
               have f02 := frozen_of_block kb0.out 2
               have kb1 := Lib.hid (show w1.heap[wr.heap.size + 1]? = some (.cells #[.int .i64 0, .int .i64 0, .int .i64 0] 29 (0, 0)) from (hb1.block (wr.heap.size + 1) (by simp <;> omega)).trans ((by have := World.alloc_heap_new (wr.alloc (.cells #[.int .i64 0, .int .i64 0, .int .i64 0] 41)) (.cells #[.int .i64 0, .int .i64 0, .int .i64 0] 29); rwa [World.size_alloc] at this)))
               have n10 := cell_of_block kb1.out 0 (by simp)
               have n11 := cell_of_block kb1.out 1 (by simp)
               have n12 := cell_of_block kb1.out 2 (by simp)
               simp at n10 n11 n12
               have hl1 := (Array.getElem?_eq_some_iff.1 kb1.out).1
               have f10 := frozen_of_block kb1.out 0
               have f11 := frozen_of_block kb1.out 1
               have f12 := frozen_of_block kb1.out 2
               have hz1 := HB1.out.size)
            | (go_at_call 29; refine (DC.out (((wr.alloc (.cells #[.int .i64 0, .int .i64 0, .int .i64 0] 29)).alloc (.cells #[.int .i64 0, .int .i64 0, .int .i64 0] 41)).drew) ((((Below.refl _ wr).alloc (by simp) (.cells #[.int .i64 0, .int .i64 0, .int .i64 0] 29)).alloc (by simp) (.cells #[.int .i64 0, .int .i64 0, .int .i64 0] 41)).drew)).mono ?_; rintro e w1 ⟨rfl, hb1⟩
               have HB1 := Lib.hid (thru hb1 (show Below wr.heap.size wr (((wr.alloc (.cells #[.int .i64 0, .int .i64 0, .int .i64 0] 29)).alloc (.cells #[.int .i64 0, .int .i64 0, .int .i64 0] 41)).drew) from (((Below.refl _ wr).alloc (by simp) (.cells #[.int .i64 0, .int .i64 0, .int .i64 0] 29)).alloc (by simp) (.cells #[.int .i64 0, .int .i64 0, .int .i64 0] 41)).drew))
               have k0 := below_cell HB1.out c0
               have k1 := below_cell HB1.out c1
               have k2 := below_cell HB1.out p0
               have k3 := below_cell HB1.out p1
               have k4 := below_cell HB1.out p2
               have k5 := below_cell HB1.out dm
               have kb0 := Lib.hid (show w1.heap[wr.heap.size]? = some (.cells #[.int .i64 0, .int .i64 0, .int .i64 0] 29 (0, 0)) from (hb1.block (wr.heap.size) (by simp <;> omega)).trans ((Below.heap_alloc (wr.alloc (.cells #[.int .i64 0, .int .i64 0, .int .i64 0] 29)) (.cells #[.int .i64 0, .int .i64 0, .int .i64 0] 41) (wr.heap.size) (by simp)).trans (World.alloc_heap_new wr (.cells #[.int .i64 0, .int .i64 0, .int .i64 0] 29))))
               have n00 := cell_of_block kb0.out 0 (by simp)
               have n01 := cell_of_block kb0.out 1 (by simp)
               have n02 := cell_of_block kb0.out 2 (by simp)
               simp at n00 n01 n02
               have hl0 := (Array.getElem?_eq_some_iff.1 kb0.out).1
               have f00 := frozen_of_block kb0.out 0
               have f01 := frozen_of_block kb0.out 1
               have f02 := frozen_of_block kb0.out 2
               have kb1 := Lib.hid (show w1.heap[wr.heap.size + 1]? = some (.cells #[.int .i64 0, .int .i64 0, .int .i64 0] 41 (0, 0)) from (hb1.block (wr.heap.size + 1) (by simp <;> omega)).trans ((by have := World.alloc_heap_new (wr.alloc (.cells #[.int .i64 0, .int .i64 0, .int .i64 0] 29)) (.cells #[.int .i64 0, .int .i64 0, .int .i64 0] 41); rwa [World.size_alloc] at this)))
               have n10 := cell_of_block kb1.out 0 (by simp)
               have n11 := cell_of_block kb1.out 1 (by simp)
               have n12 := cell_of_block kb1.out 2 (by simp)
               simp at n10 n11 n12
               have hl1 := (Array.getElem?_eq_some_iff.1 kb1.out).1
               have f10 := frozen_of_block kb1.out 0
               have f11 := frozen_of_block kb1.out 1
               have f12 := frozen_of_block kb1.out 2
               have hz1 := HB1.out.size))
        all_goals
          go_wp2_with fail
          go_meet
          first | with_reducible exact out4_A X Y ee HB1.out | with_reducible exact out4_B X Y ee HB1.out | with_reducible exact out4_C X Y ee HB1.out kb0.out | with_reducible exact out4_D X Y ee HB1.out kb0.out kb1.out | with_reducible exact out4_E X Y ee HB1.out kb0.out | with_reducible exact out4_F X Y ee HB1.out kb0.out kb1.out
      case rest =>
        obtain ⟨rfl, ⟨B1, B2, rfl, rfl, hb1, hb2, hB1, hB2⟩, hlow⟩ := hcut
        have HLOW := Lib.hid hlow
        have d0 := cell_of_block hb1 0 (by simp)
        have d1 := cell_of_block hb1 1 (by simp)
        have d2 := cell_of_block hb1 2 (by simp)
        simp at d0 d1 d2
        have lB1 := (Array.getElem?_eq_some_iff.1 hb1).1
        have HB2 := Lib.hid hb2
        clear c0 c1 p0 p1 p2 g0 g1 g2 dm DC ne0 ne1 ne2 nr0 nr1 nr2 nt0 nt1 nt2 hb1 hb2
        rcases CS.out with ⟨ez, rfl, eX, eY⟩ | ⟨ez, ee0⟩
        · have jm : j < m := by
            rcases Nat.lt_or_ge j m with h | h
            · exact h
            · exact absurd ez (by have := ST.out (by omega); rwa [show m = j by omega] at this)
          have OS := Lib.hid (show c.outs p M (j + 1) = c.outs p M j ++ [.int .i64 X.d, .int .i64 X.lo, .int .i64 X.hi] by rw [c.outs_succ, eX]; rfl)
          have EY := Lib.hid eY
          have OWN := Lib.hid (own_below HR.out.row HLOW.out)
          clear CS ez eX eY T0 T1 T2 G0 G1 G2
          go_upto_region 13 with (at_builtin; refine wpList_append_own _ rfl _ _ 33 rfl W0.heap.size 41 i0 (.agg #[.int .i64 0, .int .i64 0, .int .i64 0]) 3 24 Try.underlying33 HI.out Z0.out Z1.out Z2.out rfl (by decide) _ j (c.outs p M j) rfl (OWN.out.alloc _) ⟨wc.heap.size, 0, none⟩ 1 1 [.int .i64 X.d, .int .i64 X.lo, .int .i64 X.hi] rfl rfl (news3 _ _ _ _ _) (by simp [Value.oneCell']) (by unfold maxLen; omega) (by omega) (by have := HLOW.out.size; simp; omega) ?_; intro v' w3 hown' hgrow _)
          rw [← OS.out] at hown'
          obtain ⟨n1, n2, n3, n4⟩ := runAt_next nP HR.out HLOW.out hgrow hown' hB2 HB2.out
          have x0 := cell_of_block n1 0 (by simp)
          have x1 := cell_of_block n1 1 (by simp)
          have x2 := cell_of_block n1 2 (by simp)
          have y0 := cell_of_block n2 0 (by simp)
          have y1 := cell_of_block n2 1 (by simp)
          have y2 := cell_of_block n2 2 (by simp)
          have f0 := frozen_of_block n2 0
          have f1 := frozen_of_block n2 1
          have f2 := frozen_of_block n2 2
          simp at x0 x1 x2 y0 y1 y2
          have NX := Lib.hid (runAt_set nP hown' n2 n3 EY.out)
          clear hown' hgrow n1 n2 n3
          go_wp2_with fail
          go_roundw
          case rel => exact ⟨j + 1, by omega, by go_num, NX.out⟩
          case measure => simp [intOf]; omega
        · have jm : m = j := by
            rcases Nat.lt_or_ge j m with h | h
            · exact absurd (GO.out j h) ez
            · omega
          have hx0 : (ee != 0) = true := by rw [ee0]; simpa using ez
          have E0 := Lib.hid ee0
          have k3 := (HLOW.out.block _ (Array.getElem?_eq_some_iff.1 KT.out).1).trans KT.out
          have LW := Lib.hid (thru HLOW.out LOWR.out)
          have u2 := Nat.lt_of_lt_of_le s2 HLOW.out.size
          replace T0 := below_cell' HLOW.out T0
          replace T1 := below_cell' HLOW.out T1
          replace T2 := below_cell' HLOW.out T2
          have f0 : wc.frozen? ⟨w.heap.size + 1 + 1, 0, none⟩ = false := frozen_of_block k3 0
          have f1 : wc.frozen? ⟨w.heap.size + 1 + 1, 1, none⟩ = false := frozen_of_block k3 1
          have f2 : wc.frozen? ⟨w.heap.size + 1 + 1, 2, none⟩ = false := frozen_of_block k3 2
          clear CS ee0 ez k3 G0 G1 G2 d0 d1 d2
          go_wp2_with fail
          refine bodyPost_ret (v := .tuple #[.slice none 0 0, .agg #[.int .i64 0, .int .i64 0, .int .i64 0], .int .i64 ee]) (by simp [results, Try.results30, go_sem, T0, T1, T2, u2]) rfl ⟨?_, .inr ⟨by omega, by rw [E0.out, jm]⟩⟩
          exact ((LW.out.setCell (by simp <;> omega) _).setCell (by simp <;> omega) _).setCell (by simp <;> omega) _
    · have jm : m = j := by omega
      have jk : k = j := by omega
      have OWN := Lib.hid HR.out.row
      generalize hE : c.potAt p M j = E at *
      have HE := Lib.hid hE; clear hE
      go_wp2_with fail
      go_region
      all_goals
        go_wp2_with fail
        refine bodyPost_ret (v := .tuple #[u9, .agg #[.int .i64 E.v, .int .i64 E.lo, .int .i64 E.hi], .int .i64 0]) (by simp [results, Try.results30, go_sem, T0, T1, T2, s2]) rfl ⟨(((LOWR.out.setCell (by simp <;> omega) _).setCell (by simp <;> omega) _).setCell (by simp <;> omega) _).drew, .inl ⟨by omega, u9, ?_, ?_⟩⟩
        · rw [jk, HE.out]
        · rw [jk]
          exact ((row_set3 OWN.out (fun h => by have := OWN.out.lt _ h; omega) _ _ _).drew).base LOW0.out.size
end Go.Proofs.Ytnmldophadanbaa
