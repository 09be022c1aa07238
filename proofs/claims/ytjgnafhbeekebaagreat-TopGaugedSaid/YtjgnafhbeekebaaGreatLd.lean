/- Contracts of value and of the tests whether a span fits a table, the reference's too. Contracts of the tests whether a span fits a table, the reference's too. No conditions beyond each theorem's own. -/
import Derived.Test.YtjgnafhbeekebaaGreatLc
set_option linter.unusedVariables false
set_option linter.unusedSimpArgs false
set_option linter.unusedSectionVars false
set_option linter.constructorNameAsVariable false
namespace Go.Proofs.YtjgnafhbeekebaaGreat.L1
open Go.RowKit
open Go.Proofs.YtjgnafhbeekebaaGreat

attribute [local go_sem] gw_cell gw_frozen gw_size

theorem mul_bd {x y X Y : Int} (h0 : 0 ≤ x) (h1 : x ≤ X) (hY : 0 ≤ Y) (h2 : -Y ≤ y) (h3 : y ≤ Y) : -(X * Y) ≤ x * y ∧ x * y ≤ X * Y := by
  have a := Int.mul_le_mul_of_nonneg_left h3 h0
  have b := Int.mul_le_mul_of_nonneg_left h2 h0
  have c := Int.mul_le_mul_of_nonneg_right h1 hY
  rw [Int.mul_neg] at b
  omega
/-- the rows of a table that are looked at -/
structure Tab.Rowed (t : Tab) (m : Rows) (w : World) : Prop where
  i : m.In w
  n : m.n = t.nT
  l : ∀ i, i < t.nT → m.rN i = t.nS
  b : ∀ i k, i < t.nT → k < t.nS → -1100000 ≤ m.M i k ∧ m.M i k ≤ 1100000
theorem Tab.Rowed.below {t : Tab} {m : Rows} {w w' : World} (h : t.Rowed m w) (hb : Below w.heap.size w w') : t.Rowed m w' := ⟨h.i.below hb, h.n, h.l, h.b⟩
theorem Tab.Good.rowsH {t : Tab} {w : World} (g : t.Good) (h : t.In w) : t.Rowed t.H w := ⟨h.iH, g.hn, g.hl, fun i k hi hk => by have := g.ok.bH i k hi hk; simp only [Tab.tb] at this; omega⟩
theorem Tab.Good.rowsR {t : Tab} {w : World} (g : t.Good) (h : t.In w) : t.Rowed t.R w := ⟨h.iR, g.rn, g.rl, fun i k hi hk => by have := g.ok.bR i k hi hk; simp only [Tab.tb] at this; omega⟩
def Tab.valM (t : Tab) (m : Rows) (x y : Int) : Fr := valF t.T t.S t.nT t.nS m.M x y
def Fr.val (x : Fr) : Value := .agg #[.int .i64 x.n, .int .i64 x.d]
/-- all that a value is made of, in memory -/
structure Cells8 (w : World) (bT oT bS oS bM oM b1 o1 b2 o2 i k cL1 cL2 nS : Nat) (t0 t1 s0 s1 m00 m01 m10 m11 : Int) : Prop where
  xT0 : w.cell? ⟨bT, oT + i, none⟩ = some (.int .i64 t0)
  xT1 : w.cell? ⟨bT, oT + (i + 1), none⟩ = some (.int .i64 t1)
  xS0 : w.cell? ⟨bS, oS + k, none⟩ = some (.int .i64 s0)
  xS1 : w.cell? ⟨bS, oS + (k + 1), none⟩ = some (.int .i64 s1)
  xM0 : w.cell? ⟨bM, oM + i, none⟩ = some (.slice (some ⟨b1, o1, none⟩) nS cL1)
  xM1 : w.cell? ⟨bM, oM + (i + 1), none⟩ = some (.slice (some ⟨b2, o2, none⟩) nS cL2)
  x00 : w.cell? ⟨b1, o1 + k, none⟩ = some (.int .i64 m00)
  x01 : w.cell? ⟨b1, o1 + (k + 1), none⟩ = some (.int .i64 m01)
  x10 : w.cell? ⟨b2, o2 + k, none⟩ = some (.int .i64 m10)
  x11 : w.cell? ⟨b2, o2 + (k + 1), none⟩ = some (.int .i64 m11)
  lT : bT < w.heap.size
  lS : bS < w.heap.size
  lM : bM < w.heap.size
  l1 : b1 < w.heap.size
  l2 : b2 < w.heap.size
/-- their bounds -/
structure Bounds8 (x y t0 t1 s0 s1 m00 m01 m10 m11 : Int) : Prop where
  a1 : t0 ≤ x
  a2 : x ≤ t1
  a3 : t0 < t1
  a4 : -500 ≤ t0
  a5 : t1 ≤ 1000
  b1 : s0 ≤ y
  b2 : y ≤ s1
  b3 : s0 < s1
  b4 : 0 ≤ s0
  b5 : s1 ≤ 10000
  c00 : -1100000 ≤ m00 ∧ m00 ≤ 1100000
  c01 : -1100000 ≤ m01 ∧ m01 ≤ 1100000
  c10 : -1100000 ≤ m10 ∧ m10 ≤ 1100000
  c11 : -1100000 ≤ m11 ∧ m11 ≤ 1100000
theorem value_parts {t : Tab} (g : t.Good) {m : Rows} {w : World} (hI : t.In w) (hM : t.Rowed m w) {x y : Int} (ft : t.tb.FitT x x) (fs : t.tb.FitS y y) :
    ∃ (bT oT bS oS bM oM b1 o1 b2 o2 i k cL1 cL2 : Nat) (t0 t1 s0 s1 m00 m01 m10 m11 : Int), t.aT = some ⟨bT, oT, none⟩ ∧ t.aS = some ⟨bS, oS, none⟩ ∧ m.a = some ⟨bM, oM, none⟩ ∧ plV t.T t.nT x = i ∧ plV t.S t.nS y = k ∧ i + 1 < t.nT ∧ k + 1 < t.nS ∧
      (∀ j, j < t.nT → w.cell? ⟨bT, oT + j, none⟩ = some (.int .i64 (t.T j))) ∧ (∀ j, j < t.nS → w.cell? ⟨bS, oS + j, none⟩ = some (.int .i64 (t.S j))) ∧
      Cells8 w bT oT bS oS bM oM b1 o1 b2 o2 i k cL1 cL2 t.nS t0 t1 s0 s1 m00 m01 m10 m11 ∧ Bounds8 x y t0 t1 s0 s1 m00 m01 m10 m11 ∧
      t.valM m x y = ⟨((t1 - t0) - (x - t0)) * (((s1 - s0) - (y - s0)) * m00 + (y - s0) * m01) + (x - t0) * (((s1 - s0) - (y - s0)) * m10 + (y - s0) * m11), (t1 - t0) * (s1 - s0)⟩ := by
  have t2 := g.ok.t2
  have s2 := g.ok.s2
  simp only [Tab.tb] at t2 s2
  obtain ⟨p0, p1⟩ := plV_in (L := t.T) (n := t.nT) (x := x) t2 ft.a ft.c
  obtain ⟨q0, q1⟩ := plV_in (L := t.S) (n := t.nS) (x := y) s2 fs.a fs.c
  have hp := plV_le t.T t.nT x
  have hq := plV_le t.S t.nS y
  rcases hI.iT with h | ⟨bT, oT, eT, lT, cT⟩
  · omega
  rcases hI.iS with h | ⟨bS, oS, eS, lS, cS⟩
  · omega
  rcases hM.i.cells with h | ⟨bM, oM, eM, lM, cM⟩
  · have := hM.n; omega
  obtain ⟨i, hi⟩ : ∃ i, plV t.T t.nT x = i := ⟨_, rfl⟩
  obtain ⟨k, hk⟩ : ∃ k, plV t.S t.nS y = k := ⟨_, rfl⟩
  rw [hi] at p0 p1 hp
  rw [hk] at q0 q1 hq
  have row : ∀ j, j < t.nT → ∃ b o, m.rA j = some ⟨b, o, none⟩ ∧ b < w.heap.size ∧ ∀ l, l < t.nS → w.cell? ⟨b, o + l, none⟩ = some (.int .i64 (m.M j l)) := fun j hj => by
    have e := hM.l j hj
    rcases hM.i.rows j (by have := hM.n; omega) with h | ⟨b, o, eb, lb, cb⟩
    · omega
    · exact ⟨b, o, eb, lb, fun l hl => cb l (by omega)⟩
  obtain ⟨b1, o1, e1, l1, c1⟩ := row i (by omega)
  obtain ⟨b2, o2, e2, l2, c2⟩ := row (i + 1) (by omega)
  have n := hM.n
  have y1 := cM i (by omega)
  have y2 := cM (i + 1) (by omega)
  unfold Rows.row at y1 y2
  rw [e1, hM.l i (by omega)] at y1
  rw [e2, hM.l (i + 1) (by omega)] at y2
  have bt0 := g.ok.bT i (by simp only [Tab.tb]; omega)
  have bt1 := g.ok.bT (i + 1) (by simp only [Tab.tb]; omega)
  have bs0 := g.ok.bS k (by simp only [Tab.tb]; omega)
  have bs1 := g.ok.bS (k + 1) (by simp only [Tab.tb]; omega)
  have rt := g.ok.rT i (by simp only [Tab.tb]; omega)
  have rs := g.ok.rS k (by simp only [Tab.tb]; omega)
  simp only [Tab.tb] at bt0 bt1 bs0 bs1 rt rs
  refine ⟨bT, oT, bS, oS, bM, oM, b1, o1, b2, o2, i, k, m.rC i, m.rC (i + 1), t.T i, t.T (i + 1), t.S k, t.S (k + 1), m.M i k, m.M i (k + 1), m.M (i + 1) k, m.M (i + 1) (k + 1), eT, eS, eM, hi, hk, by omega, by omega, cT, cS,
    ⟨cT i (by omega), cT (i + 1) (by omega), cS k (by omega), cS (k + 1) (by omega), y1, y2, c1 k (by omega), c1 (k + 1) (by omega), c2 k (by omega), c2 (k + 1) (by omega), lT, lS, lM, l1, l2⟩,
    ⟨p0, p1, rt, bt0.1, bt1.2, q0, q1, rs, bs0.1, bs1.2, hM.b i k (by omega) (by omega), hM.b i (k + 1) (by omega) (by omega), hM.b (i + 1) k (by omega) (by omega), hM.b (i + 1) (k + 1) (by omega) (by omega)⟩, ?_⟩
  unfold Tab.valM valF cellF cellN
  rw [hi, hk]

set_option maxRecDepth 100000 in
set_option maxHeartbeats 4000000 in
theorem value_any (t : Tab) (g : t.Good) (m : Rows) (bt : Nat) (x y : Int) (w : World) (hI : t.In w) (hM : t.Rowed m w) (ft : t.tb.FitT x x) (fs : t.tb.FitS y y)
    (z0 : w.cell? ⟨bt, 0, none⟩ = some (.slice t.aT t.nT t.cT)) (z1 : w.cell? ⟨bt, 1, none⟩ = some (.slice t.aS t.nS t.cS)) :
    Calls Tryz.prog 74 #[.pointer (some ⟨bt, 0, none⟩), m.val, .int .i64 x, .int .i64 y] w fun e w' => e = .returned (t.valM m x y).val ∧ Below w.heap.size w w' := by
  obtain ⟨bT, oT, bS, oS, bM, oM, b1, o1, b2, o2, i, k, cL1, cL2, t0, t1, s0, s1, m00, m01, m10, m11, eT, eS, eM, hi, hk, li, lk, aT, aS, C8, B8, hv⟩ := value_parts g hI hM ft fs
  have PT := Lib.hid (fun W (hb : Below w.heap.size w W) => place_any bT oT t.nT t.cT t.T x W (Nat.lt_of_lt_of_le C8.lT hb.size) (fun j hj => (hb.cell (p := ⟨bT, oT + j, none⟩) C8.lT).trans (aT j hj)) g.ok.t2 (by have := g.ok.t32; simp only [Tab.tb] at this; omega) g.ok.rT)
  have PS := Lib.hid (fun W (hb : Below w.heap.size w W) => place_any bS oS t.nS t.cS t.S y W (Nat.lt_of_lt_of_le C8.lS hb.size) (fun j hj => (hb.cell (p := ⟨bS, oS + j, none⟩) C8.lS).trans (aS j hj)) g.ok.s2 (by have := g.ok.s32; simp only [Tab.tb] at this; omega) g.ok.rS)
  rw [hi] at PT
  rw [hk] at PS
  have hn := hM.n
  have lin : i < m.n := by omega
  have lin1 : i + 1 < m.n := by omega
  have lk0 : k < t.nS := by omega
  have li0 : i < t.nT := by omega
  clear hn
  have u32 : t.nT ≤ 32 := g.ok.t32
  have v32 : t.nS ≤ 32 := g.ok.s32
  have mn32 : m.n ≤ 32 := by have := hM.n; omega
  rw [hv]
  unfold Fr.val Rows.val
  dsimp only
  rw [eM]
  have HI := Lib.hid hi; have HK := Lib.hid hk; have HVV := Lib.hid hv; clear hi hk hv aT aS eM
  have i1 : ((i : Int) + 1).toNat = i + 1 := by omega
  have k1 : ((k : Int) + 1).toNat = k + 1 := by omega
  obtain ⟨a1, a2, a3, a4, a5, q1, q2, q3, q4, q5, n00, n01, n10, n11⟩ := B8
  rw [eT] at z0
  rw [eS] at z1
  clear eT eS g hI hM ft fs
  obtain ⟨W1, hW1⟩ : ∃ W1, w.alloc (.cells #[.int .i64 0, .int .i64 0] 95) = W1 := ⟨_, rfl⟩
  have hBc : Below w.heap.size w W1 := by rw [← hW1]; exact below_alloc _ _
  have zc0 : W1.heap[w.heap.size]? = some (.cells #[.int .i64 0, .int .i64 0] 95 (0, 0)) := by rw [← hW1]; exact alloc_at rfl
  have c00 : W1.cell? ⟨w.heap.size, 0, none⟩ = some (.int .i64 0) := cell_of_block zc0 0 (by simp)
  have c01 : W1.cell? ⟨w.heap.size, 1, none⟩ = some (.int .i64 0) := cell_of_block zc0 1 (by simp)
  have lc0 := (Array.getElem?_eq_some_iff.1 zc0).1
  have fc00 := frozen_of_block zc0 0
  have fc01 := frozen_of_block zc0 1
  clear zc0
  have HBc := Lib.hid hBc; clear hBc
  have HWc := Lib.hid hW1; clear hW1
  obtain ⟨xT0, xT1, xS0, xS1, xM0, xM1, x00, x01, x10, x11, lT, lS, lM, l1, l2⟩ := C8
  replace xT0 := below_cell HBc.out xT0
  replace xT1 := below_cell HBc.out xT1
  replace xS0 := below_cell HBc.out xS0
  replace xS1 := below_cell HBc.out xS1
  replace xM0 := below_cell HBc.out xM0
  replace xM1 := below_cell HBc.out xM1
  replace x00 := below_cell HBc.out x00
  replace x01 := below_cell HBc.out x01
  replace x10 := below_cell HBc.out x10
  replace x11 := below_cell HBc.out x11
  have sz := HBc.out.size
  replace lT := Nat.lt_of_lt_of_le lT sz
  replace lS := Nat.lt_of_lt_of_le lS sz
  replace lM := Nat.lt_of_lt_of_le lM sz
  replace l1 := Nat.lt_of_lt_of_le l1 sz
  replace l2 := Nat.lt_of_lt_of_le l2 sz
  clear sz
  replace z0 := below_cell HBc.out z0
  replace z1 := below_cell HBc.out z1
  have lbt := World.block_lt_of_cell? W1 _ z0
  dsimp only at lbt
  have d1 := mul_bd (X := 10000) (Y := 1100000) (show 0 ≤ (s1 - s0) - (y - s0) by omega) (by omega) (by omega) n00.1 n00.2
  have d2 := mul_bd (X := 10000) (Y := 1100000) (show 0 ≤ y - s0 by omega) (by omega) (by omega) n01.1 n01.2
  have d3 := mul_bd (X := 10000) (Y := 1100000) (show 0 ≤ (s1 - s0) - (y - s0) by omega) (by omega) (by omega) n10.1 n10.2
  have d4 := mul_bd (X := 10000) (Y := 1100000) (show 0 ≤ y - s0 by omega) (by omega) (by omega) n11.1 n11.2
  have d5 := mul_bd (X := 1500) (Y := 22000000000) (show 0 ≤ (t1 - t0) - (x - t0) by omega) (by omega) (by omega) (show -22000000000 ≤ ((s1 - s0) - (y - s0)) * m00 + (y - s0) * m01 by omega) (by omega)
  have d6 := mul_bd (X := 1500) (Y := 22000000000) (show 0 ≤ x - t0 by omega) (by omega) (by omega) (show -22000000000 ≤ ((s1 - s0) - (y - s0)) * m10 + (y - s0) * m11 by omega) (by omega)
  have d7 := mul_bd (X := 1500) (Y := 10000) (show 0 ≤ t1 - t0 by omega) (by omega) (by omega) (show -10000 ≤ s1 - s0 by omega) (by omega)
  go_enter Tryz.func74, Tryz.ntmps74
  go_upto_region 1 with (fail)
  rw [HWc.out]
  refine wp_region_gw (by kernel_rfl) (by kernel_rfl) ?_
  repeat (go_big_quiet_step ((go_at_call 86; first | with_reducible exact Calls.gw_of (PT.out _ (HBc.out.gw _)) | with_reducible exact Calls.gw_of (PS.out _ (HBc.out.gw _)))))
  refine wpQuiet_nil ?_
  rintro _ ⟨v1, rfl⟩
  go_wp2_with fail
  refine wp_region_gw2 (by kernel_rfl) (by kernel_rfl) ?_
  repeat (go_big_quiet_step (fail))
  refine wpQuiet_nil ?_
  rintro _ ⟨v2, rfl⟩
  go_wp2_with fail
  refine wp_region_gw2 (by kernel_rfl) (by kernel_rfl) ?_
  repeat (go_big_quiet_step (fail))
  refine wpQuiet_nil ?_
  rintro _ ⟨v3, rfl⟩
  go_wp2_with fail
  refine wp_region_gw2 (by kernel_rfl) (by kernel_rfl) ?_
  repeat (go_big_quiet_step (fail))
  refine wpQuiet_nil ?_
  rintro _ ⟨v4, rfl⟩
  go_wp2_with fail
  refine wp_region_gw2 (by kernel_rfl) (by kernel_rfl) ?_
  repeat (go_big_quiet_step (fail))
  refine wpQuiet_nil ?_
  rintro _ ⟨v5, rfl⟩
  go_wp2_with fail
  refine bodyPost_ret (v := .agg #[.int .i64 (((t1 - t0) - (x - t0)) * (((s1 - s0) - (y - s0)) * m00 + (y - s0) * m01) + (x - t0) * (((s1 - s0) - (y - s0)) * m10 + (y - s0) * m11)), .int .i64 ((t1 - t0) * (s1 - s0))]) (by simp [results, Tryz.results74, go_sem, *]) rfl ⟨rfl, ?_⟩
  exact ((HBc.out.gw v5).setCell (by simp <;> omega) _).setCell (by simp <;> omega) _

set_option maxRecDepth 100000 in
set_option maxHeartbeats 8000000 in
theorem rValue_any (t : Tab) (g : t.Good) (m : Rows) (x y : Int) (w : World) (hI : t.In w) (hM : t.Rowed m w) (ft : t.tb.FitT x x) (fs : t.tb.FitS y y) :
    Calls Tryz.prog 12 #[t.val, m.val, .int .i64 x, .int .i64 y] w fun e w' => e = .returned (t.valM m x y).val ∧ Below w.heap.size w w' := by
  obtain ⟨bT, oT, bS, oS, bM, oM, b1, o1, b2, o2, i, k, cL1, cL2, t0, t1, s0, s1, m00, m01, m10, m11, eT, eS, eM, hi, hk, li, lk, aT, aS, C8, B8, hv⟩ := value_parts g hI hM ft fs
  have PT := Lib.hid (fun W (hb : Below w.heap.size w W) => rplace_any bT oT t.nT t.cT t.T x W (fun j hj => (hb.cell (p := ⟨bT, oT + j, none⟩) C8.lT).trans (aT j hj)) g.ok.t2 (by have := g.ok.t32; simp only [Tab.tb] at this; omega))
  have PS := Lib.hid (fun W (hb : Below w.heap.size w W) => rplace_any bS oS t.nS t.cS t.S y W (fun j hj => (hb.cell (p := ⟨bS, oS + j, none⟩) C8.lS).trans (aS j hj)) g.ok.s2 (by have := g.ok.s32; simp only [Tab.tb] at this; omega))
  rw [hi] at PT
  rw [hk] at PS
  have hn := hM.n
  have lin : i < m.n := by omega
  have lin1 : i + 1 < m.n := by omega
  have lk0 : k < t.nS := by omega
  have li0 : i < t.nT := by omega
  clear hn
  have u32 : t.nT ≤ 32 := g.ok.t32
  have v32 : t.nS ≤ 32 := g.ok.s32
  have mn32 : m.n ≤ 32 := by have := hM.n; omega
  rw [hv]
  unfold Fr.val Rows.val
  dsimp only
  rw [eM]
  have HI := Lib.hid hi; have HK := Lib.hid hk; have HVV := Lib.hid hv; clear hi hk hv aT aS eM
  have i1 : ((i : Int) + 1).toNat = i + 1 := by omega
  have k1 : ((k : Int) + 1).toNat = k + 1 := by omega
  obtain ⟨a1, a2, a3, a4, a5, q1, q2, q3, q4, q5, n00, n01, n10, n11⟩ := B8
  have EQ := Lib.hid (show (t1 - t0 - (x - t0)) * (s1 - s0 - (y - s0)) * m00 + (t1 - t0 - (x - t0)) * (y - s0) * m01 + (x - t0) * (s1 - s0 - (y - s0)) * m10 + (x - t0) * (y - s0) * m11 = ((t1 - t0) - (x - t0)) * (((s1 - s0) - (y - s0)) * m00 + (y - s0) * m01) + (x - t0) * (((s1 - s0) - (y - s0)) * m10 + (y - s0) * m11) by grind)
  rw [← EQ.out]
  unfold Tab.val
  rw [eT, eS]
  clear eT eS g hI hM ft fs
  obtain ⟨W1, hW1⟩ : ∃ W1, (w.alloc (.cells #[.slice (some ⟨bT, oT, none⟩) t.nT t.cT, .slice (some ⟨bS, oS, none⟩) t.nS t.cS, .slice t.H.a t.H.n t.H.c, .slice t.R.a t.R.n t.R.c] 25)).alloc (.cells #[.int .i64 0, .int .i64 0] 49) = W1 := ⟨_, rfl⟩
  have hBc : Below w.heap.size w W1 := by rw [← hW1]; exact (below_alloc _ _).alloc (by simp) _
  have zc0 : W1.heap[w.heap.size]? = some (.cells #[.slice (some ⟨bT, oT, none⟩) t.nT t.cT, .slice (some ⟨bS, oS, none⟩) t.nS t.cS, .slice t.H.a t.H.n t.H.c, .slice t.R.a t.R.n t.R.c] 25 (0, 0)) := by rw [← hW1]; exact alloc_keep (alloc_at rfl)
  have zc1 : W1.heap[w.heap.size + 1]? = some (.cells #[.int .i64 0, .int .i64 0] 49 (0, 0)) := by rw [← hW1]; exact alloc_at (by simp)
  have c00 : W1.cell? ⟨w.heap.size, 0, none⟩ = some (.slice (some ⟨bT, oT, none⟩) t.nT t.cT) := cell_of_block zc0 0 (by simp)
  have c01 : W1.cell? ⟨w.heap.size, 1, none⟩ = some (.slice (some ⟨bS, oS, none⟩) t.nS t.cS) := cell_of_block zc0 1 (by simp)
  have c02 : W1.cell? ⟨w.heap.size, 2, none⟩ = some (.slice t.H.a t.H.n t.H.c) := cell_of_block zc0 2 (by simp)
  have c03 : W1.cell? ⟨w.heap.size, 3, none⟩ = some (.slice t.R.a t.R.n t.R.c) := cell_of_block zc0 3 (by simp)
  have c10 : W1.cell? ⟨w.heap.size + 1, 0, none⟩ = some (.int .i64 0) := cell_of_block zc1 0 (by simp)
  have c11 : W1.cell? ⟨w.heap.size + 1, 1, none⟩ = some (.int .i64 0) := cell_of_block zc1 1 (by simp)
  have lc0 := (Array.getElem?_eq_some_iff.1 zc0).1
  have lc1 := (Array.getElem?_eq_some_iff.1 zc1).1
  have fc10 := frozen_of_block zc1 0
  have fc11 := frozen_of_block zc1 1
  clear zc0 zc1
  have HBc := Lib.hid hBc; clear hBc
  have HWc := Lib.hid hW1; clear hW1
  obtain ⟨xT0, xT1, xS0, xS1, xM0, xM1, x00, x01, x10, x11, lT, lS, lM, l1, l2⟩ := C8
  replace xT0 := below_cell HBc.out xT0
  replace xT1 := below_cell HBc.out xT1
  replace xS0 := below_cell HBc.out xS0
  replace xS1 := below_cell HBc.out xS1
  replace xM0 := below_cell HBc.out xM0
  replace xM1 := below_cell HBc.out xM1
  replace x00 := below_cell HBc.out x00
  replace x01 := below_cell HBc.out x01
  replace x10 := below_cell HBc.out x10
  replace x11 := below_cell HBc.out x11
  have sz := HBc.out.size
  replace lT := Nat.lt_of_lt_of_le lT sz
  replace lS := Nat.lt_of_lt_of_le lS sz
  replace lM := Nat.lt_of_lt_of_le lM sz
  replace l1 := Nat.lt_of_lt_of_le l1 sz
  replace l2 := Nat.lt_of_lt_of_le l2 sz
  clear sz
  have d1 := mul_bd (X := 1500) (Y := 10000) (show 0 ≤ t1 - t0 - (x - t0) by omega) (by omega) (by omega) (show -10000 ≤ s1 - s0 - (y - s0) by omega) (by omega)
  have d2 := mul_bd (X := 1500) (Y := 10000) (show 0 ≤ t1 - t0 - (x - t0) by omega) (by omega) (by omega) (show -10000 ≤ y - s0 by omega) (by omega)
  have d3 := mul_bd (X := 1500) (Y := 10000) (show 0 ≤ x - t0 by omega) (by omega) (by omega) (show -10000 ≤ s1 - s0 - (y - s0) by omega) (by omega)
  have d4 := mul_bd (X := 1500) (Y := 10000) (show 0 ≤ x - t0 by omega) (by omega) (by omega) (show -10000 ≤ y - s0 by omega) (by omega)
  have p1 := Int.mul_nonneg (show 0 ≤ t1 - t0 - (x - t0) by omega) (show 0 ≤ s1 - s0 - (y - s0) by omega)
  have p2 := Int.mul_nonneg (show 0 ≤ t1 - t0 - (x - t0) by omega) (show 0 ≤ y - s0 by omega)
  have p3 := Int.mul_nonneg (show 0 ≤ x - t0 by omega) (show 0 ≤ s1 - s0 - (y - s0) by omega)
  have p4 := Int.mul_nonneg (show 0 ≤ x - t0 by omega) (show 0 ≤ y - s0 by omega)
  have h1 := mul_bd (X := 15000000) (Y := 1100000) p1 (by omega) (by omega) n00.1 n00.2
  have h2 := mul_bd (X := 15000000) (Y := 1100000) p2 (by omega) (by omega) n01.1 n01.2
  have h3 := mul_bd (X := 15000000) (Y := 1100000) p3 (by omega) (by omega) n10.1 n10.2
  have h4 := mul_bd (X := 15000000) (Y := 1100000) p4 (by omega) (by omega) n11.1 n11.2
  have d7 := mul_bd (X := 1500) (Y := 10000) (show 0 ≤ t1 - t0 by omega) (by omega) (by omega) (show -10000 ≤ s1 - s0 by omega) (by omega)
  go_enter Tryz.func12, Tryz.ntmps12
  go_upto_region 1 with (fail)
  rw [HWc.out]
  refine wp_region_gw (by kernel_rfl) (by kernel_rfl) ?_
  repeat (go_big_quiet_step ((go_at_call 28; first | with_reducible exact Calls.gw_of_same (PT.out _ (HBc.out.gw _)) | with_reducible exact Calls.gw_of_same (PS.out _ (HBc.out.gw _)))))
  refine wpQuiet_nil ?_
  rintro _ ⟨v1, rfl⟩
  go_wp2_with fail
  refine wp_region_gw2 (by kernel_rfl) (by kernel_rfl) ?_
  repeat (go_big_quiet_step (fail))
  refine wpQuiet_nil ?_
  rintro _ ⟨v2, rfl⟩
  go_wp2_with fail
  refine wp_region_gw2 (by kernel_rfl) (by kernel_rfl) ?_
  repeat (go_big_quiet_step (fail))
  refine wpQuiet_nil ?_
  rintro _ ⟨v3, rfl⟩
  go_wp2_with fail
  refine wp_region_gw2 (by kernel_rfl) (by kernel_rfl) ?_
  repeat (go_big_quiet_step (fail))
  refine wpQuiet_nil ?_
  rintro _ ⟨v4, rfl⟩
  go_wp2_with fail
  refine bodyPost_ret (v := .agg #[.int .i64 ((t1 - t0 - (x - t0)) * (s1 - s0 - (y - s0)) * m00 + (t1 - t0 - (x - t0)) * (y - s0) * m01 + (x - t0) * (s1 - s0 - (y - s0)) * m10 + (x - t0) * (y - s0) * m11), .int .i64 ((t1 - t0) * (s1 - s0))]) (by simp [results, Tryz.results12, go_sem, *]) rfl ⟨rfl, ?_⟩
  exact ((HBc.out.gw v4).setCell (by simp <;> omega) _).setCell (by simp <;> omega) _

end Go.Proofs.YtjgnafhbeekebaaGreat.L1

namespace Go.Proofs.YtjgnafhbeekebaaGreat.L1
open Go.RowKit
open Go.Proofs.YtjgnafhbeekebaaGreat

attribute [local go_sem] gw_cell gw_frozen gw_size

def Tab.fitT (t : Tab) (lo hi : Int) : Bool := spanB lo hi (t.T 0) (t.T (t.nT - 1))
def Tab.fitS (t : Tab) (lo hi : Int) : Bool := spanB lo hi (t.S 0) (t.S (t.nS - 1))
theorem Tab.fitT_t {t : Tab} {lo hi : Int} (h : t.fitT lo hi = true) : t.tb.FitT lo hi := by
  obtain ⟨h1, h2, h3⟩ := spanB_t.1 h
  exact ⟨h1, h2, h3⟩
theorem Tab.fitS_t {t : Tab} {lo hi : Int} (h : t.fitS lo hi = true) : t.tb.FitS lo hi := by
  obtain ⟨h1, h2, h3⟩ := spanB_t.1 h
  exact ⟨h1, h2, h3⟩
set_option maxRecDepth 100000 in
set_option maxHeartbeats 2000000 in
theorem warm_any (t : Tab) (bt : Nat) (lo hi : Int) (w : World) (hI : t.In w) (h2 : 2 ≤ t.nT) (h32 : t.nT ≤ 32)
    (z0 : w.cell? ⟨bt, 0, none⟩ = some (.slice t.aT t.nT t.cT)) :
    Calls Tryz.prog 50 #[.pointer (some ⟨bt, 0, none⟩), .agg #[.int .i64 lo, .int .i64 hi]] w fun e w' => e = .returned (.bool (t.fitT lo hi)) ∧ Below w.heap.size w w' := by
  rcases hI.iT with h | ⟨b, off, ea, lb0, hc⟩
  · omega
  have x1 := hc 0 (by omega)
  have x2 := hc (t.nT - 1) (by omega)
  rw [Nat.add_zero] at x1
  have e1 : ((t.nT : Int) - 1).toNat = t.nT - 1 := by omega
  have HF := Lib.hid (show t.fitT lo hi = spanB lo hi (t.T 0) (t.T (t.nT - 1)) from rfl)
  obtain ⟨y1, hy1⟩ : ∃ y, t.T 0 = y := ⟨_, rfl⟩
  obtain ⟨y2, hy2⟩ : ∃ y, t.T (t.nT - 1) = y := ⟨_, rfl⟩
  rw [hy1, hy2] at HF
  rw [hy1] at x1
  rw [hy2] at x2
  clear hy1 hy2 hc hI
  have SB := Lib.hid (fun W => isSpan_b (b := spanB lo hi y1 y2) lo hi y1 y2 W rfl)
  rw [HF.out]
  clear HF
  generalize spanB lo hi y1 y2 = B at *
  rw [ea] at z0
  clear ea
  obtain ⟨W1, hW1⟩ : ∃ W1, w.alloc (.cells #[.int .i64 lo, .int .i64 hi] 27) = W1 := ⟨_, rfl⟩
  have hBc : Below w.heap.size w W1 := by rw [← hW1]; exact below_alloc _ _
  have zc0 : W1.heap[w.heap.size]? = some (.cells #[.int .i64 lo, .int .i64 hi] 27 (0, 0)) := by rw [← hW1]; exact alloc_at rfl
  have c00 : W1.cell? ⟨w.heap.size, 0, none⟩ = some (.int .i64 lo) := cell_of_block zc0 0 (by simp)
  have c01 : W1.cell? ⟨w.heap.size, 1, none⟩ = some (.int .i64 hi) := cell_of_block zc0 1 (by simp)
  have lc0 := (Array.getElem?_eq_some_iff.1 zc0).1
  clear zc0
  have HBc := Lib.hid hBc; clear hBc
  have HWc := Lib.hid hW1; clear hW1
  replace z0 := below_cell HBc.out z0
  have lbt := World.block_lt_of_cell? W1 _ z0
  dsimp only at lbt
  replace x1 := below_cell HBc.out x1
  replace x2 := below_cell HBc.out x2
  have lb1 := World.block_lt_of_cell? W1 _ x1
  dsimp only at lb1
  go_enter Tryz.func50, Tryz.ntmps50
  go_upto_region 1 with (fail)
  rw [HWc.out]
  refine wp_region_gw (by kernel_rfl) (by kernel_rfl) ?_
  repeat (go_big_quiet_step ((go_at_call 32; exact Calls.gw_of (SB.out _))))
  refine wpQuiet_nil ?_
  rintro _ ⟨v1, rfl⟩
  go_wp2_with fail
  go_ret
  exact ⟨rfl, HBc.out.gw v1⟩

theorem warm_b {b : Bool} (t : Tab) (bt : Nat) (lo hi : Int) (w : World) (hI : t.In w) (h2 : 2 ≤ t.nT) (h32 : t.nT ≤ 32) (z0 : w.cell? ⟨bt, 0, none⟩ = some (.slice t.aT t.nT t.cT)) (h : t.fitT lo hi = b) :
    Calls Tryz.prog 50 #[.pointer (some ⟨bt, 0, none⟩), .agg #[.int .i64 lo, .int .i64 hi]] w fun e w' => e = .returned (.bool b) ∧ Below w.heap.size w w' := h ▸ warm_any t bt lo hi w hI h2 h32 z0

set_option maxRecDepth 100000 in
set_option maxHeartbeats 2000000 in
theorem strong_any (t : Tab) (bt : Nat) (lo hi : Int) (w : World) (hI : t.In w) (h2 : 2 ≤ t.nS) (h32 : t.nS ≤ 32)
    (z0 : w.cell? ⟨bt, 1, none⟩ = some (.slice t.aS t.nS t.cS)) :
    Calls Tryz.prog 58 #[.pointer (some ⟨bt, 0, none⟩), .agg #[.int .i64 lo, .int .i64 hi]] w fun e w' => e = .returned (.bool (t.fitS lo hi)) ∧ Below w.heap.size w w' := by
  rcases hI.iS with h | ⟨b, off, ea, lb0, hc⟩
  · omega
  have x1 := hc 0 (by omega)
  have x2 := hc (t.nS - 1) (by omega)
  rw [Nat.add_zero] at x1
  have e1 : ((t.nS : Int) - 1).toNat = t.nS - 1 := by omega
  have HF := Lib.hid (show t.fitS lo hi = spanB lo hi (t.S 0) (t.S (t.nS - 1)) from rfl)
  obtain ⟨y1, hy1⟩ : ∃ y, t.S 0 = y := ⟨_, rfl⟩
  obtain ⟨y2, hy2⟩ : ∃ y, t.S (t.nS - 1) = y := ⟨_, rfl⟩
  rw [hy1, hy2] at HF
  rw [hy1] at x1
  rw [hy2] at x2
  clear hy1 hy2 hc hI
  have SB := Lib.hid (fun W => isSpan_b (b := spanB lo hi y1 y2) lo hi y1 y2 W rfl)
  rw [HF.out]
  clear HF
  generalize spanB lo hi y1 y2 = B at *
  rw [ea] at z0
  clear ea
  obtain ⟨W1, hW1⟩ : ∃ W1, w.alloc (.cells #[.int .i64 lo, .int .i64 hi] 27) = W1 := ⟨_, rfl⟩
  have hBc : Below w.heap.size w W1 := by rw [← hW1]; exact below_alloc _ _
  have zc0 : W1.heap[w.heap.size]? = some (.cells #[.int .i64 lo, .int .i64 hi] 27 (0, 0)) := by rw [← hW1]; exact alloc_at rfl
  have c00 : W1.cell? ⟨w.heap.size, 0, none⟩ = some (.int .i64 lo) := cell_of_block zc0 0 (by simp)
  have c01 : W1.cell? ⟨w.heap.size, 1, none⟩ = some (.int .i64 hi) := cell_of_block zc0 1 (by simp)
  have lc0 := (Array.getElem?_eq_some_iff.1 zc0).1
  clear zc0
  have HBc := Lib.hid hBc; clear hBc
  have HWc := Lib.hid hW1; clear hW1
  replace z0 := below_cell HBc.out z0
  have lbt := World.block_lt_of_cell? W1 _ z0
  dsimp only at lbt
  replace x1 := below_cell HBc.out x1
  replace x2 := below_cell HBc.out x2
  have lb1 := World.block_lt_of_cell? W1 _ x1
  dsimp only at lb1
  go_enter Tryz.func58, Tryz.ntmps58
  go_upto_region 1 with (fail)
  rw [HWc.out]
  refine wp_region_gw (by kernel_rfl) (by kernel_rfl) ?_
  repeat (go_big_quiet_step ((go_at_call 32; exact Calls.gw_of (SB.out _))))
  refine wpQuiet_nil ?_
  rintro _ ⟨v1, rfl⟩
  go_wp2_with fail
  go_ret
  exact ⟨rfl, HBc.out.gw v1⟩

theorem strong_b {b : Bool} (t : Tab) (bt : Nat) (lo hi : Int) (w : World) (hI : t.In w) (h2 : 2 ≤ t.nS) (h32 : t.nS ≤ 32) (z0 : w.cell? ⟨bt, 1, none⟩ = some (.slice t.aS t.nS t.cS)) (h : t.fitS lo hi = b) :
    Calls Tryz.prog 58 #[.pointer (some ⟨bt, 0, none⟩), .agg #[.int .i64 lo, .int .i64 hi]] w fun e w' => e = .returned (.bool b) ∧ Below w.heap.size w w' := h ▸ strong_any t bt lo hi w hI h2 h32 z0

set_option maxRecDepth 100000 in
set_option maxHeartbeats 2000000 in
theorem rTemp_any (t : Tab) (lo hi : Int) (w : World) (hI : t.In w) (h2 : 2 ≤ t.nT) (h32 : t.nT ≤ 32) :
    Calls Tryz.prog 5 #[t.val, .agg #[.int .i64 lo, .int .i64 hi]] w fun e w' => e = .returned (.bool (t.fitT lo hi)) ∧ Below w.heap.size w w' := by
  rcases hI.iT with h | ⟨b, off, ea, lb0, hc⟩
  · omega
  have x1 := hc 0 (by omega)
  have x2 := hc (t.nT - 1) (by omega)
  rw [Nat.add_zero] at x1
  have e1 : ((t.nT : Int) - 1).toNat = t.nT - 1 := by omega
  have HF := Lib.hid (show t.fitT lo hi = spanB lo hi (t.T 0) (t.T (t.nT - 1)) from rfl)
  obtain ⟨y1, hy1⟩ : ∃ y, t.T 0 = y := ⟨_, rfl⟩
  obtain ⟨y2, hy2⟩ : ∃ y, t.T (t.nT - 1) = y := ⟨_, rfl⟩
  rw [hy1, hy2] at HF
  rw [hy1] at x1
  rw [hy2] at x2
  clear hy1 hy2 hc hI
  have SB := Lib.hid (fun W => rwithin_b (b := spanB lo hi y1 y2) lo hi y1 y2 W rfl)
  rw [HF.out]
  clear HF
  generalize spanB lo hi y1 y2 = B at *
  unfold Tab.val
  rw [ea]
  clear ea
  obtain ⟨W1, hW1⟩ : ∃ W1, (w.alloc (.cells #[.slice (some ⟨b, off, none⟩) t.nT t.cT, .slice t.aS t.nS t.cS, .slice t.H.a t.H.n t.H.c, .slice t.R.a t.R.n t.R.c] 25)).alloc (.cells #[.int .i64 lo, .int .i64 hi] 27) = W1 := ⟨_, rfl⟩
  have hBc : Below w.heap.size w W1 := by rw [← hW1]; exact (below_alloc _ _).alloc (by simp) _
  have zc0 : W1.heap[w.heap.size]? = some (.cells #[.slice (some ⟨b, off, none⟩) t.nT t.cT, .slice t.aS t.nS t.cS, .slice t.H.a t.H.n t.H.c, .slice t.R.a t.R.n t.R.c] 25 (0, 0)) := by rw [← hW1]; exact alloc_keep (alloc_at rfl)
  have zc1 : W1.heap[w.heap.size + 1]? = some (.cells #[.int .i64 lo, .int .i64 hi] 27 (0, 0)) := by rw [← hW1]; exact alloc_at (by simp)
  have c00 : W1.cell? ⟨w.heap.size, 0, none⟩ = some (.slice (some ⟨b, off, none⟩) t.nT t.cT) := cell_of_block zc0 0 (by simp)
  have c01 : W1.cell? ⟨w.heap.size, 1, none⟩ = some (.slice t.aS t.nS t.cS) := cell_of_block zc0 1 (by simp)
  have c02 : W1.cell? ⟨w.heap.size, 2, none⟩ = some (.slice t.H.a t.H.n t.H.c) := cell_of_block zc0 2 (by simp)
  have c03 : W1.cell? ⟨w.heap.size, 3, none⟩ = some (.slice t.R.a t.R.n t.R.c) := cell_of_block zc0 3 (by simp)
  have c10 : W1.cell? ⟨w.heap.size + 1, 0, none⟩ = some (.int .i64 lo) := cell_of_block zc1 0 (by simp)
  have c11 : W1.cell? ⟨w.heap.size + 1, 1, none⟩ = some (.int .i64 hi) := cell_of_block zc1 1 (by simp)
  have lc0 := (Array.getElem?_eq_some_iff.1 zc0).1
  have lc1 := (Array.getElem?_eq_some_iff.1 zc1).1
  clear zc0 zc1
  have HBc := Lib.hid hBc; clear hBc
  have HWc := Lib.hid hW1; clear hW1
  replace x1 := below_cell HBc.out x1
  replace x2 := below_cell HBc.out x2
  have lb1 := World.block_lt_of_cell? W1 _ x1
  dsimp only at lb1
  go_enter Tryz.func5, Tryz.ntmps5
  go_upto_region 1 with (fail)
  rw [HWc.out]
  refine wp_region_gw (by kernel_rfl) (by kernel_rfl) ?_
  repeat (go_big_quiet_step ((go_at_call 21; exact Calls.gw_of (SB.out _))))
  refine wpQuiet_nil ?_
  rintro _ ⟨v1, rfl⟩
  go_wp2_with fail
  go_ret
  exact ⟨rfl, HBc.out.gw v1⟩

theorem rTemp_b {b : Bool} (t : Tab) (lo hi : Int) (w : World) (hI : t.In w) (h2 : 2 ≤ t.nT) (h32 : t.nT ≤ 32) (h : t.fitT lo hi = b) :
    Calls Tryz.prog 5 #[t.val, .agg #[.int .i64 lo, .int .i64 hi]] w fun e w' => e = .returned (.bool b) ∧ Below w.heap.size w w' := h ▸ rTemp_any t lo hi w hI h2 h32

end Go.Proofs.YtjgnafhbeekebaaGreat.L1
