/- WashMade walked: it returns true; inner. No conditions beyond each theorem's own. -/
import Derived.Test.YtecbacbecopbeaaBq
import Derived.Test.YtecbacbecopbeaaDc
set_option linter.unusedVariables false
set_option linter.unusedSimpArgs false
set_option linter.unusedSectionVars false
set_option linter.constructorNameAsVariable false
namespace Go.Proofs.Ytecbacbecopbeaa
open Go.RowKit

attribute [local go_sem] gw_cell gw_frozen gw_size

set_option maxHeartbeats 1000000 in
theorem inner_any (lo hi b : Int) (w : World) (h0 : -1000000000000000000 ≤ lo) (h1 : lo ≤ hi) (h2 : hi ≤ 1000000000000000000) (h3 : 0 ≤ b) (h4 : b ≤ 4294967295) :
    Calls Try.prog 23 #[.agg #[.int .i64 lo, .int .i64 hi], .int .u32 b] w fun e w' => e = .returned (.int .i64 (innerI lo hi b)) ∧ Below w.heap.size w w' := by
  have hr := innerI_range (b := b) h1
  unfold innerI at hr ⊢
  have hz : ¬ hi - lo + 1 = 0 := by omega
  go_enter Try.func23, Try.ntmps23
  go_wp2_with fail
  refine wp_region_gw (by kernel_rfl) (by kernel_rfl) ?_
  repeat (go_big_quiet_step (fail))
  refine wpQuiet_nil ?_
  rintro _ ⟨z, rfl⟩
  go_wp2_with fail
  go_ret
  exact ⟨rfl, ((Below.refl _ w).alloc (Nat.le_refl _) _).gw z⟩
set_option maxHeartbeats 400000 in
theorem part_pos (n : Int) (w : World) (h : 0 ≤ n) : Calls Try.prog 30 #[.int .i64 n] w fun e w' => e = .returned (.bool true) ∧ w = w' := by
  go_enter Try.func30, Try.ntmps30
  go_wp2
  go_ret
  exact ⟨rfl, rfl⟩

/-- what the law asks, plain -/
structure MadeOk (g w xl xh hl hh x h kl kh sl sh ll lh V gx up down : Int) : Prop where
  v1 : 1000 * (w - kh) ≤ V
  v2 : V ≤ 1000 * (w - kl)
  a : 0 ≤ sl ∧ sl ≤ sh ∧ sh ≤ 16777216001
  b : 0 ≤ ll ∧ ll ≤ lh ∧ lh ≤ 16777216001
  c : sl + ll ≤ (gx + 999) / 1000
  d : gx ≤ 1000 * (sh + lh)
  gx0 : 0 ≤ gx ∧ gx ≤ 16777216000
  u : 0 ≤ down ∧ down ≤ 16777216 ∧ 0 ≤ up ∧ up ≤ 16777217
  e1 : 1000 * w * sl ≤ gx * up
  e2 : gx * down ≤ 1000 * w * sh
  e3 : 1000 * w * ll ≤ gx * (w - down)
  e4 : gx * (w - up) ≤ 1000 * w * lh
  r1 : 0 ≤ 1000 * w * sl ∧ gx * up ≤ 4000000000000000000
  r2 : 0 ≤ gx * down ∧ 1000 * w * sh ≤ 4000000000000000000
  r3 : 0 ≤ 1000 * w * ll ∧ gx * (w - down) ≤ 4000000000000000000
  r4 : -4000000000000000000 ≤ gx * (w - up) ∧ 1000 * w * lh ≤ 4000000000000000000
theorem made_plain {m : Msh} (hm : mashB m = true) (hs : ¬ m.w - m.kh < 1) {x h : Int} (hx : m.xl ≤ x ∧ x ≤ m.xh) (hh : m.hl ≤ h ∧ h ≤ m.hh) {V up down : Int} (eV : 1000 * m.w - m.g * h = V) (eu : (V + 999) / 1000 = up) (ed : V / 1000 = down) :
    MadeOk m.g m.w m.xl m.xh m.hl m.hh x h m.kl m.kh (m.sl (m.w - m.kh)) (m.sh (m.w - m.kl)) (m.sl m.kl) (m.sh m.kh) V (m.g * x) up down := by
  obtain ⟨⟨g0, g1⟩, ⟨w0, w1⟩, ⟨x0, x1, x2⟩, h0, h1, h2⟩ := mashB_t hm
  obtain ⟨⟨p0, p1⟩, ⟨p2, p3⟩, k0, k1, k2⟩ := mash_held hm
  obtain ⟨⟨s0, s1⟩, s2, s3⟩ := mash_sugar hm
  have gh1 : m.g * m.hl ≤ m.g * h := Int.mul_le_mul_of_nonneg_left hh.1 (by omega)
  have gh2 : m.g * h ≤ m.g * m.hh := Int.mul_le_mul_of_nonneg_left hh.2 (by omega)
  have gx1 : m.g * m.xl ≤ m.g * x := Int.mul_le_mul_of_nonneg_left hx.1 (by omega)
  have gx2 : m.g * x ≤ m.g * m.xh := Int.mul_le_mul_of_nonneg_left hx.2 (by omega)
  have kl1 : 1000 * m.kl ≤ m.g * m.hl := by unfold Msh.kl; omega
  have kh1 : m.g * m.hh ≤ 1000 * m.kh := by unfold Msh.kh upI; omega
  have W : 1 ≤ 1000 * m.w := by omega
  -- four products
  have fl : ∀ v, 0 ≤ v → 0 ≤ m.sl v ∧ m.sl v * (1000 * m.w) ≤ m.g * m.xl * v := fun v hv => ⟨Int.ediv_nonneg (Int.mul_nonneg s0 hv) (by omega), Int.ediv_mul_le _ (by omega)⟩
  have ce : ∀ v, 0 ≤ v → v ≤ m.w → m.g * m.xh * v ≤ m.sh v * (1000 * m.w) ∧ m.sh v ≤ 16777216001 ∧ m.sh v * (1000 * m.w) ≤ m.g * m.xh * v + 1000 * m.w := fun v hv hw => by
    have l1 : m.g * m.xh * v ≤ m.sh v * (1000 * m.w) := le_upI W
    have l2 : m.sh v * (1000 * m.w) ≤ m.g * m.xh * v + 1000 * m.w := by
      have e := Int.ediv_mul_le (m.g * m.xh * v + 1000 * m.w - 1) (show 1000 * m.w ≠ 0 by omega)
      have : m.sh v * (1000 * m.w) ≤ m.g * m.xh * v + 1000 * m.w - 1 := e
      omega
    refine ⟨l1, upI_le W ?_, l2⟩
    have : m.g * m.xh * v ≤ 16777216001 * (1000 * m.w) := Int.mul_le_mul (by omega) (by omega) hv (by omega)
    exact this
  have A := fl (m.w - m.kh) (by omega)
  have B := fl m.kl k0
  have C := ce (m.w - m.kl) (by omega) (by omega)
  have D := ce m.kh (by omega) (by omega)
  have mono : ∀ {a b c d : Int}, 0 ≤ a → a ≤ b → 0 ≤ c → c ≤ d → a * c ≤ b * d := fun h1 h2 h3 h4 => Int.mul_le_mul h2 h4 h3 (by omega)
  have t1 : m.sl (m.w - m.kh) ≤ m.sh (m.w - m.kl) := by
    have := mono s0 (Int.le_trans gx1 gx2) (show 0 ≤ m.w - m.kh by omega) (show m.w - m.kh ≤ m.w - m.kl by omega)
    exact Int.le_of_mul_le_mul_right (Int.le_trans A.2 (Int.le_trans this C.1)) (by omega)
  have t2 : m.sl m.kl ≤ m.sh m.kh := by
    have := mono s0 (Int.le_trans gx1 gx2) k0 k1
    exact Int.le_of_mul_le_mul_right (Int.le_trans B.2 (Int.le_trans this D.1)) (by omega)
  have sum1 : (m.sl (m.w - m.kh) + m.sl m.kl) * 1000 ≤ m.g * m.xl := by
    have e : m.g * m.xl * (m.w - m.kh) + m.g * m.xl * m.kl ≤ m.g * m.xl * m.w := by
      rw [← Int.mul_add]; exact Int.mul_le_mul_of_nonneg_left (by omega) s0
    have f : (m.sl (m.w - m.kh) + m.sl m.kl) * 1000 * m.w ≤ m.g * m.xl * m.w := by
      rw [Int.mul_assoc, Int.add_mul]
      omega
    exact Int.le_of_mul_le_mul_right f (by omega)
  have sum2 : m.g * m.xh ≤ (m.sh (m.w - m.kl) + m.sh m.kh) * 1000 := by
    have e : m.g * m.xh * m.w ≤ m.g * m.xh * (m.w - m.kl) + m.g * m.xh * m.kh := by
      rw [← Int.mul_add]; exact Int.mul_le_mul_of_nonneg_left (by omega) s2
    have f : m.g * m.xh * m.w ≤ (m.sh (m.w - m.kl) + m.sh m.kh) * 1000 * m.w := by
      rw [Int.mul_assoc (m.sh (m.w - m.kl) + m.sh m.kh), Int.add_mul]
      omega
    exact Int.le_of_mul_le_mul_right f (by omega)
  have vV : 1000 * (m.w - m.kh) ≤ V ∧ V ≤ 1000 * (m.w - m.kl) := by omega
  have cm : ∀ s, 1000 * m.w * s = s * (1000 * m.w) := fun s => Int.mul_comm _ _
  have gx0 : 0 ≤ m.g * x := by omega
  have q1 := mono s0 gx1 (show 0 ≤ m.w - m.kh by omega) (show m.w - m.kh ≤ up by omega)
  have q2 := mono gx0 gx2 (show 0 ≤ down by omega) (show down ≤ m.w - m.kl by omega)
  have q3 := mono s0 gx1 k0 (show m.kl ≤ m.w - down by omega)
  have q4 : m.g * x * (m.w - up) ≤ m.g * m.xh * m.kh := by
    have a1 := Int.mul_le_mul_of_nonneg_left (show m.w - up ≤ m.kh by omega) gx0
    have a2 := Int.mul_le_mul_of_nonneg_right gx2 (show 0 ≤ m.kh by omega)
    omega
  have w1' := Int.mul_nonneg A.1 (show 0 ≤ 1000 * m.w by omega)
  have w2' := Int.mul_nonneg B.1 (show 0 ≤ 1000 * m.w by omega)
  have y1 := mono gx0 (show m.g * x ≤ 16777216000 by omega) (show 0 ≤ up by omega) (show up ≤ 16777217 by omega)
  have y2 := Int.mul_nonneg gx0 (show 0 ≤ down by omega)
  have y3 := mono gx0 (show m.g * x ≤ 16777216000 by omega) (show 0 ≤ m.w - down by omega) (show m.w - down ≤ 16777216 by omega)
  have y4 : -(16777216000 * 16777217) ≤ m.g * x * (m.w - up) := by
    have a1 := Int.mul_le_mul_of_nonneg_left (show -16777217 ≤ m.w - up by omega) gx0
    omega
  have z1 := mono s2 s3 (show 0 ≤ m.w - m.kl by omega) (show m.w - m.kl ≤ 16777216 by omega)
  have z2 := mono s2 s3 (show 0 ≤ m.kh by omega) (show m.kh ≤ 16777216 by omega)
  exact ⟨vV.1, vV.2, ⟨A.1, t1, C.2.1⟩, ⟨B.1, t2, D.2.1⟩, by omega, by omega, ⟨gx0, by omega⟩, by omega, by rw [cm]; omega, by rw [cm]; omega, by rw [cm]; omega, by rw [cm]; omega,
    ⟨by rw [cm]; omega, by omega⟩, ⟨y2, by rw [cm]; omega⟩, ⟨by rw [cm]; omega, by omega⟩, ⟨by omega, by rw [cm]; omega⟩⟩

set_option maxRecDepth 100000 in
set_option maxHeartbeats 16000000 in
theorem made_any (m : Msh) (ex hd : Int) (w : World) (x0 : 0 ≤ ex ∧ ex ≤ 4294967295) (h0 : 0 ≤ hd ∧ hd ≤ 4294967295) : Calls Try.prog 6 #[m.val, .int .u32 ex, .int .u32 hd] w (True1 w) := by
  have MA := fun w => Mash_any m w
  unfold Msh.val MOut.val at MA
  unfold Msh.val
  obtain ⟨W1, hW1⟩ : ∃ W1, w.alloc (.cells #[.int .i64 m.g, .int .i64 m.w, .int .i64 m.xl, .int .i64 m.xh, .int .i64 m.hl, .int .i64 m.hh] 25) = W1 := ⟨_, rfl⟩
  have hBc : Below w.heap.size w W1 := by rw [← hW1]; exact below_alloc _ _
  have zc0 : W1.heap[w.heap.size]? = some (.cells #[.int .i64 m.g, .int .i64 m.w, .int .i64 m.xl, .int .i64 m.xh, .int .i64 m.hl, .int .i64 m.hh] 25 (0, 0)) := by rw [← hW1]; exact alloc_at rfl
  have c00 : W1.cell? ⟨w.heap.size, 0, none⟩ = some (.int .i64 m.g) := cell_of_block zc0 0 (by simp)
  have c01 : W1.cell? ⟨w.heap.size, 1, none⟩ = some (.int .i64 m.w) := cell_of_block zc0 1 (by simp)
  have c02 : W1.cell? ⟨w.heap.size, 2, none⟩ = some (.int .i64 m.xl) := cell_of_block zc0 2 (by simp)
  have c03 : W1.cell? ⟨w.heap.size, 3, none⟩ = some (.int .i64 m.xh) := cell_of_block zc0 3 (by simp)
  have c04 : W1.cell? ⟨w.heap.size, 4, none⟩ = some (.int .i64 m.hl) := cell_of_block zc0 4 (by simp)
  have c05 : W1.cell? ⟨w.heap.size, 5, none⟩ = some (.int .i64 m.hh) := cell_of_block zc0 5 (by simp)
  have lc0 := (Array.getElem?_eq_some_iff.1 zc0).1
  have Zc0 := Lib.hid zc0
  clear zc0
  have HBc := Lib.hid hBc; clear hBc
  have HWc := Lib.hid hW1; clear hW1
  cases hm : mashB m with
  | false =>
    obtain ⟨e1, e2⟩ := mash_bad hm
    clear hm
    rw [e1, e2] at MA
    dsimp only at MA
    have MA' := Lib.hid MA; clear MA e1 e2
    go_enter Try.func6, Try.ntmps6
    go_upto_region 1 with (fail)
    rw [HWc.out]
    go_wp2_with fail
    refine (Calls.grown (MA'.out _)).mono ?_
    rintro e w1 ⟨rfl, z1, rfl⟩
    go_upto_region 2 with (fail)
    obtain ⟨W2, hW2⟩ : ∃ W2, (((gw W1 z1)).alloc (.cells #[.int .i64 0, .int .i64 0, .int .i64 0, .int .i64 0] 27)).alloc (.cells #[.int .i64 0, .int .i64 0] 23) = W2 := ⟨_, rfl⟩
    have hbW2 : Below W1.heap.size W1 W2 := by rw [← hW2]; exact ((below_gw W1 z1).alloc (by simp [gw_size]) _).alloc (by simp [gw_size] <;> omega) _
    have ZmW2 := Lib.hid ((hbW2.block _ (Array.getElem?_eq_some_iff.1 Zc0.out).1).trans Zc0.out)
    have zaW2 : W2.heap[W1.heap.size + z1.bs.size]? = some (.cells #[.int .i64 0, .int .i64 0, .int .i64 0, .int .i64 0] 27 (0, 0)) := by rw [← hW2]; exact alloc_keep (alloc_at (by simp [gw_size]))
    have ZaW2 := Lib.hid zaW2; clear zaW2
    have zbW2 : W2.heap[W1.heap.size + z1.bs.size + 1]? = some (.cells #[.int .i64 0, .int .i64 0] 23 (0, 0)) := by rw [← hW2]; exact alloc_at (by simp [gw_size] <;> omega)
    have ZbW2 := Lib.hid zbW2; clear zbW2
    have HBW2 := Lib.hid (thru hbW2 HBc.out)
    have SBW2 := Lib.hid hbW2; clear hbW2
    have HWW2 := Lib.hid hW2; clear hW2
    rw [HWW2.out]
    clear c00 c01 c02 c03 c04 c05
    have S2 := Lib.hid SBW2.out
    have ea0W2 : W2.cell? ⟨W1.heap.size + z1.bs.size, 0, none⟩ = some (.int .i64 0) := cell_of_block ZaW2.out 0 (by simp)
    have ea1W2 : W2.cell? ⟨W1.heap.size + z1.bs.size, 1, none⟩ = some (.int .i64 0) := cell_of_block ZaW2.out 1 (by simp)
    have ea2W2 : W2.cell? ⟨W1.heap.size + z1.bs.size, 2, none⟩ = some (.int .i64 0) := cell_of_block ZaW2.out 2 (by simp)
    have ea3W2 : W2.cell? ⟨W1.heap.size + z1.bs.size, 3, none⟩ = some (.int .i64 0) := cell_of_block ZaW2.out 3 (by simp)
    have laW2 := (Array.getElem?_eq_some_iff.1 ZaW2.out).1
    have eb0W2 : W2.cell? ⟨W1.heap.size + z1.bs.size + 1, 0, none⟩ = some (.int .i64 0) := cell_of_block ZbW2.out 0 (by simp)
    have eb1W2 : W2.cell? ⟨W1.heap.size + z1.bs.size + 1, 1, none⟩ = some (.int .i64 0) := cell_of_block ZbW2.out 1 (by simp)
    have lbW2 := (Array.getElem?_eq_some_iff.1 ZbW2.out).1
    go_wp2_with fail
    refine (Calls.grown (alive_any _)).mono ?_
    rintro e w1 ⟨rfl, z2, rfl⟩
    go_wp2_with fail
    go_ret
    exact ⟨rfl, HBW2.out.gw z2⟩
  | true =>
    by_cases hs : m.w - m.kh < 1
    · obtain ⟨e1, e2⟩ := mash_short hm hs
      clear hm hs
      rw [e1, e2] at MA
      dsimp only at MA
      have MA' := Lib.hid MA; clear MA e1 e2
      go_enter Try.func6, Try.ntmps6
      go_upto_region 1 with (fail)
      rw [HWc.out]
      go_wp2_with fail
      refine (Calls.grown (MA'.out _)).mono ?_
      rintro e w1 ⟨rfl, z1, rfl⟩
      go_upto_region 2 with (fail)
      obtain ⟨W2, hW2⟩ : ∃ W2, (((gw W1 z1)).alloc (.cells #[.int .i64 0, .int .i64 0, .int .i64 0, .int .i64 0] 27)).alloc (.cells #[.int .i64 0, .int .i64 0] 23) = W2 := ⟨_, rfl⟩
      have hbW2 : Below W1.heap.size W1 W2 := by rw [← hW2]; exact ((below_gw W1 z1).alloc (by simp [gw_size]) _).alloc (by simp [gw_size] <;> omega) _
      have ZmW2 := Lib.hid ((hbW2.block _ (Array.getElem?_eq_some_iff.1 Zc0.out).1).trans Zc0.out)
      have zaW2 : W2.heap[W1.heap.size + z1.bs.size]? = some (.cells #[.int .i64 0, .int .i64 0, .int .i64 0, .int .i64 0] 27 (0, 0)) := by rw [← hW2]; exact alloc_keep (alloc_at (by simp [gw_size]))
      have ZaW2 := Lib.hid zaW2; clear zaW2
      have zbW2 : W2.heap[W1.heap.size + z1.bs.size + 1]? = some (.cells #[.int .i64 0, .int .i64 0] 23 (0, 0)) := by rw [← hW2]; exact alloc_at (by simp [gw_size] <;> omega)
      have ZbW2 := Lib.hid zbW2; clear zbW2
      have HBW2 := Lib.hid (thru hbW2 HBc.out)
      have SBW2 := Lib.hid hbW2; clear hbW2
      have HWW2 := Lib.hid hW2; clear hW2
      rw [HWW2.out]
      clear c00 c01 c02 c03 c04 c05
      have S2 := Lib.hid SBW2.out
      have ea0W2 : W2.cell? ⟨W1.heap.size + z1.bs.size, 0, none⟩ = some (.int .i64 0) := cell_of_block ZaW2.out 0 (by simp)
      have ea1W2 : W2.cell? ⟨W1.heap.size + z1.bs.size, 1, none⟩ = some (.int .i64 0) := cell_of_block ZaW2.out 1 (by simp)
      have ea2W2 : W2.cell? ⟨W1.heap.size + z1.bs.size, 2, none⟩ = some (.int .i64 0) := cell_of_block ZaW2.out 2 (by simp)
      have ea3W2 : W2.cell? ⟨W1.heap.size + z1.bs.size, 3, none⟩ = some (.int .i64 0) := cell_of_block ZaW2.out 3 (by simp)
      have laW2 := (Array.getElem?_eq_some_iff.1 ZaW2.out).1
      have eb0W2 : W2.cell? ⟨W1.heap.size + z1.bs.size + 1, 0, none⟩ = some (.int .i64 0) := cell_of_block ZbW2.out 0 (by simp)
      have eb1W2 : W2.cell? ⟨W1.heap.size + z1.bs.size + 1, 1, none⟩ = some (.int .i64 0) := cell_of_block ZbW2.out 1 (by simp)
      have lbW2 := (Array.getElem?_eq_some_iff.1 ZbW2.out).1
      go_wp2_with fail
      refine (Calls.grown (alive_any _)).mono ?_
      rintro e w1 ⟨rfl, z2, rfl⟩
      go_wp2_with fail
      go_ret
      exact ⟨rfl, HBW2.out.gw z2⟩
    · obtain ⟨e1, e2⟩ := mash_ok hm hs
      rw [e1, e2] at MA
      dsimp only at MA
      have MA' := Lib.hid MA; clear MA e1 e2
      obtain ⟨⟨g0, g1⟩, ⟨w0, w1⟩, ⟨xx0, xx1, xx2⟩, hh0, hh1, hh2⟩ := mashB_t hm
      have IX := fun w => inner_any m.xl m.xh ex w (by omega) xx1 (by omega) x0.1 x0.2
      have IH := fun w => inner_any m.hl m.hh hd w (by omega) hh1 (by omega) h0.1 h0.2
      have rx := innerI_range (b := ex) xx1
      have rh := innerI_range (b := hd) hh1
      obtain ⟨x, hx⟩ : ∃ x, innerI m.xl m.xh ex = x := ⟨_, rfl⟩
      obtain ⟨h, hh⟩ : ∃ h, innerI m.hl m.hh hd = h := ⟨_, rfl⟩
      rw [hx] at IX rx
      rw [hh] at IH rh
      clear hx hh
      have IX' := Lib.hid IX; have IH' := Lib.hid IH; clear IX IH
      have VL := Lib.hid (fun W => Valid_b m W hm)
      unfold Msh.val at VL
      have gh0 : 0 ≤ m.g * h := Int.mul_nonneg (by omega) (by omega)
      have gh1 : m.g * h ≤ 167772160000 := by have := Int.mul_le_mul g1 (show h ≤ 10000 by omega) (show 0 ≤ h by omega) (show (0 : Int) ≤ 16777216 by omega); omega
      obtain ⟨V, eV⟩ : ∃ V, 1000 * m.w - m.g * h = V := ⟨_, rfl⟩
      obtain ⟨up, eu⟩ : ∃ up, (V + 999) / 1000 = up := ⟨_, rfl⟩
      obtain ⟨down, ed⟩ : ∃ down, V / 1000 = down := ⟨_, rfl⟩
      have OK := made_plain hm hs rx rh eV eu ed
      obtain ⟨-, -, k0, k1, k2⟩ := mash_held hm
      clear hm
      have EV := Lib.hid eV; have EU := Lib.hid eu; have ED := Lib.hid ed; clear eV eu ed
      generalize m.sl (m.w - m.kh) = sl at *
      generalize m.sh (m.w - m.kl) = sh at *
      generalize m.sl m.kl = ll at *
      generalize m.sh m.kh = lh at *
      generalize m.kl = kl at *
      generalize m.kh = kh at *
      obtain ⟨gx, hgx⟩ : ∃ gx, m.g * x = gx := ⟨_, rfl⟩
      have gxa : 0 ≤ m.g * x := OK.gx0.1
      have gxb : m.g * x ≤ 16777216000 := OK.gx0.2
      rw [hgx] at OK
      have HGX := Lib.hid hgx; clear hgx
      obtain ⟨v1, v2, ⟨a0, a1, a2⟩, ⟨b0, b1, b2⟩, c, d, ⟨x1, x2⟩, ⟨u0, u1, u2, u3⟩, e1, e2, e3, e4, r1, r2, r3, r4⟩ := OK
      have d1 : decide (1000 * m.w * sl ≤ gx * up) = true := by simpa using e1
      have d2 : decide (gx * down ≤ 1000 * m.w * sh) = true := by simpa using e2
      have d3 : decide (1000 * m.w * ll ≤ gx * (m.w - down)) = true := by simpa using e3
      have d4 : decide (gx * (m.w - up) ≤ 1000 * m.w * lh) = true := by simpa using e4
      have s1 : 1000 * m.w * sl ≤ 4000000000000000000 := by omega
      have s2 : 0 ≤ gx * up := by omega
      have s3 : gx * down ≤ 4000000000000000000 := by omega
      have s4 : 0 ≤ 1000 * m.w * sh := by omega
      have s5 : 1000 * m.w * ll ≤ 4000000000000000000 := by omega
      have s6 : 0 ≤ gx * (m.w - down) := by omega
      have s7 : gx * (m.w - up) ≤ 4000000000000000000 := by omega
      have s8 : -4000000000000000000 ≤ 1000 * m.w * lh := by omega
      obtain ⟨r11, r12⟩ := r1
      obtain ⟨r21, r22⟩ := r2
      obtain ⟨r31, r32⟩ := r3
      obtain ⟨r41, r42⟩ := r4
      clear e1 e2 e3 e4
      go_enter Try.func6, Try.ntmps6
      go_upto_region 1 with (fail)
      rw [HWc.out]
      go_wp2_with fail
      refine (Calls.grown (MA'.out _)).mono ?_
      rintro e w1 ⟨rfl, z1, rfl⟩
      go_upto_region 2 with (fail)
      obtain ⟨W2, hW2⟩ : ∃ W2, (((gw W1 z1)).alloc (.cells #[.int .i64 sl, .int .i64 sh, .int .i64 (m.w - kh), .int .i64 (m.w - kl)] 27)).alloc (.cells #[.int .i64 ll, .int .i64 lh] 23) = W2 := ⟨_, rfl⟩
      have hbW2 : Below W1.heap.size W1 W2 := by rw [← hW2]; exact ((below_gw W1 z1).alloc (by simp [gw_size]) _).alloc (by simp [gw_size] <;> omega) _
      have ZmW2 := Lib.hid ((hbW2.block _ (Array.getElem?_eq_some_iff.1 Zc0.out).1).trans Zc0.out)
      have zaW2 : W2.heap[W1.heap.size + z1.bs.size]? = some (.cells #[.int .i64 sl, .int .i64 sh, .int .i64 (m.w - kh), .int .i64 (m.w - kl)] 27 (0, 0)) := by rw [← hW2]; exact alloc_keep (alloc_at (by simp [gw_size]))
      have ZaW2 := Lib.hid zaW2; clear zaW2
      have zbW2 : W2.heap[W1.heap.size + z1.bs.size + 1]? = some (.cells #[.int .i64 ll, .int .i64 lh] 23 (0, 0)) := by rw [← hW2]; exact alloc_at (by simp [gw_size] <;> omega)
      have ZbW2 := Lib.hid zbW2; clear zbW2
      have HBW2 := Lib.hid (thru hbW2 HBc.out)
      have SBW2 := Lib.hid hbW2; clear hbW2
      have HWW2 := Lib.hid hW2; clear hW2
      rw [HWW2.out]
      clear c00 c01 c02 c03 c04 c05
      have S2 := Lib.hid SBW2.out
      have em0W2 : W2.cell? ⟨w.heap.size, 0, none⟩ = some (.int .i64 m.g) := cell_of_block ZmW2.out 0 (by simp)
      have em1W2 : W2.cell? ⟨w.heap.size, 1, none⟩ = some (.int .i64 m.w) := cell_of_block ZmW2.out 1 (by simp)
      have em2W2 : W2.cell? ⟨w.heap.size, 2, none⟩ = some (.int .i64 m.xl) := cell_of_block ZmW2.out 2 (by simp)
      have em3W2 : W2.cell? ⟨w.heap.size, 3, none⟩ = some (.int .i64 m.xh) := cell_of_block ZmW2.out 3 (by simp)
      have em4W2 : W2.cell? ⟨w.heap.size, 4, none⟩ = some (.int .i64 m.hl) := cell_of_block ZmW2.out 4 (by simp)
      have em5W2 : W2.cell? ⟨w.heap.size, 5, none⟩ = some (.int .i64 m.hh) := cell_of_block ZmW2.out 5 (by simp)
      have lmW2 := (Array.getElem?_eq_some_iff.1 ZmW2.out).1
      have ea0W2 : W2.cell? ⟨W1.heap.size + z1.bs.size, 0, none⟩ = some (.int .i64 sl) := cell_of_block ZaW2.out 0 (by simp)
      have ea1W2 : W2.cell? ⟨W1.heap.size + z1.bs.size, 1, none⟩ = some (.int .i64 sh) := cell_of_block ZaW2.out 1 (by simp)
      have ea2W2 : W2.cell? ⟨W1.heap.size + z1.bs.size, 2, none⟩ = some (.int .i64 (m.w - kh)) := cell_of_block ZaW2.out 2 (by simp)
      have ea3W2 : W2.cell? ⟨W1.heap.size + z1.bs.size, 3, none⟩ = some (.int .i64 (m.w - kl)) := cell_of_block ZaW2.out 3 (by simp)
      have laW2 := (Array.getElem?_eq_some_iff.1 ZaW2.out).1
      have eb0W2 : W2.cell? ⟨W1.heap.size + z1.bs.size + 1, 0, none⟩ = some (.int .i64 ll) := cell_of_block ZbW2.out 0 (by simp)
      have eb1W2 : W2.cell? ⟨W1.heap.size + z1.bs.size + 1, 1, none⟩ = some (.int .i64 lh) := cell_of_block ZbW2.out 1 (by simp)
      have lbW2 := (Array.getElem?_eq_some_iff.1 ZbW2.out).1
      go_wp2_with fail
      refine (Calls.grown (VL.out _)).mono ?_
      rintro e w1 ⟨rfl, z2, rfl⟩
      go_wp2_with fail
      refine wp_region_gw2 (by kernel_rfl) (by kernel_rfl) ?_
      repeat (go_big_quiet_step (first | (go_at_call 23; with_reducible exact Calls.gw_of (IX'.out _)) | (go_at_call 23; with_reducible exact Calls.gw_of (IH'.out _))))
      refine wpQuiet_nil ?_
      rintro _ ⟨z9, rfl⟩
      go_upto_region 8 with (fail)
      rw [EV.out]
      go_upto_region 11 with (fail)
      rw [HGX.out]
      refine wp_region_gw2 (by kernel_rfl) (by kernel_rfl) ?_
      repeat (go_big_quiet_step (fail))
      refine wpQuiet_nil ?_
      rintro _ ⟨z10, rfl⟩
      have PS := Lib.hid (fun w => part_pos sl w a0)
      have PL := Lib.hid (fun w => part_pos ll w b0)
      go_wp2_with fail
      refine (PS.out _).mono ?_
      rintro e w1 ⟨rfl, rfl⟩
      go_wp2_with fail
      refine (PL.out _).mono ?_
      rintro e w1 ⟨rfl, rfl⟩
      go_upto_region 16 with (fail)
      rw [EU.out, ED.out]
      go_wp2_with fail
      refine (Calls.gw_of (alive_any _)).mono ?_
      rintro e w1 ⟨rfl, z11, rfl⟩
      go_wp2_with fail
      go_ret
      exact ⟨rfl, HBW2.out.gw z11⟩
end Go.Proofs.Ytecbacbecopbeaa
