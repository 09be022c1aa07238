/- The law StrengthVolumes returns true; ahead of it the contracts of the reference's over, Volume, Measured. No conditions beyond each theorem's own. -/
import Derived.Test.YtohcopdfdmjhnaaUc
import Derived.Test.YtohcopdfdmjhnaaTk
import Derived.Test.YtohcopdfdmjhnaaTd
import Derived.Test.YtohcopdfdmjhnaaSs
set_option linter.unusedVariables false
set_option linter.unusedSimpArgs false
set_option linter.unusedSectionVars false
set_option linter.constructorNameAsVariable false
namespace Go.Proofs.Ytohcopdfdmjhnaa.L1
open Go.RowKit
open Go.Proofs.Ytohcopdfdmjhnaa

attribute [local go_sem] gw_cell gw_frozen gw_size


set_option maxRecDepth 100000 in
set_option maxHeartbeats 1000000 in
theorem rpure_any (a b c d : Int) (w : World) (a0 : 0 ≤ a) (a1 : a ≤ 1099511627776) (b0 : 0 ≤ b) (b1 : b ≤ 1099511627776) (c0 : 0 ≤ c) (c1 : c ≤ 10000) (d0 : 0 ≤ d) (d1 : d ≤ 10000) :
    Calls Try.prog 78 #[.agg #[.int .i64 a, .int .i64 b], .agg #[.int .i64 c, .int .i64 d]] w fun e w' => e = .returned (.agg #[.int .i64 (puLo a c), .int .i64 (puHi b d)]) ∧ Below w.heap.size w w' := by
  have p0 := Int.mul_nonneg a0 c0
  have p1 := Int.mul_le_mul a1 c1 c0 (by omega)
  have q0 := Int.mul_nonneg b0 d0
  have q1 := Int.mul_le_mul b1 d1 d0 (by omega)
  have hp : puLo a c = a * c / 10000 := rfl
  have hq : puHi b d = (b * d + 10000 - 1) / 10000 := rfl
  rw [hp, hq]
  obtain ⟨P, hP⟩ : ∃ P, a * c = P := ⟨_, rfl⟩
  obtain ⟨Q, hQ⟩ : ∃ Q, b * d = Q := ⟨_, rfl⟩
  rw [hP] at p0 p1 ⊢
  rw [hQ] at q0 q1 ⊢
  clear hp hq
  obtain ⟨W1, hW1⟩ : ∃ W1, ((w.alloc (.cells #[.int .i64 a, .int .i64 b] 27)).alloc (.cells #[.int .i64 c, .int .i64 d] 27)).alloc (.cells #[.int .i64 0, .int .i64 0] 27) = W1 := ⟨_, rfl⟩
  have hBc : Below w.heap.size w W1 := by rw [← hW1]; exact ((below_alloc _ _).alloc (by simp) _).alloc (by simp <;> omega) _
  have zc0 : W1.heap[w.heap.size]? = some (.cells #[.int .i64 a, .int .i64 b] 27 (0, 0)) := by rw [← hW1]; exact alloc_keep (alloc_keep (alloc_at rfl))
  have zc1 : W1.heap[w.heap.size + 1]? = some (.cells #[.int .i64 c, .int .i64 d] 27 (0, 0)) := by rw [← hW1]; exact alloc_keep (alloc_at (by simp))
  have zc2 : W1.heap[w.heap.size + 1 + 1]? = some (.cells #[.int .i64 0, .int .i64 0] 27 (0, 0)) := by rw [← hW1]; exact alloc_at (by simp <;> omega)
  have c00 : W1.cell? ⟨w.heap.size, 0, none⟩ = some (.int .i64 a) := cell_of_block zc0 0 (by simp)
  have c01 : W1.cell? ⟨w.heap.size, 1, none⟩ = some (.int .i64 b) := cell_of_block zc0 1 (by simp)
  have c10 : W1.cell? ⟨w.heap.size + 1, 0, none⟩ = some (.int .i64 c) := cell_of_block zc1 0 (by simp)
  have c11 : W1.cell? ⟨w.heap.size + 1, 1, none⟩ = some (.int .i64 d) := cell_of_block zc1 1 (by simp)
  have c20 : W1.cell? ⟨w.heap.size + 1 + 1, 0, none⟩ = some (.int .i64 0) := cell_of_block zc2 0 (by simp)
  have c21 : W1.cell? ⟨w.heap.size + 1 + 1, 1, none⟩ = some (.int .i64 0) := cell_of_block zc2 1 (by simp)
  have lc0 := (Array.getElem?_eq_some_iff.1 zc0).1
  have lc1 := (Array.getElem?_eq_some_iff.1 zc1).1
  have lc2 := (Array.getElem?_eq_some_iff.1 zc2).1
  have fc20 := frozen_of_block zc2 0
  have fc21 := frozen_of_block zc2 1
  clear zc0 zc1 zc2
  have HBc := Lib.hid hBc; clear hBc
  have HWc := Lib.hid hW1; clear hW1
  go_enter Try.func78, Try.ntmps78
  go_upto_region 1 with (fail)
  rw [HWc.out]
  go_wp2_with fail
  refine bodyPost_ret (v := .agg #[.int .i64 (P / 10000), .int .i64 ((Q + 10000 - 1) / 10000)]) (by simp [results, Try.results78, go_sem, *]) rfl ⟨rfl, ?_⟩
  exact (HBc.out.setCell (by simp <;> omega) _).setCell (by simp <;> omega) _



theorem half_bit (B k : Nat) : B / 2 ^ k = 2 * (B / 2 ^ (k + 1)) + B / 2 ^ k % 2 := by
  have e : B / 2 ^ (k + 1) = B / 2 ^ k / 2 := by rw [Nat.pow_succ, Nat.div_div_eq_div_mul]
  rw [e]; omega
theorem bit_int (B k : Nat) : ∃ bt : Int, ((B : Int) / 2 ^ k).tmod 2 = bt ∧ (bt = 0 ∨ bt = 1) ∧ (B : Int) / 2 ^ k = 2 * ((B : Int) / 2 ^ (k + 1)) + bt ∧ 0 ≤ (B : Int) / 2 ^ (k + 1) ∧ (B : Int) / 2 ^ (k + 1) ≤ B := by
  have c (j : Nat) : (B : Int) / 2 ^ j = ((B / 2 ^ j : Nat) : Int) := by rw [Int.natCast_ediv, Int.natCast_pow]; rfl
  have h := half_bit B k
  have m := Nat.mod_lt (B / 2 ^ k) (show 2 > 0 by omega)
  have l := Nat.div_le_self B (2 ^ (k + 1))
  refine ⟨((B / 2 ^ k % 2 : Nat) : Int), by rw [c k]; rfl, by omega, by rw [c k, c (k + 1)]; omega, by rw [c (k + 1)]; omega, by rw [c (k + 1)]; omega⟩
theorem ov_step {q r A R bh bh' bit : Int} (h : q * A + r = R * bh) (hb : bh' = 2 * bh + bit) (hbit : bit = 0 ∨ bit = 1) : (2 * q + (2 * r + R * bit) / A) * A + (2 * r + R * bit) % A = R * bh' := by
  have e := Int.emod_add_mul_ediv (2 * r + R * bit) A
  have e3 : (2 * r + R * bit) / A * A = A * ((2 * r + R * bit) / A) := Int.mul_comm _ _
  have e4 : 2 * q * A = 2 * (q * A) := Int.mul_assoc _ _ _
  rw [hb, Int.add_mul, Int.mul_add, e4, e3]
  have e5 : R * (2 * bh) = 2 * (R * bh) := by rw [← Int.mul_assoc, Int.mul_comm R 2, Int.mul_assoc]
  rw [e5, ← h]
  omega
theorem ov_le {q r A R bh : Int} (h : q * A + r = R * bh) (r0 : 0 ≤ r) (hA : 1 ≤ A) (hR : R ≤ A) (hb : 0 ≤ bh) : q ≤ bh := by
  refine Int.not_lt.1 fun hc => ?_
  have a := Int.mul_le_mul_of_nonneg_right (show bh + 1 ≤ q by omega) (show 0 ≤ A by omega)
  have b := Int.mul_le_mul_of_nonneg_right hR hb
  rw [Int.add_mul, Int.one_mul, Int.mul_comm bh A] at a
  omega
theorem ov_end {N A B W R q r : Int} (hW : N / A = W) (hR : N % A = R) (h : q * A + r = R * B) (r0 : 0 ≤ r) (r1 : r < A) : N * B / A = W * B + q ∧ N * B % A = r := by
  have e := Int.emod_add_mul_ediv N A
  rw [hW, hR] at e
  have e2 : N * B = r + A * (W * B + q) := by
    rw [← e, Int.add_mul, Int.mul_add, ← h, Int.mul_assoc, Int.mul_comm q A]; omega
  rw [e2]
  exact ⟨by rw [Int.add_mul_ediv_left _ _ (by omega), Int.ediv_eq_zero_of_lt r0 r1]; omega, by rw [Int.add_mul_emod_self_left]; exact Int.emod_eq_of_lt r0 r1⟩

set_option maxRecDepth 100000 in
set_option maxHeartbeats 4000000 in
theorem rover_any (a : Int) (A : Int) (Bn : Nat) (w : World) (h0 : 0 ≤ a) (h1 : a ≤ 1099511627776) (hd : 1 ≤ Bn) (hn : (Bn : Int) ≤ A) (hB : Bn < 2147483648) (hb : A ≤ 1000000000000000) :
    Calls Try.prog 77 #[.int .i64 a, .agg #[.int .i64 A, .int .i64 (Bn : Int)]] w fun e w' =>
      e = .returned (.tuple #[.int .i64 (volF a ⟨A, (Bn : Int)⟩).flr, .int .i64 (volF a ⟨A, (Bn : Int)⟩).cei]) ∧ Below w.heap.size w w' := by
  have a0 : ¬ A = 0 := by omega
  obtain ⟨N, hN⟩ : ∃ N, a * 1000000 = N := ⟨_, rfl⟩
  have n0 : 0 ≤ N ∧ N ≤ 1099511627776000000 := by omega
  obtain ⟨Wh, hW⟩ : ∃ W, N / A = W := ⟨_, rfl⟩
  obtain ⟨R, hR⟩ : ∃ R, N % A = R := ⟨_, rfl⟩
  have w0 : 0 ≤ Wh := by rw [← hW]; exact Int.ediv_nonneg n0.1 (by omega)
  have rr0 : 0 ≤ R := by rw [← hR]; exact Int.emod_nonneg _ a0
  have rr1 : R < A := by rw [← hR]; exact Int.emod_lt_of_pos _ (by omega)
  have wa : Wh * A ≤ N := by
    have e := Int.emod_add_mul_ediv N A
    rw [hW, hR, Int.mul_comm] at e; omega
  have wb := Int.mul_le_mul_of_nonneg_left hn w0
  have wb0 := Int.mul_nonneg w0 (show 0 ≤ (Bn : Int) by omega)
  have wl : Wh ≤ 1099511627776000000 := by
    have := Int.ediv_le_self A n0.1; rw [hW] at this; omega
  obtain ⟨WB, hWB⟩ : ∃ x, Wh * (Bn : Int) = x := ⟨_, rfl⟩
  rw [hWB] at wb wb0
  have FIN : Hid (∀ q r : Int, q * A + r = R * (Bn : Int) → 0 ≤ r → r < A → (volF a ⟨A, (Bn : Int)⟩).flr = WB + q ∧ (volF a ⟨A, (Bn : Int)⟩).cei = if r = 0 then WB + q else WB + q + 1) := Lib.hid (fun q r h r0 r1 => by
    obtain ⟨e1, e2⟩ := ov_end (B := (Bn : Int)) hW hR h r0 r1
    rw [hWB] at e1
    have f1 : (volF a ⟨A, (Bn : Int)⟩).flr = WB + q := by show a * 1000000 * (Bn : Int) / A = _; rw [hN]; exact e1
    refine ⟨f1, ?_⟩
    rw [cei_flr _ (show 1 ≤ (volF a ⟨A, (Bn : Int)⟩).d by show 1 ≤ A; omega), f1]
    have f2 : (volF a ⟨A, (Bn : Int)⟩).n % (volF a ⟨A, (Bn : Int)⟩).d = r := by show a * 1000000 * (Bn : Int) % A = _; rw [hN]; exact e2
    rw [f2])
  have B31 : (Bn : Int) / 2 ^ 31 = 0 := Int.ediv_eq_zero_of_lt (by omega) (by omega)
  generalize (volF a ⟨A, (Bn : Int)⟩).flr = fl at *
  generalize (volF a ⟨A, (Bn : Int)⟩).cei = ce at *
  obtain ⟨W1, hW1⟩ : ∃ W1, w.alloc (.cells #[.int .i64 A, .int .i64 (Bn : Int)] 35) = W1 := ⟨_, rfl⟩
  have hBc : Below w.heap.size w W1 := by rw [← hW1]; exact below_alloc _ _
  have zc0 : W1.heap[w.heap.size]? = some (.cells #[.int .i64 A, .int .i64 (Bn : Int)] 35 (0, 0)) := by rw [← hW1]; exact alloc_at rfl
  have c00 : W1.cell? ⟨w.heap.size, 0, none⟩ = some (.int .i64 A) := cell_of_block zc0 0 (by simp)
  have c01 : W1.cell? ⟨w.heap.size, 1, none⟩ = some (.int .i64 (Bn : Int)) := cell_of_block zc0 1 (by simp)
  have lc0 := (Array.getElem?_eq_some_iff.1 zc0).1
  clear zc0
  have HBc := Lib.hid hBc; clear hBc
  have HWc := Lib.hid hW1; clear hW1
  go_enter Try.func77, Try.ntmps77
  go_upto_region 1 with (fail)
  rw [HWc.out]
  go_upto_region 2 with (fail)
  refine wp_region_gw (by kernel_rfl) (by kernel_rfl) ?_
  repeat (go_big_quiet_step (fail))
  refine wpQuiet_nil ?_
  rintro _ ⟨z1, rfl⟩
  simp only [hW, hR]
  clear hW hR
  go_wp2_with fail
  go_loop [10, 11, 12] (fun x y z => ∃ (q r i : Int) (j : Nat), x = .int .i64 q ∧ y = .int .i64 r ∧ z = .int .i64 i ∧ i = (j : Int) - 1 ∧ j ≤ 31 ∧ 0 ≤ r ∧ r < A ∧ 0 ≤ q ∧ Hid (q * A + r = R * ((Bn : Int) / 2 ^ j))) (fun _ _ z => (intOf z + 1).toNat)
  case atStart => exact ⟨0, 0, 30, 31, rfl, rfl, rfl, rfl, Nat.le_refl _, Int.le_refl _, by omega, Int.le_refl _, Lib.hid (by rw [B31]; omega)⟩
  case round =>
    obtain ⟨q, r, i, j, rfl, rfl, rfl, hi, j31, r0, r1, q0, K⟩ := hrel
    cases j with
    | zero =>
      have i1 : ¬ 0 ≤ i := by omega
      clear hi
      have K2 := K.out
      rw [Int.pow_zero, Int.ediv_one] at K2
      obtain ⟨f1, f2⟩ := FIN.out q r K2 r0 r1
      have ql := ov_le K2 r0 (by omega) (by omega) (by omega)
      have F1 := Lib.hid f1
      clear K K2 FIN f1
      by_cases hr : 0 < r
      · rw [if_neg (by omega)] at f2
        have F2 := Lib.hid f2
        clear f2
        go_wp2_with fail
        go_ret2
        exact ⟨by rw [F1.out, F2.out]; rfl, HBc.out.gw z1⟩
      · rw [if_pos (by omega)] at f2
        have F2 := Lib.hid f2
        clear f2
        go_wp2_with fail
        go_ret2
        exact ⟨by rw [F1.out, F2.out]; rfl, HBc.out.gw z1⟩
    | succ k =>
      obtain rfl : (k : Int) = i := by omega
      clear hi
      obtain ⟨bt, hbt, b01, heq, bh0, bh1⟩ := bit_int Bn k
      have ql := ov_le K.out r0 (by omega) (by omega) bh0
      have K2 := Lib.hid (ov_step K.out heq b01)
      have HQ := Lib.hid heq
      obtain ⟨bh, hbh⟩ : ∃ x, (Bn : Int) / 2 ^ k = x := ⟨_, rfl⟩
      have bhn : 0 ≤ bh := by rw [← hbh, heq]; omega
      have bhl : bh ≤ (Bn : Int) + (Bn : Int) + 1 := by rw [← hbh, heq]; omega
      rw [hbh] at hbt K2
      clear heq K HQ
      rcases b01 with rfl | rfl
      · have X := K2.out
        rw [Int.mul_zero, Int.add_zero] at X
        have K3 := Lib.hid X
        clear K2 X
        have g0 : ((0 : Int) == 1) = false := rfl
        have s0 := Int.emod_nonneg (2 * r) a0
        have s1 := Int.emod_lt_of_pos (2 * r) (show 0 < A by omega)
        have d0 := Int.ediv_nonneg (show 0 ≤ 2 * r by omega) (show 0 ≤ A by omega)
        have d1 : 2 * r / A ≤ 2 := by
          have : 2 * r / A < 3 := by rw [Int.ediv_lt_iff_lt_mul (by omega)]; omega
          omega
        obtain ⟨D, hD⟩ : ∃ D, 2 * r / A = D := ⟨_, rfl⟩
        obtain ⟨E, hE⟩ : ∃ D, 2 * r % A = D := ⟨_, rfl⟩
        rw [hD] at d0 d1 K3
        rw [hE] at s0 s1 K3
        go_wp2_with fail
        go_round
        case rel => exact ⟨2 * q + D, E, (k : Int) - 1, k, by go_num, by go_num, by go_num, rfl, by omega, s0, s1, by omega, Lib.hid (by rw [hbh]; exact K3.out)⟩
        case measure => simp [intOf]
      · have X := K2.out
        rw [Int.mul_one] at X
        have K3 := Lib.hid X
        clear K2 X
        have s0 := Int.emod_nonneg (2 * r + R) a0
        have s1 := Int.emod_lt_of_pos (2 * r + R) (show 0 < A by omega)
        have d0 := Int.ediv_nonneg (show 0 ≤ 2 * r + R by omega) (show 0 ≤ A by omega)
        have d1 : (2 * r + R) / A ≤ 2 := by
          have : (2 * r + R) / A < 3 := by rw [Int.ediv_lt_iff_lt_mul (by omega)]; omega
          omega
        obtain ⟨D, hD⟩ : ∃ D, (2 * r + R) / A = D := ⟨_, rfl⟩
        obtain ⟨E, hE⟩ : ∃ D, (2 * r + R) % A = D := ⟨_, rfl⟩
        rw [hD] at d0 d1 K3
        rw [hE] at s0 s1 K3
        go_wp2_with fail
        go_round
        case rel => exact ⟨2 * q + D, E, (k : Int) - 1, k, by go_num, by go_num, by go_num, rfl, by omega, s0, s1, by omega, Lib.hid (by rw [hbh]; exact K3.out)⟩
        case measure => simp [intOf]


theorem rover_fr (a : Int) (v : Fr) (w : World) (h0 : 0 ≤ a) (h1 : a ≤ 1099511627776) (hf : v.Fit) (hn : v.d ≤ v.n) :
    Calls Try.prog 77 #[.int .i64 a, .agg #[.int .i64 v.n, .int .i64 v.d]] w fun e w' => e = .returned (.tuple #[.int .i64 (volF a v).flr, .int .i64 (volF a v).cei]) ∧ Below w.heap.size w w' := by
  obtain ⟨n, d⟩ := v
  obtain ⟨d1, d2, n1, n2⟩ := hf
  simp only at d1 d2 n1 n2 hn
  obtain ⟨D, rfl⟩ := Int.eq_ofNat_of_zero_le (show 0 ≤ d by omega)
  exact rover_any a n D w h0 h1 (by omega) hn (by omega) n2
section
variable {t : Tab} {slo shi tlo thi : Int}
theorem ge_one {v u : Fr} (hd : 1 ≤ v.d) (hu : 1 ≤ u.d) (h : leF (ofI 900000) u) (e : eqF v u) : v.d ≤ v.n := by
  have h2 := leF_trans (by show (1 : Int) ≤ 1; omega) hu hd h (eqF_le e).2
  unfold leF ofI at h2
  simp only [Int.mul_one] at h2
  omega
theorem rlowR_ok {w : World} (g : t.Good) (hI : t.In w) (ft : t.tb.FitT tlo thi) (fs : t.tb.FitS slo shi) : (t.rlow t.R slo shi tlo thi).Fit ∧ (t.rlow t.R slo shi tlo thi).d ≤ (t.rlow t.R slo shi tlo thi).n := by
  have f := rlow_fit (m := t.R) g (g.rowsR hI) ft fs
  obtain ⟨a, _, d, _⟩ := g.ok.lowV_range ft fs
  exact ⟨f, ge_one f.d1 d a (rlow_eq g)⟩
theorem rhighR_ok {w : World} (g : t.Good) (hI : t.In w) (ft : t.tb.FitT tlo thi) (fs : t.tb.FitS slo shi) : (t.rhigh t.R slo shi tlo thi).Fit ∧ (t.rhigh t.R slo shi tlo thi).d ≤ (t.rhigh t.R slo shi tlo thi).n := by
  have f := rhigh_fit (m := t.R) g (g.rowsR hI) ft fs
  obtain ⟨a, _, d, _⟩ := g.ok.highV_range ft fs
  exact ⟨f, ge_one f.d1 d a (rhigh_eq g)⟩
theorem rvolLo (g : t.Good) (ft : t.tb.FitT tlo thi) (fs : t.tb.FitS slo shi) {a : Int} (ha : 0 ≤ a) (hn : 1 ≤ (t.rhigh t.R slo shi tlo thi).n) : (volF a (t.rhigh t.R slo shi tlo thi)).flr = t.tb.volLo a slo shi tlo thi := by
  obtain ⟨_, _, _, n⟩ := g.ok.highV_range ft fs
  have e : eqF (t.rhigh t.R slo shi tlo thi) (t.tb.highV slo shi tlo thi) := rhigh_eq g
  exact eqF_flr (by show 1 ≤ (t.rhigh t.R slo shi tlo thi).n; exact hn) (by show 1 ≤ (t.tb.highV slo shi tlo thi).n; exact n) (volF_eq ha e)
theorem rvolHi (g : t.Good) (ft : t.tb.FitT tlo thi) (fs : t.tb.FitS slo shi) {a : Int} (ha : 0 ≤ a) (hn : 1 ≤ (t.rlow t.R slo shi tlo thi).n) : (volF a (t.rlow t.R slo shi tlo thi)).cei = t.tb.volHi a slo shi tlo thi := by
  obtain ⟨_, _, _, n⟩ := g.ok.lowV_range ft fs
  have e : eqF (t.rlow t.R slo shi tlo thi) (t.tb.lowV slo shi tlo thi) := rlow_eq g
  exact eqF_cei (by show 1 ≤ (t.rlow t.R slo shi tlo thi).n; exact hn) (by show 1 ≤ (t.tb.lowV slo shi tlo thi).n; exact n) (volF_eq ha e)
end

set_option maxRecDepth 100000 in
set_option maxHeartbeats 4000000 in
theorem rVolume_any (t : Tab) (alo ahi slo shi tlo thi : Int) (w : World) (hI : t.In w) (hf : t.Fits) :
    Calls Try.prog 38 #[t.val, .agg #[.int .i64 alo, .int .i64 ahi], .agg #[.int .i64 slo, .int .i64 shi], .agg #[.int .i64 tlo, .int .i64 thi]] w fun e w' =>
      e = .returned (.tuple #[.agg #[.int .i64 (t.voLo alo ahi slo shi tlo thi), .int .i64 (t.voHi alo ahi slo shi tlo thi)], .int .i64 (t.voE alo ahi slo shi tlo thi)]) ∧ Below w.heap.size w w' := by
  obtain ⟨W1, hW1⟩ : ∃ W1, ((((w.alloc (.cells #[.slice t.aT t.nT t.cT, .slice t.aS t.nS t.cS, .slice t.H.a t.H.n t.H.c, .slice t.R.a t.R.n t.R.c] 25)).alloc (.cells #[.int .i64 alo, .int .i64 ahi] 27)).alloc (.cells #[.int .i64 slo, .int .i64 shi] 27)).alloc (.cells #[.int .i64 tlo, .int .i64 thi] 27)).alloc (.cells #[.int .i64 0, .int .i64 0] 27) = W1 := ⟨_, rfl⟩
  have hBc : Below w.heap.size w W1 := by rw [← hW1]; exact ((((below_alloc _ _).alloc (by simp) _).alloc (by simp <;> omega) _).alloc (by simp <;> omega) _).alloc (by simp <;> omega) _
  have zc0 : W1.heap[w.heap.size]? = some (.cells #[.slice t.aT t.nT t.cT, .slice t.aS t.nS t.cS, .slice t.H.a t.H.n t.H.c, .slice t.R.a t.R.n t.R.c] 25 (0, 0)) := by rw [← hW1]; exact alloc_keep (alloc_keep (alloc_keep (alloc_keep (alloc_at rfl))))
  have zc1 : W1.heap[w.heap.size + 1]? = some (.cells #[.int .i64 alo, .int .i64 ahi] 27 (0, 0)) := by rw [← hW1]; exact alloc_keep (alloc_keep (alloc_keep (alloc_at (by simp))))
  have zc2 : W1.heap[w.heap.size + 1 + 1]? = some (.cells #[.int .i64 slo, .int .i64 shi] 27 (0, 0)) := by rw [← hW1]; exact alloc_keep (alloc_keep (alloc_at (by simp <;> omega)))
  have zc3 : W1.heap[w.heap.size + 1 + 1 + 1]? = some (.cells #[.int .i64 tlo, .int .i64 thi] 27 (0, 0)) := by rw [← hW1]; exact alloc_keep (alloc_at (by simp <;> omega))
  have zc4 : W1.heap[w.heap.size + 1 + 1 + 1 + 1]? = some (.cells #[.int .i64 0, .int .i64 0] 27 (0, 0)) := by rw [← hW1]; exact alloc_at (by simp <;> omega)
  have c00 : W1.cell? ⟨w.heap.size, 0, none⟩ = some (.slice t.aT t.nT t.cT) := cell_of_block zc0 0 (by simp)
  have c01 : W1.cell? ⟨w.heap.size, 1, none⟩ = some (.slice t.aS t.nS t.cS) := cell_of_block zc0 1 (by simp)
  have c02 : W1.cell? ⟨w.heap.size, 2, none⟩ = some (.slice t.H.a t.H.n t.H.c) := cell_of_block zc0 2 (by simp)
  have c03 : W1.cell? ⟨w.heap.size, 3, none⟩ = some (.slice t.R.a t.R.n t.R.c) := cell_of_block zc0 3 (by simp)
  have c10 : W1.cell? ⟨w.heap.size + 1, 0, none⟩ = some (.int .i64 alo) := cell_of_block zc1 0 (by simp)
  have c11 : W1.cell? ⟨w.heap.size + 1, 1, none⟩ = some (.int .i64 ahi) := cell_of_block zc1 1 (by simp)
  have c20 : W1.cell? ⟨w.heap.size + 1 + 1, 0, none⟩ = some (.int .i64 slo) := cell_of_block zc2 0 (by simp)
  have c21 : W1.cell? ⟨w.heap.size + 1 + 1, 1, none⟩ = some (.int .i64 shi) := cell_of_block zc2 1 (by simp)
  have c30 : W1.cell? ⟨w.heap.size + 1 + 1 + 1, 0, none⟩ = some (.int .i64 tlo) := cell_of_block zc3 0 (by simp)
  have c31 : W1.cell? ⟨w.heap.size + 1 + 1 + 1, 1, none⟩ = some (.int .i64 thi) := cell_of_block zc3 1 (by simp)
  have c40 : W1.cell? ⟨w.heap.size + 1 + 1 + 1 + 1, 0, none⟩ = some (.int .i64 0) := cell_of_block zc4 0 (by simp)
  have c41 : W1.cell? ⟨w.heap.size + 1 + 1 + 1 + 1, 1, none⟩ = some (.int .i64 0) := cell_of_block zc4 1 (by simp)
  have lc0 := (Array.getElem?_eq_some_iff.1 zc0).1
  have lc1 := (Array.getElem?_eq_some_iff.1 zc1).1
  have lc2 := (Array.getElem?_eq_some_iff.1 zc2).1
  have lc3 := (Array.getElem?_eq_some_iff.1 zc3).1
  have lc4 := (Array.getElem?_eq_some_iff.1 zc4).1
  have fc40 := frozen_of_block zc4 0
  have fc41 := frozen_of_block zc4 1
  have Zc0 := Lib.hid zc0
  have Zc1 := Lib.hid zc1
  have Zc2 := Lib.hid zc2
  have Zc3 := Lib.hid zc3
  have Zc4 := Lib.hid zc4
  clear zc0 zc1 zc2 zc3 zc4
  have HBc := Lib.hid hBc; clear hBc
  have HWc := Lib.hid hW1; clear hW1
  have I1 := Lib.hid (hI.below HBc.out)
  clear hI
  cases hok : t.okB with
  | false =>
    have e3 : t.voE alo ahi slo shi tlo thi = 1 := Tab.voE_bad hok
    obtain ⟨e1, e2⟩ := Tab.vo_zero (t := t) (alo := alo) (ahi := ahi) (slo := slo) (shi := shi) (tlo := tlo) (thi := thi) (by rw [e3]; decide)
    rw [e1, e2, e3]
    clear e1 e2 e3
    have TB' := Lib.hid (fun W (hb : Below W1.heap.size W1 W) => rTable_b (b := false) t W (I1.out.below hb) hf hok)
    unfold Tab.val at TB' ⊢
    clear hok
    go_enter Try.func38, Try.ntmps38
    go_upto_region 1 with (fail)
    rw [HWc.out]
    go_wp2_with fail
    refine (Calls.grown (TB'.out _ (Below.refl _ W1))).mono ?_
    rintro e w1 ⟨rfl, z1, rfl⟩
    go_wp2_with fail
    refine bodyPost_ret (v := .tuple #[.agg #[.int .i64 0, .int .i64 0], .int .i64 1]) (by simp [results, Try.results38, go_sem, *]) rfl ⟨rfl, ?_⟩
    exact ((HBc.out.gw z1).setCell (by simp <;> omega) _).setCell (by simp <;> omega) _
  | true =>
    have TB' := Lib.hid (fun W (hb : Below W1.heap.size W1 W) => rTable_b (b := true) t W (I1.out.below hb) hf hok)
    have SP' := Lib.hid (fun W (hb : Below W1.heap.size W1 W) => rwithin_b (b := spanB alo ahi 0 1099511627776) alo ahi 0 1099511627776 W rfl)
    cases hsp : spanB alo ahi 0 1099511627776 with
    | false =>
      have e3 : t.voE alo ahi slo shi tlo thi = 1 := Tab.voE_arg hsp
      obtain ⟨e1, e2⟩ := Tab.vo_zero (t := t) (alo := alo) (ahi := ahi) (slo := slo) (shi := shi) (tlo := tlo) (thi := thi) (by rw [e3]; decide)
      rw [e1, e2, e3]
      clear e1 e2 e3
      simp only [hsp] at SP'
      unfold Tab.val at TB' ⊢
      clear hsp hok
      go_enter Try.func38, Try.ntmps38
      go_upto_region 1 with (fail)
      rw [HWc.out]
      go_wp2_with fail
      refine (Calls.grown (TB'.out _ (Below.refl _ W1))).mono ?_
      rintro e w1 ⟨rfl, z1, rfl⟩
      go_wp2_with fail
      refine (Calls.gw_of (SP'.out _ (below_gw W1 z1))).mono ?_
      rintro e w1 ⟨rfl, z2, rfl⟩
      go_wp2_with fail
      refine bodyPost_ret (v := .tuple #[.agg #[.int .i64 0, .int .i64 0], .int .i64 1]) (by simp [results, Try.results38, go_sem, *]) rfl ⟨rfl, ?_⟩
      exact ((HBc.out.gw z2).setCell (by simp <;> omega) _).setCell (by simp <;> omega) _
    | true =>
      simp only [hsp] at SP'
      have g := Tab.good hok
      have t2 := g.ok.t2
      have t32 := g.ok.t32
      have s2 := g.ok.s2
      have s32 := g.ok.s32
      simp only [Tab.tb] at t2 t32 s2 s32
      cases hS : t.fitS slo shi with
      | false =>
        have e3 : t.voE alo ahi slo shi tlo thi = 2 := Tab.voE_far hok hsp (fun h => by rw [hS] at h; cases h.1)
        obtain ⟨e1, e2⟩ := Tab.vo_zero (t := t) (alo := alo) (ahi := ahi) (slo := slo) (shi := shi) (tlo := tlo) (thi := thi) (by rw [e3]; decide)
        rw [e1, e2, e3]
        clear e1 e2 e3
        have SB' := Lib.hid (fun W (hb : Below W1.heap.size W1 W) => rStrong_b (b := false) t slo shi W (I1.out.below hb) s2 s32 hS)
        unfold Tab.val at TB' SB' ⊢
        clear hS hok hsp g
        go_enter Try.func38, Try.ntmps38
        go_upto_region 1 with (fail)
        rw [HWc.out]
        go_wp2_with fail
        refine (Calls.grown (TB'.out _ (Below.refl _ W1))).mono ?_
        rintro e w1 ⟨rfl, z1, rfl⟩
        go_wp2_with fail
        refine (Calls.gw_of (SP'.out _ (below_gw W1 z1))).mono ?_
        rintro e w1 ⟨rfl, z2, rfl⟩
        go_wp2_with fail
        refine (Calls.gw_of (SB'.out _ (below_gw W1 z2))).mono ?_
        rintro e w1 ⟨rfl, z3, rfl⟩
        go_wp2_with fail
        refine bodyPost_ret (v := .tuple #[.agg #[.int .i64 0, .int .i64 0], .int .i64 2]) (by simp [results, Try.results38, go_sem, *]) rfl ⟨rfl, ?_⟩
        exact ((HBc.out.gw z3).setCell (by simp <;> omega) _).setCell (by simp <;> omega) _
      | true =>
        have SB' := Lib.hid (fun W (hb : Below W1.heap.size W1 W) => rStrong_b (b := true) t slo shi W (I1.out.below hb) s2 s32 hS)
        cases hT : t.fitT tlo thi with
        | false =>
          have e3 : t.voE alo ahi slo shi tlo thi = 2 := Tab.voE_far hok hsp (fun h => by rw [hT] at h; cases h.2)
          obtain ⟨e1, e2⟩ := Tab.vo_zero (t := t) (alo := alo) (ahi := ahi) (slo := slo) (shi := shi) (tlo := tlo) (thi := thi) (by rw [e3]; decide)
          rw [e1, e2, e3]
          clear e1 e2 e3
          have TE' := Lib.hid (fun W (hb : Below W1.heap.size W1 W) => rTemp_b (b := false) t tlo thi W (I1.out.below hb) t2 t32 hT)
          unfold Tab.val at TB' SB' TE' ⊢
          clear hT hS hok hsp g
          go_enter Try.func38, Try.ntmps38
          go_upto_region 1 with (fail)
          rw [HWc.out]
          go_wp2_with fail
          refine (Calls.grown (TB'.out _ (Below.refl _ W1))).mono ?_
          rintro e w1 ⟨rfl, z1, rfl⟩
          go_wp2_with fail
          refine (Calls.gw_of (SP'.out _ (below_gw W1 z1))).mono ?_
          rintro e w1 ⟨rfl, z2, rfl⟩
          go_wp2_with fail
          refine (Calls.gw_of (SB'.out _ (below_gw W1 z2))).mono ?_
          rintro e w1 ⟨rfl, z3, rfl⟩
          go_wp2_with fail
          refine (Calls.gw_of (TE'.out _ (below_gw W1 z3))).mono ?_
          rintro e w1 ⟨rfl, z4, rfl⟩
          go_wp2_with fail
          refine bodyPost_ret (v := .tuple #[.agg #[.int .i64 0, .int .i64 0], .int .i64 2]) (by simp [results, Try.results38, go_sem, *]) rfl ⟨rfl, ?_⟩
          exact ((HBc.out.gw z4).setCell (by simp <;> omega) _).setCell (by simp <;> omega) _
        | true =>
          have TE' := Lib.hid (fun W (hb : Below W1.heap.size W1 W) => rTemp_b (b := true) t tlo thi W (I1.out.below hb) t2 t32 hT)
          have ft := Tab.fitT_t hT
          have fs := Tab.fitS_t hS
          have e3 := Tab.voE_ok hok hsp hS hT
          have sp := spanB_t.1 hsp
          obtain ⟨lf, ln1⟩ := rlowR_ok g I1.out ft fs
          obtain ⟨hf2, hn1⟩ := rhighR_ok g I1.out ft fs
          have ld1 := lf.d1
          have hd1 := hf2.d1
          have q1 := rvolLo g ft fs sp.1 (show 1 ≤ (t.rhigh t.R slo shi tlo thi).n by omega)
          have q2 := rvolHi g ft fs (show 0 ≤ ahi by omega) (show 1 ≤ (t.rlow t.R slo shi tlo thi).n by omega)
          have vr := g.ok.vol_le ft fs sp.1 sp.2.1
          have O1 := Lib.hid (fun W => rover_fr alo (t.rhigh t.R slo shi tlo thi) W sp.1 (by omega) hf2 hn1)
          have O2 := Lib.hid (fun W => rover_fr ahi (t.rlow t.R slo shi tlo thi) W (by omega) (by omega) lf ln1)
          simp only [q1] at O1
          simp only [q2] at O2
          have EN' := Lib.hid (fun W (hb : Below W1.heap.size W1 W) => rEnds_any t g t.R slo shi tlo thi W (I1.out.below hb) (g.rowsR (I1.out.below hb)) ft fs)
          have RL := Lib.hid (show t.voLo alo ahi slo shi tlo thi = if t.voE alo ahi slo shi tlo thi = 0 then t.tb.volLo alo slo shi tlo thi else 0 from rfl)
          have RH := Lib.hid (show t.voHi alo ahi slo shi tlo thi = if t.voE alo ahi slo shi tlo thi = 0 then t.tb.volHi ahi slo shi tlo thi else 0 from rfl)
          have RE := Lib.hid e3
          clear e3 ft fs lf ln1 hf2 hn1 ld1 hd1 q1 q2 vr g hok hS hT hsp hf sp
          unfold Fr.val at EN'
          generalize t.tb.volLo alo slo shi tlo thi = vl at *
          generalize t.tb.volHi ahi slo shi tlo thi = vh at *
          generalize t.voLo alo ahi slo shi tlo thi = rl at *
          generalize t.voHi alo ahi slo shi tlo thi = rh at *
          generalize t.voE alo ahi slo shi tlo thi = re at *
          generalize (volF alo (t.rhigh t.R slo shi tlo thi)).cei = u1 at *
          generalize (volF ahi (t.rlow t.R slo shi tlo thi)).flr = u2 at *
          generalize (t.rlow t.R slo shi tlo thi).n = ln at *
          generalize (t.rlow t.R slo shi tlo thi).d = ld at *
          generalize (t.rhigh t.R slo shi tlo thi).n = hn at *
          generalize (t.rhigh t.R slo shi tlo thi).d = hd at *
          unfold Tab.val at TB' SB' TE' EN' ⊢
          unfold Rows.val at EN'
          by_cases hv : vh ≤ 1099511627776
          · have R1 := RE.out
            rw [if_pos hv] at R1
            have R2 := RL.out
            have R3 := RH.out
            subst R1
            rw [if_pos rfl] at R2 R3
            subst R2 R3
            clear RE RL RH
            have d9 : decide (1099511627776 < rh) = false := by simp; omega
            go_enter Try.func38, Try.ntmps38
            go_upto_region 1 with (fail)
            rw [HWc.out]
            go_wp2_with fail
            refine (Calls.grown (TB'.out _ (Below.refl _ W1))).mono ?_
            rintro e w1 ⟨rfl, z1, rfl⟩
            go_wp2_with fail
            refine (Calls.gw_of (SP'.out _ (below_gw W1 z1))).mono ?_
            rintro e w1 ⟨rfl, z2, rfl⟩
            go_wp2_with fail
            refine (Calls.gw_of (SB'.out _ (below_gw W1 z2))).mono ?_
            rintro e w1 ⟨rfl, z3, rfl⟩
            go_wp2_with fail
            refine (Calls.gw_of (TE'.out _ (below_gw W1 z3))).mono ?_
            rintro e w1 ⟨rfl, z4, rfl⟩
            go_wp2_with fail
            refine (Calls.gw_of (EN'.out _ (below_gw W1 z4))).mono ?_
            rintro e w1 ⟨rfl, z5, rfl⟩
            go_upto_region 6 with (fail)
            obtain ⟨W2, hW2⟩ : ∃ W2, (((gw W1 z5)).alloc (.cells #[.int .i64 ln, .int .i64 ld] 35)).alloc (.cells #[.int .i64 hn, .int .i64 hd] 35) = W2 := ⟨_, rfl⟩
            have hbW2 : Below W1.heap.size W1 W2 := by rw [← hW2]; exact ((below_gw W1 z5).alloc (by simp [gw_size]) _).alloc (by simp [gw_size] <;> omega) _
            have ZtW2 := Lib.hid ((hbW2.block _ (Array.getElem?_eq_some_iff.1 Zc0.out).1).trans Zc0.out)
            have ZaW2 := Lib.hid ((hbW2.block _ (Array.getElem?_eq_some_iff.1 Zc1.out).1).trans Zc1.out)
            have ZsW2 := Lib.hid ((hbW2.block _ (Array.getElem?_eq_some_iff.1 Zc2.out).1).trans Zc2.out)
            have ZmW2 := Lib.hid ((hbW2.block _ (Array.getElem?_eq_some_iff.1 Zc3.out).1).trans Zc3.out)
            have ZrW2 := Lib.hid ((hbW2.block _ (Array.getElem?_eq_some_iff.1 Zc4.out).1).trans Zc4.out)
            have zlW2 : W2.heap[W1.heap.size + z5.bs.size]? = some (.cells #[.int .i64 ln, .int .i64 ld] 35 (0, 0)) := by rw [← hW2]; exact alloc_keep (alloc_at (by simp [gw_size]))
            have ZlW2 := Lib.hid zlW2; clear zlW2
            have zhW2 : W2.heap[W1.heap.size + z5.bs.size + 1]? = some (.cells #[.int .i64 hn, .int .i64 hd] 35 (0, 0)) := by rw [← hW2]; exact alloc_at (by simp [gw_size] <;> omega)
            have ZhW2 := Lib.hid zhW2; clear zhW2
            have HBW2 := Lib.hid (thru hbW2 HBc.out)
            have SBW2 := Lib.hid hbW2; clear hbW2
            have HWW2 := Lib.hid hW2; clear hW2
            rw [HWW2.out]
            clear c00 c01 c02 c03 c10 c11 c20 c21 c30 c31 c40 c41 fc40 fc41
            have S2 := Lib.hid SBW2.out
            have ea0W2 : W2.cell? ⟨w.heap.size + 1, 0, none⟩ = some (.int .i64 alo) := cell_of_block ZaW2.out 0 (by simp)
            have ea1W2 : W2.cell? ⟨w.heap.size + 1, 1, none⟩ = some (.int .i64 ahi) := cell_of_block ZaW2.out 1 (by simp)
            have laW2 := (Array.getElem?_eq_some_iff.1 ZaW2.out).1
            have el0W2 : W2.cell? ⟨W1.heap.size + z5.bs.size, 0, none⟩ = some (.int .i64 ln) := cell_of_block ZlW2.out 0 (by simp)
            have el1W2 : W2.cell? ⟨W1.heap.size + z5.bs.size, 1, none⟩ = some (.int .i64 ld) := cell_of_block ZlW2.out 1 (by simp)
            have llW2 := (Array.getElem?_eq_some_iff.1 ZlW2.out).1
            have eh0W2 : W2.cell? ⟨W1.heap.size + z5.bs.size + 1, 0, none⟩ = some (.int .i64 hn) := cell_of_block ZhW2.out 0 (by simp)
            have eh1W2 : W2.cell? ⟨W1.heap.size + z5.bs.size + 1, 1, none⟩ = some (.int .i64 hd) := cell_of_block ZhW2.out 1 (by simp)
            have lhW2 := (Array.getElem?_eq_some_iff.1 ZhW2.out).1
            have er0W2 : W2.cell? ⟨w.heap.size + 1 + 1 + 1 + 1, 0, none⟩ = some (.int .i64 0) := cell_of_block ZrW2.out 0 (by simp)
            have fr0W2 := frozen_of_block ZrW2.out 0
            have er1W2 : W2.cell? ⟨w.heap.size + 1 + 1 + 1 + 1, 1, none⟩ = some (.int .i64 0) := cell_of_block ZrW2.out 1 (by simp)
            have fr1W2 := frozen_of_block ZrW2.out 1
            have lrW2 := (Array.getElem?_eq_some_iff.1 ZrW2.out).1
            go_wp2_with fail
            refine (Calls.grown (O1.out _)).mono ?_
            rintro e w1 ⟨rfl, z6, rfl⟩
            go_wp2_with fail
            refine (Calls.gw_of (O2.out _)).mono ?_
            rintro e w1 ⟨rfl, z7, rfl⟩
            go_wp2_with fail
            refine bodyPost_ret (v := .tuple #[.agg #[.int .i64 rl, .int .i64 rh], .int .i64 0]) (by simp [results, Try.results38, go_sem, *]) rfl ⟨rfl, ?_⟩
            exact ((HBW2.out.gw z7).setCell (by simp <;> omega) _).setCell (by simp <;> omega) _
          · have R1 := RE.out
            rw [if_neg hv] at R1
            have R2 := RL.out
            have R3 := RH.out
            subst R1
            rw [if_neg (by decide)] at R2 R3
            subst R2 R3
            clear RE RL RH
            have d9 : decide (1099511627776 < vh) = true := by simp; omega
            go_enter Try.func38, Try.ntmps38
            go_upto_region 1 with (fail)
            rw [HWc.out]
            go_wp2_with fail
            refine (Calls.grown (TB'.out _ (Below.refl _ W1))).mono ?_
            rintro e w1 ⟨rfl, z1, rfl⟩
            go_wp2_with fail
            refine (Calls.gw_of (SP'.out _ (below_gw W1 z1))).mono ?_
            rintro e w1 ⟨rfl, z2, rfl⟩
            go_wp2_with fail
            refine (Calls.gw_of (SB'.out _ (below_gw W1 z2))).mono ?_
            rintro e w1 ⟨rfl, z3, rfl⟩
            go_wp2_with fail
            refine (Calls.gw_of (TE'.out _ (below_gw W1 z3))).mono ?_
            rintro e w1 ⟨rfl, z4, rfl⟩
            go_wp2_with fail
            refine (Calls.gw_of (EN'.out _ (below_gw W1 z4))).mono ?_
            rintro e w1 ⟨rfl, z5, rfl⟩
            go_upto_region 6 with (fail)
            obtain ⟨W2, hW2⟩ : ∃ W2, (((gw W1 z5)).alloc (.cells #[.int .i64 ln, .int .i64 ld] 35)).alloc (.cells #[.int .i64 hn, .int .i64 hd] 35) = W2 := ⟨_, rfl⟩
            have hbW2 : Below W1.heap.size W1 W2 := by rw [← hW2]; exact ((below_gw W1 z5).alloc (by simp [gw_size]) _).alloc (by simp [gw_size] <;> omega) _
            have ZtW2 := Lib.hid ((hbW2.block _ (Array.getElem?_eq_some_iff.1 Zc0.out).1).trans Zc0.out)
            have ZaW2 := Lib.hid ((hbW2.block _ (Array.getElem?_eq_some_iff.1 Zc1.out).1).trans Zc1.out)
            have ZsW2 := Lib.hid ((hbW2.block _ (Array.getElem?_eq_some_iff.1 Zc2.out).1).trans Zc2.out)
            have ZmW2 := Lib.hid ((hbW2.block _ (Array.getElem?_eq_some_iff.1 Zc3.out).1).trans Zc3.out)
            have ZrW2 := Lib.hid ((hbW2.block _ (Array.getElem?_eq_some_iff.1 Zc4.out).1).trans Zc4.out)
            have zlW2 : W2.heap[W1.heap.size + z5.bs.size]? = some (.cells #[.int .i64 ln, .int .i64 ld] 35 (0, 0)) := by rw [← hW2]; exact alloc_keep (alloc_at (by simp [gw_size]))
            have ZlW2 := Lib.hid zlW2; clear zlW2
            have zhW2 : W2.heap[W1.heap.size + z5.bs.size + 1]? = some (.cells #[.int .i64 hn, .int .i64 hd] 35 (0, 0)) := by rw [← hW2]; exact alloc_at (by simp [gw_size] <;> omega)
            have ZhW2 := Lib.hid zhW2; clear zhW2
            have HBW2 := Lib.hid (thru hbW2 HBc.out)
            have SBW2 := Lib.hid hbW2; clear hbW2
            have HWW2 := Lib.hid hW2; clear hW2
            rw [HWW2.out]
            clear c00 c01 c02 c03 c10 c11 c20 c21 c30 c31 c40 c41 fc40 fc41
            have S2 := Lib.hid SBW2.out
            have ea0W2 : W2.cell? ⟨w.heap.size + 1, 0, none⟩ = some (.int .i64 alo) := cell_of_block ZaW2.out 0 (by simp)
            have ea1W2 : W2.cell? ⟨w.heap.size + 1, 1, none⟩ = some (.int .i64 ahi) := cell_of_block ZaW2.out 1 (by simp)
            have laW2 := (Array.getElem?_eq_some_iff.1 ZaW2.out).1
            have el0W2 : W2.cell? ⟨W1.heap.size + z5.bs.size, 0, none⟩ = some (.int .i64 ln) := cell_of_block ZlW2.out 0 (by simp)
            have el1W2 : W2.cell? ⟨W1.heap.size + z5.bs.size, 1, none⟩ = some (.int .i64 ld) := cell_of_block ZlW2.out 1 (by simp)
            have llW2 := (Array.getElem?_eq_some_iff.1 ZlW2.out).1
            have eh0W2 : W2.cell? ⟨W1.heap.size + z5.bs.size + 1, 0, none⟩ = some (.int .i64 hn) := cell_of_block ZhW2.out 0 (by simp)
            have eh1W2 : W2.cell? ⟨W1.heap.size + z5.bs.size + 1, 1, none⟩ = some (.int .i64 hd) := cell_of_block ZhW2.out 1 (by simp)
            have lhW2 := (Array.getElem?_eq_some_iff.1 ZhW2.out).1
            have er0W2 : W2.cell? ⟨w.heap.size + 1 + 1 + 1 + 1, 0, none⟩ = some (.int .i64 0) := cell_of_block ZrW2.out 0 (by simp)
            have fr0W2 := frozen_of_block ZrW2.out 0
            have er1W2 : W2.cell? ⟨w.heap.size + 1 + 1 + 1 + 1, 1, none⟩ = some (.int .i64 0) := cell_of_block ZrW2.out 1 (by simp)
            have fr1W2 := frozen_of_block ZrW2.out 1
            have lrW2 := (Array.getElem?_eq_some_iff.1 ZrW2.out).1
            go_wp2_with fail
            refine (Calls.grown (O1.out _)).mono ?_
            rintro e w1 ⟨rfl, z6, rfl⟩
            go_wp2_with fail
            refine (Calls.gw_of (O2.out _)).mono ?_
            rintro e w1 ⟨rfl, z7, rfl⟩
            go_wp2_with fail
            refine bodyPost_ret (v := .tuple #[.agg #[.int .i64 0, .int .i64 0], .int .i64 11]) (by simp [results, Try.results38, go_sem, *]) rfl ⟨rfl, ?_⟩
            exact ((HBW2.out.gw z7).setCell (by simp <;> omega) _).setCell (by simp <;> omega) _

set_option maxRecDepth 100000 in
set_option maxHeartbeats 4000000 in
theorem rMeasured_any (t : Tab) (alo ahi lo hi tlo thi : Int) (w : World) (hI : t.In w) (hf : t.Fits) :
    Calls Try.prog 40 #[t.val, .agg #[.int .i64 alo, .int .i64 ahi], .agg #[.int .i64 lo, .int .i64 hi], .agg #[.int .i64 tlo, .int .i64 thi]] w fun e w' => e = (t.meV alo ahi lo hi tlo thi).out (t.meE alo ahi lo hi tlo thi) ∧ Below w.heap.size w w' := by
  obtain ⟨W1, hW1⟩ : ∃ W1, ((((((w.alloc (.cells #[.slice t.aT t.nT t.cT, .slice t.aS t.nS t.cS, .slice t.H.a t.H.n t.H.c, .slice t.R.a t.R.n t.R.c] 25)).alloc (.cells #[.int .i64 alo, .int .i64 ahi] 27)).alloc (.cells #[.int .i64 lo, .int .i64 hi] 27)).alloc (.cells #[.int .i64 tlo, .int .i64 thi] 27)).alloc (.cells #[.int .i64 0, .int .i64 0] 27)).alloc (.cells #[.int .i64 0, .int .i64 0] 27)).alloc (.cells #[.int .i64 0, .int .i64 0] 27) = W1 := ⟨_, rfl⟩
  have hBc : Below w.heap.size w W1 := by rw [← hW1]; exact ((((((below_alloc _ _).alloc (by simp) _).alloc (by simp <;> omega) _).alloc (by simp <;> omega) _).alloc (by simp <;> omega) _).alloc (by simp <;> omega) _).alloc (by simp <;> omega) _
  have zc0 : W1.heap[w.heap.size]? = some (.cells #[.slice t.aT t.nT t.cT, .slice t.aS t.nS t.cS, .slice t.H.a t.H.n t.H.c, .slice t.R.a t.R.n t.R.c] 25 (0, 0)) := by rw [← hW1]; exact alloc_keep (alloc_keep (alloc_keep (alloc_keep (alloc_keep (alloc_keep (alloc_at rfl))))))
  have zc1 : W1.heap[w.heap.size + 1]? = some (.cells #[.int .i64 alo, .int .i64 ahi] 27 (0, 0)) := by rw [← hW1]; exact alloc_keep (alloc_keep (alloc_keep (alloc_keep (alloc_keep (alloc_at (by simp))))))
  have zc2 : W1.heap[w.heap.size + 1 + 1]? = some (.cells #[.int .i64 lo, .int .i64 hi] 27 (0, 0)) := by rw [← hW1]; exact alloc_keep (alloc_keep (alloc_keep (alloc_keep (alloc_at (by simp <;> omega)))))
  have zc3 : W1.heap[w.heap.size + 1 + 1 + 1]? = some (.cells #[.int .i64 tlo, .int .i64 thi] 27 (0, 0)) := by rw [← hW1]; exact alloc_keep (alloc_keep (alloc_keep (alloc_at (by simp <;> omega))))
  have zc4 : W1.heap[w.heap.size + 1 + 1 + 1 + 1]? = some (.cells #[.int .i64 0, .int .i64 0] 27 (0, 0)) := by rw [← hW1]; exact alloc_keep (alloc_keep (alloc_at (by simp <;> omega)))
  have zc5 : W1.heap[w.heap.size + 1 + 1 + 1 + 1 + 1]? = some (.cells #[.int .i64 0, .int .i64 0] 27 (0, 0)) := by rw [← hW1]; exact alloc_keep (alloc_at (by simp <;> omega))
  have zc6 : W1.heap[w.heap.size + 1 + 1 + 1 + 1 + 1 + 1]? = some (.cells #[.int .i64 0, .int .i64 0] 27 (0, 0)) := by rw [← hW1]; exact alloc_at (by simp <;> omega)
  have c00 : W1.cell? ⟨w.heap.size, 0, none⟩ = some (.slice t.aT t.nT t.cT) := cell_of_block zc0 0 (by simp)
  have c01 : W1.cell? ⟨w.heap.size, 1, none⟩ = some (.slice t.aS t.nS t.cS) := cell_of_block zc0 1 (by simp)
  have c02 : W1.cell? ⟨w.heap.size, 2, none⟩ = some (.slice t.H.a t.H.n t.H.c) := cell_of_block zc0 2 (by simp)
  have c03 : W1.cell? ⟨w.heap.size, 3, none⟩ = some (.slice t.R.a t.R.n t.R.c) := cell_of_block zc0 3 (by simp)
  have c10 : W1.cell? ⟨w.heap.size + 1, 0, none⟩ = some (.int .i64 alo) := cell_of_block zc1 0 (by simp)
  have c11 : W1.cell? ⟨w.heap.size + 1, 1, none⟩ = some (.int .i64 ahi) := cell_of_block zc1 1 (by simp)
  have c20 : W1.cell? ⟨w.heap.size + 1 + 1, 0, none⟩ = some (.int .i64 lo) := cell_of_block zc2 0 (by simp)
  have c21 : W1.cell? ⟨w.heap.size + 1 + 1, 1, none⟩ = some (.int .i64 hi) := cell_of_block zc2 1 (by simp)
  have c30 : W1.cell? ⟨w.heap.size + 1 + 1 + 1, 0, none⟩ = some (.int .i64 tlo) := cell_of_block zc3 0 (by simp)
  have c31 : W1.cell? ⟨w.heap.size + 1 + 1 + 1, 1, none⟩ = some (.int .i64 thi) := cell_of_block zc3 1 (by simp)
  have c40 : W1.cell? ⟨w.heap.size + 1 + 1 + 1 + 1, 0, none⟩ = some (.int .i64 0) := cell_of_block zc4 0 (by simp)
  have c41 : W1.cell? ⟨w.heap.size + 1 + 1 + 1 + 1, 1, none⟩ = some (.int .i64 0) := cell_of_block zc4 1 (by simp)
  have c50 : W1.cell? ⟨w.heap.size + 1 + 1 + 1 + 1 + 1, 0, none⟩ = some (.int .i64 0) := cell_of_block zc5 0 (by simp)
  have c51 : W1.cell? ⟨w.heap.size + 1 + 1 + 1 + 1 + 1, 1, none⟩ = some (.int .i64 0) := cell_of_block zc5 1 (by simp)
  have c60 : W1.cell? ⟨w.heap.size + 1 + 1 + 1 + 1 + 1 + 1, 0, none⟩ = some (.int .i64 0) := cell_of_block zc6 0 (by simp)
  have c61 : W1.cell? ⟨w.heap.size + 1 + 1 + 1 + 1 + 1 + 1, 1, none⟩ = some (.int .i64 0) := cell_of_block zc6 1 (by simp)
  have lc0 := (Array.getElem?_eq_some_iff.1 zc0).1
  have lc1 := (Array.getElem?_eq_some_iff.1 zc1).1
  have lc2 := (Array.getElem?_eq_some_iff.1 zc2).1
  have lc3 := (Array.getElem?_eq_some_iff.1 zc3).1
  have lc4 := (Array.getElem?_eq_some_iff.1 zc4).1
  have lc5 := (Array.getElem?_eq_some_iff.1 zc5).1
  have lc6 := (Array.getElem?_eq_some_iff.1 zc6).1
  have fc40 := frozen_of_block zc4 0
  have fc41 := frozen_of_block zc4 1
  have fc50 := frozen_of_block zc5 0
  have fc51 := frozen_of_block zc5 1
  have fc60 := frozen_of_block zc6 0
  have fc61 := frozen_of_block zc6 1
  have Zc0 := Lib.hid zc0
  have Zc1 := Lib.hid zc1
  have Zc2 := Lib.hid zc2
  have Zc3 := Lib.hid zc3
  have Zc4 := Lib.hid zc4
  have Zc5 := Lib.hid zc5
  have Zc6 := Lib.hid zc6
  clear zc0 zc1 zc2 zc3 zc4 zc5 zc6
  have HBc := Lib.hid hBc; clear hBc
  have HWc := Lib.hid hW1; clear hW1
  have I1 := Lib.hid (hI.below HBc.out)
  clear hI
  obtain ⟨E, hE⟩ : ∃ E, (t.meV alo ahi lo hi tlo thi).out (t.meE alo ahi lo hi tlo thi) = E := ⟨_, rfl⟩
  rw [hE]
  have HE := Lib.hid hE
  clear hE
  have SP' := Lib.hid (fun W (hb : Below W1.heap.size W1 W) => rwithin_b (b := spanB alo ahi 0 1099511627776) alo ahi 0 1099511627776 W rfl)
  cases hok : t.okB with
  | false =>
    have e1 : t.meE alo ahi lo hi tlo thi = 1 := by unfold Tab.meE; rw [if_neg (by unfold Tab.meB; simp [hok])]
    have e2 : t.meV alo ahi lo hi tlo thi = Me.zero := if_neg (by rw [e1]; decide)
    have HE2 := Lib.hid (show Me.zero.out 1 = E by rw [← HE.out, e1, e2])
    clear e1 e2
    have TB' := Lib.hid (fun W (hb : Below W1.heap.size W1 W) => rTable_b (b := false) t W (I1.out.below hb) hf hok)
    unfold Tab.val at TB' ⊢
    clear hok
    go_enter Try.func40, Try.ntmps40
    go_upto_region 1 with (fail)
    rw [HWc.out]
    go_wp2_with fail
    refine (Calls.grown (TB'.out _ (Below.refl _ W1))).mono ?_
    rintro e w1 ⟨rfl, z1, rfl⟩
    go_wp2_with fail
    refine bodyPost_ret (v := .tuple #[.agg #[.int .i64 0, .int .i64 0], .agg #[.int .i64 0, .int .i64 0], .agg #[.int .i64 0, .int .i64 0], .int .i64 1]) (by simp [results, Try.results40, go_sem, *]) rfl ⟨HE2.out, ?_⟩
    exact ((((((HBc.out.gw z1).setCell (by simp <;> omega) _).setCell (by simp <;> omega) _).setCell (by simp <;> omega) _).setCell (by simp <;> omega) _).setCell (by simp <;> omega) _).setCell (by simp <;> omega) _
  | true =>
    have TB' := Lib.hid (fun W (hb : Below W1.heap.size W1 W) => rTable_b (b := true) t W (I1.out.below hb) hf hok)
    cases hsp : spanB alo ahi 0 1099511627776 with
    | false =>
      have e1 : t.meE alo ahi lo hi tlo thi = 1 := by unfold Tab.meE; rw [if_neg (by unfold Tab.meB; simp [hsp])]
      have e2 : t.meV alo ahi lo hi tlo thi = Me.zero := if_neg (by rw [e1]; decide)
      have HE2 := Lib.hid (show Me.zero.out 1 = E by rw [← HE.out, e1, e2])
      clear e1 e2
      simp only [hsp] at SP'
      unfold Tab.val at TB' ⊢
      clear hsp hok
      go_enter Try.func40, Try.ntmps40
      go_upto_region 1 with (fail)
      rw [HWc.out]
      go_wp2_with fail
      refine (Calls.grown (TB'.out _ (Below.refl _ W1))).mono ?_
      rintro e w1 ⟨rfl, z1, rfl⟩
      go_wp2_with fail
      refine (Calls.gw_of (SP'.out _ (below_gw W1 z1))).mono ?_
      rintro e w1 ⟨rfl, z2, rfl⟩
      go_wp2_with fail
      refine bodyPost_ret (v := .tuple #[.agg #[.int .i64 0, .int .i64 0], .agg #[.int .i64 0, .int .i64 0], .agg #[.int .i64 0, .int .i64 0], .int .i64 1]) (by simp [results, Try.results40, go_sem, *]) rfl ⟨HE2.out, ?_⟩
      exact ((((((HBc.out.gw z2).setCell (by simp <;> omega) _).setCell (by simp <;> omega) _).setCell (by simp <;> omega) _).setCell (by simp <;> omega) _).setCell (by simp <;> omega) _).setCell (by simp <;> omega) _
    | true =>
      simp only [hsp] at SP'
      have h : t.meB alo ahi = true := by unfold Tab.meB; rw [hok, hsp]; rfl
      have EE := Lib.hid (show t.meE alo ahi lo hi tlo thi = if t.strE lo hi tlo thi = 0 then t.voE alo ahi (t.strL lo hi tlo thi) (t.strH lo hi tlo thi) tlo thi else t.strE lo hi tlo thi by unfold Tab.meE; rw [if_pos h])
      have VR := Lib.hid (fun (h : t.voE alo ahi (t.strL lo hi tlo thi) (t.strH lo hi tlo thi) tlo thi = 0) => vo_range h)
      have SZ := Lib.hid (fun (h : ¬ t.strE lo hi tlo thi = 0) => Tab.str_zero h)
      have VZ := Lib.hid (fun (h : ¬ t.voE alo ahi (t.strL lo hi tlo thi) (t.strH lo hi tlo thi) tlo thi = 0) => Tab.vo_zero h)
      have FS : Hid (t.strE lo hi tlo thi = 0 → 0 ≤ t.strL lo hi tlo thi ∧ t.strL lo hi tlo thi ≤ t.strH lo hi tlo thi ∧ t.strH lo hi tlo thi ≤ 10000) := Lib.hid (fun h => ⟨(str_range h).1, (str_range h).2.1, (str_range h).2.2.1⟩)
      have EV := Lib.hid (show t.meV alo ahi lo hi tlo thi = if t.meE alo ahi lo hi tlo thi = 0 then ⟨t.voLo alo ahi (t.strL lo hi tlo thi) (t.strH lo hi tlo thi) tlo thi, t.voHi alo ahi (t.strL lo hi tlo thi) (t.strH lo hi tlo thi) tlo thi, t.strL lo hi tlo thi, t.strH lo hi tlo thi, puLo (t.voLo alo ahi (t.strL lo hi tlo thi) (t.strH lo hi tlo thi) tlo thi) (t.strL lo hi tlo thi), puHi (t.voHi alo ahi (t.strL lo hi tlo thi) (t.strH lo hi tlo thi) tlo thi) (t.strH lo hi tlo thi)⟩ else Me.zero from rfl)
      have ST' := Lib.hid (fun W (hb : Below W1.heap.size W1 W) => rStrength_any t lo hi tlo thi W (I1.out.below hb) hf)
      have VO' := Lib.hid (fun W (hb : Below W1.heap.size W1 W) => rVolume_any t alo ahi (t.strL lo hi tlo thi) (t.strH lo hi tlo thi) tlo thi W (I1.out.below hb) hf)
      clear h hok hsp hf
      generalize t.meV alo ahi lo hi tlo thi = m at *
      generalize t.meE alo ahi lo hi tlo thi = e9 at *
      generalize t.voLo alo ahi (t.strL lo hi tlo thi) (t.strH lo hi tlo thi) tlo thi = vl at *
      generalize t.voHi alo ahi (t.strL lo hi tlo thi) (t.strH lo hi tlo thi) tlo thi = vh at *
      generalize t.voE alo ahi (t.strL lo hi tlo thi) (t.strH lo hi tlo thi) tlo thi = ve at *
      generalize t.strL lo hi tlo thi = sl at *
      generalize t.strH lo hi tlo thi = sh at *
      generalize t.strE lo hi tlo thi = se at *
      unfold Tab.val at TB' ST' VO' ⊢
      go_enter Try.func40, Try.ntmps40
      go_upto_region 1 with (fail)
      rw [HWc.out]
      go_wp2_with fail
      refine (Calls.grown (TB'.out _ (Below.refl _ W1))).mono ?_
      rintro e w1 ⟨rfl, z1, rfl⟩
      go_wp2_with fail
      refine (Calls.gw_of (SP'.out _ (below_gw W1 z1))).mono ?_
      rintro e w1 ⟨rfl, z2, rfl⟩
      go_wp2_with fail
      refine (Calls.gw_of (ST'.out _ (below_gw W1 z2))).mono ?_
      rintro e w1 ⟨rfl, z3, rfl⟩
      by_cases hs : se = 0
      · obtain ⟨f1, f2, f3⟩ := FS.out hs
        have e1 := EE.out
        rw [if_pos hs] at e1
        replace EE := Lib.hid e1
        clear e1
        subst hs
        go_upto_region 4 with (fail)
        obtain ⟨W2, hW2⟩ : ∃ W2, ((gw W1 z3)).alloc (.cells #[.int .i64 sl, .int .i64 sh] 27) = W2 := ⟨_, rfl⟩
        have hbW2 : Below W1.heap.size W1 W2 := by rw [← hW2]; exact (below_gw W1 z3).alloc (by simp [gw_size]) _
        have ZtW2 := Lib.hid ((hbW2.block _ (Array.getElem?_eq_some_iff.1 Zc0.out).1).trans Zc0.out)
        have ZaW2 := Lib.hid ((hbW2.block _ (Array.getElem?_eq_some_iff.1 Zc1.out).1).trans Zc1.out)
        have ZxW2 := Lib.hid ((hbW2.block _ (Array.getElem?_eq_some_iff.1 Zc2.out).1).trans Zc2.out)
        have ZmW2 := Lib.hid ((hbW2.block _ (Array.getElem?_eq_some_iff.1 Zc3.out).1).trans Zc3.out)
        have ZpW2 := Lib.hid ((hbW2.block _ (Array.getElem?_eq_some_iff.1 Zc4.out).1).trans Zc4.out)
        have ZqW2 := Lib.hid ((hbW2.block _ (Array.getElem?_eq_some_iff.1 Zc5.out).1).trans Zc5.out)
        have ZrW2 := Lib.hid ((hbW2.block _ (Array.getElem?_eq_some_iff.1 Zc6.out).1).trans Zc6.out)
        have zsW2 : W2.heap[W1.heap.size + z3.bs.size]? = some (.cells #[.int .i64 sl, .int .i64 sh] 27 (0, 0)) := by rw [← hW2]; exact alloc_at (by simp [gw_size])
        have ZsW2 := Lib.hid zsW2; clear zsW2
        have HBW2 := Lib.hid (thru hbW2 HBc.out)
        have SBW2 := Lib.hid hbW2; clear hbW2
        have HWW2 := Lib.hid hW2; clear hW2
        rw [HWW2.out]
        clear c00 c01 c02 c03 c10 c11 c20 c21 c30 c31 c40 c41 c50 c51 c60 c61 fc40 fc41 fc50 fc51 fc60 fc61
        have S2 := Lib.hid SBW2.out
        have et0W2 : W2.cell? ⟨w.heap.size, 0, none⟩ = some (.slice t.aT t.nT t.cT) := cell_of_block ZtW2.out 0 (by simp)
        have et1W2 : W2.cell? ⟨w.heap.size, 1, none⟩ = some (.slice t.aS t.nS t.cS) := cell_of_block ZtW2.out 1 (by simp)
        have et2W2 : W2.cell? ⟨w.heap.size, 2, none⟩ = some (.slice t.H.a t.H.n t.H.c) := cell_of_block ZtW2.out 2 (by simp)
        have et3W2 : W2.cell? ⟨w.heap.size, 3, none⟩ = some (.slice t.R.a t.R.n t.R.c) := cell_of_block ZtW2.out 3 (by simp)
        have ltW2 := (Array.getElem?_eq_some_iff.1 ZtW2.out).1
        have ea0W2 : W2.cell? ⟨w.heap.size + 1, 0, none⟩ = some (.int .i64 alo) := cell_of_block ZaW2.out 0 (by simp)
        have ea1W2 : W2.cell? ⟨w.heap.size + 1, 1, none⟩ = some (.int .i64 ahi) := cell_of_block ZaW2.out 1 (by simp)
        have laW2 := (Array.getElem?_eq_some_iff.1 ZaW2.out).1
        have em0W2 : W2.cell? ⟨w.heap.size + 1 + 1 + 1, 0, none⟩ = some (.int .i64 tlo) := cell_of_block ZmW2.out 0 (by simp)
        have em1W2 : W2.cell? ⟨w.heap.size + 1 + 1 + 1, 1, none⟩ = some (.int .i64 thi) := cell_of_block ZmW2.out 1 (by simp)
        have lmW2 := (Array.getElem?_eq_some_iff.1 ZmW2.out).1
        have es0W2 : W2.cell? ⟨W1.heap.size + z3.bs.size, 0, none⟩ = some (.int .i64 sl) := cell_of_block ZsW2.out 0 (by simp)
        have es1W2 : W2.cell? ⟨W1.heap.size + z3.bs.size, 1, none⟩ = some (.int .i64 sh) := cell_of_block ZsW2.out 1 (by simp)
        have lsW2 := (Array.getElem?_eq_some_iff.1 ZsW2.out).1
        go_wp2_with fail
        refine (Calls.grown (VO'.out _ (S2.out))).mono ?_
        rintro e w1 ⟨rfl, z4, rfl⟩
        by_cases hv : ve = 0
        · obtain ⟨v1, v2, v3⟩ := VR.out hv
          have e1 := EE.out
          rw [hv] at e1
          have e2 := EV.out
          rw [if_pos e1] at e2
          have e3 := HE.out
          rw [e1, e2] at e3
          unfold Me.out at e3
          dsimp only at e3
          replace HE := Lib.hid e3
          clear e1 e2 e3
          subst hv
          have PU := Lib.hid (fun w => rpure_any vl vh sl sh w v1 (by omega) (by omega) v3 f1 (by omega) (by omega) f3)
          clear EE EV VR VZ SZ FS f1 f2 f3 v1 v2 v3
          generalize puLo vl sl = pl at *
          generalize puHi vh sh = ph at *
          go_upto_region 9 with (fail)
          obtain ⟨W3, hW3⟩ : ∃ W3, ((gw W2 z4)).alloc (.cells #[.int .i64 vl, .int .i64 vh] 27) = W3 := ⟨_, rfl⟩
          have hbW3 : Below W2.heap.size W2 W3 := by rw [← hW3]; exact (below_gw W2 z4).alloc (by simp [gw_size]) _
          have ZtW3 := Lib.hid ((hbW3.block _ (Array.getElem?_eq_some_iff.1 ZtW2.out).1).trans ZtW2.out)
          have ZaW3 := Lib.hid ((hbW3.block _ (Array.getElem?_eq_some_iff.1 ZaW2.out).1).trans ZaW2.out)
          have ZxW3 := Lib.hid ((hbW3.block _ (Array.getElem?_eq_some_iff.1 ZxW2.out).1).trans ZxW2.out)
          have ZmW3 := Lib.hid ((hbW3.block _ (Array.getElem?_eq_some_iff.1 ZmW2.out).1).trans ZmW2.out)
          have ZpW3 := Lib.hid ((hbW3.block _ (Array.getElem?_eq_some_iff.1 ZpW2.out).1).trans ZpW2.out)
          have ZqW3 := Lib.hid ((hbW3.block _ (Array.getElem?_eq_some_iff.1 ZqW2.out).1).trans ZqW2.out)
          have ZrW3 := Lib.hid ((hbW3.block _ (Array.getElem?_eq_some_iff.1 ZrW2.out).1).trans ZrW2.out)
          have ZsW3 := Lib.hid ((hbW3.block _ (Array.getElem?_eq_some_iff.1 ZsW2.out).1).trans ZsW2.out)
          have zvW3 : W3.heap[W2.heap.size + z4.bs.size]? = some (.cells #[.int .i64 vl, .int .i64 vh] 27 (0, 0)) := by rw [← hW3]; exact alloc_at (by simp [gw_size])
          have ZvW3 := Lib.hid zvW3; clear zvW3
          have HBW3 := Lib.hid (thru hbW3 HBW2.out)
          have SBW3 := Lib.hid hbW3; clear hbW3
          have HWW3 := Lib.hid hW3; clear hW3
          rw [HWW3.out]
          clear et0W2 et1W2 et2W2 et3W2 ea0W2 ea1W2 em0W2 em1W2 es0W2 es1W2
          have S3 := Lib.hid (S2.out.trans (SBW3.out.mono S2.out.size))
          have ep0W3 : W3.cell? ⟨w.heap.size + 1 + 1 + 1 + 1, 0, none⟩ = some (.int .i64 0) := cell_of_block ZpW3.out 0 (by simp)
          have fp0W3 := frozen_of_block ZpW3.out 0
          have ep1W3 : W3.cell? ⟨w.heap.size + 1 + 1 + 1 + 1, 1, none⟩ = some (.int .i64 0) := cell_of_block ZpW3.out 1 (by simp)
          have fp1W3 := frozen_of_block ZpW3.out 1
          have lpW3 := (Array.getElem?_eq_some_iff.1 ZpW3.out).1
          have eq0W3 : W3.cell? ⟨w.heap.size + 1 + 1 + 1 + 1 + 1, 0, none⟩ = some (.int .i64 0) := cell_of_block ZqW3.out 0 (by simp)
          have fq0W3 := frozen_of_block ZqW3.out 0
          have eq1W3 : W3.cell? ⟨w.heap.size + 1 + 1 + 1 + 1 + 1, 1, none⟩ = some (.int .i64 0) := cell_of_block ZqW3.out 1 (by simp)
          have fq1W3 := frozen_of_block ZqW3.out 1
          have lqW3 := (Array.getElem?_eq_some_iff.1 ZqW3.out).1
          have er0W3 : W3.cell? ⟨w.heap.size + 1 + 1 + 1 + 1 + 1 + 1, 0, none⟩ = some (.int .i64 0) := cell_of_block ZrW3.out 0 (by simp)
          have fr0W3 := frozen_of_block ZrW3.out 0
          have er1W3 : W3.cell? ⟨w.heap.size + 1 + 1 + 1 + 1 + 1 + 1, 1, none⟩ = some (.int .i64 0) := cell_of_block ZrW3.out 1 (by simp)
          have fr1W3 := frozen_of_block ZrW3.out 1
          have lrW3 := (Array.getElem?_eq_some_iff.1 ZrW3.out).1
          have es0W3 : W3.cell? ⟨W1.heap.size + z3.bs.size, 0, none⟩ = some (.int .i64 sl) := cell_of_block ZsW3.out 0 (by simp)
          have es1W3 : W3.cell? ⟨W1.heap.size + z3.bs.size, 1, none⟩ = some (.int .i64 sh) := cell_of_block ZsW3.out 1 (by simp)
          have lsW3 := (Array.getElem?_eq_some_iff.1 ZsW3.out).1
          have ev0W3 : W3.cell? ⟨W2.heap.size + z4.bs.size, 0, none⟩ = some (.int .i64 vl) := cell_of_block ZvW3.out 0 (by simp)
          have ev1W3 : W3.cell? ⟨W2.heap.size + z4.bs.size, 1, none⟩ = some (.int .i64 vh) := cell_of_block ZvW3.out 1 (by simp)
          have lvW3 := (Array.getElem?_eq_some_iff.1 ZvW3.out).1
          refine wp_region_put3 [true, true, true, true, true, false, false, false, true] ⟨5, 8, 53, 27, (w.heap.size + 1 + 1 + 1 + 1), #[.int .i64 0, .int .i64 0], #[.int .i64 vl, .int .i64 vh]⟩ ⟨6, 9, 54, 27, (w.heap.size + 1 + 1 + 1 + 1 + 1), #[.int .i64 0, .int .i64 0], #[.int .i64 sl, .int .i64 sh]⟩ ⟨7, 10, 57, 27, (w.heap.size + 1 + 1 + 1 + 1 + 1 + 1), #[.int .i64 0, .int .i64 0], #[.int .i64 pl, .int .i64 ph]⟩ (by kernel_rfl) rfl (by kernel_rfl) (fun s hs => by injection (show some _ = some s from hs) with hs; subst hs; rfl) (fun s hs => by injection (show some _ = some s from hs) with hs; subst hs; rfl) (fun s hs => by injection (show some _ = some s from hs) with hs; subst hs; rfl) (by dsimp only; omega) (by dsimp only; omega) (by dsimp only; omega) ZpW3.out ZqW3.out ZrW3.out (by kernel_rfl) (by kernel_rfl) (by kernel_rfl) rfl rfl rfl (by simp [Value.oneCell']) (by simp [Value.oneCell']) (by simp [Value.oneCell']) ?_
          apply Exists.intro
          refine ⟨fun Wx hN hZ S hS hx => ?_, ?_, ?_, ?_, fun wx PX => ?_⟩
          · haveI := hx
            have ys := hN _ _ (by dsimp only; omega) (by dsimp only; omega) (by dsimp only; omega) ZsW3.out
            have ys0 : Wx.cell? ⟨W1.heap.size + z3.bs.size, 0, none⟩ = some (.int .i64 sl) := cell_of_block ys 0 (by simp)
            have ys1 : Wx.cell? ⟨W1.heap.size + z3.bs.size, 1, none⟩ = some (.int .i64 sh) := cell_of_block ys 1 (by simp)
            have yls := (Array.getElem?_eq_some_iff.1 ys).1
            clear ys
            have yv := hN _ _ (by dsimp only; omega) (by dsimp only; omega) (by dsimp only; omega) ZvW3.out
            have yv0 : Wx.cell? ⟨W2.heap.size + z4.bs.size, 0, none⟩ = some (.int .i64 vl) := cell_of_block yv 0 (by simp)
            have yv1 : Wx.cell? ⟨W2.heap.size + z4.bs.size, 1, none⟩ = some (.int .i64 vh) := cell_of_block yv 1 (by simp)
            have ylv := (Array.getElem?_eq_some_iff.1 yv).1
            clear yv
            clear hN hZ
            simp only [pickM]
            repeat (go_big_quiet_step ((go_at_call 78; with_reducible exact Calls.gwS hS (PU.out _))))
            exact wpQuiet_nil rfl
          · exact ⟨rfl, rfl⟩
          · exact ⟨rfl, rfl⟩
          · exact ⟨rfl, rfl⟩
          have x0 := cell_of_block PX.b1 0 (by simp)
          have x1 := cell_of_block PX.b1 1 (by simp)
          have x2 := cell_of_block PX.b2 0 (by simp)
          have x3 := cell_of_block PX.b2 1 (by simp)
          have x4 := cell_of_block PX.b3 0 (by simp)
          have x5 := cell_of_block PX.b3 1 (by simp)
          simp only [List.getElem_toArray, List.getElem_cons_zero, List.getElem_cons_succ] at x0 x1 x2 x3 x4 x5
          have LOW := Lib.hid (PX.below HBW3.out (Nat.le_refl _) (by dsimp only; omega) (by dsimp only; omega) (by dsimp only; omega))
          clear PX
          go_wp2_with fail
          refine bodyPost_ret (v := .tuple #[.agg #[.int .i64 vl, .int .i64 vh], .agg #[.int .i64 sl, .int .i64 sh], .agg #[.int .i64 pl, .int .i64 ph], .int .i64 0]) (by simp [results, Try.results40, go_sem, *]) rfl ⟨HE.out, LOW.out⟩
        · have z0 := VZ.out hv
          obtain ⟨z0a, z0b⟩ := z0
          subst z0a z0b
          have ne : (ve != 0) = true := by simpa using hv
          have e1 := EE.out
          have e2 := EV.out
          rw [if_neg (by rw [e1]; exact hv)] at e2
          have e3 := HE.out
          rw [e1, e2] at e3
          unfold Me.out Me.zero at e3
          dsimp only at e3
          replace HE := Lib.hid e3
          clear e1 e2 e3 EE EV VR VZ SZ FS f1 f2 f3 hv
          go_upto_region 7 with (fail)
          obtain ⟨W3, hW3⟩ : ∃ W3, ((gw W2 z4)).alloc (.cells #[.int .i64 0, .int .i64 0] 27) = W3 := ⟨_, rfl⟩
          have hbW3 : Below W2.heap.size W2 W3 := by rw [← hW3]; exact (below_gw W2 z4).alloc (by simp [gw_size]) _
          have ZtW3 := Lib.hid ((hbW3.block _ (Array.getElem?_eq_some_iff.1 ZtW2.out).1).trans ZtW2.out)
          have ZaW3 := Lib.hid ((hbW3.block _ (Array.getElem?_eq_some_iff.1 ZaW2.out).1).trans ZaW2.out)
          have ZxW3 := Lib.hid ((hbW3.block _ (Array.getElem?_eq_some_iff.1 ZxW2.out).1).trans ZxW2.out)
          have ZmW3 := Lib.hid ((hbW3.block _ (Array.getElem?_eq_some_iff.1 ZmW2.out).1).trans ZmW2.out)
          have ZpW3 := Lib.hid ((hbW3.block _ (Array.getElem?_eq_some_iff.1 ZpW2.out).1).trans ZpW2.out)
          have ZqW3 := Lib.hid ((hbW3.block _ (Array.getElem?_eq_some_iff.1 ZqW2.out).1).trans ZqW2.out)
          have ZrW3 := Lib.hid ((hbW3.block _ (Array.getElem?_eq_some_iff.1 ZrW2.out).1).trans ZrW2.out)
          have ZsW3 := Lib.hid ((hbW3.block _ (Array.getElem?_eq_some_iff.1 ZsW2.out).1).trans ZsW2.out)
          have zvW3 : W3.heap[W2.heap.size + z4.bs.size]? = some (.cells #[.int .i64 0, .int .i64 0] 27 (0, 0)) := by rw [← hW3]; exact alloc_at (by simp [gw_size])
          have ZvW3 := Lib.hid zvW3; clear zvW3
          have HBW3 := Lib.hid (thru hbW3 HBW2.out)
          have SBW3 := Lib.hid hbW3; clear hbW3
          have HWW3 := Lib.hid hW3; clear hW3
          rw [HWW3.out]
          clear et0W2 et1W2 et2W2 et3W2 ea0W2 ea1W2 em0W2 em1W2 es0W2 es1W2
          have S3 := Lib.hid (S2.out.trans (SBW3.out.mono S2.out.size))
          have ep0W3 : W3.cell? ⟨w.heap.size + 1 + 1 + 1 + 1, 0, none⟩ = some (.int .i64 0) := cell_of_block ZpW3.out 0 (by simp)
          have fp0W3 := frozen_of_block ZpW3.out 0
          have ep1W3 : W3.cell? ⟨w.heap.size + 1 + 1 + 1 + 1, 1, none⟩ = some (.int .i64 0) := cell_of_block ZpW3.out 1 (by simp)
          have fp1W3 := frozen_of_block ZpW3.out 1
          have lpW3 := (Array.getElem?_eq_some_iff.1 ZpW3.out).1
          have eq0W3 : W3.cell? ⟨w.heap.size + 1 + 1 + 1 + 1 + 1, 0, none⟩ = some (.int .i64 0) := cell_of_block ZqW3.out 0 (by simp)
          have fq0W3 := frozen_of_block ZqW3.out 0
          have eq1W3 : W3.cell? ⟨w.heap.size + 1 + 1 + 1 + 1 + 1, 1, none⟩ = some (.int .i64 0) := cell_of_block ZqW3.out 1 (by simp)
          have fq1W3 := frozen_of_block ZqW3.out 1
          have lqW3 := (Array.getElem?_eq_some_iff.1 ZqW3.out).1
          have er0W3 : W3.cell? ⟨w.heap.size + 1 + 1 + 1 + 1 + 1 + 1, 0, none⟩ = some (.int .i64 0) := cell_of_block ZrW3.out 0 (by simp)
          have fr0W3 := frozen_of_block ZrW3.out 0
          have er1W3 : W3.cell? ⟨w.heap.size + 1 + 1 + 1 + 1 + 1 + 1, 1, none⟩ = some (.int .i64 0) := cell_of_block ZrW3.out 1 (by simp)
          have fr1W3 := frozen_of_block ZrW3.out 1
          have lrW3 := (Array.getElem?_eq_some_iff.1 ZrW3.out).1
          have es0W3 : W3.cell? ⟨W1.heap.size + z3.bs.size, 0, none⟩ = some (.int .i64 sl) := cell_of_block ZsW3.out 0 (by simp)
          have es1W3 : W3.cell? ⟨W1.heap.size + z3.bs.size, 1, none⟩ = some (.int .i64 sh) := cell_of_block ZsW3.out 1 (by simp)
          have lsW3 := (Array.getElem?_eq_some_iff.1 ZsW3.out).1
          go_wp2_with fail
          refine bodyPost_ret (v := .tuple #[.agg #[.int .i64 0, .int .i64 0], .agg #[.int .i64 0, .int .i64 0], .agg #[.int .i64 0, .int .i64 0], .int .i64 ve]) (by simp [results, Try.results40, go_sem, *]) rfl ⟨HE.out, ?_⟩
          exact ((((((HBW3.out).setCell (by simp <;> omega) _).setCell (by simp <;> omega) _).setCell (by simp <;> omega) _).setCell (by simp <;> omega) _).setCell (by simp <;> omega) _).setCell (by simp <;> omega) _
      · have z0 := SZ.out hs
        obtain ⟨z0a, z0b⟩ := z0
        subst z0a z0b
        have ne : (se != 0) = true := by simpa using hs
        have e1 := EE.out
        rw [if_neg hs] at e1
        have e2 := EV.out
        rw [if_neg (by rw [e1]; exact hs)] at e2
        have e3 := HE.out
        rw [e1, e2] at e3
        unfold Me.out Me.zero at e3
        dsimp only at e3
        replace HE := Lib.hid e3
        clear e1 e2 e3 EE EV VR VZ SZ FS hs
        go_upto_region 4 with (fail)
        obtain ⟨W2, hW2⟩ : ∃ W2, ((gw W1 z3)).alloc (.cells #[.int .i64 0, .int .i64 0] 27) = W2 := ⟨_, rfl⟩
        have hbW2 : Below W1.heap.size W1 W2 := by rw [← hW2]; exact (below_gw W1 z3).alloc (by simp [gw_size]) _
        have ZtW2 := Lib.hid ((hbW2.block _ (Array.getElem?_eq_some_iff.1 Zc0.out).1).trans Zc0.out)
        have ZaW2 := Lib.hid ((hbW2.block _ (Array.getElem?_eq_some_iff.1 Zc1.out).1).trans Zc1.out)
        have ZxW2 := Lib.hid ((hbW2.block _ (Array.getElem?_eq_some_iff.1 Zc2.out).1).trans Zc2.out)
        have ZmW2 := Lib.hid ((hbW2.block _ (Array.getElem?_eq_some_iff.1 Zc3.out).1).trans Zc3.out)
        have ZpW2 := Lib.hid ((hbW2.block _ (Array.getElem?_eq_some_iff.1 Zc4.out).1).trans Zc4.out)
        have ZqW2 := Lib.hid ((hbW2.block _ (Array.getElem?_eq_some_iff.1 Zc5.out).1).trans Zc5.out)
        have ZrW2 := Lib.hid ((hbW2.block _ (Array.getElem?_eq_some_iff.1 Zc6.out).1).trans Zc6.out)
        have zsW2 : W2.heap[W1.heap.size + z3.bs.size]? = some (.cells #[.int .i64 0, .int .i64 0] 27 (0, 0)) := by rw [← hW2]; exact alloc_at (by simp [gw_size])
        have ZsW2 := Lib.hid zsW2; clear zsW2
        have HBW2 := Lib.hid (thru hbW2 HBc.out)
        have SBW2 := Lib.hid hbW2; clear hbW2
        have HWW2 := Lib.hid hW2; clear hW2
        rw [HWW2.out]
        clear c00 c01 c02 c03 c10 c11 c20 c21 c30 c31 c40 c41 c50 c51 c60 c61 fc40 fc41 fc50 fc51 fc60 fc61
        have S2 := Lib.hid SBW2.out
        have ep0W2 : W2.cell? ⟨w.heap.size + 1 + 1 + 1 + 1, 0, none⟩ = some (.int .i64 0) := cell_of_block ZpW2.out 0 (by simp)
        have fp0W2 := frozen_of_block ZpW2.out 0
        have ep1W2 : W2.cell? ⟨w.heap.size + 1 + 1 + 1 + 1, 1, none⟩ = some (.int .i64 0) := cell_of_block ZpW2.out 1 (by simp)
        have fp1W2 := frozen_of_block ZpW2.out 1
        have lpW2 := (Array.getElem?_eq_some_iff.1 ZpW2.out).1
        have eq0W2 : W2.cell? ⟨w.heap.size + 1 + 1 + 1 + 1 + 1, 0, none⟩ = some (.int .i64 0) := cell_of_block ZqW2.out 0 (by simp)
        have fq0W2 := frozen_of_block ZqW2.out 0
        have eq1W2 : W2.cell? ⟨w.heap.size + 1 + 1 + 1 + 1 + 1, 1, none⟩ = some (.int .i64 0) := cell_of_block ZqW2.out 1 (by simp)
        have fq1W2 := frozen_of_block ZqW2.out 1
        have lqW2 := (Array.getElem?_eq_some_iff.1 ZqW2.out).1
        have er0W2 : W2.cell? ⟨w.heap.size + 1 + 1 + 1 + 1 + 1 + 1, 0, none⟩ = some (.int .i64 0) := cell_of_block ZrW2.out 0 (by simp)
        have fr0W2 := frozen_of_block ZrW2.out 0
        have er1W2 : W2.cell? ⟨w.heap.size + 1 + 1 + 1 + 1 + 1 + 1, 1, none⟩ = some (.int .i64 0) := cell_of_block ZrW2.out 1 (by simp)
        have fr1W2 := frozen_of_block ZrW2.out 1
        have lrW2 := (Array.getElem?_eq_some_iff.1 ZrW2.out).1
        go_wp2_with fail
        refine bodyPost_ret (v := .tuple #[.agg #[.int .i64 0, .int .i64 0], .agg #[.int .i64 0, .int .i64 0], .agg #[.int .i64 0, .int .i64 0], .int .i64 se]) (by simp [results, Try.results40, go_sem, *]) rfl ⟨HE.out, ?_⟩
        exact ((((((HBW2.out).setCell (by simp <;> omega) _).setCell (by simp <;> omega) _).setCell (by simp <;> omega) _).setCell (by simp <;> omega) _).setCell (by simp <;> omega) _).setCell (by simp <;> omega) _

set_option maxRecDepth 100000 in
set_option maxHeartbeats 4000000 in
theorem volumes_any (t : Tab) (alo ahi slo shi lo hi tlo thi : Int) (w : World) (hI : t.In w) (hL : t.Lens) :
    Calls Try.prog 9 #[t.val, .agg #[.int .i64 alo, .int .i64 ahi], .agg #[.int .i64 slo, .int .i64 shi], .agg #[.int .i64 lo, .int .i64 hi], .agg #[.int .i64 tlo, .int .i64 thi]] w fun e w' => e = .returned (.bool true) ∧ Below w.heap.size w w' := by
  obtain ⟨W1, hW1⟩ : ∃ W1, ((((w.alloc (.cells #[.slice t.aT t.nT t.cT, .slice t.aS t.nS t.cS, .slice t.H.a t.H.n t.H.c, .slice t.R.a t.R.n t.R.c] 25)).alloc (.cells #[.int .i64 alo, .int .i64 ahi] 27)).alloc (.cells #[.int .i64 slo, .int .i64 shi] 27)).alloc (.cells #[.int .i64 lo, .int .i64 hi] 27)).alloc (.cells #[.int .i64 tlo, .int .i64 thi] 27) = W1 := ⟨_, rfl⟩
  have hBc : Below w.heap.size w W1 := by rw [← hW1]; exact ((((below_alloc _ _).alloc (by simp) _).alloc (by simp <;> omega) _).alloc (by simp <;> omega) _).alloc (by simp <;> omega) _
  have zc0 : W1.heap[w.heap.size]? = some (.cells #[.slice t.aT t.nT t.cT, .slice t.aS t.nS t.cS, .slice t.H.a t.H.n t.H.c, .slice t.R.a t.R.n t.R.c] 25 (0, 0)) := by rw [← hW1]; exact alloc_keep (alloc_keep (alloc_keep (alloc_keep (alloc_at rfl))))
  have zc1 : W1.heap[w.heap.size + 1]? = some (.cells #[.int .i64 alo, .int .i64 ahi] 27 (0, 0)) := by rw [← hW1]; exact alloc_keep (alloc_keep (alloc_keep (alloc_at (by simp))))
  have zc2 : W1.heap[w.heap.size + 1 + 1]? = some (.cells #[.int .i64 slo, .int .i64 shi] 27 (0, 0)) := by rw [← hW1]; exact alloc_keep (alloc_keep (alloc_at (by simp <;> omega)))
  have zc3 : W1.heap[w.heap.size + 1 + 1 + 1]? = some (.cells #[.int .i64 lo, .int .i64 hi] 27 (0, 0)) := by rw [← hW1]; exact alloc_keep (alloc_at (by simp <;> omega))
  have zc4 : W1.heap[w.heap.size + 1 + 1 + 1 + 1]? = some (.cells #[.int .i64 tlo, .int .i64 thi] 27 (0, 0)) := by rw [← hW1]; exact alloc_at (by simp <;> omega)
  have c00 : W1.cell? ⟨w.heap.size, 0, none⟩ = some (.slice t.aT t.nT t.cT) := cell_of_block zc0 0 (by simp)
  have c01 : W1.cell? ⟨w.heap.size, 1, none⟩ = some (.slice t.aS t.nS t.cS) := cell_of_block zc0 1 (by simp)
  have c02 : W1.cell? ⟨w.heap.size, 2, none⟩ = some (.slice t.H.a t.H.n t.H.c) := cell_of_block zc0 2 (by simp)
  have c03 : W1.cell? ⟨w.heap.size, 3, none⟩ = some (.slice t.R.a t.R.n t.R.c) := cell_of_block zc0 3 (by simp)
  have c10 : W1.cell? ⟨w.heap.size + 1, 0, none⟩ = some (.int .i64 alo) := cell_of_block zc1 0 (by simp)
  have c11 : W1.cell? ⟨w.heap.size + 1, 1, none⟩ = some (.int .i64 ahi) := cell_of_block zc1 1 (by simp)
  have c20 : W1.cell? ⟨w.heap.size + 1 + 1, 0, none⟩ = some (.int .i64 slo) := cell_of_block zc2 0 (by simp)
  have c21 : W1.cell? ⟨w.heap.size + 1 + 1, 1, none⟩ = some (.int .i64 shi) := cell_of_block zc2 1 (by simp)
  have c30 : W1.cell? ⟨w.heap.size + 1 + 1 + 1, 0, none⟩ = some (.int .i64 lo) := cell_of_block zc3 0 (by simp)
  have c31 : W1.cell? ⟨w.heap.size + 1 + 1 + 1, 1, none⟩ = some (.int .i64 hi) := cell_of_block zc3 1 (by simp)
  have c40 : W1.cell? ⟨w.heap.size + 1 + 1 + 1 + 1, 0, none⟩ = some (.int .i64 tlo) := cell_of_block zc4 0 (by simp)
  have c41 : W1.cell? ⟨w.heap.size + 1 + 1 + 1 + 1, 1, none⟩ = some (.int .i64 thi) := cell_of_block zc4 1 (by simp)
  have lc0 := (Array.getElem?_eq_some_iff.1 zc0).1
  have lc1 := (Array.getElem?_eq_some_iff.1 zc1).1
  have lc2 := (Array.getElem?_eq_some_iff.1 zc2).1
  have lc3 := (Array.getElem?_eq_some_iff.1 zc3).1
  have lc4 := (Array.getElem?_eq_some_iff.1 zc4).1
  have Zc0 := Lib.hid zc0
  have Zc1 := Lib.hid zc1
  have Zc2 := Lib.hid zc2
  have Zc3 := Lib.hid zc3
  have Zc4 := Lib.hid zc4
  clear zc0 zc1 zc2 zc3 zc4
  have HBc := Lib.hid hBc; clear hBc
  have HWc := Lib.hid hW1; clear hW1
  have I1 := Lib.hid (hI.below HBc.out)
  have GR := Lib.hid (great_any t W1 I1.out hL)
  unfold Tab.val at GR ⊢
  clear hI
  go_enter Try.func9, Try.ntmps9
  go_upto_region 1 with (fail)
  rw [HWc.out]
  go_wp2_with fail
  refine GR.out.mono ?_
  rintro e w1 ⟨bg, rfl, hsm, hb⟩
  obtain ⟨z0, rfl⟩ := gw_of_below hb
  clear hb GR
  cases bg with
  | true =>
    go_wp2_with fail
    refine (Calls.gw_of (alive_any _)).mono ?_
    rintro e w1 ⟨rfl, z1, rfl⟩
    go_wp2_with fail
    go_ret
    exact ⟨rfl, HBc.out.gw z1⟩
  | false =>
    have hf := (hsm rfl).fits
    clear hsm
    have A' := Lib.hid (fun W (hb : Below W1.heap.size W1 W) => Volume_any t alo ahi slo shi tlo thi W (I1.out.below hb) hf)
    have B' := Lib.hid (fun W (hb : Below W1.heap.size W1 W) => rVolume_any t alo ahi slo shi tlo thi W (I1.out.below hb) hf)
    have C' := Lib.hid (fun W (hb : Below W1.heap.size W1 W) => Measured_any t alo ahi lo hi tlo thi W (I1.out.below hb) hf)
    have D' := Lib.hid (fun W (hb : Below W1.heap.size W1 W) => rMeasured_any t alo ahi lo hi tlo thi W (I1.out.below hb) hf)
    clear hf hL
    generalize t.voLo alo ahi slo shi tlo thi = a0 at *
    generalize t.voHi alo ahi slo shi tlo thi = a1 at *
    generalize t.voE alo ahi slo shi tlo thi = ae at *
    generalize t.meV alo ahi lo hi tlo thi = m at *
    generalize t.meE alo ahi lo hi tlo thi = me at *
    obtain ⟨v1, v2, s1, s2, p1, p2⟩ := m
    unfold Me.out at C' D'
    unfold Tab.val at A' B' C' D'
    dsimp only at C' D'
    go_wp2_with fail
    refine (Calls.gw_of (A'.out _ (below_gw W1 z0))).mono ?_
    rintro e w1 ⟨rfl, z1, rfl⟩
    go_upto_region 4 with (fail)
    obtain ⟨W2, hW2⟩ : ∃ W2, ((gw W1 z1)).alloc (.cells #[.int .i64 a0, .int .i64 a1] 27) = W2 := ⟨_, rfl⟩
    have hbW2 : Below W1.heap.size W1 W2 := by rw [← hW2]; exact (below_gw W1 z1).alloc (by simp [gw_size]) _
    have ZtW2 := Lib.hid ((hbW2.block _ (Array.getElem?_eq_some_iff.1 Zc0.out).1).trans Zc0.out)
    have ZaW2 := Lib.hid ((hbW2.block _ (Array.getElem?_eq_some_iff.1 Zc1.out).1).trans Zc1.out)
    have ZsW2 := Lib.hid ((hbW2.block _ (Array.getElem?_eq_some_iff.1 Zc2.out).1).trans Zc2.out)
    have ZxW2 := Lib.hid ((hbW2.block _ (Array.getElem?_eq_some_iff.1 Zc3.out).1).trans Zc3.out)
    have ZmW2 := Lib.hid ((hbW2.block _ (Array.getElem?_eq_some_iff.1 Zc4.out).1).trans Zc4.out)
    have zbW2 : W2.heap[W1.heap.size + z1.bs.size]? = some (.cells #[.int .i64 a0, .int .i64 a1] 27 (0, 0)) := by rw [← hW2]; exact alloc_at (by simp [gw_size])
    have ZbW2 := Lib.hid zbW2; clear zbW2
    have HBW2 := Lib.hid (thru hbW2 HBc.out)
    have SBW2 := Lib.hid hbW2; clear hbW2
    have HWW2 := Lib.hid hW2; clear hW2
    rw [HWW2.out]
    clear c00 c01 c02 c03 c10 c11 c20 c21 c30 c31 c40 c41
    have S2 := Lib.hid SBW2.out
    have et0W2 : W2.cell? ⟨w.heap.size, 0, none⟩ = some (.slice t.aT t.nT t.cT) := cell_of_block ZtW2.out 0 (by simp)
    have et1W2 : W2.cell? ⟨w.heap.size, 1, none⟩ = some (.slice t.aS t.nS t.cS) := cell_of_block ZtW2.out 1 (by simp)
    have et2W2 : W2.cell? ⟨w.heap.size, 2, none⟩ = some (.slice t.H.a t.H.n t.H.c) := cell_of_block ZtW2.out 2 (by simp)
    have et3W2 : W2.cell? ⟨w.heap.size, 3, none⟩ = some (.slice t.R.a t.R.n t.R.c) := cell_of_block ZtW2.out 3 (by simp)
    have ltW2 := (Array.getElem?_eq_some_iff.1 ZtW2.out).1
    have ea0W2 : W2.cell? ⟨w.heap.size + 1, 0, none⟩ = some (.int .i64 alo) := cell_of_block ZaW2.out 0 (by simp)
    have ea1W2 : W2.cell? ⟨w.heap.size + 1, 1, none⟩ = some (.int .i64 ahi) := cell_of_block ZaW2.out 1 (by simp)
    have laW2 := (Array.getElem?_eq_some_iff.1 ZaW2.out).1
    have es0W2 : W2.cell? ⟨w.heap.size + 1 + 1, 0, none⟩ = some (.int .i64 slo) := cell_of_block ZsW2.out 0 (by simp)
    have es1W2 : W2.cell? ⟨w.heap.size + 1 + 1, 1, none⟩ = some (.int .i64 shi) := cell_of_block ZsW2.out 1 (by simp)
    have lsW2 := (Array.getElem?_eq_some_iff.1 ZsW2.out).1
    have em0W2 : W2.cell? ⟨w.heap.size + 1 + 1 + 1 + 1, 0, none⟩ = some (.int .i64 tlo) := cell_of_block ZmW2.out 0 (by simp)
    have em1W2 : W2.cell? ⟨w.heap.size + 1 + 1 + 1 + 1, 1, none⟩ = some (.int .i64 thi) := cell_of_block ZmW2.out 1 (by simp)
    have lmW2 := (Array.getElem?_eq_some_iff.1 ZmW2.out).1
    go_wp2_with fail
    refine (Calls.grown (B'.out _ (S2.out))).mono ?_
    rintro e w1 ⟨rfl, z2, rfl⟩
    go_upto_region 5 with (fail)
    obtain ⟨W3, hW3⟩ : ∃ W3, ((gw W2 z2)).alloc (.cells #[.int .i64 a0, .int .i64 a1] 27) = W3 := ⟨_, rfl⟩
    have hbW3 : Below W2.heap.size W2 W3 := by rw [← hW3]; exact (below_gw W2 z2).alloc (by simp [gw_size]) _
    have ZtW3 := Lib.hid ((hbW3.block _ (Array.getElem?_eq_some_iff.1 ZtW2.out).1).trans ZtW2.out)
    have ZaW3 := Lib.hid ((hbW3.block _ (Array.getElem?_eq_some_iff.1 ZaW2.out).1).trans ZaW2.out)
    have ZsW3 := Lib.hid ((hbW3.block _ (Array.getElem?_eq_some_iff.1 ZsW2.out).1).trans ZsW2.out)
    have ZxW3 := Lib.hid ((hbW3.block _ (Array.getElem?_eq_some_iff.1 ZxW2.out).1).trans ZxW2.out)
    have ZmW3 := Lib.hid ((hbW3.block _ (Array.getElem?_eq_some_iff.1 ZmW2.out).1).trans ZmW2.out)
    have ZbW3 := Lib.hid ((hbW3.block _ (Array.getElem?_eq_some_iff.1 ZbW2.out).1).trans ZbW2.out)
    have zcW3 : W3.heap[W2.heap.size + z2.bs.size]? = some (.cells #[.int .i64 a0, .int .i64 a1] 27 (0, 0)) := by rw [← hW3]; exact alloc_at (by simp [gw_size])
    have ZcW3 := Lib.hid zcW3; clear zcW3
    have HBW3 := Lib.hid (thru hbW3 HBW2.out)
    have SBW3 := Lib.hid hbW3; clear hbW3
    have HWW3 := Lib.hid hW3; clear hW3
    rw [HWW3.out]
    clear et0W2 et1W2 et2W2 et3W2 ea0W2 ea1W2 es0W2 es1W2 em0W2 em1W2
    have S3 := Lib.hid (S2.out.trans (SBW3.out.mono S2.out.size))
    have et0W3 : W3.cell? ⟨w.heap.size, 0, none⟩ = some (.slice t.aT t.nT t.cT) := cell_of_block ZtW3.out 0 (by simp)
    have et1W3 : W3.cell? ⟨w.heap.size, 1, none⟩ = some (.slice t.aS t.nS t.cS) := cell_of_block ZtW3.out 1 (by simp)
    have et2W3 : W3.cell? ⟨w.heap.size, 2, none⟩ = some (.slice t.H.a t.H.n t.H.c) := cell_of_block ZtW3.out 2 (by simp)
    have et3W3 : W3.cell? ⟨w.heap.size, 3, none⟩ = some (.slice t.R.a t.R.n t.R.c) := cell_of_block ZtW3.out 3 (by simp)
    have ltW3 := (Array.getElem?_eq_some_iff.1 ZtW3.out).1
    have ea0W3 : W3.cell? ⟨w.heap.size + 1, 0, none⟩ = some (.int .i64 alo) := cell_of_block ZaW3.out 0 (by simp)
    have ea1W3 : W3.cell? ⟨w.heap.size + 1, 1, none⟩ = some (.int .i64 ahi) := cell_of_block ZaW3.out 1 (by simp)
    have laW3 := (Array.getElem?_eq_some_iff.1 ZaW3.out).1
    have ex0W3 : W3.cell? ⟨w.heap.size + 1 + 1 + 1, 0, none⟩ = some (.int .i64 lo) := cell_of_block ZxW3.out 0 (by simp)
    have ex1W3 : W3.cell? ⟨w.heap.size + 1 + 1 + 1, 1, none⟩ = some (.int .i64 hi) := cell_of_block ZxW3.out 1 (by simp)
    have lxW3 := (Array.getElem?_eq_some_iff.1 ZxW3.out).1
    have em0W3 : W3.cell? ⟨w.heap.size + 1 + 1 + 1 + 1, 0, none⟩ = some (.int .i64 tlo) := cell_of_block ZmW3.out 0 (by simp)
    have em1W3 : W3.cell? ⟨w.heap.size + 1 + 1 + 1 + 1, 1, none⟩ = some (.int .i64 thi) := cell_of_block ZmW3.out 1 (by simp)
    have lmW3 := (Array.getElem?_eq_some_iff.1 ZmW3.out).1
    go_wp2_with fail
    refine (Calls.grown (C'.out _ (S3.out))).mono ?_
    rintro e w1 ⟨rfl, z3, rfl⟩
    go_upto_region 6 with (fail)
    obtain ⟨W4, hW4⟩ : ∃ W4, ((((gw W3 z3)).alloc (.cells #[.int .i64 v1, .int .i64 v2] 27)).alloc (.cells #[.int .i64 s1, .int .i64 s2] 27)).alloc (.cells #[.int .i64 p1, .int .i64 p2] 27) = W4 := ⟨_, rfl⟩
    have hbW4 : Below W3.heap.size W3 W4 := by rw [← hW4]; exact (((below_gw W3 z3).alloc (by simp [gw_size]) _).alloc (by simp [gw_size] <;> omega) _).alloc (by simp [gw_size] <;> omega) _
    have ZtW4 := Lib.hid ((hbW4.block _ (Array.getElem?_eq_some_iff.1 ZtW3.out).1).trans ZtW3.out)
    have ZaW4 := Lib.hid ((hbW4.block _ (Array.getElem?_eq_some_iff.1 ZaW3.out).1).trans ZaW3.out)
    have ZsW4 := Lib.hid ((hbW4.block _ (Array.getElem?_eq_some_iff.1 ZsW3.out).1).trans ZsW3.out)
    have ZxW4 := Lib.hid ((hbW4.block _ (Array.getElem?_eq_some_iff.1 ZxW3.out).1).trans ZxW3.out)
    have ZmW4 := Lib.hid ((hbW4.block _ (Array.getElem?_eq_some_iff.1 ZmW3.out).1).trans ZmW3.out)
    have ZbW4 := Lib.hid ((hbW4.block _ (Array.getElem?_eq_some_iff.1 ZbW3.out).1).trans ZbW3.out)
    have ZcW4 := Lib.hid ((hbW4.block _ (Array.getElem?_eq_some_iff.1 ZcW3.out).1).trans ZcW3.out)
    have zdW4 : W4.heap[W3.heap.size + z3.bs.size]? = some (.cells #[.int .i64 v1, .int .i64 v2] 27 (0, 0)) := by rw [← hW4]; exact alloc_keep (alloc_keep (alloc_at (by simp [gw_size])))
    have ZdW4 := Lib.hid zdW4; clear zdW4
    have zeW4 : W4.heap[W3.heap.size + z3.bs.size + 1]? = some (.cells #[.int .i64 s1, .int .i64 s2] 27 (0, 0)) := by rw [← hW4]; exact alloc_keep (alloc_at (by simp [gw_size] <;> omega))
    have ZeW4 := Lib.hid zeW4; clear zeW4
    have zfW4 : W4.heap[W3.heap.size + z3.bs.size + 1 + 1]? = some (.cells #[.int .i64 p1, .int .i64 p2] 27 (0, 0)) := by rw [← hW4]; exact alloc_at (by simp [gw_size] <;> omega)
    have ZfW4 := Lib.hid zfW4; clear zfW4
    have HBW4 := Lib.hid (thru hbW4 HBW3.out)
    have SBW4 := Lib.hid hbW4; clear hbW4
    have HWW4 := Lib.hid hW4; clear hW4
    rw [HWW4.out]
    clear et0W3 et1W3 et2W3 et3W3 ea0W3 ea1W3 ex0W3 ex1W3 em0W3 em1W3
    have S4 := Lib.hid (S3.out.trans (SBW4.out.mono S3.out.size))
    have et0W4 : W4.cell? ⟨w.heap.size, 0, none⟩ = some (.slice t.aT t.nT t.cT) := cell_of_block ZtW4.out 0 (by simp)
    have et1W4 : W4.cell? ⟨w.heap.size, 1, none⟩ = some (.slice t.aS t.nS t.cS) := cell_of_block ZtW4.out 1 (by simp)
    have et2W4 : W4.cell? ⟨w.heap.size, 2, none⟩ = some (.slice t.H.a t.H.n t.H.c) := cell_of_block ZtW4.out 2 (by simp)
    have et3W4 : W4.cell? ⟨w.heap.size, 3, none⟩ = some (.slice t.R.a t.R.n t.R.c) := cell_of_block ZtW4.out 3 (by simp)
    have ltW4 := (Array.getElem?_eq_some_iff.1 ZtW4.out).1
    have ea0W4 : W4.cell? ⟨w.heap.size + 1, 0, none⟩ = some (.int .i64 alo) := cell_of_block ZaW4.out 0 (by simp)
    have ea1W4 : W4.cell? ⟨w.heap.size + 1, 1, none⟩ = some (.int .i64 ahi) := cell_of_block ZaW4.out 1 (by simp)
    have laW4 := (Array.getElem?_eq_some_iff.1 ZaW4.out).1
    have ex0W4 : W4.cell? ⟨w.heap.size + 1 + 1 + 1, 0, none⟩ = some (.int .i64 lo) := cell_of_block ZxW4.out 0 (by simp)
    have ex1W4 : W4.cell? ⟨w.heap.size + 1 + 1 + 1, 1, none⟩ = some (.int .i64 hi) := cell_of_block ZxW4.out 1 (by simp)
    have lxW4 := (Array.getElem?_eq_some_iff.1 ZxW4.out).1
    have em0W4 : W4.cell? ⟨w.heap.size + 1 + 1 + 1 + 1, 0, none⟩ = some (.int .i64 tlo) := cell_of_block ZmW4.out 0 (by simp)
    have em1W4 : W4.cell? ⟨w.heap.size + 1 + 1 + 1 + 1, 1, none⟩ = some (.int .i64 thi) := cell_of_block ZmW4.out 1 (by simp)
    have lmW4 := (Array.getElem?_eq_some_iff.1 ZmW4.out).1
    go_wp2_with fail
    refine (Calls.grown (D'.out _ (S4.out))).mono ?_
    rintro e w1 ⟨rfl, z4, rfl⟩
    go_upto_region 7 with (fail)
    obtain ⟨W5, hW5⟩ : ∃ W5, ((((gw W4 z4)).alloc (.cells #[.int .i64 v1, .int .i64 v2] 27)).alloc (.cells #[.int .i64 s1, .int .i64 s2] 27)).alloc (.cells #[.int .i64 p1, .int .i64 p2] 27) = W5 := ⟨_, rfl⟩
    have hbW5 : Below W4.heap.size W4 W5 := by rw [← hW5]; exact (((below_gw W4 z4).alloc (by simp [gw_size]) _).alloc (by simp [gw_size] <;> omega) _).alloc (by simp [gw_size] <;> omega) _
    have ZtW5 := Lib.hid ((hbW5.block _ (Array.getElem?_eq_some_iff.1 ZtW4.out).1).trans ZtW4.out)
    have ZaW5 := Lib.hid ((hbW5.block _ (Array.getElem?_eq_some_iff.1 ZaW4.out).1).trans ZaW4.out)
    have ZsW5 := Lib.hid ((hbW5.block _ (Array.getElem?_eq_some_iff.1 ZsW4.out).1).trans ZsW4.out)
    have ZxW5 := Lib.hid ((hbW5.block _ (Array.getElem?_eq_some_iff.1 ZxW4.out).1).trans ZxW4.out)
    have ZmW5 := Lib.hid ((hbW5.block _ (Array.getElem?_eq_some_iff.1 ZmW4.out).1).trans ZmW4.out)
    have ZbW5 := Lib.hid ((hbW5.block _ (Array.getElem?_eq_some_iff.1 ZbW4.out).1).trans ZbW4.out)
    have ZcW5 := Lib.hid ((hbW5.block _ (Array.getElem?_eq_some_iff.1 ZcW4.out).1).trans ZcW4.out)
    have ZdW5 := Lib.hid ((hbW5.block _ (Array.getElem?_eq_some_iff.1 ZdW4.out).1).trans ZdW4.out)
    have ZeW5 := Lib.hid ((hbW5.block _ (Array.getElem?_eq_some_iff.1 ZeW4.out).1).trans ZeW4.out)
    have ZfW5 := Lib.hid ((hbW5.block _ (Array.getElem?_eq_some_iff.1 ZfW4.out).1).trans ZfW4.out)
    have zgW5 : W5.heap[W4.heap.size + z4.bs.size]? = some (.cells #[.int .i64 v1, .int .i64 v2] 27 (0, 0)) := by rw [← hW5]; exact alloc_keep (alloc_keep (alloc_at (by simp [gw_size])))
    have ZgW5 := Lib.hid zgW5; clear zgW5
    have zhW5 : W5.heap[W4.heap.size + z4.bs.size + 1]? = some (.cells #[.int .i64 s1, .int .i64 s2] 27 (0, 0)) := by rw [← hW5]; exact alloc_keep (alloc_at (by simp [gw_size] <;> omega))
    have ZhW5 := Lib.hid zhW5; clear zhW5
    have ziW5 : W5.heap[W4.heap.size + z4.bs.size + 1 + 1]? = some (.cells #[.int .i64 p1, .int .i64 p2] 27 (0, 0)) := by rw [← hW5]; exact alloc_at (by simp [gw_size] <;> omega)
    have ZiW5 := Lib.hid ziW5; clear ziW5
    have HBW5 := Lib.hid (thru hbW5 HBW4.out)
    have SBW5 := Lib.hid hbW5; clear hbW5
    have HWW5 := Lib.hid hW5; clear hW5
    rw [HWW5.out]
    clear et0W4 et1W4 et2W4 et3W4 ea0W4 ea1W4 ex0W4 ex1W4 em0W4 em1W4
    have S5 := Lib.hid (S4.out.trans (SBW5.out.mono S4.out.size))
    have eb0W5 : W5.cell? ⟨W1.heap.size + z1.bs.size, 0, none⟩ = some (.int .i64 a0) := cell_of_block ZbW5.out 0 (by simp)
    have eb1W5 : W5.cell? ⟨W1.heap.size + z1.bs.size, 1, none⟩ = some (.int .i64 a1) := cell_of_block ZbW5.out 1 (by simp)
    have lbW5 := (Array.getElem?_eq_some_iff.1 ZbW5.out).1
    have ec0W5 : W5.cell? ⟨W2.heap.size + z2.bs.size, 0, none⟩ = some (.int .i64 a0) := cell_of_block ZcW5.out 0 (by simp)
    have ec1W5 : W5.cell? ⟨W2.heap.size + z2.bs.size, 1, none⟩ = some (.int .i64 a1) := cell_of_block ZcW5.out 1 (by simp)
    have lcW5 := (Array.getElem?_eq_some_iff.1 ZcW5.out).1
    have ed0W5 : W5.cell? ⟨W3.heap.size + z3.bs.size, 0, none⟩ = some (.int .i64 v1) := cell_of_block ZdW5.out 0 (by simp)
    have ed1W5 : W5.cell? ⟨W3.heap.size + z3.bs.size, 1, none⟩ = some (.int .i64 v2) := cell_of_block ZdW5.out 1 (by simp)
    have ldW5 := (Array.getElem?_eq_some_iff.1 ZdW5.out).1
    have ee0W5 : W5.cell? ⟨W3.heap.size + z3.bs.size + 1, 0, none⟩ = some (.int .i64 s1) := cell_of_block ZeW5.out 0 (by simp)
    have ee1W5 : W5.cell? ⟨W3.heap.size + z3.bs.size + 1, 1, none⟩ = some (.int .i64 s2) := cell_of_block ZeW5.out 1 (by simp)
    have leW5 := (Array.getElem?_eq_some_iff.1 ZeW5.out).1
    have ef0W5 : W5.cell? ⟨W3.heap.size + z3.bs.size + 1 + 1, 0, none⟩ = some (.int .i64 p1) := cell_of_block ZfW5.out 0 (by simp)
    have ef1W5 : W5.cell? ⟨W3.heap.size + z3.bs.size + 1 + 1, 1, none⟩ = some (.int .i64 p2) := cell_of_block ZfW5.out 1 (by simp)
    have lfW5 := (Array.getElem?_eq_some_iff.1 ZfW5.out).1
    have eg0W5 : W5.cell? ⟨W4.heap.size + z4.bs.size, 0, none⟩ = some (.int .i64 v1) := cell_of_block ZgW5.out 0 (by simp)
    have eg1W5 : W5.cell? ⟨W4.heap.size + z4.bs.size, 1, none⟩ = some (.int .i64 v2) := cell_of_block ZgW5.out 1 (by simp)
    have lgW5 := (Array.getElem?_eq_some_iff.1 ZgW5.out).1
    have eh0W5 : W5.cell? ⟨W4.heap.size + z4.bs.size + 1, 0, none⟩ = some (.int .i64 s1) := cell_of_block ZhW5.out 0 (by simp)
    have eh1W5 : W5.cell? ⟨W4.heap.size + z4.bs.size + 1, 1, none⟩ = some (.int .i64 s2) := cell_of_block ZhW5.out 1 (by simp)
    have lhW5 := (Array.getElem?_eq_some_iff.1 ZhW5.out).1
    have ei0W5 : W5.cell? ⟨W4.heap.size + z4.bs.size + 1 + 1, 0, none⟩ = some (.int .i64 p1) := cell_of_block ZiW5.out 0 (by simp)
    have ei1W5 : W5.cell? ⟨W4.heap.size + z4.bs.size + 1 + 1, 1, none⟩ = some (.int .i64 p2) := cell_of_block ZiW5.out 1 (by simp)
    have liW5 := (Array.getElem?_eq_some_iff.1 ZiW5.out).1
    go_wp2_with fail
    refine (Calls.grown (alive_any _)).mono ?_
    rintro e w1 ⟨rfl, z5, rfl⟩
    go_wp2_with fail
    go_ret
    exact ⟨rfl, HBW5.out.gw z5⟩
end Go.Proofs.Ytohcopdfdmjhnaa.L1
