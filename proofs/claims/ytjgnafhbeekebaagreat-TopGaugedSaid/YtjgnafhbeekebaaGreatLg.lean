/- Contract of math/bits.Div64. Contract of over. No conditions beyond each theorem's own. -/
import Derived.Test.YtjgnafhbeekebaaGreatLa
import Derived.Test.YtjgnafhbeekebaaGreatLe
set_option linter.unusedVariables false
set_option linter.unusedSimpArgs false
set_option linter.unusedSectionVars false
set_option linter.constructorNameAsVariable false
namespace Go.Proofs.YtjgnafhbeekebaaGreat.L1
open Go.RowKit
open Go.Proofs.YtjgnafhbeekebaaGreat
open Go.Lib.D64

attribute [local go_sem] gw_cell gw_frozen gw_size

theorem rest_wrap (U u Z R : Int) (h : R = U * 4294967296 + u - Z) (h0 : 0 ≤ R) (h1 : R < 18446744073709551616) : IntKind.u64.wrap (IntKind.u64.wrap (IntKind.u64.wrap (U * 4294967296) + u) - IntKind.u64.wrap Z) = R := by
  rw [IntKind.wrap_u64, IntKind.wrap_u64, IntKind.wrap_u64, IntKind.wrap_u64]; omega
/-- a fact that is shut -/
structure Shut (p : Prop) : Prop where
  out : p
theorem bl_spec : ∀ (n x : Nat), x < 2 ^ n → n ≤ 64 → x ≠ 0 → 1 ≤ Lib.bitLen x ∧ 2 ^ (Lib.bitLen x - 1) ≤ x ∧ x < 2 ^ Lib.bitLen x
  | 0, x, h, _, h0 => by omega
  | n + 1, x, h, hn, h0 => by
    have hx : x < 2 ^ 64 := Nat.lt_of_lt_of_le h (Nat.pow_le_pow_right (by omega) hn)
    have e := Lib.bitLen_half x h0 hx
    by_cases h2 : x / 2 = 0
    · have hx1 : x = 1 := by omega
      subst hx1
      exact ⟨by decide, by decide, by decide⟩
    · obtain ⟨a, b, c⟩ := bl_spec n (x / 2) (by rw [Nat.pow_succ] at h; omega) (by omega) h2
      rw [e]
      have e1 : 2 ^ (1 + Lib.bitLen (x / 2) - 1) = 2 * 2 ^ (Lib.bitLen (x / 2) - 1) := by rw [← Nat.pow_succ']; congr 1; omega
      have e2 : 2 ^ (1 + Lib.bitLen (x / 2)) = 2 * 2 ^ Lib.bitLen (x / 2) := by rw [Nat.add_comm, Nat.pow_succ']
      rw [e1, e2]
      omega
/-- the shift of a divisor: 2^63 ≤ y * 2^s < 2^64 -/
theorem lz_spec {y : Nat} (h0 : 0 < y) (h : y < 18446744073709551616) : ∃ s : Nat, s ≤ 63 ∧ (64 : Int) - (Lib.bitLen y : Int) = (s : Int) ∧ 9223372036854775808 ≤ y * 2 ^ s ∧ y * 2 ^ s < 18446744073709551616 := by
  obtain ⟨a, b, c⟩ := bl_spec 64 y (by simpa using h) (Nat.le_refl _) (by omega)
  have hl : Lib.bitLen y ≤ 64 := by have := Any.bitLen_le64 (y : Int) (by omega) (by omega); simpa using this
  refine ⟨64 - Lib.bitLen y, by omega, by omega, ?_, ?_⟩
  · have := Nat.mul_le_mul_right (2 ^ (64 - Lib.bitLen y)) b
    rw [← Nat.pow_add, show Lib.bitLen y - 1 + (64 - Lib.bitLen y) = 63 by omega] at this
    simpa using this
  · have := Nat.mul_lt_mul_of_pos_right c (Nat.pow_pos (n := 64 - Lib.bitLen y) (show 0 < 2 by omega))
    rw [← Nat.pow_add, show Lib.bitLen y + (64 - Lib.bitLen y) = 64 by omega] at this
    simpa using this
theorem lzc (y : Nat) (w : World) (h : y < 18446744073709551616) {s : Nat} (hs : (64 : Int) - (Lib.bitLen y : Int) = (s : Int)) : Calls Tryz.prog 87 #[.int .u64 y] w fun e w' => e = .returned (.int .i64 (s : Int)) ∧ w' = w := by
  have := Any.bits_LeadingZeros64 lzL (y : Int) w (by omega) (by omega)
  rw [show ((y : Int)).toNat = y by omega, hs] at this
  exact this

theorem step_back {q y r U : Nat} (h : 1 ≤ q) (e : q * y + r = U) : (q - 1) * y + (r + y) = U := by
  obtain ⟨k, rfl⟩ : ∃ k, q = k + 1 := ⟨q - 1, by omega⟩
  rw [Nat.add_mul] at e
  simp only [Nat.add_sub_cancel]
  omega

set_option maxRecDepth 100000 in
set_option maxHeartbeats 4000000 in
theorem Div64_any (hi lo y : Nat) (w : World) (h1 : hi < y) (h2 : lo < 18446744073709551616) (h3 : y < 18446744073709551616) :
    Calls Tryz.prog 76 #[.int .u64 hi, .int .u64 lo, .int .u64 y] w fun e w' => e = .returned (.tuple #[.int .u64 (((hi * 18446744073709551616 + lo) / y : Nat) : Int), .int .u64 (((hi * 18446744073709551616 + lo) % y : Nat) : Int)]) ∧ Below w.heap.size w w' := by
  have y0 : ¬ y = 0 := by omega
  by_cases hh : hi = 0
  · subst hh
    have e1 : ((0 * 18446744073709551616 + lo) / y : Nat) = lo / y := by rw [Nat.zero_mul, Nat.zero_add]
    have e2 : ((0 * 18446744073709551616 + lo) % y : Nat) = lo % y := by rw [Nat.zero_mul, Nat.zero_add]
    rw [e1, e2]
    clear e1 e2
    have c1 : IntKind.u64.wrap ((lo : Int) / (y : Int)) = ((lo / y : Nat) : Int) := by
      have := Nat.div_le_self lo y
      rw [← Int.natCast_ediv]
      exact Go.Proofs.Mul64.wrapN _ (by omega)
    have c2 : (lo : Int) % (y : Int) = ((lo % y : Nat) : Int) := (Int.natCast_emod lo y).symm
    have HC1 := Shut.mk c1; have HC2 := Shut.mk c2; clear c1 c2
    go_enter Tryz.func76, Tryz.ntmps76
    go_upto_region 6 with (fail)
    go_region
    all_goals
      go_wp2_with fail
      go_ret2
      exact ⟨by rw [HC1.out, HC2.out]; rfl, below_drew w⟩
  · obtain ⟨s, s63, sl, sh1, sh2⟩ := lz_spec (y := y) (by omega) h3
    have LZ := Shut.mk (lzc y w h3 sl)
    clear sl
    have hh1 : (((hi : Nat) : Int) == 0) = false := by simpa using hh
    obtain ⟨Y, HY⟩ : ∃ Y : Nat, Shut (Y = y * 2 ^ s) := ⟨_, Shut.mk rfl⟩
    rw [← HY.out] at sh1 sh2
    obtain ⟨A, HA⟩ : ∃ A : Nat, Shut (A = hi * 2 ^ s) := ⟨_, Shut.mk rfl⟩
    obtain ⟨D, HD⟩ : ∃ D : Nat, Shut (D = lo / 2 ^ (64 - s)) := ⟨_, Shut.mk rfl⟩
    obtain ⟨L, HL⟩ : ∃ L : Nat, Shut (L = lo * 2 ^ s % 18446744073709551616) := ⟨_, Shut.mk rfl⟩
    have hK : 0 < 2 ^ s := Nat.pow_pos (by omega)
    have hKM : 2 ^ s * 2 ^ (64 - s) = 18446744073709551616 := by rw [← Nat.pow_add, show s + (64 - s) = 64 by omega]
    obtain ⟨SH1, SH2⟩ := shifted (hi := hi) (y := y) hKM (Nat.pow_pos (by omega)) h2 h1
    rw [← HA.out, ← HD.out, ← HL.out] at SH1
    rw [← HA.out, ← HD.out, ← HY.out] at SH2
    have DK : D < 2 ^ s := by
      rw [HD.out, Nat.div_lt_iff_lt_mul (Nat.pow_pos (by omega)), hKM]; exact h2
    have hY : IntKind.u64.wrap ((y : Int) * 2 ^ s) = (Y : Int) := by
      have e : (y : Int) * 2 ^ s = ((y * 2 ^ s : Nat) : Int) := by rw [Int.natCast_mul, Int.natCast_pow]; rfl
      rw [e, ← HY.out]; exact Go.Proofs.Mul64.wrapN _ sh2
    have hA : IntKind.u64.wrap ((hi : Int) * 2 ^ s) = (A : Int) := by
      have e : (hi : Int) * 2 ^ s = ((hi * 2 ^ s : Nat) : Int) := by rw [Int.natCast_mul, Int.natCast_pow]; rfl
      rw [e, ← HA.out]; exact Go.Proofs.Mul64.wrapN _ (by omega)
    have hD : (lo : Int) / 2 ^ (64 - s) = (D : Int) := by
      rw [HD.out, Int.natCast_ediv, Int.natCast_pow]; rfl
    have hL : IntKind.u64.wrap ((lo : Int) * 2 ^ s) = (L : Int) := by
      have e : (lo : Int) * 2 ^ s = ((lo * 2 ^ s : Nat) : Int) := by rw [Int.natCast_mul, Int.natCast_pow]; rfl
      rw [e, HL.out]; exact Go.Proofs.Mul64.wrapM _
    have hU : bits .or .u64 (A : Int) (D : Int) = ((A + D : Nat) : Int) := by
      have h := bits_or_u64_nat A D (by omega) (by omega)
      rw [h]
      have := Nat.shiftLeft_add_eq_or_of_lt DK hi
      rw [Nat.shiftLeft_eq, ← HA.out] at this
      rw [this]
    have hLb : L < 18446744073709551616 := by rw [HL.out]; exact Nat.mod_lt _ (by omega)
    obtain ⟨U, HU⟩ : ∃ U : Nat, Shut (U = A + D) := ⟨_, Shut.mk rfl⟩
    rw [← HU.out] at hU SH1 SH2
    obtain ⟨y1, HY1⟩ : ∃ n : Nat, Shut (n = Y / 4294967296) := ⟨_, Shut.mk rfl⟩
    obtain ⟨y0', HY0⟩ : ∃ n : Nat, Shut (n = Y % 4294967296) := ⟨_, Shut.mk rfl⟩
    obtain ⟨u1, HU1⟩ : ∃ n : Nat, Shut (n = L / 4294967296) := ⟨_, Shut.mk rfl⟩
    obtain ⟨u0, HU0⟩ : ∃ n : Nat, Shut (n = L % 4294967296) := ⟨_, Shut.mk rfl⟩
    have hy1 : (Y : Int) / 4294967296 = (y1 : Int) := by rw [HY1.out, Int.natCast_ediv]; rfl
    have hy0 : bits .and .u64 (Y : Int) 4294967295 = (y0' : Int) := by rw [HY0.out]; exact Go.Proofs.Mul64.maskN _ sh2
    have hu1 : (L : Int) / 4294967296 = (u1 : Int) := by rw [HU1.out, Int.natCast_ediv]; rfl
    have hu0 : bits .and .u64 (L : Int) 4294967295 = (u0 : Int) := by rw [HU0.out]; exact Go.Proofs.Mul64.maskN _ hLb
    have es : (64 - (s : Int)).toNat = 64 - s := by omega
    have yb1 : y1 < 4294967296 := by rw [HY1.out]; omega
    have yb2 : 2147483648 ≤ y1 := by rw [HY1.out]; omega
    have yb0 : y0' < 4294967296 := by rw [HY0.out]; omega
    have ub1 : u1 < 4294967296 := by rw [HU1.out]; omega
    have ub0 : u0 < 4294967296 := by rw [HU0.out]; omega
    have YS := Shut.mk (show Y = y1 * 4294967296 + y0' by rw [HY1.out, HY0.out]; omega)
    have LS := Shut.mk (show L = u1 * 4294967296 + u0 by rw [HU1.out, HU0.out]; omega)
    have HS1 := Shut.mk SH1; have HKM := Shut.mk hKM; have HKP := Shut.mk hK
    clear DK SH1 hKM hK
    have YP := Shut.mk (show 0 < y1 * 4294967296 + y0' by omega)
    obtain ⟨Q, DGQ⟩ : ∃ n : Nat, Shut (n = dig 4294967296 y1 y0' U u1) := ⟨_, Shut.mk rfl⟩
    obtain ⟨q, HQ⟩ : ∃ n : Nat, Shut (n = U / y1) := ⟨_, Shut.mk rfl⟩
    obtain ⟨p, HP⟩ : ∃ n : Nat, Shut (n = q * y1) := ⟨_, Shut.mk rfl⟩
    have QB : q ≤ 4294967297 := by rw [HQ.out]; exact start_le (by have := YS.out; omega) yb0 (by omega) (by omega)
    have pe := Nat.div_add_mod U y1
    have pm := Nat.mod_lt U (show 0 < y1 by omega)
    have pc := Nat.mul_comm y1 (U / y1)
    have pu : p ≤ U ∧ U < p + y1 := by rw [HP.out, HQ.out]; omega
    have hq : IntKind.u64.wrap ((U : Int) / (y1 : Int)) = (q : Int) := by rw [HQ.out, ← Int.natCast_ediv]; exact Go.Proofs.Mul64.wrapN _ (by have := Nat.div_le_self U y1; omega)
    have hp : IntKind.u64.wrap ((q : Int) * (y1 : Int)) = (p : Int) := by rw [HP.out, ← Int.natCast_mul, ← HP.out]; exact Go.Proofs.Mul64.wrapN _ (by omega)
    have QS := Shut.mk (show dig 4294967296 y1 y0' U u1 ≤ q by rw [HQ.out]; exact dig_le_start (by omega) (by omega))
    have QR := Shut.mk (show q * y1 + (U - p) = U by rw [← HP.out]; omega)
    clear pe pm pc
    have UYQ := Shut.mk (show U < y1 * 4294967296 + y0' by have := YS.out; omega)
    have BDQ : Q < 4294967296 := by rw [DGQ.out]; exact dig_lt_base UYQ.out (by omega)
    obtain ⟨R, HR⟩ : ∃ n : Nat, Shut (n = (U * 4294967296 + u1) % Y) := ⟨_, Shut.mk rfl⟩
    have RL := rest_lt (B := 4294967296) (y1 := y1) (y0 := y0') (u := U) (u1 := u1)
    rw [← DGQ.out, ← YS.out, ← HR.out] at RL
    have RY : R < Y := by rw [HR.out]; exact Nat.mod_lt _ (by omega)
    have hR : IntKind.u64.wrap (IntKind.u64.wrap (IntKind.u64.wrap ((U : Int) * 4294967296) + (u1 : Int)) - IntKind.u64.wrap ((Q : Int) * (Y : Int))) = (R : Int) := rest_wrap _ _ _ _ (by rw [← Int.natCast_mul]; omega) (by omega) (by omega)
    obtain ⟨Q0, DGQ0⟩ : ∃ n : Nat, Shut (n = dig 4294967296 y1 y0' R u0) := ⟨_, Shut.mk rfl⟩
    obtain ⟨q2, HQ2⟩ : ∃ n : Nat, Shut (n = R / y1) := ⟨_, Shut.mk rfl⟩
    obtain ⟨p2, HP2⟩ : ∃ n : Nat, Shut (n = q2 * y1) := ⟨_, Shut.mk rfl⟩
    have QB2 : q2 ≤ 4294967297 := by rw [HQ2.out]; exact start_le (by have := YS.out; omega) yb0 (by omega) (by omega)
    have pe := Nat.div_add_mod R y1
    have pm := Nat.mod_lt R (show 0 < y1 by omega)
    have pc := Nat.mul_comm y1 (R / y1)
    have pu2 : p2 ≤ R ∧ R < p2 + y1 := by rw [HP2.out, HQ2.out]; omega
    have hq2 : IntKind.u64.wrap ((R : Int) / (y1 : Int)) = (q2 : Int) := by rw [HQ2.out, ← Int.natCast_ediv]; exact Go.Proofs.Mul64.wrapN _ (by have := Nat.div_le_self R y1; omega)
    have hp2 : IntKind.u64.wrap ((q2 : Int) * (y1 : Int)) = (p2 : Int) := by rw [HP2.out, ← Int.natCast_mul, ← HP2.out]; exact Go.Proofs.Mul64.wrapN _ (by omega)
    have QS2 := Shut.mk (show dig 4294967296 y1 y0' R u0 ≤ q2 by rw [HQ2.out]; exact dig_le_start (by omega) (by omega))
    have QR2 := Shut.mk (show q2 * y1 + (R - p2) = R by rw [← HP2.out]; omega)
    clear pe pm pc
    have UYQ0 := Shut.mk (show R < y1 * 4294967296 + y0' by have := YS.out; omega)
    have BDQ0 : Q0 < 4294967296 := by rw [DGQ0.out]; exact dig_lt_base UYQ0.out (by omega)
    obtain ⟨R0, HR0⟩ : ∃ n : Nat, Shut (n = (R * 4294967296 + u0) % Y) := ⟨_, Shut.mk rfl⟩
    have RL2 := rest_lt (B := 4294967296) (y1 := y1) (y0 := y0') (u := R) (u1 := u0)
    rw [← DGQ0.out, ← YS.out, ← HR0.out] at RL2
    have RY2 : R0 < Y := by rw [HR0.out]; exact Nat.mod_lt _ (by omega)
    have hR2 : IntKind.u64.wrap (IntKind.u64.wrap (IntKind.u64.wrap ((R : Int) * 4294967296) + (u0 : Int)) - IntKind.u64.wrap ((Q0 : Int) * (Y : Int))) = (R0 : Int) := rest_wrap _ _ _ _ (by rw [← Int.natCast_mul]; omega) (by omega) (by omega)
    have FIN := both (B := 4294967296) (W := 18446744073709551616) (N := hi * 18446744073709551616 + lo) (K := 2 ^ s) (y := y) (U := U) (v1 := u1) (v0 := u0) (Q1 := Q) (R1 := R) (Q0 := Q0) (R0 := R0) (by decide) HKP.out (by omega) (by rw [HS1.out, LS.out]) (by rw [← HY.out]; omega) (by rw [← HY.out]; omega) (by rw [← HY.out]; exact RY2)
    have FIN1 := Shut.mk (show (Q : Int) * 4294967296 + (Q0 : Int) = (((hi * 18446744073709551616 + lo) / y : Nat) : Int) by rw [← FIN.1]; omega)
    have FIN2 := Shut.mk (show (R0 : Int) / 2 ^ min s 64 = (((hi * 18446744073709551616 + lo) % y : Nat) : Int) by rw [← FIN.2.1, Int.natCast_ediv, Int.natCast_pow, Nat.min_eq_left (by omega)]; rfl)
    have HN2 := Shut.mk (show (R : Int) / (y1 : Int) = (q2 : Int) by rw [HQ2.out, Int.natCast_ediv])
    have HQ2 := Shut.mk hq2; have HP2 := Shut.mk hp2; have HR1 := Shut.mk hR; have HR2 := Shut.mk hR2
    clear FIN hq2 hp2 hR hR2
    have PU2 := Shut.mk pu2; replace RY := Shut.mk RY; replace RY2 := Shut.mk RY2; replace RL := Shut.mk RL; replace RL2 := Shut.mk RL2; replace QB2 := Shut.mk QB2; replace BDQ := Shut.mk BDQ; replace BDQ0 := Shut.mk BDQ0
    clear pu2
    go_enter Tryz.func76, Tryz.ntmps76
    go_upto_region 15 with (refine LZ.out.mono ?_; rintro e w1 ⟨rfl, rfl⟩)
    go_wp2_with fail
    have YB := Shut.mk (And.intro yb1 (And.intro yb2 (And.intro yb0 (And.intro ub1 ub0))))
    have PU := Shut.mk pu
    replace QB := Shut.mk QB
    clear hq hp hY hA hD hL hU hy1 hy0 hu1 hu0 es hh1 y0 hLb
    have gx := QB.out; have gx2 := QB2.out; have gb := BDQ.out; have gb0 := BDQ0.out; have gr := RY.out; have gr2 := RY2.out; have gp2 := PU2.out
    have gy1i : 2147483648 ≤ (y1 : Int) ∧ (y1 : Int) < 4294967296 := by omega
    obtain ⟨y1i, ey1i⟩ : ∃ i : Int, (y1 : Int) = i := ⟨_, rfl⟩
    rw [ey1i] at gy1i
    have Ey1i := Shut.mk ey1i
    have gy0i : 0 ≤ (y0' : Int) ∧ (y0' : Int) < 4294967296 := by omega
    obtain ⟨y0i, ey0i⟩ : ∃ i : Int, (y0' : Int) = i := ⟨_, rfl⟩
    rw [ey0i] at gy0i
    have Ey0i := Shut.mk ey0i
    have gQi : 0 ≤ (Q : Int) ∧ (Q : Int) ≤ 4294967295 := by omega
    obtain ⟨Qi, eQi⟩ : ∃ i : Int, (Q : Int) = i := ⟨_, rfl⟩
    rw [eQi] at gQi
    have EQi := Shut.mk eQi
    have gQ0i : 0 ≤ (Q0 : Int) ∧ (Q0 : Int) ≤ 4294967295 := by omega
    obtain ⟨Q0i, eQ0i⟩ : ∃ i : Int, (Q0 : Int) = i := ⟨_, rfl⟩
    rw [eQ0i] at gQ0i
    have EQ0i := Shut.mk eQ0i
    have gu1i : 0 ≤ (u1 : Int) ∧ (u1 : Int) < 4294967296 := by omega
    obtain ⟨u1i, eu1i⟩ : ∃ i : Int, (u1 : Int) = i := ⟨_, rfl⟩
    rw [eu1i] at gu1i
    have Eu1i := Shut.mk eu1i
    have gu0i : 0 ≤ (u0 : Int) ∧ (u0 : Int) < 4294967296 := by omega
    obtain ⟨u0i, eu0i⟩ : ∃ i : Int, (u0 : Int) = i := ⟨_, rfl⟩
    rw [eu0i] at gu0i
    have Eu0i := Shut.mk eu0i
    have gw1 : 0 ≤ (p : Int) ∧ (p : Int) ≤ (U : Int) ∧ (U : Int) < (p : Int) + y1i := by omega
    have gw2 : 0 ≤ (p2 : Int) ∧ (p2 : Int) ≤ (R : Int) ∧ (R : Int) < (p2 : Int) + y1i := by omega
    have gUi : 0 ≤ (U : Int) ∧ (U : Int) < 18446744073709551616 := by omega
    obtain ⟨Ui, eUi⟩ : ∃ i : Int, (U : Int) = i := ⟨_, rfl⟩
    rw [eUi] at gUi
    have EUi := Shut.mk eUi
    have gRi : 0 ≤ (R : Int) ∧ (R : Int) < 18446744073709551616 := by omega
    obtain ⟨Ri, eRi⟩ : ∃ i : Int, (R : Int) = i := ⟨_, rfl⟩
    rw [eRi] at gRi
    have ERi := Shut.mk eRi
    have gR0i : 0 ≤ (R0 : Int) ∧ (R0 : Int) < 18446744073709551616 := by omega
    obtain ⟨R0i, eR0i⟩ : ∃ i : Int, (R0 : Int) = i := ⟨_, rfl⟩
    rw [eR0i] at gR0i
    have ER0i := Shut.mk eR0i
    have gqi : 0 ≤ (q : Int) ∧ (q : Int) ≤ 4294967297 := by omega
    obtain ⟨qi, eqi⟩ : ∃ i : Int, (q : Int) = i := ⟨_, rfl⟩
    rw [eqi] at gqi
    have Eqi := Shut.mk eqi
    have gq2i : 0 ≤ (q2 : Int) ∧ (q2 : Int) ≤ 4294967297 := by omega
    obtain ⟨q2i, eq2i⟩ : ∃ i : Int, (q2 : Int) = i := ⟨_, rfl⟩
    rw [eq2i] at gq2i
    have Eq2i := Shut.mk eq2i
    have gpi : 0 ≤ (p : Int) := by omega
    obtain ⟨pi, epi⟩ : ∃ i : Int, (p : Int) = i := ⟨_, rfl⟩
    rw [epi] at gpi
    have Epi := Shut.mk epi
    have gp2i : 0 ≤ (p2 : Int) := by omega
    obtain ⟨p2i, ep2i⟩ : ∃ i : Int, (p2 : Int) = i := ⟨_, rfl⟩
    rw [ep2i] at gp2i
    have Ep2i := Shut.mk ep2i
    have gYi : 9223372036854775808 ≤ (Y : Int) ∧ (Y : Int) < 18446744073709551616 := by omega
    obtain ⟨Yi, eYi⟩ : ∃ i : Int, (Y : Int) = i := ⟨_, rfl⟩
    rw [eYi] at gYi
    have EYi := Shut.mk eYi
    rw [epi, eUi] at gw1
    rw [ep2i, eRi] at gw2
    have hn2 := HN2.out
    rw [eRi, ey1i, eq2i] at hn2
    have hq2 := HQ2.out; have hp2 := HP2.out; have hR := HR1.out; have hR2 := HR2.out; have f1 := FIN1.out; have f2 := FIN2.out
    rw [eRi, ey1i, eq2i] at hq2
    rw [eq2i, ey1i, ep2i] at hp2
    rw [eUi, eu1i, eQi, eYi, eRi] at hR
    rw [eRi, eu0i, eQ0i, eYi, eR0i] at hR2
    rw [eQi, eQ0i] at f1
    rw [eR0i] at f2
    replace FIN1 := Shut.mk f1; replace FIN2 := Shut.mk f2
    rw [ey1i, ey0i, eu1i, eu0i, eUi, eYi, eqi, epi]
    clear f1 f2 gx gx2 gb gb0 gr gr2 gp2 eQi eQ0i ey1i ey0i eu1i eu0i eUi eYi eRi eR0i eqi eq2i epi ep2i pu yb1 yb2 yb0 ub1 ub0 sh1 sh2 SH2 h1 h2 h3 hh s63
    go_loop [15, 16] (fun a b => ∃ q r : Int, a = .int .u64 q ∧ b = .int .u64 r ∧ 0 ≤ q ∧ q ≤ 4294967297 ∧ 0 ≤ r ∧ r < 4294967296 ∧ Shut (dig 4294967296 y1 y0' U u1 ≤ q.toNat) ∧ Shut (q.toNat * y1 + r.toNat = U)) (fun a _ => (intOf a).toNat)
    case atStart => exact ⟨qi, Ui - pi, rfl, rfl, by omega, by omega, by omega, by omega, Shut.mk (by have := QS.out; have := Eqi.out; omega), Shut.mk (by have := QR.out; have e := PU.out; rw [show qi.toNat = q by have := Eqi.out; omega, show (Ui - pi).toNat = U - p by have := Epi.out; have := EUi.out; omega]; exact this)⟩
    case round =>
      obtain ⟨q, r, rfl, rfl, q0, qb, r0, rb, K1, K2⟩ := hrel
      by_cases c1 : 4294967296 ≤ q
      · skip
        have ql := Shut.mk (show dig 4294967296 y1 y0' U u1 < q.toNat from Nat.lt_of_lt_of_le (dig_lt_base (UYQ.out) (by have := YB.out; omega)) (by omega))
        have q1 : 1 ≤ q := by have := ql.out; omega
        have K3 := Shut.mk (show (q - 1).toNat * y1 + (r + y1i).toNat = U by rw [show (q - 1).toNat = q.toNat - 1 by omega, show (r + y1i).toNat = r.toNat + y1 by have := Ey1i.out; omega]; exact step_back (by omega) K2.out)
        by_cases c : r + y1i < 4294967296
        · go_wp2_with fail
          go_round
          case rel => exact ⟨q - 1, r + y1i, by go_num, by go_num, by omega, by omega, by omega, c, Shut.mk (by have := ql.out; omega), K3⟩
          case measure => simp [intOf]; omega
        · have e : dig 4294967296 y1 y0' U u1 = (q - 1).toNat := Nat.le_antisymm (by have := ql.out; omega) (le_dig_far K3.out YP.out (by omega) (by have := YB.out; omega) (by omega))
          have ee : q = Qi + 1 := by have e2 := DGQ.out; have e3 := EQi.out; rw [e] at e2; omega
          subst ee
          go_wp2_with fail
          clear ql q1 K3 e K1 K2 q0 qb 
          go_loop [18, 16] (fun a b => ∃ q r : Int, a = .int .u64 q ∧ b = .int .u64 r ∧ 0 ≤ q ∧ q ≤ 4294967297 ∧ 0 ≤ r ∧ r < 4294967296 ∧ Shut (dig 4294967296 y1 y0' R u0 ≤ q.toNat) ∧ Shut (q.toNat * y1 + r.toNat = R)) (fun a _ => (intOf a).toNat)
          case atStart => exact ⟨q2i, Ri - p2i, rfl, rfl, by omega, by omega, by omega, by omega, Shut.mk (by have := QS2.out; have := Eq2i.out; omega), Shut.mk (by have := QR2.out; have e := PU2.out; rw [show q2i.toNat = q2 by have := Eq2i.out; omega, show (Ri - p2i).toNat = R - p2 by have := Ep2i.out; have := ERi.out; omega]; exact this)⟩
          case round =>
            obtain ⟨q, r, rfl, rfl, q0, qb, r0, rb, K1, K2⟩ := hrel
            by_cases c1 : 4294967296 ≤ q
            · skip
              have ql := Shut.mk (show dig 4294967296 y1 y0' R u0 < q.toNat from Nat.lt_of_lt_of_le (dig_lt_base (UYQ0.out) (by have := YB.out; omega)) (by omega))
              have q1 : 1 ≤ q := by have := ql.out; omega
              have K3 := Shut.mk (show (q - 1).toNat * y1 + (r + y1i).toNat = R by rw [show (q - 1).toNat = q.toNat - 1 by omega, show (r + y1i).toNat = r.toNat + y1 by have := Ey1i.out; omega]; exact step_back (by omega) K2.out)
              by_cases c : r + y1i < 4294967296
              · go_wp2_with fail
                go_round
                case rel => exact ⟨q - 1, r + y1i, by go_num, by go_num, by omega, by omega, by omega, c, Shut.mk (by have := ql.out; omega), K3⟩
                case measure => simp [intOf]; omega
              · have e : dig 4294967296 y1 y0' R u0 = (q - 1).toNat := Nat.le_antisymm (by have := ql.out; omega) (le_dig_far K3.out YP.out (by omega) (by have := YB.out; omega) (by omega))
                have ee : q = Q0i + 1 := by have e2 := DGQ0.out; have e3 := EQ0i.out; rw [e] at e2; omega
                subst ee
                go_wp2_with fail
                clear ql q1 K3 e K1 K2 q0 qb 
                go_ret2
                exact ⟨by rw [FIN1.out, FIN2.out]; rfl, Below.refl _ _⟩
            · obtain ⟨m, HM⟩ : ∃ n : Int, Shut (n = q * y0i) := ⟨_, Shut.mk rfl⟩
              have mb := Int.mul_le_mul (show q ≤ 4294967295 by omega) (show y0i ≤ 4294967295 by omega) (by omega) (by omega)
              have m0 := Int.mul_nonneg q0 (show 0 ≤ y0i by omega)
              have hm : IntKind.u64.wrap (q * y0i) = m := by rw [IntKind.wrap_u64, HM.out]; omega
              have HMN := Shut.mk (show m.toNat = q.toNat * y0' by rw [HM.out, Int.toNat_mul q0 (by omega), show y0i.toNat = y0' by have := Ey0i.out; omega])
              have mm : 0 ≤ m ∧ m ≤ 18446744065119617025 := by rw [HM.out]; omega
              clear mb m0
              by_cases c2 : 4294967296 * r + u0i < m
              · skip
                have ql := Shut.mk (show dig 4294967296 y1 y0' R u0 < q.toNat from dig_lt K2.out YP.out (by rw [← HMN.out]; have := Eu0i.out; omega))
                have q1 : 1 ≤ q := by have := ql.out; omega
                have K3 := Shut.mk (show (q - 1).toNat * y1 + (r + y1i).toNat = R by rw [show (q - 1).toNat = q.toNat - 1 by omega, show (r + y1i).toNat = r.toNat + y1 by have := Ey1i.out; omega]; exact step_back (by omega) K2.out)
                by_cases c : r + y1i < 4294967296
                · go_wp2_with fail
                  go_round
                  case rel => exact ⟨q - 1, r + y1i, by go_num, by go_num, by omega, by omega, by omega, c, Shut.mk (by have := ql.out; omega), K3⟩
                  case measure => simp [intOf]; omega
                · have e : dig 4294967296 y1 y0' R u0 = (q - 1).toNat := Nat.le_antisymm (by have := ql.out; omega) (le_dig_far K3.out YP.out (by omega) (by have := YB.out; omega) (by omega))
                  have ee : q = Q0i + 1 := by have e2 := DGQ0.out; have e3 := EQ0i.out; rw [e] at e2; omega
                  subst ee
                  go_wp2_with fail
                  clear ql q1 K3 e K1 K2 q0 qb 
                  go_ret2
                  exact ⟨by rw [FIN1.out, FIN2.out]; rfl, Below.refl _ _⟩
              · have e : dig 4294967296 y1 y0' R u0 = q.toNat := Nat.le_antisymm K1.out (le_dig K2.out YP.out (by rw [← HMN.out]; have := Eu0i.out; omega))
                have ee : q = Q0i := by have e2 := DGQ0.out; have e3 := EQ0i.out; rw [e] at e2; omega
                subst ee
                go_wp2_with fail
                clear e K1 K2 q0 qb
                go_ret2
                exact ⟨by rw [FIN1.out, FIN2.out]; rfl, Below.refl _ _⟩
      · obtain ⟨m, HM⟩ : ∃ n : Int, Shut (n = q * y0i) := ⟨_, Shut.mk rfl⟩
        have mb := Int.mul_le_mul (show q ≤ 4294967295 by omega) (show y0i ≤ 4294967295 by omega) (by omega) (by omega)
        have m0 := Int.mul_nonneg q0 (show 0 ≤ y0i by omega)
        have hm : IntKind.u64.wrap (q * y0i) = m := by rw [IntKind.wrap_u64, HM.out]; omega
        have HMN := Shut.mk (show m.toNat = q.toNat * y0' by rw [HM.out, Int.toNat_mul q0 (by omega), show y0i.toNat = y0' by have := Ey0i.out; omega])
        have mm : 0 ≤ m ∧ m ≤ 18446744065119617025 := by rw [HM.out]; omega
        clear mb m0
        by_cases c2 : 4294967296 * r + u1i < m
        · skip
          have ql := Shut.mk (show dig 4294967296 y1 y0' U u1 < q.toNat from dig_lt K2.out YP.out (by rw [← HMN.out]; have := Eu1i.out; omega))
          have q1 : 1 ≤ q := by have := ql.out; omega
          have K3 := Shut.mk (show (q - 1).toNat * y1 + (r + y1i).toNat = U by rw [show (q - 1).toNat = q.toNat - 1 by omega, show (r + y1i).toNat = r.toNat + y1 by have := Ey1i.out; omega]; exact step_back (by omega) K2.out)
          by_cases c : r + y1i < 4294967296
          · go_wp2_with fail
            go_round
            case rel => exact ⟨q - 1, r + y1i, by go_num, by go_num, by omega, by omega, by omega, c, Shut.mk (by have := ql.out; omega), K3⟩
            case measure => simp [intOf]; omega
          · have e : dig 4294967296 y1 y0' U u1 = (q - 1).toNat := Nat.le_antisymm (by have := ql.out; omega) (le_dig_far K3.out YP.out (by omega) (by have := YB.out; omega) (by omega))
            have ee : q = Qi + 1 := by have e2 := DGQ.out; have e3 := EQi.out; rw [e] at e2; omega
            subst ee
            go_wp2_with fail
            clear ql q1 K3 e K1 K2 q0 qb 
            go_loop [18, 16] (fun a b => ∃ q r : Int, a = .int .u64 q ∧ b = .int .u64 r ∧ 0 ≤ q ∧ q ≤ 4294967297 ∧ 0 ≤ r ∧ r < 4294967296 ∧ Shut (dig 4294967296 y1 y0' R u0 ≤ q.toNat) ∧ Shut (q.toNat * y1 + r.toNat = R)) (fun a _ => (intOf a).toNat)
            case atStart => exact ⟨q2i, Ri - p2i, rfl, rfl, by omega, by omega, by omega, by omega, Shut.mk (by have := QS2.out; have := Eq2i.out; omega), Shut.mk (by have := QR2.out; have e := PU2.out; rw [show q2i.toNat = q2 by have := Eq2i.out; omega, show (Ri - p2i).toNat = R - p2 by have := Ep2i.out; have := ERi.out; omega]; exact this)⟩
            case round =>
              obtain ⟨q, r, rfl, rfl, q0, qb, r0, rb, K1, K2⟩ := hrel
              by_cases c1 : 4294967296 ≤ q
              · skip
                have ql := Shut.mk (show dig 4294967296 y1 y0' R u0 < q.toNat from Nat.lt_of_lt_of_le (dig_lt_base (UYQ0.out) (by have := YB.out; omega)) (by omega))
                have q1 : 1 ≤ q := by have := ql.out; omega
                have K3 := Shut.mk (show (q - 1).toNat * y1 + (r + y1i).toNat = R by rw [show (q - 1).toNat = q.toNat - 1 by omega, show (r + y1i).toNat = r.toNat + y1 by have := Ey1i.out; omega]; exact step_back (by omega) K2.out)
                by_cases c : r + y1i < 4294967296
                · go_wp2_with fail
                  go_round
                  case rel => exact ⟨q - 1, r + y1i, by go_num, by go_num, by omega, by omega, by omega, c, Shut.mk (by have := ql.out; omega), K3⟩
                  case measure => simp [intOf]; omega
                · have e : dig 4294967296 y1 y0' R u0 = (q - 1).toNat := Nat.le_antisymm (by have := ql.out; omega) (le_dig_far K3.out YP.out (by omega) (by have := YB.out; omega) (by omega))
                  have ee : q = Q0i + 1 := by have e2 := DGQ0.out; have e3 := EQ0i.out; rw [e] at e2; omega
                  subst ee
                  go_wp2_with fail
                  clear ql q1 K3 e K1 K2 q0 qb 
                  go_ret2
                  exact ⟨by rw [FIN1.out, FIN2.out]; rfl, Below.refl _ _⟩
              · obtain ⟨m, HM⟩ : ∃ n : Int, Shut (n = q * y0i) := ⟨_, Shut.mk rfl⟩
                have mb := Int.mul_le_mul (show q ≤ 4294967295 by omega) (show y0i ≤ 4294967295 by omega) (by omega) (by omega)
                have m0 := Int.mul_nonneg q0 (show 0 ≤ y0i by omega)
                have hm : IntKind.u64.wrap (q * y0i) = m := by rw [IntKind.wrap_u64, HM.out]; omega
                have HMN := Shut.mk (show m.toNat = q.toNat * y0' by rw [HM.out, Int.toNat_mul q0 (by omega), show y0i.toNat = y0' by have := Ey0i.out; omega])
                have mm : 0 ≤ m ∧ m ≤ 18446744065119617025 := by rw [HM.out]; omega
                clear mb m0
                by_cases c2 : 4294967296 * r + u0i < m
                · skip
                  have ql := Shut.mk (show dig 4294967296 y1 y0' R u0 < q.toNat from dig_lt K2.out YP.out (by rw [← HMN.out]; have := Eu0i.out; omega))
                  have q1 : 1 ≤ q := by have := ql.out; omega
                  have K3 := Shut.mk (show (q - 1).toNat * y1 + (r + y1i).toNat = R by rw [show (q - 1).toNat = q.toNat - 1 by omega, show (r + y1i).toNat = r.toNat + y1 by have := Ey1i.out; omega]; exact step_back (by omega) K2.out)
                  by_cases c : r + y1i < 4294967296
                  · go_wp2_with fail
                    go_round
                    case rel => exact ⟨q - 1, r + y1i, by go_num, by go_num, by omega, by omega, by omega, c, Shut.mk (by have := ql.out; omega), K3⟩
                    case measure => simp [intOf]; omega
                  · have e : dig 4294967296 y1 y0' R u0 = (q - 1).toNat := Nat.le_antisymm (by have := ql.out; omega) (le_dig_far K3.out YP.out (by omega) (by have := YB.out; omega) (by omega))
                    have ee : q = Q0i + 1 := by have e2 := DGQ0.out; have e3 := EQ0i.out; rw [e] at e2; omega
                    subst ee
                    go_wp2_with fail
                    clear ql q1 K3 e K1 K2 q0 qb 
                    go_ret2
                    exact ⟨by rw [FIN1.out, FIN2.out]; rfl, Below.refl _ _⟩
                · have e : dig 4294967296 y1 y0' R u0 = q.toNat := Nat.le_antisymm K1.out (le_dig K2.out YP.out (by rw [← HMN.out]; have := Eu0i.out; omega))
                  have ee : q = Q0i := by have e2 := DGQ0.out; have e3 := EQ0i.out; rw [e] at e2; omega
                  subst ee
                  go_wp2_with fail
                  clear e K1 K2 q0 qb
                  go_ret2
                  exact ⟨by rw [FIN1.out, FIN2.out]; rfl, Below.refl _ _⟩
        · have e : dig 4294967296 y1 y0' U u1 = q.toNat := Nat.le_antisymm K1.out (le_dig K2.out YP.out (by rw [← HMN.out]; have := Eu1i.out; omega))
          have ee : q = Qi := by have e2 := DGQ.out; have e3 := EQi.out; rw [e] at e2; omega
          subst ee
          go_wp2_with fail
          clear e K1 K2 q0 qb
          go_loop [18, 16] (fun a b => ∃ q r : Int, a = .int .u64 q ∧ b = .int .u64 r ∧ 0 ≤ q ∧ q ≤ 4294967297 ∧ 0 ≤ r ∧ r < 4294967296 ∧ Shut (dig 4294967296 y1 y0' R u0 ≤ q.toNat) ∧ Shut (q.toNat * y1 + r.toNat = R)) (fun a _ => (intOf a).toNat)
          case atStart => exact ⟨q2i, Ri - p2i, rfl, rfl, by omega, by omega, by omega, by omega, Shut.mk (by have := QS2.out; have := Eq2i.out; omega), Shut.mk (by have := QR2.out; have e := PU2.out; rw [show q2i.toNat = q2 by have := Eq2i.out; omega, show (Ri - p2i).toNat = R - p2 by have := Ep2i.out; have := ERi.out; omega]; exact this)⟩
          case round =>
            obtain ⟨q, r, rfl, rfl, q0, qb, r0, rb, K1, K2⟩ := hrel
            by_cases c1 : 4294967296 ≤ q
            · skip
              have ql := Shut.mk (show dig 4294967296 y1 y0' R u0 < q.toNat from Nat.lt_of_lt_of_le (dig_lt_base (UYQ0.out) (by have := YB.out; omega)) (by omega))
              have q1 : 1 ≤ q := by have := ql.out; omega
              have K3 := Shut.mk (show (q - 1).toNat * y1 + (r + y1i).toNat = R by rw [show (q - 1).toNat = q.toNat - 1 by omega, show (r + y1i).toNat = r.toNat + y1 by have := Ey1i.out; omega]; exact step_back (by omega) K2.out)
              by_cases c : r + y1i < 4294967296
              · go_wp2_with fail
                go_round
                case rel => exact ⟨q - 1, r + y1i, by go_num, by go_num, by omega, by omega, by omega, c, Shut.mk (by have := ql.out; omega), K3⟩
                case measure => simp [intOf]; omega
              · have e : dig 4294967296 y1 y0' R u0 = (q - 1).toNat := Nat.le_antisymm (by have := ql.out; omega) (le_dig_far K3.out YP.out (by omega) (by have := YB.out; omega) (by omega))
                have ee : q = Q0i + 1 := by have e2 := DGQ0.out; have e3 := EQ0i.out; rw [e] at e2; omega
                subst ee
                go_wp2_with fail
                clear ql q1 K3 e K1 K2 q0 qb 
                go_ret2
                exact ⟨by rw [FIN1.out, FIN2.out]; rfl, Below.refl _ _⟩
            · obtain ⟨m, HM⟩ : ∃ n : Int, Shut (n = q * y0i) := ⟨_, Shut.mk rfl⟩
              have mb := Int.mul_le_mul (show q ≤ 4294967295 by omega) (show y0i ≤ 4294967295 by omega) (by omega) (by omega)
              have m0 := Int.mul_nonneg q0 (show 0 ≤ y0i by omega)
              have hm : IntKind.u64.wrap (q * y0i) = m := by rw [IntKind.wrap_u64, HM.out]; omega
              have HMN := Shut.mk (show m.toNat = q.toNat * y0' by rw [HM.out, Int.toNat_mul q0 (by omega), show y0i.toNat = y0' by have := Ey0i.out; omega])
              have mm : 0 ≤ m ∧ m ≤ 18446744065119617025 := by rw [HM.out]; omega
              clear mb m0
              by_cases c2 : 4294967296 * r + u0i < m
              · skip
                have ql := Shut.mk (show dig 4294967296 y1 y0' R u0 < q.toNat from dig_lt K2.out YP.out (by rw [← HMN.out]; have := Eu0i.out; omega))
                have q1 : 1 ≤ q := by have := ql.out; omega
                have K3 := Shut.mk (show (q - 1).toNat * y1 + (r + y1i).toNat = R by rw [show (q - 1).toNat = q.toNat - 1 by omega, show (r + y1i).toNat = r.toNat + y1 by have := Ey1i.out; omega]; exact step_back (by omega) K2.out)
                by_cases c : r + y1i < 4294967296
                · go_wp2_with fail
                  go_round
                  case rel => exact ⟨q - 1, r + y1i, by go_num, by go_num, by omega, by omega, by omega, c, Shut.mk (by have := ql.out; omega), K3⟩
                  case measure => simp [intOf]; omega
                · have e : dig 4294967296 y1 y0' R u0 = (q - 1).toNat := Nat.le_antisymm (by have := ql.out; omega) (le_dig_far K3.out YP.out (by omega) (by have := YB.out; omega) (by omega))
                  have ee : q = Q0i + 1 := by have e2 := DGQ0.out; have e3 := EQ0i.out; rw [e] at e2; omega
                  subst ee
                  go_wp2_with fail
                  clear ql q1 K3 e K1 K2 q0 qb 
                  go_ret2
                  exact ⟨by rw [FIN1.out, FIN2.out]; rfl, Below.refl _ _⟩
              · have e : dig 4294967296 y1 y0' R u0 = q.toNat := Nat.le_antisymm K1.out (le_dig K2.out YP.out (by rw [← HMN.out]; have := Eu0i.out; omega))
                have ee : q = Q0i := by have e2 := DGQ0.out; have e3 := EQ0i.out; rw [e] at e2; omega
                subst ee
                go_wp2_with fail
                clear e K1 K2 q0 qb
                go_ret2
                exact ⟨by rw [FIN1.out, FIN2.out]; rfl, Below.refl _ _⟩
end Go.Proofs.YtjgnafhbeekebaaGreat.L1

namespace Go.Proofs.YtjgnafhbeekebaaGreat.L1
open Go.RowKit
open Go.Proofs.YtjgnafhbeekebaaGreat

attribute [local go_sem] gw_cell gw_frozen gw_size

theorem over_room {Z d n : Nat} (h : Z ≤ 1099511627776000000 * d) (hd : 1 ≤ d) (hn : d ≤ n) : Z / 18446744073709551616 < n := by
  rw [Nat.div_lt_iff_lt_mul (by decide)]; omega
set_option maxRecDepth 100000 in
set_option maxHeartbeats 1000000 in
theorem over_nat (a n d : Nat) (w : World) (h1 : a ≤ 1099511627776) (hd : 1 ≤ d) (hn : d ≤ n) (hb : n < 9223372036854775808) :
    Calls Tryz.prog 59 #[.int .i64 a, .agg #[.int .i64 n, .int .i64 d]] w fun e w' =>
      e = .returned (.tuple #[.int .i64 ((a * 1000000 * d / n : Nat) : Int), .bool (decide (a * 1000000 * d % n = 0))]) ∧ Below w.heap.size w w' := by
  obtain ⟨X, hX⟩ : ∃ X : Nat, a * 1000000 = X := ⟨_, rfl⟩
  rw [hX]
  have xb : X ≤ 1099511627776000000 := by omega
  have pb := Nat.mul_le_mul xb (Nat.le_refl d)
  obtain ⟨Z, hZ⟩ : ∃ Z : Nat, X * d = Z := ⟨_, rfl⟩
  have M := Shut.mk (fun w => Any.bits_Mul64 (P := Tryz.prog) mulL X d (by omega) (by omega) w)
  rw [hZ] at pb ⊢
  have hr := over_room pb hd hn
  obtain ⟨H, hH⟩ : ∃ H : Nat, Z / 18446744073709551616 = H := ⟨_, rfl⟩
  replace hr : H < n := hH ▸ hr
  obtain ⟨L, hL⟩ : ∃ L : Nat, Z % 18446744073709551616 = L := ⟨_, rfl⟩
  have hs : H * 18446744073709551616 + L = Z := by rw [← hH, ← hL, Nat.mul_comm]; exact Nat.div_add_mod Z 18446744073709551616
  have hl : L < 18446744073709551616 := hL ▸ Nat.mod_lt Z (by decide)
  have D := Shut.mk (fun w => Div64_any H L n w hr hl (Nat.lt_trans hb (by decide)))
  simp only [hZ, hH, hL] at M
  simp only [hs] at D
  have qb : Z / n ≤ 1099511627776000000 := by
    refine Nat.le_trans (Nat.div_le_div_right pb) ?_
    refine Nat.le_trans (Nat.div_le_div_left hn (by omega)) ?_
    rw [Nat.mul_div_cancel _ (by omega)]; exact Nat.le_refl _
  have hx : (a : Int) * 1000000 = (X : Int) := by omega
  obtain ⟨Q, hQ⟩ : ∃ Q : Nat, Z / n = Q := ⟨_, rfl⟩
  obtain ⟨R, hR⟩ : ∃ R : Nat, Z % n = R := ⟨_, rfl⟩
  have rb : R < n := by rw [← hR]; exact Nat.mod_lt _ (by omega)
  simp only [hQ, hR] at D
  rw [hQ] at qb ⊢
  rw [hR]
  have er : ((R : Int) == 0) = decide (R = 0) := by
    by_cases h : R = 0
    · subst h; rfl
    · have : ¬ (R : Int) = 0 := by omega
      simp [h, this]
  clear hX pb hZ hH hL hs hQ hR hr hl
  obtain ⟨W1, hW1⟩ : ∃ W1, w.alloc (.cells #[.int .i64 (n : Int), .int .i64 (d : Int)] 95) = W1 := ⟨_, rfl⟩
  have hBc : Below w.heap.size w W1 := by rw [← hW1]; exact below_alloc _ _
  have zc0 : W1.heap[w.heap.size]? = some (.cells #[.int .i64 (n : Int), .int .i64 (d : Int)] 95 (0, 0)) := by rw [← hW1]; exact alloc_at rfl
  have c00 : W1.cell? ⟨w.heap.size, 0, none⟩ = some (.int .i64 (n : Int)) := cell_of_block zc0 0 (by simp)
  have c01 : W1.cell? ⟨w.heap.size, 1, none⟩ = some (.int .i64 (d : Int)) := cell_of_block zc0 1 (by simp)
  have lc0 := (Array.getElem?_eq_some_iff.1 zc0).1
  clear zc0
  have HBc := Lib.hid hBc; clear hBc
  have HWc := Lib.hid hW1; clear hW1
  go_enter Tryz.func59, Tryz.ntmps59
  go_upto_region 1 with (fail)
  rw [HWc.out]
  go_wp2_with (refine (M.out _).mono ?_; rintro e w1 ⟨rfl, rfl⟩)
  refine (Calls.grown (D.out _)).mono ?_
  rintro e w2 ⟨rfl, z1, rfl⟩
  go_wp2_with fail
  refine bodyPost_ret (v := .tuple #[.int .i64 (Q : Int), .bool (decide (R = 0))]) (by simp [results, Tryz.results59, go_sem, *]) rfl ⟨rfl, ?_⟩
  exact HBc.out.gw z1
end Go.Proofs.YtjgnafhbeekebaaGreat.L1
