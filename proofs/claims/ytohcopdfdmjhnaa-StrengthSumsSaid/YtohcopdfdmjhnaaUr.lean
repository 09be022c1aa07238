/- The law StrengthSums returns true. No conditions beyond each theorem's own. -/
import Derived.Test.YtohcopdfdmjhnaaUq
import Derived.Test.YtohcopdfdmjhnaaTd
import Derived.Test.YtohcopdfdmjhnaaAl
import Derived.Test.YtohcopdfdmjhnaaAe
set_option linter.unusedVariables false
set_option linter.unusedSimpArgs false
set_option linter.unusedSectionVars false
set_option linter.constructorNameAsVariable false
namespace Go.Proofs.Ytohcopdfdmjhnaa.L1
open Go.RowKit
open Go.Proofs.Ytohcopdfdmjhnaa

attribute [local go_sem] gw_cell gw_frozen gw_size

set_option maxHeartbeats 400000 in
theorem has_any (lo hi n : Int) (w : World) :
    Calls Try.prog 24 #[.agg #[.int .i64 lo, .int .i64 hi], .int .i64 n] w fun e w' => e = .returned (.bool (inB n lo hi)) ∧ Below w.heap.size w w' := by
  unfold inB
  obtain ⟨W1, hW1⟩ : ∃ W1, w.alloc (.cells #[.int .i64 lo, .int .i64 hi] 27) = W1 := ⟨_, rfl⟩
  have hBc : Below w.heap.size w W1 := by rw [← hW1]; exact below_alloc _ _
  have zc0 : W1.heap[w.heap.size]? = some (.cells #[.int .i64 lo, .int .i64 hi] 27 (0, 0)) := by rw [← hW1]; exact alloc_at rfl
  have c00 : W1.cell? ⟨w.heap.size, 0, none⟩ = some (.int .i64 lo) := cell_of_block zc0 0 (by simp)
  have c01 : W1.cell? ⟨w.heap.size, 1, none⟩ = some (.int .i64 hi) := cell_of_block zc0 1 (by simp)
  have lc0 := (Array.getElem?_eq_some_iff.1 zc0).1
  clear zc0
  have HBc := Lib.hid hBc; clear hBc
  have HWc := Lib.hid hW1; clear hW1
  by_cases h : lo ≤ n
  · have h1 : decide (lo ≤ n) = true := by simp [h]
    rw [h1, Bool.true_and]
    clear h
    go_enter Try.func24, Try.ntmps24
    go_upto_region 1 with (fail)
    rw [HWc.out]
    go_wp2_with fail
    go_ret
    exact ⟨rfl, HBc.out⟩
  · have h1 : decide (lo ≤ n) = false := by simp; omega
    rw [h1, Bool.false_and]
    clear h
    go_enter Try.func24, Try.ntmps24
    go_upto_region 1 with (fail)
    rw [HWc.out]
    go_wp2_with fail
    go_ret
    exact ⟨rfl, HBc.out⟩

theorem part_one {w : World} {b : Nat} {x : Prt} (h : w.heap[b]? = some (.cells #[.int .i64 x.al, .int .i64 x.ah, .int .i64 x.sl, .int .i64 x.sh] 43 (0, 0))) : PartsAt w (some ⟨b, 0, none⟩) 1 (fun _ => x) := by
  refine .inr ⟨b, 0, rfl, (Array.getElem?_eq_some_iff.1 h).1, fun i hi => ?_⟩
  obtain rfl : i = 0 := by omega
  exact ⟨cell_of_block h 0 (by simp), cell_of_block h 1 (by simp), cell_of_block h 2 (by simp), cell_of_block h 3 (by simp)⟩
theorem mix_ok {n : Nat} {P : Nat → Prt} {s : Int} (h : mixE n P s = 0) : (∀ i, i < n → (P i).ok = true) ∧ (0 ≤ s ∧ s ≤ 1000) ∧ mAh P n ≤ 1099511627776 ∧ 1 ≤ mAl P n := by
  have h9 := h
  unfold mixE at h
  by_cases h0 : 64 < n
  · rw [if_pos h0] at h; cases h
  rw [if_neg h0] at h
  by_cases h1 : allB n (fun i => (P i).ok) = true
  · rw [if_pos h1] at h
    have ok := allB_t.1 h1
    by_cases h2 : inB s 0 1000 = true
    · rw [if_pos h2] at h
      by_cases h3 : 1099511627776 < mAh P n
      · rw [if_pos h3] at h; cases h
      · rw [if_neg h3] at h
        by_cases h4 : mAl P n = 0
        · rw [if_pos h4] at h; cases h
        · have b := (mix_b (n := n) (P := P) (k := n) (by omega) ok (Nat.le_refl _)).a0
          exact ⟨ok, inB_t.1 h2, by omega, by omega⟩
    · rw [if_neg h2] at h; cases h
  · rw [if_neg h1] at h; cases h

set_option maxRecDepth 100000 in
set_option maxHeartbeats 4000000 in
theorem sums_any (a : Option Addr) (n c : Nat) (P : Nat → Prt) (s : Int) (aB : Option Addr) (m cB : Nat) (B : Nat → Int) (r : Nat) (w : World) (hn : n ≤ 9223372036854775807) (hS : PartsAt w a n P) (hm : m ≤ 9223372036854775807) (hB : NumsAt .u32 w aB m B) (rB : ∀ i, i < m → 0 ≤ B i ∧ B i ≤ 4294967295) (hr : r ≤ 255) :
    Calls Try.prog 4 #[.slice a n c, .int .i64 s, .slice aB m cB, .int .u8 (r : Int)] w fun e w' => e = .returned (.bool true) ∧ Below w.heap.size w w' := by
  have HB0 := Lib.hid (Below.refl w.heap.size w)
  obtain ⟨i0, hi0, hx0, hx1, hx2⟩ := info_parts infoPr5
  have II := Lib.hid hi0; have IZ0 := Lib.hid hx0; have IZ1 := Lib.hid hx1; have IZ2 := Lib.hid hx2
  clear hi0 hx0 hx1 hx2
  have HS := Lib.hid hS; have HN := Lib.hid hB; have HR := Lib.hid rB
  clear hS hB rB
  by_cases h40 : 40 < n
  · have g1 : decide ((40 : Int) < (n : Int)) = true := by simp; omega
    go_enter Try.func4, Try.ntmps4
    go_wp2_with fail
    refine (Calls.grown (alive_any _)).mono ?_
    rintro e w1 ⟨rfl, z1, rfl⟩
    go_wp2_with fail
    go_ret
    exact ⟨rfl, HB0.out.gw z1⟩
  have g1 : decide ((40 : Int) < (n : Int)) = false := by simp; omega
  by_cases h0 : m = 0
  · have g2 : ((m : Int) == 0) = true := by simp [h0]
    go_enter Try.func4, Try.ntmps4
    go_wp2_with fail
    refine (Calls.grown (alive_any _)).mono ?_
    rintro e w1 ⟨rfl, z1, rfl⟩
    go_wp2_with fail
    go_ret
    exact ⟨rfl, HB0.out.gw z1⟩
  have g2 : ((m : Int) == 0) = false := by simp; omega
  have MX := Lib.hid (Mix_any a n c P s w hn HS.out)
  have MOK := Lib.hid (fun h => mix_ok (n := n) (P := P) (s := s) h)
  have MV := Lib.hid (show mixV n P s = if mixE n P s = 0 then ⟨mLeast n P s / 10000, mAh P n, min 10000 (mLl P n * 10000 / mAh P n), min 10000 (upI (mLh P n * 10000 * 10000) (mLeast n P s))⟩ else ⟨0, 0, 0, 0⟩ from rfl)
  have MY : Hid (∀ (V : World) (aO : Option Addr) (cO : Nat), PartsAt V aO n (rotP P n r) → Calls Try.prog 22 #[.slice aO n cO, .int .i64 s] V fun e w' => e = .returned (.tuple #[.agg #[.int .i64 (mixV n P s).al, .int .i64 (mixV n P s).ah, .int .i64 (mixV n P s).sl, .int .i64 (mixV n P s).sh], .int .i64 (mixE n P s)]) ∧ Below V.heap.size V w') := Lib.hid (fun V aO cO hp => by
    have h := Mix_any aO n cO (rotP P n r) s V hn hp
    rw [mixV_rot, mixE_rot] at h
    exact h)
  generalize mixV n P s = mv at *
  generalize mixE n P s = me at *
  obtain ⟨m0, m1, m2, m3⟩ := mv
  dsimp only at *
  go_enter Try.func4, Try.ntmps4
  go_wp2_with fail
  refine (Calls.grown MX.out).mono ?_
  rintro e w1 ⟨rfl, z1, rfl⟩
  go_upto_region 5 with (fail)
  obtain ⟨W11, hW11⟩ : ∃ W11, ((gw w z1)).alloc (.cells #[.int .i64 m0, .int .i64 m1, .int .i64 m2, .int .i64 m3] 43) = W11 := ⟨_, rfl⟩
  have hbW11 : Below w.heap.size w W11 := by rw [← hW11]; exact (below_gw w z1).alloc (by simp [gw_size]) _
  have zxW11 : W11.heap[w.heap.size + z1.bs.size]? = some (.cells #[.int .i64 m0, .int .i64 m1, .int .i64 m2, .int .i64 m3] 43 (0, 0)) := by rw [← hW11]; exact alloc_at (by simp [gw_size])
  have ZxW11 := Lib.hid zxW11; clear zxW11
  have HBW11 := Lib.hid (thru hbW11 HB0.out)
  have SBW11 := Lib.hid hbW11; clear hbW11
  have HWW11 := Lib.hid hW11; clear hW11
  rw [HWW11.out]
  have zsW11 := SBW11.out.size
  have lsz := SBW11.out.size
  go_wp2_with fail
  go_loopw [11, 43] (fun v t wr => ∃ k : Nat, k ≤ n ∧ t = .int .i64 k ∧ Hid (wr.ownsRow W11.heap.size 43 4 v k (tupsV 4 k (fun i q => (rotP P n r i).num q))) ∧ Hid (Below W11.heap.size W11 wr)) (fun _ t _ => n - (intOf t).toNat)
  case atStart => exact ⟨0, Nat.zero_le _, rfl, Lib.hid (World.ownsRow_nil _ _ _ _), Lib.hid (Below.refl _ _)⟩
  case round =>
    obtain ⟨k, hk, rfl, RO, BR⟩ := hrel
    by_cases hlt : k < n
    · have hi : (k : Int) < (n : Int) := by omega
      obtain ⟨q, em, ml, HQ⟩ : ∃ q : Nat, (((k : Int) + (r : Int)) % (n : Int)) = (q : Int) ∧ q < n ∧ Hid ((k + r) % n = q) := ⟨(k + r) % n, rfl, Nat.mod_lt _ (by omega), Lib.hid rfl⟩
      have TS := Lib.hid (tupsV_succ 4 k (fun i q => (rotP P n r i).num q))
      have TQ := Lib.hid (show rotP P n r k = P q by unfold rotP; rw [HQ.out])
      rcases HS.out.below (thru BR.out HBW11.out) with h | ⟨b, off, rfl, lb0, hc⟩
      · omega
      obtain ⟨x1, x2, x3, x4⟩ := hc q ml
      clear hc
      have n0 : ¬ (n : Int) = 0 := by omega
      have TT_ : Hid (tupsV 4 (k + 1) (fun i q => (rotP P n r i).num q) = tupsV 4 k (fun i q => (rotP P n r i).num q) ++ [.int .i64 (P q).al, .int .i64 (P q).ah, .int .i64 (P q).sl, .int .i64 (P q).sh]) := Lib.hid (by rw [TS.out]; simp only [TQ.out]; rfl)
      clear TS TQ HQ
      generalize P q = p at *
      obtain ⟨p1, p2, p3, p4⟩ := p
      dsimp only at *
      have sz := BR.out.size
      go_wp2_with (at_builtin; refine wpList_append_own _ rfl _ _ 40 rfl W11.heap.size 43 i0 (.agg #[.int .i64 0, .int .i64 0, .int .i64 0, .int .i64 0]) 4 32 Try.underlying40 II.out IZ0.out IZ1.out IZ2.out rfl (by decide) _ k (tupsV 4 k (fun i q => (rotP P n r i).num q)) rfl (RO.out.alloc _) ⟨wr.heap.size, 0, none⟩ 1 1 [.int .i64 p1, .int .i64 p2, .int .i64 p3, .int .i64 p4] rfl rfl (news_lit _ _ _) (by simp [Value.oneCell']) (by unfold maxLen; omega) (by omega) (by simp; omega) ?_; intro v9 w9 hown9 hgrow9 _)
      rw [← TT_.out] at hown9
      have HO9 := Lib.hid hown9
      have HB9 := Lib.hid ((BR.out.alloc BR.out.size (.cells #[.int .i64 p1, .int .i64 p2, .int .i64 p3, .int .i64 p4] 43)).grown hgrow9 (by simp; omega) (fun b hb => (RO.out.lt b hb).1))
      clear hown9 hgrow9
      go_wp2_with fail
      go_roundw
      case rel => exact ⟨k + 1, by omega, by go_num, HO9, HB9⟩
      case measure => simp [intOf]; omega
    · obtain rfl : n = k := by omega
      have hi : ¬ (n : Int) < (n : Int) := by omega
      clear II IZ0 IZ1 IZ2
      obtain ⟨aO, cO, rfl, HT⟩ := tups_of_own RO.out
      have MYC := Lib.hid (MY.out wr aO cO (parts_of_tups HT))
      clear HT RO MY
      have SBwr := Lib.hid (BR.out)
      have Zxwr := Lib.hid ((SBwr.out.block _ (Array.getElem?_eq_some_iff.1 ZxW11.out).1).trans ZxW11.out)
      have HBwr := Lib.hid (thru SBwr.out HBW11.out)
      have zswr := SBwr.out.size
      go_wp2_with fail
      refine (Calls.grown MYC.out).mono ?_
      rintro e w1 ⟨rfl, z2, rfl⟩
      go_upto_region 11 with (fail)
      obtain ⟨W12, hW12⟩ : ∃ W12, ((gw wr z2)).alloc (.cells #[.int .i64 m0, .int .i64 m1, .int .i64 m2, .int .i64 m3] 43) = W12 := ⟨_, rfl⟩
      have hbW12 : Below wr.heap.size wr W12 := by rw [← hW12]; exact (below_gw wr z2).alloc (by simp [gw_size]) _
      have ZxW12 := Lib.hid ((hbW12.block _ (Array.getElem?_eq_some_iff.1 Zxwr.out).1).trans Zxwr.out)
      have zyW12 : W12.heap[wr.heap.size + z2.bs.size]? = some (.cells #[.int .i64 m0, .int .i64 m1, .int .i64 m2, .int .i64 m3] 43 (0, 0)) := by rw [← hW12]; exact alloc_at (by simp [gw_size])
      have ZyW12 := Lib.hid zyW12; clear zyW12
      have HBW12 := Lib.hid (thru hbW12 HBwr.out)
      have SBW12 := Lib.hid hbW12; clear hbW12
      have HWW12 := Lib.hid hW12; clear hW12
      rw [HWW12.out]
      have zsW12 := SBW12.out.size
      have ex0W12 : W12.cell? ⟨w.heap.size + z1.bs.size, 0, none⟩ = some (.int .i64 m0) := cell_of_block ZxW12.out 0 (by simp)
      have ex1W12 : W12.cell? ⟨w.heap.size + z1.bs.size, 1, none⟩ = some (.int .i64 m1) := cell_of_block ZxW12.out 1 (by simp)
      have ex2W12 : W12.cell? ⟨w.heap.size + z1.bs.size, 2, none⟩ = some (.int .i64 m2) := cell_of_block ZxW12.out 2 (by simp)
      have ex3W12 : W12.cell? ⟨w.heap.size + z1.bs.size, 3, none⟩ = some (.int .i64 m3) := cell_of_block ZxW12.out 3 (by simp)
      have lxW12 := (Array.getElem?_eq_some_iff.1 ZxW12.out).1
      have ey0W12 : W12.cell? ⟨wr.heap.size + z2.bs.size, 0, none⟩ = some (.int .i64 m0) := cell_of_block ZyW12.out 0 (by simp)
      have ey1W12 : W12.cell? ⟨wr.heap.size + z2.bs.size, 1, none⟩ = some (.int .i64 m1) := cell_of_block ZyW12.out 1 (by simp)
      have ey2W12 : W12.cell? ⟨wr.heap.size + z2.bs.size, 2, none⟩ = some (.int .i64 m2) := cell_of_block ZyW12.out 2 (by simp)
      have ey3W12 : W12.cell? ⟨wr.heap.size + z2.bs.size, 3, none⟩ = some (.int .i64 m3) := cell_of_block ZyW12.out 3 (by simp)
      have lyW12 := (Array.getElem?_eq_some_iff.1 ZyW12.out).1
      clear MYC MX BR
      by_cases he : me = 0
      · obtain ⟨ok, hs, q1, q2⟩ := MOK.out he
        have hv := MV.out
        rw [if_pos he] at hv
        injection hv with y1 y2 y3 y4
        subst he
        have MB := mix_b (n := n) (P := P) (k := n) (by omega) ok (Nat.le_refl _)
        have OK := Lib.hid ok
        have TRU := Lib.hid (fun k (hk : k ≤ n) => tru_b (m := m) (B := B) ok hk)
        have MBK := Lib.hid (fun k (hk : k ≤ n) => mix_b (n := n) (P := P) (k := k) (by omega) ok hk)
        have kk0 := HR.out 0 (by omega)
        obtain ⟨kk, hkk⟩ : ∃ x, B 0 % (s + 1) = x := ⟨_, rfl⟩
        have kr0 := Int.emod_nonneg (B 0) (show s + 1 ≠ 0 by omega)
        have kr1 := Int.emod_lt_of_pos (B 0) (show 0 < s + 1 by omega)
        rw [hkk] at kr0 kr1
        have tn := tru_b (m := m) (B := B) ok (Nat.le_refl n)
        obtain ⟨t1, t2, t3, t4⟩ := tn
        unfold mLeast at y1 y4
        have m0r : 0 ≤ m0 := by rw [y1]; exact Int.ediv_nonneg (Int.mul_nonneg (by omega) (by omega)) (by omega)
        have m2r : 0 ≤ m2 := by rw [y3]; exact Int.le_min.2 ⟨by omega, Int.ediv_nonneg (by have := MB.c0; omega) (by have := MB.b0; omega)⟩
        have m3r : m3 ≤ 10000 := by rw [y4]; exact Int.min_le_left _ _
        have FIN := Lib.hid (mix_true q2 t1 t2 MB.c0 t3 t4 hs.1 hs.2 kr0 (show kk ≤ s by omega) rfl y3.symm y4.symm)
        rw [← y1] at FIN
        have x0 := MB.b0
        have KK := Lib.hid hkk
        clear MOK MV y1 y3 y4 t3 t4 MB ok hkk
        go_wp2_with fail
        go_loopw [15, 16, 84] (fun u v t wr => ∃ k : Nat, k ≤ n ∧ u = .int .i64 (sA P m B k) ∧ v = .int .i64 (sC P m B k) ∧ t = .int .i64 k ∧ Hid (Below W12.heap.size W12 wr)) (fun _ _ t _ => n - (intOf t).toNat)
        case atStart => exact ⟨0, Nat.zero_le _, rfl, rfl, rfl, Lib.hid (Below.refl _ _)⟩
        case round =>
          obtain ⟨k, hk, rfl, rfl, rfl, BQ⟩ := hrel
          by_cases hlt : k < n
          · have hi : (k : Int) < (n : Int) := by omega
            have T0 := TRU.out k hk
            have M0 := MBK.out k hk
            obtain ⟨b1, b2, b3, b4⟩ := T0
            have b5 := M0.a0; have b6 := M0.b1; have b7 := M0.c0; have b8 := M0.d1
            clear M0
            obtain ⟨i1, em1, ml1, HQ1⟩ : ∃ q : Nat, ((k : Int) % (m : Int)) = (q : Int) ∧ q < m ∧ Hid (k % m = q) := ⟨k % m, rfl, Nat.mod_lt _ (by omega), Lib.hid rfl⟩
            obtain ⟨i2, em2, ml2, HQ2⟩ : ∃ q : Nat, (((k : Int) + 1) % (m : Int)) = (q : Int) ∧ q < m ∧ Hid ((k + 1) % m = q) := ⟨(k + 1) % m, rfl, Nat.mod_lt _ (by omega), Lib.hid rfl⟩
            have SA := Lib.hid (show sA P m B (k + 1) = sA P m B k + innerI (P k).al (P k).ah (B i1) by rw [← HQ1.out]; rfl)
            have SC := Lib.hid (show sC P m B (k + 1) = sC P m B k + innerI (P k).al (P k).ah (B i1) * innerI (P k).sl (P k).sh (B i2) by rw [← HQ1.out, ← HQ2.out]; rfl)
            have u1 := HR.out i1 ml1
            have u2 := HR.out i2 ml2
            obtain ⟨q3, q4, q5, q6, q7, q8⟩ := partB_t (OK.out k hlt)
            have r1 := innerI_range (b := B i1) q4
            have r2 := innerI_range (b := B i2) q7
            have I1 := Lib.hid (fun w => inner_any (P k).al (P k).ah (B i1) w (by omega) q4 (by omega) u1.1 u1.2)
            have I2 := Lib.hid (fun w => inner_any (P k).sl (P k).sh (B i2) w (by omega) q7 (by omega) u2.1 u2.2)
            have pr0 := Int.mul_nonneg (show 0 ≤ innerI (P k).al (P k).ah (B i1) by omega) (show 0 ≤ innerI (P k).sl (P k).sh (B i2) by omega)
            have pr1 := Int.mul_le_mul (show innerI (P k).al (P k).ah (B i1) ≤ 1099511627776 by omega) (show innerI (P k).sl (P k).sh (B i2) ≤ 10000 by omega) (by omega) (by omega)
            have BB := thru BQ.out HBW12.out
            rcases HS.out.below BB with h | ⟨b, off, rfl, lb0, hc⟩
            · omega
            obtain ⟨x1, x2, x3, x4⟩ := hc k hlt
            clear hc
            obtain ⟨bN, oN, rfl, lN, hN⟩ := nums_get (HN.out.below BB) (by omega)
            have n1 := hN i1 ml1
            have n2 := hN i2 ml2
            clear hN HQ1 HQ2 BB
            have nm : ¬ (m : Int) = 0 := by omega
            generalize sA P m B k = vA at *
            generalize sC P m B k = vC at *
            generalize B i1 = c1 at *
            generalize B i2 = c2 at *
            generalize P k = p at *
            obtain ⟨p1, p2, p3, p4⟩ := p
            dsimp only at *
            generalize innerI p1 p2 c1 = d1 at *
            generalize innerI p3 p4 c2 = d2 at *
            obtain ⟨pr, hpr⟩ : ∃ x, d1 * d2 = x := ⟨_, rfl⟩
            rw [hpr] at pr0 pr1 SC
            go_upto_region 19 with (fail)
            obtain ⟨W3, hW3⟩ : ∃ W3, wr.alloc (.cells #[.int .i64 p1, .int .i64 p2, .int .i64 p3, .int .i64 p4] 43) = W3 := ⟨_, rfl⟩
            have hB3 : Below wr.heap.size wr W3 := by rw [← hW3]; exact below_alloc _ _
            have Z9 := Lib.hid (show W3.heap[wr.heap.size]? = some (.cells #[.int .i64 p1, .int .i64 p2, .int .i64 p3, .int .i64 p4] 43 (0, 0)) by rw [← hW3]; exact alloc_at rfl)
            have HB3 := Lib.hid (BQ.out.trans (hB3.mono BQ.out.size))
            replace n1 := below_cell hB3 n1
            replace n2 := below_cell hB3 n2
            have lN3 := Nat.lt_of_lt_of_le lN hB3.size
            rw [hW3]
            clear hW3 hB3 x1 x2 x3 x4 lb0 lN
            have c90 : W3.cell? ⟨wr.heap.size, 0, none⟩ = some (.int .i64 p1) := cell_of_block Z9.out 0 (by simp)
            have c91 : W3.cell? ⟨wr.heap.size, 1, none⟩ = some (.int .i64 p2) := cell_of_block Z9.out 1 (by simp)
            have c92 : W3.cell? ⟨wr.heap.size, 2, none⟩ = some (.int .i64 p3) := cell_of_block Z9.out 2 (by simp)
            have c93 : W3.cell? ⟨wr.heap.size, 3, none⟩ = some (.int .i64 p4) := cell_of_block Z9.out 3 (by simp)
            have l9 := (Array.getElem?_eq_some_iff.1 Z9.out).1
            refine wp_region_gw (by kernel_rfl) (by kernel_rfl) ?_
            repeat (go_big_quiet_step ((go_at_call 23; with_reducible (first | exact Calls.gw_of (I1.out _) | exact Calls.gw_of (I2.out _)))))
            refine wpQuiet_nil ?_
            rintro _ ⟨z3, rfl⟩
            go_wp2_with fail
            go_roundw
            case rel => exact ⟨k + 1, by omega, by rw [SA.out], by rw [SC.out], by go_num, Lib.hid (HB3.out.trans ((below_gw W3 z3).mono HB3.out.size))⟩
            case measure => simp [intOf]; omega
          · obtain rfl : n = k := by omega
            have hi : ¬ (n : Int) < (n : Int) := by omega
            have SBwr := Lib.hid (BQ.out)
            have Zxwr := Lib.hid ((SBwr.out.block _ (Array.getElem?_eq_some_iff.1 ZxW12.out).1).trans ZxW12.out)
            have Zywr := Lib.hid ((SBwr.out.block _ (Array.getElem?_eq_some_iff.1 ZyW12.out).1).trans ZyW12.out)
            have HBwr := Lib.hid (thru SBwr.out HBW12.out)
            have zswr := SBwr.out.size
            have ex0wr : wr.cell? ⟨w.heap.size + z1.bs.size, 0, none⟩ = some (.int .i64 m0) := cell_of_block Zxwr.out 0 (by simp)
            have ex1wr : wr.cell? ⟨w.heap.size + z1.bs.size, 1, none⟩ = some (.int .i64 m1) := cell_of_block Zxwr.out 1 (by simp)
            have ex2wr : wr.cell? ⟨w.heap.size + z1.bs.size, 2, none⟩ = some (.int .i64 m2) := cell_of_block Zxwr.out 2 (by simp)
            have ex3wr : wr.cell? ⟨w.heap.size + z1.bs.size, 3, none⟩ = some (.int .i64 m3) := cell_of_block Zxwr.out 3 (by simp)
            have lxwr := (Array.getElem?_eq_some_iff.1 Zxwr.out).1
            obtain ⟨f1, f2, f3, f4⟩ := FIN.out
            have cb := TRU.out n hk
            have c0 := cb.c0; have c1 := cb.c1
            have mb := MBK.out n hk
            have d0 := mb.c0; have d1 := mb.d1; have d2 := mb.a0
            clear cb mb FIN
            obtain ⟨bN, oN, rfl, lN, hN⟩ := nums_get (HN.out.below HBwr.out) (by omega)
            have n0 := hN 0 (by omega)
            rw [Nat.add_zero] at n0
            clear hN
            have hkk := KK.out
            have ns : ¬ s + 1 = 0 := by omega
            generalize B 0 = b0 at *
            generalize sA P m B n = vA at *
            generalize sC P m B n = vC at *
            have p0 := Int.mul_nonneg (show 0 ≤ vA by omega) kr0
            have p1 := Int.mul_le_mul (show vA ≤ 1099511627776 by omega) (show kk ≤ 1000 by omega) kr0 (by omega)
            obtain ⟨X, hX⟩ : ∃ x, vA * kk = x := ⟨_, rfl⟩
            rw [hX] at p0 p1 f1 f4
            have M2 := Lib.hid f3
            obtain ⟨Y, hY⟩ : ∃ x, m2 * vA = x := ⟨_, rfl⟩
            obtain ⟨Lw, hLw⟩ : ∃ x, vA - X / 10000 = x := ⟨_, rfl⟩
            rw [hLw] at f1 f4
            rw [hY] at f3
            obtain ⟨Zr, hZr⟩ : ∃ x, m3 * Lw = x := ⟨_, rfl⟩
            rw [hZr] at f4
            have a1 : m0 ≤ vA := by omega
            have a2 : vA ≤ m1 := by omega
            clear y2
            have H1 := Lib.hid (fun w => has_any m0 m1 vA w)
            simp only [inB_t.2 ⟨a1, a2⟩] at H1
            have l1 : decide (Lw < m0) = false := by simp; omega
            have l2 : decide (m3 < m2) = false := by simp; omega
            have l3 : decide (vC < Y) = false := by simp; omega
            have y0 := Int.mul_nonneg m2r (show 0 ≤ vA by omega)
            have zr0 := Int.mul_nonneg (show 0 ≤ m3 by omega) (show 0 ≤ Lw by omega)
            have zr1 := Int.mul_le_mul m3r (show Lw ≤ 1099511627776 by omega) (by omega) (by omega)
            rw [hY] at y0
            rw [hZr] at zr0 zr1
            by_cases r10 : m3 < 10000
            · have l4 : decide (m3 < 10000) = true := by simp [r10]
              have l5 : decide (Zr < vC - m3) = false := by have := f4 r10; simp; omega
              clear f4 r10 a1 a2
              go_wp2_with fail
              refine (Calls.grown (H1.out _)).mono ?_
              rintro e w1 ⟨rfl, z3, rfl⟩
              go_upto_region 27 with (fail)
              obtain ⟨W13, hW13⟩ : ∃ W13, gw wr z3 = W13 := ⟨_, rfl⟩
              have hbW13 : Below wr.heap.size wr W13 := by rw [← hW13]; exact below_gw wr z3
              have ZxW13 := Lib.hid ((hbW13.block _ (Array.getElem?_eq_some_iff.1 Zxwr.out).1).trans Zxwr.out)
              have ZyW13 := Lib.hid ((hbW13.block _ (Array.getElem?_eq_some_iff.1 Zywr.out).1).trans Zywr.out)
              have HBW13 := Lib.hid (thru hbW13 HBwr.out)
              have SBW13 := Lib.hid hbW13; clear hbW13
              have HWW13 := Lib.hid hW13; clear hW13
              rw [HWW13.out]
              have zsW13 := SBW13.out.size
              clear ex0wr ex1wr ex2wr ex3wr
              go_wp2_with fail
              go_loopw [187] (fun t wr => ∃ k : Nat, k ≤ n ∧ t = .int .i64 k ∧ Hid (Below W13.heap.size W13 wr)) (fun t _ => n - (intOf t).toNat)
              case atStart => exact ⟨0, Nat.zero_le _, rfl, Lib.hid (Below.refl _ _)⟩
              case round =>
                obtain ⟨k, hk, rfl, BL⟩ := hrel
                by_cases hlt : k < n
                · have hi : (k : Int) < (n : Int) := by omega
                  have SBwr := Lib.hid (BL.out)
                  have HBwr := Lib.hid (thru SBwr.out HBW13.out)
                  have zswr := SBwr.out.size
                  have hok := OK.out k hlt
                  rcases HS.out.below HBwr.out with h | ⟨b, off, rfl, lb0, hc⟩
                  · omega
                  obtain ⟨x1, x2, x3, x4⟩ := hc k hlt
                  clear hc
                  generalize P k = p at *
                  obtain ⟨p1, p2, p3, p4⟩ := p
                  dsimp only at x1 x2 x3 x4
                  go_upto_region 30 with (fail)
                  obtain ⟨W14, hW14⟩ : ∃ W14, ((wr)).alloc (.cells #[.int .i64 p1, .int .i64 p2, .int .i64 p3, .int .i64 p4] 43) = W14 := ⟨_, rfl⟩
                  have hbW14 : Below wr.heap.size wr W14 := by rw [← hW14]; exact (Below.refl _ wr).alloc (by simp [gw_size]) _
                  have zpW14 : W14.heap[wr.heap.size]? = some (.cells #[.int .i64 p1, .int .i64 p2, .int .i64 p3, .int .i64 p4] 43 (0, 0)) := by rw [← hW14]; exact alloc_at (by simp [gw_size])
                  have ZpW14 := Lib.hid zpW14; clear zpW14
                  have HBW14 := Lib.hid (thru hbW14 HBwr.out)
                  have SBW14 := Lib.hid hbW14; clear hbW14
                  have HWW14 := Lib.hid hW14; clear hW14
                  rw [HWW14.out]
                  clear x1 x2 x3 x4 lb0
                  have zsW14 := SBW14.out.size
                  have ep0W14 : W14.cell? ⟨wr.heap.size, 0, none⟩ = some (.int .i64 p1) := cell_of_block ZpW14.out 0 (by simp)
                  have ep1W14 : W14.cell? ⟨wr.heap.size, 1, none⟩ = some (.int .i64 p2) := cell_of_block ZpW14.out 1 (by simp)
                  have ep2W14 : W14.cell? ⟨wr.heap.size, 2, none⟩ = some (.int .i64 p3) := cell_of_block ZpW14.out 2 (by simp)
                  have ep3W14 : W14.cell? ⟨wr.heap.size, 3, none⟩ = some (.int .i64 p4) := cell_of_block ZpW14.out 3 (by simp)
                  have lpW14 := (Array.getElem?_eq_some_iff.1 ZpW14.out).1
                  by_cases e1 : p1 = p2
                  · have t1 : (p1 == p2) = true := by simp [e1]
                    by_cases e2 : 0 < p1
                    · have t2 : decide (0 < p1) = true := by simp [e2]
                      obtain ⟨MO, oa, ob, mv, ma, mb⟩ := mix_one ⟨p1, p2, p3, p4⟩ hok e1 e2 (fun _ => ⟨p1, p2, p3, p4⟩) rfl
                      dsimp only at mv ma mb
                      have u1 : decide (oa ≤ p3) = true := by simp [ma]
                      have u2 : decide (p4 ≤ ob) = true := by simp [mb]
                      clear ma mb e1 e2
                      go_wp2_with fail
                      obtain ⟨W15, hW15⟩ : ∃ W15, ((W14)).alloc (.cells #[.int .i64 p1, .int .i64 p2, .int .i64 p3, .int .i64 p4] 43) = W15 := ⟨_, rfl⟩
                      have hbW15 : Below W14.heap.size W14 W15 := by rw [← hW15]; exact (Below.refl _ W14).alloc (by simp [gw_size]) _
                      have ZpW15 := Lib.hid ((hbW15.block _ (Array.getElem?_eq_some_iff.1 ZpW14.out).1).trans ZpW14.out)
                      have zqW15 : W15.heap[W14.heap.size]? = some (.cells #[.int .i64 p1, .int .i64 p2, .int .i64 p3, .int .i64 p4] 43 (0, 0)) := by rw [← hW15]; exact alloc_at (by simp [gw_size])
                      have ZqW15 := Lib.hid zqW15; clear zqW15
                      have HBW15 := Lib.hid (thru hbW15 HBW14.out)
                      have SBW15 := Lib.hid hbW15; clear hbW15
                      have HWW15 := Lib.hid hW15; clear hW15
                      rw [HWW15.out]
                      have zsW15 := SBW15.out.size
                      have MC := Mix_any _ 1 1 (fun _ => ⟨p1, p2, p3, p4⟩) 0 W15 (by omega) (part_one (x := ⟨p1, p2, p3, p4⟩) ZqW15.out)
                      rw [MO, mv] at MC
                      dsimp only at MC
                      have MC' := Lib.hid MC
                      clear MC MO mv
                      refine (Calls.grown (MC'.out)).mono ?_
                      rintro e w1 ⟨rfl, z4, rfl⟩
                      go_upto_region 32 with (fail)
                      obtain ⟨W16, hW16⟩ : ∃ W16, ((gw W15 z4)).alloc (.cells #[.int .i64 p1, .int .i64 p2, .int .i64 oa, .int .i64 ob] 43) = W16 := ⟨_, rfl⟩
                      have hbW16 : Below W15.heap.size W15 W16 := by rw [← hW16]; exact (below_gw W15 z4).alloc (by simp [gw_size]) _
                      have ZpW16 := Lib.hid ((hbW16.block _ (Array.getElem?_eq_some_iff.1 ZpW15.out).1).trans ZpW15.out)
                      have ZqW16 := Lib.hid ((hbW16.block _ (Array.getElem?_eq_some_iff.1 ZqW15.out).1).trans ZqW15.out)
                      have zoW16 : W16.heap[W15.heap.size + z4.bs.size]? = some (.cells #[.int .i64 p1, .int .i64 p2, .int .i64 oa, .int .i64 ob] 43 (0, 0)) := by rw [← hW16]; exact alloc_at (by simp [gw_size])
                      have ZoW16 := Lib.hid zoW16; clear zoW16
                      have HBW16 := Lib.hid (thru hbW16 HBW15.out)
                      have SBW16 := Lib.hid hbW16; clear hbW16
                      have HWW16 := Lib.hid hW16; clear hW16
                      rw [HWW16.out]
                      have zsW16 := SBW16.out.size
                      have ep0W16 : W16.cell? ⟨wr.heap.size, 0, none⟩ = some (.int .i64 p1) := cell_of_block ZpW16.out 0 (by simp)
                      have ep1W16 : W16.cell? ⟨wr.heap.size, 1, none⟩ = some (.int .i64 p2) := cell_of_block ZpW16.out 1 (by simp)
                      have ep2W16 : W16.cell? ⟨wr.heap.size, 2, none⟩ = some (.int .i64 p3) := cell_of_block ZpW16.out 2 (by simp)
                      have ep3W16 : W16.cell? ⟨wr.heap.size, 3, none⟩ = some (.int .i64 p4) := cell_of_block ZpW16.out 3 (by simp)
                      have lpW16 := (Array.getElem?_eq_some_iff.1 ZpW16.out).1
                      have eo0W16 : W16.cell? ⟨W15.heap.size + z4.bs.size, 0, none⟩ = some (.int .i64 p1) := cell_of_block ZoW16.out 0 (by simp)
                      have eo1W16 : W16.cell? ⟨W15.heap.size + z4.bs.size, 1, none⟩ = some (.int .i64 p2) := cell_of_block ZoW16.out 1 (by simp)
                      have eo2W16 : W16.cell? ⟨W15.heap.size + z4.bs.size, 2, none⟩ = some (.int .i64 oa) := cell_of_block ZoW16.out 2 (by simp)
                      have eo3W16 : W16.cell? ⟨W15.heap.size + z4.bs.size, 3, none⟩ = some (.int .i64 ob) := cell_of_block ZoW16.out 3 (by simp)
                      have loW16 := (Array.getElem?_eq_some_iff.1 ZoW16.out).1
                      go_wp2_with fail
                      refine (Calls.grown (alive_any _)).mono ?_
                      rintro e w1 ⟨rfl, z5, rfl⟩
                      go_wp2_with fail
                      go_ret
                      exact ⟨rfl, HBW16.out.gw z5⟩
                    · have t2 : decide (0 < p1) = false := by simp; omega
                      clear e1 e2
                      go_wp2_with fail
                      go_roundw
                      case rel => exact ⟨k + 1, by omega, by go_num, Lib.hid (BL.out.trans (SBW14.out.mono BL.out.size))⟩
                      case measure => simp [intOf]; omega
                  · have t1 : (p1 == p2) = false := by simp [e1]
                    clear e1
                    go_wp2_with fail
                    go_roundw
                    case rel => exact ⟨k + 1, by omega, by go_num, Lib.hid (BL.out.trans (SBW14.out.mono BL.out.size))⟩
                    case measure => simp [intOf]; omega
                · obtain rfl : n = k := by omega
                  have hi : ¬ (n : Int) < (n : Int) := by omega
                  go_wp2_with fail
                  refine (Calls.grown (alive_any _)).mono ?_
                  rintro e w1 ⟨rfl, z8, rfl⟩
                  go_wp2_with fail
                  go_ret
                  exact ⟨rfl, (thru BL.out HBW13.out).gw z8⟩
            · have l4 : decide (m3 < 10000) = false := by simp; omega
              clear f4 r10 a1 a2
              go_wp2_with fail
              refine (Calls.grown (H1.out _)).mono ?_
              rintro e w1 ⟨rfl, z3, rfl⟩
              go_upto_region 27 with (fail)
              obtain ⟨W13, hW13⟩ : ∃ W13, gw wr z3 = W13 := ⟨_, rfl⟩
              have hbW13 : Below wr.heap.size wr W13 := by rw [← hW13]; exact below_gw wr z3
              have ZxW13 := Lib.hid ((hbW13.block _ (Array.getElem?_eq_some_iff.1 Zxwr.out).1).trans Zxwr.out)
              have ZyW13 := Lib.hid ((hbW13.block _ (Array.getElem?_eq_some_iff.1 Zywr.out).1).trans Zywr.out)
              have HBW13 := Lib.hid (thru hbW13 HBwr.out)
              have SBW13 := Lib.hid hbW13; clear hbW13
              have HWW13 := Lib.hid hW13; clear hW13
              rw [HWW13.out]
              have zsW13 := SBW13.out.size
              clear ex0wr ex1wr ex2wr ex3wr
              go_wp2_with fail
              go_loopw [187] (fun t wr => ∃ k : Nat, k ≤ n ∧ t = .int .i64 k ∧ Hid (Below W13.heap.size W13 wr)) (fun t _ => n - (intOf t).toNat)
              case atStart => exact ⟨0, Nat.zero_le _, rfl, Lib.hid (Below.refl _ _)⟩
              case round =>
                obtain ⟨k, hk, rfl, BL⟩ := hrel
                by_cases hlt : k < n
                · have hi : (k : Int) < (n : Int) := by omega
                  have SBwr := Lib.hid (BL.out)
                  have HBwr := Lib.hid (thru SBwr.out HBW13.out)
                  have zswr := SBwr.out.size
                  have hok := OK.out k hlt
                  rcases HS.out.below HBwr.out with h | ⟨b, off, rfl, lb0, hc⟩
                  · omega
                  obtain ⟨x1, x2, x3, x4⟩ := hc k hlt
                  clear hc
                  generalize P k = p at *
                  obtain ⟨p1, p2, p3, p4⟩ := p
                  dsimp only at x1 x2 x3 x4
                  go_upto_region 30 with (fail)
                  obtain ⟨W14, hW14⟩ : ∃ W14, ((wr)).alloc (.cells #[.int .i64 p1, .int .i64 p2, .int .i64 p3, .int .i64 p4] 43) = W14 := ⟨_, rfl⟩
                  have hbW14 : Below wr.heap.size wr W14 := by rw [← hW14]; exact (Below.refl _ wr).alloc (by simp [gw_size]) _
                  have zpW14 : W14.heap[wr.heap.size]? = some (.cells #[.int .i64 p1, .int .i64 p2, .int .i64 p3, .int .i64 p4] 43 (0, 0)) := by rw [← hW14]; exact alloc_at (by simp [gw_size])
                  have ZpW14 := Lib.hid zpW14; clear zpW14
                  have HBW14 := Lib.hid (thru hbW14 HBwr.out)
                  have SBW14 := Lib.hid hbW14; clear hbW14
                  have HWW14 := Lib.hid hW14; clear hW14
                  rw [HWW14.out]
                  clear x1 x2 x3 x4 lb0
                  have zsW14 := SBW14.out.size
                  have ep0W14 : W14.cell? ⟨wr.heap.size, 0, none⟩ = some (.int .i64 p1) := cell_of_block ZpW14.out 0 (by simp)
                  have ep1W14 : W14.cell? ⟨wr.heap.size, 1, none⟩ = some (.int .i64 p2) := cell_of_block ZpW14.out 1 (by simp)
                  have ep2W14 : W14.cell? ⟨wr.heap.size, 2, none⟩ = some (.int .i64 p3) := cell_of_block ZpW14.out 2 (by simp)
                  have ep3W14 : W14.cell? ⟨wr.heap.size, 3, none⟩ = some (.int .i64 p4) := cell_of_block ZpW14.out 3 (by simp)
                  have lpW14 := (Array.getElem?_eq_some_iff.1 ZpW14.out).1
                  by_cases e1 : p1 = p2
                  · have t1 : (p1 == p2) = true := by simp [e1]
                    by_cases e2 : 0 < p1
                    · have t2 : decide (0 < p1) = true := by simp [e2]
                      obtain ⟨MO, oa, ob, mv, ma, mb⟩ := mix_one ⟨p1, p2, p3, p4⟩ hok e1 e2 (fun _ => ⟨p1, p2, p3, p4⟩) rfl
                      dsimp only at mv ma mb
                      have u1 : decide (oa ≤ p3) = true := by simp [ma]
                      have u2 : decide (p4 ≤ ob) = true := by simp [mb]
                      clear ma mb e1 e2
                      go_wp2_with fail
                      obtain ⟨W15, hW15⟩ : ∃ W15, ((W14)).alloc (.cells #[.int .i64 p1, .int .i64 p2, .int .i64 p3, .int .i64 p4] 43) = W15 := ⟨_, rfl⟩
                      have hbW15 : Below W14.heap.size W14 W15 := by rw [← hW15]; exact (Below.refl _ W14).alloc (by simp [gw_size]) _
                      have ZpW15 := Lib.hid ((hbW15.block _ (Array.getElem?_eq_some_iff.1 ZpW14.out).1).trans ZpW14.out)
                      have zqW15 : W15.heap[W14.heap.size]? = some (.cells #[.int .i64 p1, .int .i64 p2, .int .i64 p3, .int .i64 p4] 43 (0, 0)) := by rw [← hW15]; exact alloc_at (by simp [gw_size])
                      have ZqW15 := Lib.hid zqW15; clear zqW15
                      have HBW15 := Lib.hid (thru hbW15 HBW14.out)
                      have SBW15 := Lib.hid hbW15; clear hbW15
                      have HWW15 := Lib.hid hW15; clear hW15
                      rw [HWW15.out]
                      have zsW15 := SBW15.out.size
                      have MC := Mix_any _ 1 1 (fun _ => ⟨p1, p2, p3, p4⟩) 0 W15 (by omega) (part_one (x := ⟨p1, p2, p3, p4⟩) ZqW15.out)
                      rw [MO, mv] at MC
                      dsimp only at MC
                      have MC' := Lib.hid MC
                      clear MC MO mv
                      refine (Calls.grown (MC'.out)).mono ?_
                      rintro e w1 ⟨rfl, z4, rfl⟩
                      go_upto_region 32 with (fail)
                      obtain ⟨W16, hW16⟩ : ∃ W16, ((gw W15 z4)).alloc (.cells #[.int .i64 p1, .int .i64 p2, .int .i64 oa, .int .i64 ob] 43) = W16 := ⟨_, rfl⟩
                      have hbW16 : Below W15.heap.size W15 W16 := by rw [← hW16]; exact (below_gw W15 z4).alloc (by simp [gw_size]) _
                      have ZpW16 := Lib.hid ((hbW16.block _ (Array.getElem?_eq_some_iff.1 ZpW15.out).1).trans ZpW15.out)
                      have ZqW16 := Lib.hid ((hbW16.block _ (Array.getElem?_eq_some_iff.1 ZqW15.out).1).trans ZqW15.out)
                      have zoW16 : W16.heap[W15.heap.size + z4.bs.size]? = some (.cells #[.int .i64 p1, .int .i64 p2, .int .i64 oa, .int .i64 ob] 43 (0, 0)) := by rw [← hW16]; exact alloc_at (by simp [gw_size])
                      have ZoW16 := Lib.hid zoW16; clear zoW16
                      have HBW16 := Lib.hid (thru hbW16 HBW15.out)
                      have SBW16 := Lib.hid hbW16; clear hbW16
                      have HWW16 := Lib.hid hW16; clear hW16
                      rw [HWW16.out]
                      have zsW16 := SBW16.out.size
                      have ep0W16 : W16.cell? ⟨wr.heap.size, 0, none⟩ = some (.int .i64 p1) := cell_of_block ZpW16.out 0 (by simp)
                      have ep1W16 : W16.cell? ⟨wr.heap.size, 1, none⟩ = some (.int .i64 p2) := cell_of_block ZpW16.out 1 (by simp)
                      have ep2W16 : W16.cell? ⟨wr.heap.size, 2, none⟩ = some (.int .i64 p3) := cell_of_block ZpW16.out 2 (by simp)
                      have ep3W16 : W16.cell? ⟨wr.heap.size, 3, none⟩ = some (.int .i64 p4) := cell_of_block ZpW16.out 3 (by simp)
                      have lpW16 := (Array.getElem?_eq_some_iff.1 ZpW16.out).1
                      have eo0W16 : W16.cell? ⟨W15.heap.size + z4.bs.size, 0, none⟩ = some (.int .i64 p1) := cell_of_block ZoW16.out 0 (by simp)
                      have eo1W16 : W16.cell? ⟨W15.heap.size + z4.bs.size, 1, none⟩ = some (.int .i64 p2) := cell_of_block ZoW16.out 1 (by simp)
                      have eo2W16 : W16.cell? ⟨W15.heap.size + z4.bs.size, 2, none⟩ = some (.int .i64 oa) := cell_of_block ZoW16.out 2 (by simp)
                      have eo3W16 : W16.cell? ⟨W15.heap.size + z4.bs.size, 3, none⟩ = some (.int .i64 ob) := cell_of_block ZoW16.out 3 (by simp)
                      have loW16 := (Array.getElem?_eq_some_iff.1 ZoW16.out).1
                      go_wp2_with fail
                      refine (Calls.grown (alive_any _)).mono ?_
                      rintro e w1 ⟨rfl, z5, rfl⟩
                      go_wp2_with fail
                      go_ret
                      exact ⟨rfl, HBW16.out.gw z5⟩
                    · have t2 : decide (0 < p1) = false := by simp; omega
                      clear e1 e2
                      go_wp2_with fail
                      go_roundw
                      case rel => exact ⟨k + 1, by omega, by go_num, Lib.hid (BL.out.trans (SBW14.out.mono BL.out.size))⟩
                      case measure => simp [intOf]; omega
                  · have t1 : (p1 == p2) = false := by simp [e1]
                    clear e1
                    go_wp2_with fail
                    go_roundw
                    case rel => exact ⟨k + 1, by omega, by go_num, Lib.hid (BL.out.trans (SBW14.out.mono BL.out.size))⟩
                    case measure => simp [intOf]; omega
                · obtain rfl : n = k := by omega
                  have hi : ¬ (n : Int) < (n : Int) := by omega
                  go_wp2_with fail
                  refine (Calls.grown (alive_any _)).mono ?_
                  rintro e w1 ⟨rfl, z8, rfl⟩
                  go_wp2_with fail
                  go_ret
                  exact ⟨rfl, (thru BL.out HBW13.out).gw z8⟩
      · have ne : (me != 0) = true := by simpa using he
        have hv := MV.out
        rw [if_neg he] at hv
        injection hv with y1 y2 y3 y4
        subst y1 y2 y3 y4
        clear MOK MV he
        go_wp2_with fail
        refine (Calls.grown (alive_any _)).mono ?_
        rintro e w1 ⟨rfl, z3, rfl⟩
        go_wp2_with fail
        go_ret
        exact ⟨rfl, HBW12.out.gw z3⟩
end Go.Proofs.Ytohcopdfdmjhnaa.L1
