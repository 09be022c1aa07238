/- Contract of Mix. No conditions beyond each theorem's own. -/
import Derived.Test.YthmnlakgcoojhaaTa
set_option linter.unusedVariables false
set_option linter.unusedSimpArgs false
set_option linter.unusedSectionVars false
set_option linter.constructorNameAsVariable false
namespace Go.Proofs.Ythmnlakgcoojhaa.L1
open Go.RowKit
open Go.Proofs.Ythmnlakgcoojhaa

attribute [local go_sem] gw_cell gw_frozen gw_size

theorem run_minI {Q : Program} (w : World) (ts : Array TypeId) (t : TypeId) (k k' : IntKind) (x y : Int) : (Builtin.min_ ts t #[.int k x, .int k' y]).run Q w = .ok (.int k (min x y)) w := by rw [run_minZ, minZ_eq]
attribute [local go_sem ↓] run_minI

theorem s2_other {W : World} {b B : Nat} (h : b ≠ B) (x y : Value) : ((W.setCell ⟨B, 0, none⟩ x).setCell ⟨B, 1, none⟩ y).heap[b]? = W.heap[b]? := by
  rw [Below.heap_setCell _ _ _ _ (by simpa using h), Below.heap_setCell _ _ _ _ (by simpa using h)]
theorem s2_block {W : World} {b : Nat} {a0 b0 : Value} {t : TypeId} (h : W.heap[b]? = some (.cells #[a0, b0] t (0, 0))) (x y : Value) : ((W.setCell ⟨b, 0, none⟩ x).setCell ⟨b, 1, none⟩ y).heap[b]? = some (.cells #[x, y] t (0, 0)) := block_set 1 y (block_set 0 x h)
theorem upI_ge {x z : Int} (hz : 1 ≤ z) (h : z ≤ x) : 10000 ≤ upI (x * 10000) z := by
  unfold upI
  exact Int.le_ediv_of_mul_le (by omega) (by omega)

set_option maxRecDepth 100000 in
set_option maxHeartbeats 4000000 in
theorem Mix_good (a : Option Addr) (n c : Nat) (P : Nat → Prt) (s : Int) (w : World) (hS : PartsAt w a n P) (hn : n ≤ 64) (hok : allB n (fun i => (P i).ok) = true) (hk : inB s 0 1000 = true) :
    Calls Try.prog 7 #[.slice a n c, .int .i64 s] w fun e w' => e = .returned (.tuple #[.agg #[.int .i64 (mixV n P s).al, .int .i64 (mixV n P s).ah, .int .i64 (mixV n P s).sl, .int .i64 (mixV n P s).sh], .int .i64 (mixE n P s)]) ∧ Below w.heap.size w w' := by
  have OK := Lib.hid (allB_t.1 hok)
  have hs : 0 ≤ s ∧ s ≤ 1000 := by simpa [inB] using hk
  have BN := Lib.hid (fun k (h : k ≤ n) => mix_b hn (allB_t.1 hok) h)
  obtain ⟨E, hE⟩ : ∃ E : Ending, Ending.returned (.tuple #[.agg #[.int .i64 (mixV n P s).al, .int .i64 (mixV n P s).ah, .int .i64 (mixV n P s).sl, .int .i64 (mixV n P s).sh], .int .i64 (mixE n P s)]) = E := ⟨_, rfl⟩
  have hm : mixE n P s = if 1099511627776 < mAh P n then 11 else if mAl P n = 0 then 4 else 0 := by unfold mixE; rw [if_neg (by omega), if_pos hok, if_pos hk]
  have HE : Hid (E = if 1099511627776 < mAh P n then .returned (.tuple #[.agg #[.int .i64 0, .int .i64 0, .int .i64 0, .int .i64 0], .int .i64 11]) else if mAl P n = 0 then .returned (.tuple #[.agg #[.int .i64 0, .int .i64 0, .int .i64 0, .int .i64 0], .int .i64 4]) else
      .returned (.tuple #[.agg #[.int .i64 (mAl P n * (10000 - s) / 10000), .int .i64 (mAh P n), .int .i64 (min 10000 (mLl P n * 10000 / mAh P n)), .int .i64 (min 10000 (upI (mLh P n * 10000 * 10000) (mAl P n * (10000 - s))))], .int .i64 0])) := by
    refine Lib.hid ?_
    rw [← hE]
    unfold mixV
    rw [hm]
    unfold mLeast
    split
    · rfl
    · split
      · rfl
      · rfl
  rw [hE]
  clear hE hm
  obtain ⟨W1, hW1⟩ : ∃ W1, w.alloc (.cells #[.int .i64 0, .int .i64 0, .int .i64 0, .int .i64 0] 41) = W1 := ⟨_, rfl⟩
  have hBc : Below w.heap.size w W1 := by rw [← hW1]; exact below_alloc _ _
  have zc0 : W1.heap[w.heap.size]? = some (.cells #[.int .i64 0, .int .i64 0, .int .i64 0, .int .i64 0] 41 (0, 0)) := by rw [← hW1]; exact alloc_at rfl
  have c00 : W1.cell? ⟨w.heap.size, 0, none⟩ = some (.int .i64 0) := cell_of_block zc0 0 (by simp)
  have c01 : W1.cell? ⟨w.heap.size, 1, none⟩ = some (.int .i64 0) := cell_of_block zc0 1 (by simp)
  have c02 : W1.cell? ⟨w.heap.size, 2, none⟩ = some (.int .i64 0) := cell_of_block zc0 2 (by simp)
  have c03 : W1.cell? ⟨w.heap.size, 3, none⟩ = some (.int .i64 0) := cell_of_block zc0 3 (by simp)
  have lc0 := (Array.getElem?_eq_some_iff.1 zc0).1
  have Zc0 := Lib.hid zc0
  clear zc0
  have HBc := Lib.hid hBc; clear hBc
  have HWc := Lib.hid hW1; clear hW1
  have AL := Lib.hid (allP 19 #[] (enters_of Try.func19 (by kernel_rfl) rfl) (fun i => (P i).ok) a n c P W1 (by omega) (hS.below HBc.out) (fun W i hb hi => isPart_any _ _ _ _ W))
  have IN := Lib.hid (fun w => within_any s 0 1000 w)
  rw [hok] at AL
  simp only [hk] at IN
  have HS := Lib.hid hS
  clear hS hok hk
  go_enter Try.func7, Try.ntmps7
  go_upto_region 1 with (fail)
  rw [HWc.out]
  go_wp2_with fail
  refine (Calls.grown AL.out).mono ?_
  rintro e w1 ⟨rfl, z1, rfl⟩
  go_wp2_with fail
  refine (IN.out _).mono ?_
  rintro e w1 ⟨rfl, rfl⟩
  go_upto_region 8 with (fail)
  obtain ⟨b6, hb6⟩ : ∃ b, W1.heap.size + z1.bs.size = b := ⟨_, rfl⟩
  obtain ⟨W2, hW2⟩ : ∃ W2, ((gw W1 z1).alloc (.cells #[.int .i64 0, .int .i64 0] 27)).alloc (.cells #[.int .i64 0, .int .i64 0] 27) = W2 := ⟨_, rfl⟩
  rw [hW2]
  have J0 : MixJ w W2 b6 P 0 := by
    rw [← hW2]
    refine ⟨((HBc.out.gw z1).alloc (by simp [gw_size]; omega) _).alloc (by simp [gw_size]; omega) _, alloc_keep (alloc_keep (((below_gw W1 z1).block _ lc0).trans Zc0.out)), alloc_keep (alloc_at (by simp [gw_size]; omega)), alloc_at (by simp [gw_size]; omega), by omega⟩
  rw [hb6]
  have HJ0 := Lib.hid J0
  clear hW2 J0 hb6 AL IN Zc0 HBc HWc c00 c01 c02 c03 lc0
  go_wp2_with fail
  go_loopw [34] (fun t wr => ∃ k : Nat, k ≤ n ∧ t = .int .i64 k ∧ MixJ w wr b6 P k) (fun t _ => n - (intOf t).toNat)
  case atStart => exact ⟨0, Nat.zero_le _, rfl, HJ0.out⟩
  case round =>
    obtain ⟨k, hk, rfl, hJ⟩ := hrel
    clear HJ0
    have ZR := Lib.hid hJ.r
    have ZA := Lib.hid hJ.a
    have ZL := Lib.hid hJ.l
    have HBV := Lib.hid hJ.keep
    have lt6 := hJ.lt
    clear hJ
    by_cases hlt : k < n
    · have B := BN.out k hk
      have B' := BN.out (k + 1) hlt
      obtain ⟨q1, q2, q3, q4, q5, q6⟩ := partB_t (OK.out k hlt)
      have pl := puLo_le (a := (P k).al) (c := (P k).sl) q1 (by omega) q4 (by omega)
      have ph := puHi_le (b := (P k).ah) (d := (P k).sh) (by omega) q3 (by omega) q6
      have hi : (k : Int) < (n : Int) := by omega
      have P1 := Lib.hid (fun w => plus_any (mAl P k) (mAh P k) (P k).al (P k).ah w ⟨B.a0, by have := B.a1; omega⟩ ⟨B.b0, by have := B.b1; omega⟩ ⟨q1, by omega⟩ ⟨by omega, by omega⟩)
      have P2 := Lib.hid (fun w => pure_any (P k).al (P k).ah (P k).sl (P k).sh w q1 (by omega) (by omega) q3 q4 (by omega) (by omega) q6)
      have P3 := Lib.hid (fun w => plus_any (mLl P k) (mLh P k) (puLo (P k).al (P k).sl) (puHi (P k).ah (P k).sh) w ⟨B.c0, by have := B.c1; omega⟩ ⟨B.d0, by have := B.d1; omega⟩ ⟨pl.1, by omega⟩ ⟨ph.1, by omega⟩)
      have SA := Lib.hid (show mAl P (k + 1) = mAl P k + (P k).al from rfl)
      have SB := Lib.hid (show mAh P (k + 1) = mAh P k + (P k).ah from rfl)
      have SC := Lib.hid (show mLl P (k + 1) = mLl P k + puLo (P k).al (P k).sl from rfl)
      have SD := Lib.hid (show mLh P (k + 1) = mLh P k + puHi (P k).ah (P k).sh from rfl)
      rcases HS.out.below HBV.out with h0 | ⟨b, off, rfl, lb0, hc⟩
      · omega
      obtain ⟨x1, x2, x3, x4⟩ := hc k hlt
      clear hc B B' q1 q2 q3 q4 q5 q6 pl ph
      generalize mAl P k = vA at *
      generalize mAh P k = vB at *
      generalize mLl P k = vC at *
      generalize mLh P k = vD at *
      generalize puLo (P k).al (P k).sl = uC at *
      generalize puHi (P k).ah (P k).sh = uD at *
      generalize P k = p at *
      obtain ⟨p1, p2, p3, p4⟩ := p
      dsimp only at *
      go_upto_region 11 with (fail)
      obtain ⟨W3, hW3⟩ : ∃ W3, wr.alloc (.cells #[.int .i64 p1, .int .i64 p2, .int .i64 p3, .int .i64 p4] 41) = W3 := ⟨_, rfl⟩
      have hB3 : Below wr.heap.size wr W3 := by rw [← hW3]; exact below_alloc _ _
      have Z9 := Lib.hid (show W3.heap[wr.heap.size]? = some (.cells #[.int .i64 p1, .int .i64 p2, .int .i64 p3, .int .i64 p4] 41 (0, 0)) by rw [← hW3]; exact alloc_at rfl)
      replace ZR := Lib.hid ((hB3.block _ (Array.getElem?_eq_some_iff.1 ZR.out).1).trans ZR.out)
      replace ZA := Lib.hid ((hB3.block _ (Array.getElem?_eq_some_iff.1 ZA.out).1).trans ZA.out)
      replace ZL := Lib.hid ((hB3.block _ (Array.getElem?_eq_some_iff.1 ZL.out).1).trans ZL.out)
      have HB3 := Lib.hid (thru hB3 HBV.out)
      rw [hW3]
      clear hW3 hB3 x1 x2 x3 x4 lb0
      have c90 : W3.cell? ⟨wr.heap.size, 0, none⟩ = some (.int .i64 p1) := cell_of_block Z9.out 0 (by simp)
      have c91 : W3.cell? ⟨wr.heap.size, 1, none⟩ = some (.int .i64 p2) := cell_of_block Z9.out 1 (by simp)
      have c92 : W3.cell? ⟨wr.heap.size, 2, none⟩ = some (.int .i64 p3) := cell_of_block Z9.out 2 (by simp)
      have c93 : W3.cell? ⟨wr.heap.size, 3, none⟩ = some (.int .i64 p4) := cell_of_block Z9.out 3 (by simp)
      have c60 : W3.cell? ⟨b6, 0, none⟩ = some (.int .i64 vA) := cell_of_block ZA.out 0 (by simp)
      have c61 : W3.cell? ⟨b6, 1, none⟩ = some (.int .i64 vB) := cell_of_block ZA.out 1 (by simp)
      have c70 : W3.cell? ⟨b6 + 1, 0, none⟩ = some (.int .i64 vC) := cell_of_block ZL.out 0 (by simp)
      have c71 : W3.cell? ⟨b6 + 1, 1, none⟩ = some (.int .i64 vD) := cell_of_block ZL.out 1 (by simp)
      have l9 := (Array.getElem?_eq_some_iff.1 Z9.out).1
      have l6 := (Array.getElem?_eq_some_iff.1 ZA.out).1
      have l7 := (Array.getElem?_eq_some_iff.1 ZL.out).1
      have f60 := frozen_of_block ZA.out 0
      have f61 := frozen_of_block ZA.out 1
      have f70 := frozen_of_block ZL.out 0
      have f71 := frozen_of_block ZL.out 1
      refine wp_region_gw_tail 11 (by kernel_rfl) (by kernel_rfl) ?_
      simp only [List.take_succ_cons, List.take_zero]
      repeat (go_big_quiet_step ((first | (go_at_call 21; with_reducible (first | exact Calls.gw_of (P1.out _) | exact Calls.gw_of (P3.out _))) | (go_at_call 22; with_reducible exact Calls.gw_of (P2.out _)))))
      refine wpQuiet_nil ?_
      rintro _ ⟨z2, rfl⟩
      simp only [List.drop_succ_cons, List.drop_zero]
      go_wp2_with fail
      go_roundw
      case rel =>
        have lb := below_gw W3 z2
        have yr := (lb.block _ (Array.getElem?_eq_some_iff.1 ZR.out).1).trans ZR.out
        have ya := (lb.block _ l6).trans ZA.out
        have yl := (lb.block _ l7).trans ZL.out
        refine ⟨k + 1, by omega, by go_num, ⟨?_, ?_, ?_, ?_, lt6⟩⟩
        · exact ((((HB3.out.gw z2).setCell (by simp <;> omega) _).setCell (by simp <;> omega) _).setCell (by simp <;> omega) _).setCell (by simp <;> omega) _
        · rw [s2_other (by omega), s2_other (by omega)]; exact yr
        · rw [s2_other (by omega), SA.out, SB.out]; exact s2_block ya _ _
        · rw [SC.out, SD.out]; exact s2_block ((s2_other (by omega) _ _).trans yl) _ _
      case measure => simp [intOf]; omega
    · obtain rfl : n = k := by omega
      have B := BN.out n hk
      have b1 := B.a0; have b2 := B.b0; have b3 := B.c0; have b4 := B.d0; have b5 := B.a1; have b7 := B.b1; have b8 := B.c1; have b9 := B.d1; have b10 := B.ab
      clear B BN OK HS
      generalize mAl P n = vA at *
      generalize mAh P n = vB at *
      generalize mLl P n = vC at *
      generalize mLh P n = vD at *
      have hi : ¬ (n : Int) < (n : Int) := by omega
      have er0wr : wr.cell? ⟨w.heap.size, 0, none⟩ = some (.int .i64 0) := cell_of_block ZR.out 0 (by simp)
      have fr0wr := frozen_of_block ZR.out 0
      have er1wr : wr.cell? ⟨w.heap.size, 1, none⟩ = some (.int .i64 0) := cell_of_block ZR.out 1 (by simp)
      have fr1wr := frozen_of_block ZR.out 1
      have er2wr : wr.cell? ⟨w.heap.size, 2, none⟩ = some (.int .i64 0) := cell_of_block ZR.out 2 (by simp)
      have fr2wr := frozen_of_block ZR.out 2
      have er3wr : wr.cell? ⟨w.heap.size, 3, none⟩ = some (.int .i64 0) := cell_of_block ZR.out 3 (by simp)
      have fr3wr := frozen_of_block ZR.out 3
      have lrwr := (Array.getElem?_eq_some_iff.1 ZR.out).1
      have ea0wr : wr.cell? ⟨b6, 0, none⟩ = some (.int .i64 vA) := cell_of_block ZA.out 0 (by simp)
      have ea1wr : wr.cell? ⟨b6, 1, none⟩ = some (.int .i64 vB) := cell_of_block ZA.out 1 (by simp)
      have lawr := (Array.getElem?_eq_some_iff.1 ZA.out).1
      have el0wr : wr.cell? ⟨(b6 + 1), 0, none⟩ = some (.int .i64 vC) := cell_of_block ZL.out 0 (by simp)
      have el1wr : wr.cell? ⟨(b6 + 1), 1, none⟩ = some (.int .i64 vD) := cell_of_block ZL.out 1 (by simp)
      have llwr := (Array.getElem?_eq_some_iff.1 ZL.out).1
      by_cases g1 : 1099511627776 < vB
      · skip
        have e1 := HE.out
        rw [if_pos g1] at e1
        replace HE := Lib.hid e1
        clear e1
        go_wp2_with fail
        refine bodyPost_ret (v := .tuple #[.agg #[.int .i64 0, .int .i64 0, .int .i64 0, .int .i64 0], .int .i64 11]) (by simp [results, Try.results7, go_sem, *]) rfl ⟨HE.out.symm, ?_⟩
        exact ((((HBV.out).setCell (by simp <;> omega) _).setCell (by simp <;> omega) _).setCell (by simp <;> omega) _).setCell (by simp <;> omega) _
      · skip
        have e1 := HE.out
        rw [if_neg g1] at e1
        replace HE := Lib.hid e1
        clear e1
        by_cases g2 : vA = 0
        · skip
          have e1 := HE.out
          rw [if_pos g2] at e1
          replace HE := Lib.hid e1
          clear e1
          subst g2
          go_wp2_with fail
          refine bodyPost_ret (v := .tuple #[.agg #[.int .i64 0, .int .i64 0, .int .i64 0, .int .i64 0], .int .i64 4]) (by simp [results, Try.results7, go_sem, *]) rfl ⟨HE.out.symm, ?_⟩
          exact ((((HBV.out).setCell (by simp <;> omega) _).setCell (by simp <;> omega) _).setCell (by simp <;> omega) _).setCell (by simp <;> omega) _
        · skip
          have e1 := HE.out
          rw [if_neg g2] at e1
          replace HE := Lib.hid e1
          clear e1
          have p0 := Int.mul_le_mul (show vA ≤ 1099511627776 by omega) (show 10000 - s ≤ 10000 by omega) (by omega) (by omega)
          have p1 := Int.mul_le_mul (show 1 ≤ vA by omega) (show 1 ≤ 10000 - s by omega) (by omega) (by omega)
          obtain ⟨Zn, hZ⟩ : ∃ Zn : Nat, vA * (10000 - s) = (Zn : Int) := ⟨(vA * (10000 - s)).toNat, by omega⟩
          obtain ⟨X, hX⟩ : ∃ X : Nat, vD * 10000 = (X : Int) := ⟨(vD * 10000).toNat, by omega⟩
          obtain ⟨Y, hY⟩ : ∃ Y : Int, vC * 10000 = Y := ⟨_, rfl⟩
          have y0 : 0 ≤ Y := by omega
          have y1 : Y ≤ 703687441776640000 := by omega
          have v0 := Int.ediv_nonneg y0 (show 0 ≤ vB by omega)
          have v1 : Y / vB ≤ Y := Int.ediv_le_self _ y0
          obtain ⟨V, hV⟩ : ∃ V, Y / vB = V := ⟨_, rfl⟩
          rw [hV] at v0 v1
          have e1 := HE.out
          rw [hZ, hX, hY, hV] at e1
          replace HE := Lib.hid e1
          clear e1
          rw [hZ] at p0 p1
          have g3 : ¬ vB = 0 := by omega
          have z1 : 1 ≤ Zn := by omega
          have z2 : Zn ≤ 10995116277760000 := by omega
          have x1 : X ≤ 703687441776640000 := by omega
          clear p0 p1 b1 b3 b4 b5 b7 b8 b9 b10
          go_upto_region 19 with (fail)
          obtain ⟨W11, hW11⟩ : ∃ W11, ((wr)).alloc (.cells #[.int .i64 ((Zn : Int) / 10000), .int .i64 vB, .int .i64 0, .int .i64 0] 41) = W11 := ⟨_, rfl⟩
          have hbW11 : Below wr.heap.size wr W11 := by rw [← hW11]; exact (Below.refl _ wr).alloc (by simp [gw_size]) _
          have ZrW11 := Lib.hid ((hbW11.block _ (Array.getElem?_eq_some_iff.1 ZR.out).1).trans ZR.out)
          have ZaW11 := Lib.hid ((hbW11.block _ (Array.getElem?_eq_some_iff.1 ZA.out).1).trans ZA.out)
          have ZlW11 := Lib.hid ((hbW11.block _ (Array.getElem?_eq_some_iff.1 ZL.out).1).trans ZL.out)
          have zoW11 : W11.heap[wr.heap.size]? = some (.cells #[.int .i64 ((Zn : Int) / 10000), .int .i64 vB, .int .i64 0, .int .i64 0] 41 (0, 0)) := by rw [← hW11]; exact alloc_at (by simp [gw_size])
          have ZoW11 := Lib.hid zoW11; clear zoW11
          have HBW11 := Lib.hid (thru hbW11 HBV.out)
          have SBW11 := Lib.hid hbW11; clear hbW11
          have HWW11 := Lib.hid hW11; clear hW11
          rw [HWW11.out]
          have zsW11 := SBW11.out.size
          have eo0W11 : W11.cell? ⟨wr.heap.size, 0, none⟩ = some (.int .i64 ((Zn : Int) / 10000)) := cell_of_block ZoW11.out 0 (by simp)
          have fo0W11 := frozen_of_block ZoW11.out 0
          have eo1W11 : W11.cell? ⟨wr.heap.size, 1, none⟩ = some (.int .i64 vB) := cell_of_block ZoW11.out 1 (by simp)
          have fo1W11 := frozen_of_block ZoW11.out 1
          have eo2W11 : W11.cell? ⟨wr.heap.size, 2, none⟩ = some (.int .i64 0) := cell_of_block ZoW11.out 2 (by simp)
          have fo2W11 := frozen_of_block ZoW11.out 2
          have eo3W11 : W11.cell? ⟨wr.heap.size, 3, none⟩ = some (.int .i64 0) := cell_of_block ZoW11.out 3 (by simp)
          have fo3W11 := frozen_of_block ZoW11.out 3
          have loW11 := (Array.getElem?_eq_some_iff.1 ZoW11.out).1
          have ea0W11 : W11.cell? ⟨b6, 0, none⟩ = some (.int .i64 vA) := cell_of_block ZaW11.out 0 (by simp)
          have ea1W11 : W11.cell? ⟨b6, 1, none⟩ = some (.int .i64 vB) := cell_of_block ZaW11.out 1 (by simp)
          have laW11 := (Array.getElem?_eq_some_iff.1 ZaW11.out).1
          have el0W11 : W11.cell? ⟨(b6 + 1), 0, none⟩ = some (.int .i64 vC) := cell_of_block ZlW11.out 0 (by simp)
          have el1W11 : W11.cell? ⟨(b6 + 1), 1, none⟩ = some (.int .i64 vD) := cell_of_block ZlW11.out 1 (by simp)
          have llW11 := (Array.getElem?_eq_some_iff.1 ZlW11.out).1
          go_upto_region 21 with (fail)
          obtain ⟨W12, hW12⟩ : ∃ W12, ((W11).setCell ⟨wr.heap.size, 2, none⟩ (.int .i64 (min 10000 V))).setCell ⟨wr.heap.size, 3, none⟩ (.int .i64 10000) = W12 := ⟨_, rfl⟩
          have hgW12 : W11.grownBy W12 (some (wr.heap.size)) := by rw [← hW12]; exact grownBy_trans (grownBy_trans (grownBy_of_below (Below.refl _ W11) _) (grownBy_set _ _ _ _)) (grownBy_set _ _ _ _)
          have ZrW12 := Lib.hid ((hgW12.block _ (Array.getElem?_eq_some_iff.1 ZrW11.out).1 (by simp <;> omega)).trans ZrW11.out)
          have ZaW12 := Lib.hid ((hgW12.block _ (Array.getElem?_eq_some_iff.1 ZaW11.out).1 (by simp <;> omega)).trans ZaW11.out)
          have ZlW12 := Lib.hid ((hgW12.block _ (Array.getElem?_eq_some_iff.1 ZlW11.out).1 (by simp <;> omega)).trans ZlW11.out)
          have ZoW12 := Lib.hid (show W12.heap[wr.heap.size]? = some (.cells #[.int .i64 ((Zn : Int) / 10000), .int .i64 vB, .int .i64 (min 10000 V), .int .i64 10000] 41 (0, 0)) by rw [← hW12]; exact block_set 3 _ (block_set 2 _ (((Below.refl _ W11).block _ (Array.getElem?_eq_some_iff.1 ZoW11.out).1).trans ZoW11.out)))
          have HBW12 := Lib.hid (HBW11.out.grown hgW12 HBW11.out.size (fun g hg => by cases hg; omega))
          have zsW12 := hgW12.size
          have GBW12 := Lib.hid hgW12; clear hgW12
          have HWW12 := Lib.hid hW12; clear hW12
          rw [HWW12.out]
          have er0W12 : W12.cell? ⟨w.heap.size, 0, none⟩ = some (.int .i64 0) := cell_of_block ZrW12.out 0 (by simp)
          have fr0W12 := frozen_of_block ZrW12.out 0
          have er1W12 : W12.cell? ⟨w.heap.size, 1, none⟩ = some (.int .i64 0) := cell_of_block ZrW12.out 1 (by simp)
          have fr1W12 := frozen_of_block ZrW12.out 1
          have er2W12 : W12.cell? ⟨w.heap.size, 2, none⟩ = some (.int .i64 0) := cell_of_block ZrW12.out 2 (by simp)
          have fr2W12 := frozen_of_block ZrW12.out 2
          have er3W12 : W12.cell? ⟨w.heap.size, 3, none⟩ = some (.int .i64 0) := cell_of_block ZrW12.out 3 (by simp)
          have fr3W12 := frozen_of_block ZrW12.out 3
          have lrW12 := (Array.getElem?_eq_some_iff.1 ZrW12.out).1
          have ea0W12 : W12.cell? ⟨b6, 0, none⟩ = some (.int .i64 vA) := cell_of_block ZaW12.out 0 (by simp)
          have ea1W12 : W12.cell? ⟨b6, 1, none⟩ = some (.int .i64 vB) := cell_of_block ZaW12.out 1 (by simp)
          have laW12 := (Array.getElem?_eq_some_iff.1 ZaW12.out).1
          have el0W12 : W12.cell? ⟨(b6 + 1), 0, none⟩ = some (.int .i64 vC) := cell_of_block ZlW12.out 0 (by simp)
          have el1W12 : W12.cell? ⟨(b6 + 1), 1, none⟩ = some (.int .i64 vD) := cell_of_block ZlW12.out 1 (by simp)
          have llW12 := (Array.getElem?_eq_some_iff.1 ZlW12.out).1
          have eo0W12 : W12.cell? ⟨wr.heap.size, 0, none⟩ = some (.int .i64 ((Zn : Int) / 10000)) := cell_of_block ZoW12.out 0 (by simp)
          have fo0W12 := frozen_of_block ZoW12.out 0
          have eo1W12 : W12.cell? ⟨wr.heap.size, 1, none⟩ = some (.int .i64 vB) := cell_of_block ZoW12.out 1 (by simp)
          have fo1W12 := frozen_of_block ZoW12.out 1
          have eo2W12 : W12.cell? ⟨wr.heap.size, 2, none⟩ = some (.int .i64 (min 10000 V)) := cell_of_block ZoW12.out 2 (by simp)
          have fo2W12 := frozen_of_block ZoW12.out 2
          have eo3W12 : W12.cell? ⟨wr.heap.size, 3, none⟩ = some (.int .i64 10000) := cell_of_block ZoW12.out 3 (by simp)
          have fo3W12 := frozen_of_block ZoW12.out 3
          have loW12 := (Array.getElem?_eq_some_iff.1 ZoW12.out).1
          clear hY hV
          by_cases g4 : X < Zn
          · have g5 : (X : Int) < (Zn : Int) := by omega
            obtain ⟨D, hD⟩ : ∃ D : Nat, X * 10000 = D := ⟨_, rfl⟩
            have M := Shut.mk (fun w => Any.bits_Mul64 (P := Try.prog) mulL X 10000 (by omega) (by omega) w)
            rw [hD] at M
            obtain ⟨H, hH⟩ : ∃ H : Nat, D / 18446744073709551616 = H := ⟨_, rfl⟩
            have hr : H < Zn := by rw [← hH, Nat.div_lt_iff_lt_mul (by decide)]; omega
            obtain ⟨Lw, hL⟩ : ∃ L : Nat, D % 18446744073709551616 = L := ⟨_, rfl⟩
            have hs : H * 18446744073709551616 + Lw = D := by rw [← hH, ← hL, Nat.mul_comm]; exact Nat.div_add_mod D 18446744073709551616
            have hl : Lw < 18446744073709551616 := hL ▸ Nat.mod_lt D (by decide)
            have DV := Shut.mk (fun w => Div64_any H Lw Zn w hr hl (by omega))
            simp only [hH, hL] at M
            simp only [hs] at DV
            have q0 : D / Zn < 10000 := by rw [Nat.div_lt_iff_lt_mul (by omega)]; omega
            have UP := upI_nat (z := D) z1
            have e1 := HE.out
            rw [show (X : Int) * 10000 = (D : Int) by omega, UP] at e1
            replace HE := Lib.hid e1
            clear e1 UP
            obtain ⟨Q, hQ⟩ : ∃ Q : Nat, D / Zn = Q := ⟨_, rfl⟩
            obtain ⟨R, hR⟩ : ∃ R : Nat, D % Zn = R := ⟨_, rfl⟩
            have rb : R < Zn := by rw [← hR]; exact Nat.mod_lt _ (by omega)
            simp only [hQ, hR] at DV
            rw [hQ, hR] at HE
            rw [hQ] at q0
            clear hD hH hL hs hQ hR hr hl g4
            by_cases g6 : R = 0
            · subst g6
              have e1 := HE.out
              rw [if_pos rfl] at e1
              replace HE := Lib.hid e1
              clear e1
              go_wp2_with (refine (M.out _).mono ?_; rintro e w1 ⟨rfl, hw1⟩; obtain rfl : W12 = w1 := (by first | exact hw1 | exact hw1.symm))
              refine (Calls.grown (DV.out _)).mono ?_
              rintro e w2 ⟨rfl, z3, rfl⟩
              go_upto_region 27 with (fail)
              go_upto_region 28 with (fail)
              obtain ⟨W13, hW13⟩ : ∃ W13, ((gw W12 z3)).setCell ⟨wr.heap.size, 3, none⟩ (.int .i64 (min 10000 (Q : Int))) = W13 := ⟨_, rfl⟩
              have hgW13 : W12.grownBy W13 (some (wr.heap.size)) := by rw [← hW13]; exact grownBy_trans (grownBy_of_below (below_gw W12 z3) _) (grownBy_set _ _ _ _)
              have ZrW13 := Lib.hid ((hgW13.block _ (Array.getElem?_eq_some_iff.1 ZrW12.out).1 (by simp <;> omega)).trans ZrW12.out)
              have ZaW13 := Lib.hid ((hgW13.block _ (Array.getElem?_eq_some_iff.1 ZaW12.out).1 (by simp <;> omega)).trans ZaW12.out)
              have ZlW13 := Lib.hid ((hgW13.block _ (Array.getElem?_eq_some_iff.1 ZlW12.out).1 (by simp <;> omega)).trans ZlW12.out)
              have ZoW13 := Lib.hid (show W13.heap[wr.heap.size]? = some (.cells #[.int .i64 ((Zn : Int) / 10000), .int .i64 vB, .int .i64 (min 10000 V), .int .i64 (min 10000 (Q : Int))] 41 (0, 0)) by rw [← hW13]; exact block_set 3 _ (((below_gw W12 z3).block _ (Array.getElem?_eq_some_iff.1 ZoW12.out).1).trans ZoW12.out))
              have HBW13 := Lib.hid (HBW12.out.grown hgW13 HBW12.out.size (fun g hg => by cases hg; omega))
              have zsW13 := hgW13.size
              have GBW13 := Lib.hid hgW13; clear hgW13
              have HWW13 := Lib.hid hW13; clear hW13
              rw [HWW13.out]
              have er0W13 : W13.cell? ⟨w.heap.size, 0, none⟩ = some (.int .i64 0) := cell_of_block ZrW13.out 0 (by simp)
              have fr0W13 := frozen_of_block ZrW13.out 0
              have er1W13 : W13.cell? ⟨w.heap.size, 1, none⟩ = some (.int .i64 0) := cell_of_block ZrW13.out 1 (by simp)
              have fr1W13 := frozen_of_block ZrW13.out 1
              have er2W13 : W13.cell? ⟨w.heap.size, 2, none⟩ = some (.int .i64 0) := cell_of_block ZrW13.out 2 (by simp)
              have fr2W13 := frozen_of_block ZrW13.out 2
              have er3W13 : W13.cell? ⟨w.heap.size, 3, none⟩ = some (.int .i64 0) := cell_of_block ZrW13.out 3 (by simp)
              have fr3W13 := frozen_of_block ZrW13.out 3
              have lrW13 := (Array.getElem?_eq_some_iff.1 ZrW13.out).1
              have eo0W13 : W13.cell? ⟨wr.heap.size, 0, none⟩ = some (.int .i64 ((Zn : Int) / 10000)) := cell_of_block ZoW13.out 0 (by simp)
              have eo1W13 : W13.cell? ⟨wr.heap.size, 1, none⟩ = some (.int .i64 vB) := cell_of_block ZoW13.out 1 (by simp)
              have eo2W13 : W13.cell? ⟨wr.heap.size, 2, none⟩ = some (.int .i64 (min 10000 V)) := cell_of_block ZoW13.out 2 (by simp)
              have eo3W13 : W13.cell? ⟨wr.heap.size, 3, none⟩ = some (.int .i64 (min 10000 (Q : Int))) := cell_of_block ZoW13.out 3 (by simp)
              have loW13 := (Array.getElem?_eq_some_iff.1 ZoW13.out).1
              go_wp2_with fail
              refine bodyPost_ret (v := .tuple #[.agg #[.int .i64 ((Zn : Int) / 10000), .int .i64 vB, .int .i64 (min 10000 V), .int .i64 (min 10000 (Q : Int))], .int .i64 0]) (by simp [results, Try.results7, go_sem, *]) rfl ⟨HE.out.symm, ?_⟩
              exact ((((HBW13.out).setCell (by simp <;> omega) _).setCell (by simp <;> omega) _).setCell (by simp <;> omega) _).setCell (by simp <;> omega) _
            · have e1 := HE.out
              rw [if_neg g6, Int.natCast_add, Int.natCast_one] at e1
              replace HE := Lib.hid e1
              clear e1
              have g7 : (0 : Int) < (R : Int) := by omega
              go_wp2_with (refine (M.out _).mono ?_; rintro e w1 ⟨rfl, hw1⟩; obtain rfl : W12 = w1 := (by first | exact hw1 | exact hw1.symm))
              refine (Calls.grown (DV.out _)).mono ?_
              rintro e w2 ⟨rfl, z3, rfl⟩
              go_upto_region 27 with (fail)
              go_upto_region 28 with (fail)
              obtain ⟨W13, hW13⟩ : ∃ W13, ((gw W12 z3)).setCell ⟨wr.heap.size, 3, none⟩ (.int .i64 (min 10000 ((Q : Int) + 1))) = W13 := ⟨_, rfl⟩
              have hgW13 : W12.grownBy W13 (some (wr.heap.size)) := by rw [← hW13]; exact grownBy_trans (grownBy_of_below (below_gw W12 z3) _) (grownBy_set _ _ _ _)
              have ZrW13 := Lib.hid ((hgW13.block _ (Array.getElem?_eq_some_iff.1 ZrW12.out).1 (by simp <;> omega)).trans ZrW12.out)
              have ZaW13 := Lib.hid ((hgW13.block _ (Array.getElem?_eq_some_iff.1 ZaW12.out).1 (by simp <;> omega)).trans ZaW12.out)
              have ZlW13 := Lib.hid ((hgW13.block _ (Array.getElem?_eq_some_iff.1 ZlW12.out).1 (by simp <;> omega)).trans ZlW12.out)
              have ZoW13 := Lib.hid (show W13.heap[wr.heap.size]? = some (.cells #[.int .i64 ((Zn : Int) / 10000), .int .i64 vB, .int .i64 (min 10000 V), .int .i64 (min 10000 ((Q : Int) + 1))] 41 (0, 0)) by rw [← hW13]; exact block_set 3 _ (((below_gw W12 z3).block _ (Array.getElem?_eq_some_iff.1 ZoW12.out).1).trans ZoW12.out))
              have HBW13 := Lib.hid (HBW12.out.grown hgW13 HBW12.out.size (fun g hg => by cases hg; omega))
              have zsW13 := hgW13.size
              have GBW13 := Lib.hid hgW13; clear hgW13
              have HWW13 := Lib.hid hW13; clear hW13
              rw [HWW13.out]
              have er0W13 : W13.cell? ⟨w.heap.size, 0, none⟩ = some (.int .i64 0) := cell_of_block ZrW13.out 0 (by simp)
              have fr0W13 := frozen_of_block ZrW13.out 0
              have er1W13 : W13.cell? ⟨w.heap.size, 1, none⟩ = some (.int .i64 0) := cell_of_block ZrW13.out 1 (by simp)
              have fr1W13 := frozen_of_block ZrW13.out 1
              have er2W13 : W13.cell? ⟨w.heap.size, 2, none⟩ = some (.int .i64 0) := cell_of_block ZrW13.out 2 (by simp)
              have fr2W13 := frozen_of_block ZrW13.out 2
              have er3W13 : W13.cell? ⟨w.heap.size, 3, none⟩ = some (.int .i64 0) := cell_of_block ZrW13.out 3 (by simp)
              have fr3W13 := frozen_of_block ZrW13.out 3
              have lrW13 := (Array.getElem?_eq_some_iff.1 ZrW13.out).1
              have eo0W13 : W13.cell? ⟨wr.heap.size, 0, none⟩ = some (.int .i64 ((Zn : Int) / 10000)) := cell_of_block ZoW13.out 0 (by simp)
              have eo1W13 : W13.cell? ⟨wr.heap.size, 1, none⟩ = some (.int .i64 vB) := cell_of_block ZoW13.out 1 (by simp)
              have eo2W13 : W13.cell? ⟨wr.heap.size, 2, none⟩ = some (.int .i64 (min 10000 V)) := cell_of_block ZoW13.out 2 (by simp)
              have eo3W13 : W13.cell? ⟨wr.heap.size, 3, none⟩ = some (.int .i64 (min 10000 ((Q : Int) + 1))) := cell_of_block ZoW13.out 3 (by simp)
              have loW13 := (Array.getElem?_eq_some_iff.1 ZoW13.out).1
              go_wp2_with fail
              refine bodyPost_ret (v := .tuple #[.agg #[.int .i64 ((Zn : Int) / 10000), .int .i64 vB, .int .i64 (min 10000 V), .int .i64 (min 10000 ((Q : Int) + 1))], .int .i64 0]) (by simp [results, Try.results7, go_sem, *]) rfl ⟨HE.out.symm, ?_⟩
              exact ((((HBW13.out).setCell (by simp <;> omega) _).setCell (by simp <;> omega) _).setCell (by simp <;> omega) _).setCell (by simp <;> omega) _
          · have g5 : ¬ (X : Int) < (Zn : Int) := by omega
            have u1 := upI_ge (x := (X : Int)) (z := (Zn : Int)) (by omega) (by omega)
            have e1 := HE.out
            rw [show min 10000 (upI ((X : Int) * 10000) (Zn : Int)) = 10000 by omega] at e1
            replace HE := Lib.hid e1
            clear e1 u1
            go_wp2_with fail
            refine bodyPost_ret (v := .tuple #[.agg #[.int .i64 ((Zn : Int) / 10000), .int .i64 vB, .int .i64 (min 10000 V), .int .i64 10000], .int .i64 0]) (by simp [results, Try.results7, go_sem, *]) rfl ⟨HE.out.symm, ?_⟩
            exact ((((HBW12.out).setCell (by simp <;> omega) _).setCell (by simp <;> omega) _).setCell (by simp <;> omega) _).setCell (by simp <;> omega) _

theorem Mix_any (a : Option Addr) (n c : Nat) (P : Nat → Prt) (k : Int) (w : World) (hn : n ≤ 9223372036854775807) (hS : PartsAt w a n P) :
    Calls Try.prog 7 #[.slice a n c, .int .i64 k] w fun e w' => e = .returned (.tuple #[.agg #[.int .i64 (mixV n P k).al, .int .i64 (mixV n P k).ah, .int .i64 (mixV n P k).sl, .int .i64 (mixV n P k).sh], .int .i64 (mixE n P k)]) ∧ Below w.heap.size w w' := by
  by_cases h : n ≤ 64 ∧ allB n (fun i => (P i).ok) = true ∧ inB k 0 1000 = true
  · exact Mix_good a n c P k w hS h.1 h.2.1 h.2.2
  · exact Mix_bad a n c P k w hn hS h
end Go.Proofs.Ythmnlakgcoojhaa.L1
