/- Contract of the reference's Mix. No conditions beyond each theorem's own. -/
import Derived.Test.YtohcopdfdmjhnaaTb
import Derived.Test.YtohcopdfdmjhnaaSu
import Derived.Test.YtohcopdfdmjhnaaSv
set_option linter.unusedVariables false
set_option linter.unusedSimpArgs false
set_option linter.unusedSectionVars false
set_option linter.constructorNameAsVariable false
namespace Go.Proofs.Ytohcopdfdmjhnaa.L1
open Go.RowKit
open Go.Proofs.Ytohcopdfdmjhnaa

attribute [local go_sem] gw_cell gw_frozen gw_size

theorem rf_infoSpn : (Try.prog.info? 27).map (fun i => (i.zero, i.size)) = some (some (.agg #[.int .i64 0, .int .i64 0]), 2) := by kernel_rfl
attribute [local go_sem ↓] run_minI
/-- the state between two rounds -/
structure RMixJ (w V : World) (b8 : Nat) (P : Nat → Prt) (k : Nat) : Prop where
  keep : Below w.heap.size w V
  r : V.heap[w.heap.size]? = some (.cells #[.int .i64 0, .int .i64 0, .int .i64 0, .int .i64 0] 43 (0, 0))
  l : V.heap[b8]? = some (.cells #[.int .i64 (mLl P k), .int .i64 (mLh P k)] 27 (0, 0))
  lt : w.heap.size < b8

set_option maxRecDepth 100000 in
set_option maxHeartbeats 4000000 in
theorem rMix_any (a : Option Addr) (n c : Nat) (P : Nat → Prt) (s : Int) (w : World) (hn : n ≤ 9223372036854775807) (hS : PartsAt w a n P) :
    Calls Try.prog 45 #[.slice a n c, .int .i64 s] w fun e w' => e = .returned (.tuple #[.agg #[.int .i64 (mixV n P s).al, .int .i64 (mixV n P s).ah, .int .i64 (mixV n P s).sl, .int .i64 (mixV n P s).sh], .int .i64 (mixE n P s)]) ∧ Below w.heap.size w w' := by
  obtain ⟨E, hE⟩ : ∃ E : Ending, Ending.returned (.tuple #[.agg #[.int .i64 (mixV n P s).al, .int .i64 (mixV n P s).ah, .int .i64 (mixV n P s).sl, .int .i64 (mixV n P s).sh], .int .i64 (mixE n P s)]) = E := ⟨_, rfl⟩
  rw [hE]
  have HE := Lib.hid hE
  clear hE
  obtain ⟨W1, hW1⟩ : ∃ W1, w.alloc (.cells #[.int .i64 0, .int .i64 0, .int .i64 0, .int .i64 0] 43) = W1 := ⟨_, rfl⟩
  have hBc : Below w.heap.size w W1 := by rw [← hW1]; exact below_alloc _ _
  have zc0 : W1.heap[w.heap.size]? = some (.cells #[.int .i64 0, .int .i64 0, .int .i64 0, .int .i64 0] 43 (0, 0)) := by rw [← hW1]; exact alloc_at rfl
  have c00 : W1.cell? ⟨w.heap.size, 0, none⟩ = some (.int .i64 0) := cell_of_block zc0 0 (by simp)
  have c01 : W1.cell? ⟨w.heap.size, 1, none⟩ = some (.int .i64 0) := cell_of_block zc0 1 (by simp)
  have c02 : W1.cell? ⟨w.heap.size, 2, none⟩ = some (.int .i64 0) := cell_of_block zc0 2 (by simp)
  have c03 : W1.cell? ⟨w.heap.size, 3, none⟩ = some (.int .i64 0) := cell_of_block zc0 3 (by simp)
  have lc0 := (Array.getElem?_eq_some_iff.1 zc0).1
  have fc00 := frozen_of_block zc0 0
  have fc01 := frozen_of_block zc0 1
  have fc02 := frozen_of_block zc0 2
  have fc03 := frozen_of_block zc0 3
  have Zc0 := Lib.hid zc0
  clear zc0
  have HBc := Lib.hid hBc; clear hBc
  have HWc := Lib.hid hW1; clear hW1
  by_cases h0 : 64 < n
  · have hS0 := hS
    clear hS0
    go_enter Try.func45, Try.ntmps45
    go_upto_region 1 with (fail)
    rw [HWc.out]
    go_wp2_with fail
    have e3 : mixE n P s = 3 := by unfold mixE; rw [if_pos h0]
    have e1 : mixV n P s = ⟨0, 0, 0, 0⟩ := if_neg (by rw [e3]; decide)
    refine bodyPost_ret (v := .tuple #[.agg #[.int .i64 0, .int .i64 0, .int .i64 0, .int .i64 0], .int .i64 3]) (by simp [results, Try.results45, go_sem, *]) rfl ⟨by rw [← HE.out, e1, e3], ?_⟩
    exact (((HBc.out.setCell (by simp) _).setCell (by simp) _).setCell (by simp) _).setCell (by simp) _
  have HS := Lib.hid hS
  clear hS
  have h0' : n ≤ 64 := by omega
  go_enter Try.func45, Try.ntmps45
  go_upto_region 1 with (fail)
  rw [HWc.out]
  go_upto_region 5 with (fail)
  obtain ⟨b8, hb8⟩ : ∃ b, W1.heap.size = b := ⟨_, rfl⟩
  obtain ⟨W2, hW2⟩ : ∃ W2, W1.alloc (.cells #[.int .i64 0, .int .i64 0] 27) = W2 := ⟨_, rfl⟩
  rw [hW2]
  have J0 : RMixJ w W2 b8 P 0 := by
    rw [← hW2]
    exact ⟨HBc.out.alloc HBc.out.size _, alloc_keep Zc0.out, alloc_at hb8, by omega⟩
  rw [hb8]
  have HJ0 := Lib.hid J0
  have PTA : Hid (∀ V, Below w.heap.size w V → PartsAt V a n P) := Lib.hid (fun V hb => HS.out.below hb)
  clear hW2 J0 hb8 HS Zc0 HBc HWc c00 c01 c02 c03 lc0 fc00 fc01 fc02 fc03
  go_wp2_with fail
  go_loopw [6, 7, 9] (fun lo hi t wr => ∃ k : Nat, k ≤ n ∧ lo = .int .i64 (mAl P k) ∧ hi = .int .i64 (mAh P k) ∧ t = .int .i64 k ∧ Hid (∀ i, i < k → (P i).ok = true) ∧ RMixJ w wr b8 P k) (fun _ _ t _ => n - (intOf t).toNat)
  case atStart => exact ⟨0, Nat.zero_le _, rfl, rfl, rfl, Lib.hid (fun i hi => by omega), HJ0.out⟩
  case round =>
    obtain ⟨k, hk, rfl, rfl, rfl, hall, hJ⟩ := hrel
    clear HJ0
    have ZR := Lib.hid hJ.r
    have ZL := Lib.hid hJ.l
    have HBV := Lib.hid hJ.keep
    have lt6 := hJ.lt
    clear hJ
    have B := mix_b (n := k) (P := P) (k := k) (by omega) hall.out (Nat.le_refl _)
    have a0 := B.a0; have a1 := B.a1; have b0 := B.b0; have b1 := B.b1; have d0 := B.c0; have d1 := B.c1; have f0 := B.d0; have f1 := B.d1
    by_cases hlt : k < n
    · clear B
      have hi : (k : Int) < (n : Int) := by omega
      rcases PTA.out wr HBV.out with h | ⟨b, off, rfl, lb0, hc⟩
      · omega
      obtain ⟨x1, x2, x3, x4⟩ := hc k hlt
      clear hc
      cases hp : (P k).ok with
      | false =>
        have RP := Lib.hid (fun w => rPart_any (P k).al (P k).ah (P k).sl (P k).sh w)
        simp only [show partB (P k).al (P k).ah (P k).sl (P k).sh = false from hp] at RP
        have AF := allB_f (p := fun i => (P i).ok) hlt hp
        have er0wr : wr.cell? ⟨w.heap.size, 0, none⟩ = some (.int .i64 0) := cell_of_block ZR.out 0 (by simp)
        have fr0wr := frozen_of_block ZR.out 0
        have er1wr : wr.cell? ⟨w.heap.size, 1, none⟩ = some (.int .i64 0) := cell_of_block ZR.out 1 (by simp)
        have fr1wr := frozen_of_block ZR.out 1
        have er2wr : wr.cell? ⟨w.heap.size, 2, none⟩ = some (.int .i64 0) := cell_of_block ZR.out 2 (by simp)
        have fr2wr := frozen_of_block ZR.out 2
        have er3wr : wr.cell? ⟨w.heap.size, 3, none⟩ = some (.int .i64 0) := cell_of_block ZR.out 3 (by simp)
        have fr3wr := frozen_of_block ZR.out 3
        have lrwr := (Array.getElem?_eq_some_iff.1 ZR.out).1
        have HN := Lib.hid h0
        have HAF := Lib.hid AF
        clear h0 AF hp
        go_wp2_with fail
        refine (Calls.grown (RP.out _)).mono ?_
        rintro e w1 ⟨rfl, z1, rfl⟩
        go_wp2_with fail
        have h0 := HN.out
        have AF := HAF.out
        have e3 : mixE n P s = 1 := by unfold mixE; simp [h0, AF]
        have e1 : mixV n P s = ⟨0, 0, 0, 0⟩ := if_neg (by rw [e3]; decide)
        refine bodyPost_ret (v := .tuple #[.agg #[.int .i64 0, .int .i64 0, .int .i64 0, .int .i64 0], .int .i64 1]) (by simp [results, Try.results45, go_sem, *]) rfl ⟨by rw [← HE.out, e1, e3], ?_⟩
        exact ((((HBV.out.gw z1).setCell (by simp <;> omega) _).setCell (by simp <;> omega) _).setCell (by simp <;> omega) _).setCell (by simp <;> omega) _
      | true =>
        have RP := Lib.hid (fun w => rPart_any (P k).al (P k).ah (P k).sl (P k).sh w)
        simp only [show partB (P k).al (P k).ah (P k).sl (P k).sh = true from hp] at RP
        obtain ⟨q1, q2, q3, q4, q5, q6⟩ := partB_t hp
        have pl := puLo_le (a := (P k).al) (c := (P k).sl) q1 (by omega) q4 (by omega)
        have ph := puHi_le (b := (P k).ah) (d := (P k).sh) (by omega) q3 (by omega) q6
        have PU := Lib.hid (fun w => rpure_any (P k).al (P k).ah (P k).sl (P k).sh w q1 (by omega) (by omega) q3 q4 (by omega) (by omega) q6)
        have SA := Lib.hid (show mAl P (k + 1) = mAl P k + (P k).al from rfl)
        have SB := Lib.hid (show mAh P (k + 1) = mAh P k + (P k).ah from rfl)
        have SC := Lib.hid (show mLl P (k + 1) = mLl P k + puLo (P k).al (P k).sl from rfl)
        have SD := Lib.hid (show mLh P (k + 1) = mLh P k + puHi (P k).ah (P k).sh from rfl)
        have HALL := Lib.hid (all_succ (P := fun i => (P i).ok = true) hall.out hp)
        clear hall hp q4 q5 q6
        generalize mAl P k = vA at *
        generalize mAh P k = vB at *
        generalize mLl P k = vC at *
        generalize mLh P k = vD at *
        generalize puLo (P k).al (P k).sl = uC at *
        generalize puHi (P k).ah (P k).sh = uD at *
        generalize P k = p at *
        obtain ⟨p1, p2, p3, p4⟩ := p
        dsimp only at *
        go_wp2_with fail
        refine (Calls.grown (RP.out _)).mono ?_
        rintro e w1 ⟨rfl, z1, rfl⟩
        go_upto_region 12 with (fail)
        obtain ⟨W11, hW11⟩ : ∃ W11, gw wr z1 = W11 := ⟨_, rfl⟩
        have hbW11 : Below wr.heap.size wr W11 := by rw [← hW11]; exact below_gw wr z1
        have ZrW11 := Lib.hid ((hbW11.block _ (Array.getElem?_eq_some_iff.1 ZR.out).1).trans ZR.out)
        have ZlW11 := Lib.hid ((hbW11.block _ (Array.getElem?_eq_some_iff.1 ZL.out).1).trans ZL.out)
        have HBW11 := Lib.hid (thru hbW11 HBV.out)
        have SBW11 := Lib.hid hbW11; clear hbW11
        have HWW11 := Lib.hid hW11; clear hW11
        rw [HWW11.out]
        have zsW11 := SBW11.out.size
        replace x1 := below_cell SBW11.out x1
        replace x2 := below_cell SBW11.out x2
        replace x3 := below_cell SBW11.out x3
        replace x4 := below_cell SBW11.out x4
        have lb1 := World.block_lt_of_cell? W11 _ x1
        dsimp only at lb1
        refine wp_region_box1 [true, true, true, true, true, true, true, true, true, true, true, false, false] 11 12 #[.int .i64 0, .int .i64 0] #[.int .i64 uC, .int .i64 uD] (by kernel_rfl) rfl rfl rfl (by kernel_rfl) rfl (by kernel_rfl) rf_infoSpn rfl rfl (by simp [Value.oneCell']) ?_
        apply Exists.intro
        refine ⟨fun S hS hx => ?_, ?_, ?_⟩
        · obtain ⟨x0, hx0⟩ := hx
          haveI : Nonempty (GrewS W11 S) := ⟨⟨x0, hx0⟩⟩
          simp only [pickM]
          repeat (go_big_quiet_step ((go_at_call 78; with_reducible exact Calls.gwS hS (PU.out _))))
          exact wpQuiet_nil rfl
        · rfl
        · intro Bp vp hBwp hblk hbb
          have HKp := Lib.hid hblk; clear hblk
          have SBvp := Lib.hid (hbb)
          have Zrvp := Lib.hid ((SBvp.out.block _ (Array.getElem?_eq_some_iff.1 ZrW11.out).1).trans ZrW11.out)
          have Zlvp := Lib.hid ((SBvp.out.block _ (Array.getElem?_eq_some_iff.1 ZlW11.out).1).trans ZlW11.out)
          have HBvp := Lib.hid (thru SBvp.out HBW11.out)
          have zsvp := SBvp.out.size
          clear hbb x1 x2 x3 x4
          go_upto_region 13 with (fail)
          simp only [Act.put, List.setIfInBounds_toArray, List.set_cons_succ, List.set_cons_zero]
          have el0vp : vp.cell? ⟨b8, 0, none⟩ = some (.int .i64 vC) := cell_of_block Zlvp.out 0 (by simp)
          have fl0vp := frozen_of_block Zlvp.out 0
          have el1vp : vp.cell? ⟨b8, 1, none⟩ = some (.int .i64 vD) := cell_of_block Zlvp.out 1 (by simp)
          have fl1vp := frozen_of_block Zlvp.out 1
          have llvp := (Array.getElem?_eq_some_iff.1 Zlvp.out).1
          have ep0vp : vp.cell? ⟨Bp, 0, none⟩ = some (.int .i64 uC) := cell_of_block HKp.out 0 (by simp)
          have ep1vp : vp.cell? ⟨Bp, 1, none⟩ = some (.int .i64 uD) := cell_of_block HKp.out 1 (by simp)
          have lpvp := (Array.getElem?_eq_some_iff.1 HKp.out).1
          go_wp2_with fail
          go_roundw
          case rel =>
            refine ⟨k + 1, by omega, by rw [SA.out], by rw [SB.out], by go_num, HALL, ⟨?_, ?_, ?_, lt6⟩⟩
            · exact (HBvp.out.setCell (by simp <;> omega) _).setCell (by simp <;> omega) _
            · rw [s2_other (by omega)]; exact Zrvp.out
            · rw [SC.out, SD.out]; exact s2_block Zlvp.out _ _
          case measure => simp [intOf]; omega
    · obtain rfl : n = k := by omega
      have hi : ¬ (n : Int) < (n : Int) := by omega
      have ALL := allB_t.2 hall.out
      have IN := Lib.hid (fun w => rin_any s 0 1000 w)
      cases hk : inB s 0 1000 with
      | false =>
        simp only [hk] at IN
        have er0wr : wr.cell? ⟨w.heap.size, 0, none⟩ = some (.int .i64 0) := cell_of_block ZR.out 0 (by simp)
        have fr0wr := frozen_of_block ZR.out 0
        have er1wr : wr.cell? ⟨w.heap.size, 1, none⟩ = some (.int .i64 0) := cell_of_block ZR.out 1 (by simp)
        have fr1wr := frozen_of_block ZR.out 1
        have er2wr : wr.cell? ⟨w.heap.size, 2, none⟩ = some (.int .i64 0) := cell_of_block ZR.out 2 (by simp)
        have fr2wr := frozen_of_block ZR.out 2
        have er3wr : wr.cell? ⟨w.heap.size, 3, none⟩ = some (.int .i64 0) := cell_of_block ZR.out 3 (by simp)
        have fr3wr := frozen_of_block ZR.out 3
        have lrwr := (Array.getElem?_eq_some_iff.1 ZR.out).1
        have HN := Lib.hid h0
        have HAL := Lib.hid ALL
        have HK := Lib.hid hk
        clear h0 ALL hk hall
        go_wp2_with fail
        refine (IN.out _).mono ?_
        rintro e w1 ⟨rfl, hw1⟩
        obtain rfl : wr = w1 := (by first | exact hw1 | exact hw1.symm)
        go_wp2_with fail
        have h0 := HN.out
        have ALL := HAL.out
        have hk := HK.out
        have e3 : mixE n P s = 2 := by unfold mixE; simp [h0, ALL, hk]
        have e1 : mixV n P s = ⟨0, 0, 0, 0⟩ := if_neg (by rw [e3]; decide)
        refine bodyPost_ret (v := .tuple #[.agg #[.int .i64 0, .int .i64 0, .int .i64 0, .int .i64 0], .int .i64 2]) (by simp [results, Try.results45, go_sem, *]) rfl ⟨by rw [← HE.out, e1, e3], ?_⟩
        exact ((((HBV.out).setCell (by simp <;> omega) _).setCell (by simp <;> omega) _).setCell (by simp <;> omega) _).setCell (by simp <;> omega) _
      | true =>
        simp only [hk] at IN
        have HM : Hid (mixE n P s = if 1099511627776 < mAh P n then 11 else if mAl P n = 0 then 4 else 0) := Lib.hid (by unfold mixE; rw [if_neg h0, if_pos ALL, if_pos hk])
        have hs : 0 ≤ s ∧ s ≤ 1000 := by simpa [inB] using hk
        clear h0 ALL hk hall
        have ab := B.ab
        clear B
        have er0wr : wr.cell? ⟨w.heap.size, 0, none⟩ = some (.int .i64 0) := cell_of_block ZR.out 0 (by simp)
        have fr0wr := frozen_of_block ZR.out 0
        have er1wr : wr.cell? ⟨w.heap.size, 1, none⟩ = some (.int .i64 0) := cell_of_block ZR.out 1 (by simp)
        have fr1wr := frozen_of_block ZR.out 1
        have er2wr : wr.cell? ⟨w.heap.size, 2, none⟩ = some (.int .i64 0) := cell_of_block ZR.out 2 (by simp)
        have fr2wr := frozen_of_block ZR.out 2
        have er3wr : wr.cell? ⟨w.heap.size, 3, none⟩ = some (.int .i64 0) := cell_of_block ZR.out 3 (by simp)
        have fr3wr := frozen_of_block ZR.out 3
        have lrwr := (Array.getElem?_eq_some_iff.1 ZR.out).1
        have HV := Lib.hid (show mixV n P s = if mixE n P s = 0 then ⟨mLeast n P s / 10000, mAh P n, min 10000 (mLl P n * 10000 / mAh P n), min 10000 (upI (mLh P n * 10000 * 10000) (mLeast n P s))⟩ else ⟨0, 0, 0, 0⟩ from rfl)
        unfold mLeast at HV
        generalize mAl P n = vA at *
        generalize mAh P n = vB at *
        generalize mLl P n = vC at *
        generalize mLh P n = vD at *
        generalize mixV n P s = mv at *
        generalize mixE n P s = me at *
        by_cases g1 : 1099511627776 < vB
        · have M := Lib.hid (HM.out.trans (if_pos g1))
          have V := Lib.hid (HV.out.trans (if_neg (by rw [M.out]; decide)))
          go_wp2_with fail
          refine (IN.out _).mono ?_
          rintro e w1 ⟨rfl, hw1⟩
          obtain rfl : wr = w1 := (by first | exact hw1 | exact hw1.symm)
          go_wp2_with fail
          refine bodyPost_ret (v := .tuple #[.agg #[.int .i64 0, .int .i64 0, .int .i64 0, .int .i64 0], .int .i64 11]) (by simp [results, Try.results45, go_sem, *]) rfl ⟨by rw [← HE.out, V.out, M.out], ?_⟩
          exact ((((HBV.out).setCell (by simp <;> omega) _).setCell (by simp <;> omega) _).setCell (by simp <;> omega) _).setCell (by simp <;> omega) _
        by_cases g2 : vA = 0
        · have M := Lib.hid (HM.out.trans ((if_neg g1).trans (if_pos g2)))
          have V := Lib.hid (HV.out.trans (if_neg (by rw [M.out]; decide)))
          subst g2
          go_wp2_with fail
          refine (IN.out _).mono ?_
          rintro e w1 ⟨rfl, hw1⟩
          obtain rfl : wr = w1 := (by first | exact hw1 | exact hw1.symm)
          go_wp2_with fail
          refine bodyPost_ret (v := .tuple #[.agg #[.int .i64 0, .int .i64 0, .int .i64 0, .int .i64 0], .int .i64 4]) (by simp [results, Try.results45, go_sem, *]) rfl ⟨by rw [← HE.out, V.out, M.out], ?_⟩
          exact ((((HBV.out).setCell (by simp <;> omega) _).setCell (by simp <;> omega) _).setCell (by simp <;> omega) _).setCell (by simp <;> omega) _
        have M := Lib.hid (HM.out.trans ((if_neg g1).trans (if_neg g2)))
        have V := Lib.hid (HV.out.trans (if_pos M.out))
        have p0 := Int.mul_le_mul (show vA ≤ 1099511627776 by omega) (show 10000 - s ≤ 10000 by omega) (by omega) (by omega)
        have p1 := Int.mul_le_mul (show 1 ≤ vA by omega) (show 1 ≤ 10000 - s by omega) (by omega) (by omega)
        obtain ⟨Y, hY⟩ : ∃ Y : Int, vC * 10000 = Y := ⟨_, rfl⟩
        have y0 : 0 ≤ Y := by omega
        have y1 : Y ≤ 703687441776640000 := by omega
        have v0 := Int.ediv_nonneg y0 (show 0 ≤ vB by omega)
        have v1 : Y / vB ≤ Y := Int.ediv_le_self _ y0
        obtain ⟨Q, hQ⟩ : ∃ V, Y / vB = V := ⟨_, rfl⟩
        rw [hQ] at v0 v1
        obtain ⟨X, hX⟩ : ∃ X : Int, vD * 10000 = X := ⟨_, rfl⟩
        have x0 : 0 ≤ X ∧ X ≤ 703687441776640000 := by omega
        obtain ⟨Zi, hZ⟩ : ∃ X : Int, vA * (10000 - s) = X := ⟨_, rfl⟩
        rw [hZ] at p0 p1
        have UP := Lib.hid (fun w => rup_any X Zi w x0.1 (by omega) (by omega))
        have V2 := V.out
        rw [hX, hY, hZ, hQ] at V2
        have HV2 := Lib.hid V2
        clear V2 V HV HM
        obtain ⟨U, hU⟩ : ∃ u, min 10000 (upI (X * 10000) Zi) = u := ⟨_, rfl⟩
        simp only [hU] at UP
        rw [hU] at HV2
        clear hU
        have g3 : ¬ vB = 0 := by omega
        go_wp2_with fail
        refine (IN.out _).mono ?_
        rintro e w1 ⟨rfl, hw1⟩
        obtain rfl : wr = w1 := (by first | exact hw1 | exact hw1.symm)
        go_upto_region 21 with (fail)
        obtain ⟨W11, hW11⟩ : ∃ W11, wr = W11 := ⟨_, rfl⟩
        have hbW11 : Below wr.heap.size wr W11 := by rw [← hW11]; exact Below.refl _ wr
        have ZrW11 := Lib.hid ((hbW11.block _ (Array.getElem?_eq_some_iff.1 ZR.out).1).trans ZR.out)
        have ZlW11 := Lib.hid ((hbW11.block _ (Array.getElem?_eq_some_iff.1 ZL.out).1).trans ZL.out)
        have HBW11 := Lib.hid (thru hbW11 HBV.out)
        have SBW11 := Lib.hid hbW11; clear hbW11
        have HWW11 := Lib.hid hW11; clear hW11
        rw [HWW11.out]
        clear er0wr er1wr er2wr er3wr fr0wr fr1wr fr2wr fr3wr
        have zsW11 := SBW11.out.size
        have el0W11 : W11.cell? ⟨b8, 0, none⟩ = some (.int .i64 vC) := cell_of_block ZlW11.out 0 (by simp)
        have el1W11 : W11.cell? ⟨b8, 1, none⟩ = some (.int .i64 vD) := cell_of_block ZlW11.out 1 (by simp)
        have llW11 := (Array.getElem?_eq_some_iff.1 ZlW11.out).1
        have er0W11 : W11.cell? ⟨w.heap.size, 0, none⟩ = some (.int .i64 0) := cell_of_block ZrW11.out 0 (by simp)
        have fr0W11 := frozen_of_block ZrW11.out 0
        have er1W11 : W11.cell? ⟨w.heap.size, 1, none⟩ = some (.int .i64 0) := cell_of_block ZrW11.out 1 (by simp)
        have fr1W11 := frozen_of_block ZrW11.out 1
        have er2W11 : W11.cell? ⟨w.heap.size, 2, none⟩ = some (.int .i64 0) := cell_of_block ZrW11.out 2 (by simp)
        have fr2W11 := frozen_of_block ZrW11.out 2
        have er3W11 : W11.cell? ⟨w.heap.size, 3, none⟩ = some (.int .i64 0) := cell_of_block ZrW11.out 3 (by simp)
        have fr3W11 := frozen_of_block ZrW11.out 3
        have lrW11 := (Array.getElem?_eq_some_iff.1 ZrW11.out).1
        refine wp_region_gw_tail 17 (by kernel_rfl) (by kernel_rfl) ?_
        simp only [List.take_succ_cons, List.take_zero]
        repeat (go_big_quiet_step ((go_at_call 79; with_reducible exact Calls.gw_of (UP.out _))))
        refine wpQuiet_nil ?_
        rintro _ ⟨z9, rfl⟩
        simp only [List.drop_succ_cons, List.drop_zero]
        go_wp2_with fail
        refine bodyPost_ret (v := .tuple #[.agg #[.int .i64 (Zi / 10000), .int .i64 vB, .int .i64 (min 10000 Q), .int .i64 U], .int .i64 0]) (by simp [results, Try.results45, go_sem, *]) rfl ⟨by rw [← HE.out, HV2.out, M.out], ?_⟩
        exact ((((HBW11.out.gw z9).setCell (by simp <;> omega) _).setCell (by simp <;> omega) _).setCell (by simp <;> omega) _).setCell (by simp <;> omega) _
end Go.Proofs.Ytohcopdfdmjhnaa.L1
