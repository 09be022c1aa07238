/- Contract of Cuts: no error. No conditions beyond each theorem's own. -/
import Derived.Test.YticgkhoidgkejaaMm
import Derived.Test.YticgkhoidgkejaaGh
set_option linter.unusedVariables false
set_option linter.unusedSimpArgs false
set_option linter.unusedSectionVars false
set_option linter.constructorNameAsVariable false
namespace Go.Proofs.Yticgkhoidgkejaa
open Go.RowKit

attribute [local go_sem] gw_cell gw_frozen gw_size


theorem infoI : (Try.prog.info? 3).map (fun i => (i.zero, i.size, i.bytes)) = some (some (.int .i64 0), 1, 8) := by kernel_rfl

/-- between two amounts of Cuts -/
structure CutsRel (D : Nat → Dr3) (fore cut en : Int) (k : Nat) (W : World) (i v s : Value) (wr : World) : Prop where
  ex : ∃ j : Nat, j ≤ k ∧ i = .int .i64 j ∧ s = .int .i64 (sumD D j) ∧ wr.ownsRow W.heap.size 3 1 v j (cutsOut D fore cut en j) ∧ Below W.heap.size W wr
theorem sumD_bound {D : Nat → Dr3} : ∀ j : Nat, (∀ i, i < j → 0 ≤ (D i).d ∧ (D i).d ≤ 1073741824) → 0 ≤ sumD D j ∧ sumD D j ≤ j * 1073741824
  | 0, _ => by simp [sumD]
  | j + 1, h => by
    have ih := sumD_bound j fun i hi => h i (by omega)
    have := h j (by omega)
    unfold sumD
    have e : ((j + 1 : Nat) : Int) * 1073741824 = j * 1073741824 + 1073741824 := by rw [Int.natCast_add, Int.add_mul]; simp
    omega

set_option maxRecDepth 100000 in
set_option maxHeartbeats 4000000 in
theorem cuts_ok (aL aV aM : Option Addr) (m cL cV k cM : Nat) (c : Crv) (p : Pot3) (M : Nat → Int) (fore cut en : Int) (w : World) (hn : c.n ≤ 40) (hm : m ≤ 40) (hL : IntsAt w aL c.n c.L) (hV : SpansAt w aV m c.A c.B) (hM : IntsAt w aM k M) (hx : cutsErr m c p M k fore cut en = 0) :
    Calls Try.prog 7 #[.agg #[.slice aL c.n cL, .slice aV m cV], .agg #[.int .i64 p.v, .int .i64 p.lo, .int .i64 p.hi], .slice aM k cM, .int .i64 fore, .int .i64 cut, .int .i64 en] w fun e w' => ∃ v, e = .returned (.tuple #[v, .int .i64 0]) ∧ w'.ownsRow w.heap.size 3 1 v k (cutsOut (c.outAt p M) fore cut en k) ∧ Below w.heap.size w w' := by
  obtain ⟨hz, h1, h2, h3, hr⟩ := cuts_valid hx
  obtain ⟨_, k64, rfl, g, hp, hgo, hok⟩ := run_zero hr
  have r1 := inB_t.1 h1
  have r2 := inB_t.1 h2
  have BD := Lib.hid (fun i (hi : i < k) => show 0 ≤ (c.outAt p M i).lo ∧ (c.outAt p M i).lo ≤ (c.outAt p M i).hi ∧ (c.outAt p M i).hi ≤ (c.outAt p M i).d ∧ 1 ≤ (c.outAt p M i).d ∧ (c.outAt p M i).d ≤ 1073741824 by
    have n := next_ok g (hok i (by omega)) (show errD (c.potAt p M i) (M i) = 0 from hgo i hi)
    have d := inB_t.1 (errD_zero (show errD (c.potAt p M i) (M i) = 0 from hgo i hi)).1
    have e1 : (c.outAt p M i).lo = c.least (c.potAt p M i) (M i) := rfl
    have e2 : (c.outAt p M i).d = M i := rfl
    have e3 : (c.outAt p M i).hi = c.most (c.potAt p M i) (M i) := rfl
    rw [e1, e2, e3]; omega)
  clear hgo hok hp g
  have HZ := Lib.hid hz; clear hz
  obtain ⟨W2, hW2⟩ : ∃ W2, (w.alloc (.cells #[.slice aL c.n cL, .slice aV c.n cV] 25)).alloc (.cells #[.int .i64 p.v, .int .i64 p.lo, .int .i64 p.hi] 29) = W2 := ⟨_, rfl⟩
  have nb : NB w W2 aL aV c.n c.n cL cV p.v p.lo p.hi := by rw [← hW2]; exact nb_of w aL aV c.n c.n cL cV p.v p.lo p.hi _ _
  have HL := Lib.hid (hL.below nb.low); clear hL
  have HV := Lib.hid (hV.below nb.low); clear hV
  have HM := Lib.hid (hM.below nb.low); clear hM
  have HW2 := Lib.hid hW2; clear hW2
  have NB2 := Lib.hid nb
  obtain ⟨c0, c1, p0, p1, p2, _, _⟩ := nb
  have s0 := NB2.out.s0
  have s1 := NB2.out.s1
  have EA := Lib.hid (show Calls Try.prog 17 #[.agg #[.slice aL c.n cL, .slice aV c.n cV], .agg #[.int .i64 p.v, .int .i64 p.lo, .int .i64 p.hi], .slice aM k cM] W2 fun e w' => e = .returned (.int .i64 0) ∧ ∃ x, w' = gw W2 x by
    rw [← HZ.out]; exact Calls.grown (early_any aL aV aM c.n c.n cL cV k cM c.L c.A c.B p.v p.lo p.hi W2 (by omega) (by omega) (by omega) HL.out HV.out))
  have H1 := Lib.hid h1; clear h1
  have H2 := Lib.hid h2; clear h2
  have HRN := Lib.hid hr; clear hr hx
  obtain ⟨D, HD⟩ : ∃ D, Hid (c.outAt p M = D) := ⟨_, Lib.hid rfl⟩
  rw [HD.out] at BD
  rw [HD.out]
  go_enter Try.func7, Try.ntmps7
  go_wp2_with fail
  rw [HW2.out]
  refine EA.out.mono ?_
  rintro e w1 ⟨rfl, y, rfl⟩
  go_wp2_with fail
  refine (within_b _ _ _ _ H1.out).mono ?_
  rintro e w1 ⟨rfl, rfl⟩
  go_wp2_with fail
  refine (within_b _ _ _ _ H2.out).mono ?_
  rintro e w1 ⟨rfl, rfl⟩
  go_wp2_with fail
  refine (run_ok aL aV aM c.n cL cV k cM c p M (gw W2 y) (by omega) (by omega) (HL.out.below (below_gw W2 y)) (HV.out.below (below_gw W2 y)) (HM.out.below (below_gw W2 y)) HRN.out).mono ?_
  rintro e w3 ⟨vl, rfl, hown, hb3⟩
  obtain ⟨a1, cap1, rfl, hD⟩ := drawn_of_own hown
  rw [HD.out] at hD
  have B23 := Lib.hid (thru hb3 (below_gw W2 y)); clear hb3 hown
  obtain ⟨E, hE⟩ : ∃ E, E = c.potAt p M k := ⟨_, rfl⟩
  rw [← hE]
  clear hE
  obtain ⟨W4, hW4⟩ : ∃ W4, w3.alloc (.cells #[.int .i64 E.v, .int .i64 E.lo, .int .i64 E.hi] 29) = W4 := ⟨_, rfl⟩
  have B34 : Below w3.heap.size w3 W4 := by rw [← hW4]; exact below_alloc _ _
  have LOW4 := Lib.hid (thru B34 (thru B23.out NB2.out.low))
  have HD4 := Lib.hid (hD.below B34)
  have HW4 := Lib.hid hW4
  clear hD hW4 B34 c0 c1 p0 p1 p2 s0 s1
  obtain ⟨i0, hi, hz0, hz1, hz2⟩ := info_parts infoI
  have HI := Lib.hid hi; clear hi
  have Z0 := Lib.hid hz0; clear hz0
  have Z1 := Lib.hid hz1; clear hz1
  have Z2 := Lib.hid hz2; clear hz2
  go_wp2_with fail
  rw [HW4.out]
  go_loopw [57, 18, 19] (fun i v s wr => CutsRel D fore cut en k W4 i v s wr) (fun i _ _ _ => k - (intOf i).toNat)
  case atStart => exact ⟨⟨0, by omega, rfl, rfl, World.ownsRow_nil _ _ _ _, Below.refl _ _⟩⟩
  case round =>
    obtain ⟨⟨j, hj, rfl, rfl, hrow, hlow⟩⟩ := hrel
    have HROW := Lib.hid hrow
    have HLOW := Lib.hid hlow
    have sb := sumD_bound (D := D) j (fun i hi => by have := BD.out i (by omega); omega)
    clear hrow hlow
    by_cases hlt : j < k
    · obtain ⟨b, off, rfl, lb, hD⟩ := (HD4.out.below HLOW.out).get (by omega)
      obtain ⟨d0, d1, d2⟩ := hD j hlt
      obtain ⟨b1, b2, b3, b4, b5⟩ := BD.out j hlt
      clear hD
      have CU := Lib.hid (show cutAt D fore cut en j = if sumD D j + (D j).d ≤ fore then 1 else kindD (D j) cut en from rfl)
      have SU := Lib.hid (show sumD D (j + 1) = sumD D j + (D j).d from rfl)
      have CL := Lib.hid (show dLo (D j) = (D j).lo * 10000 / (D j).d from rfl)
      have CH := Lib.hid (show dHi (D j) = upI ((D j).hi * 10000) (D j).d from rfl)
      have KD := Lib.hid (show kindD (D j) cut en = addK (addK (addK 0 2 (decide (cut ≤ dHi (D j)))) 4 (decide (dLo (D j) < cut) && decide (en ≤ dHi (D j)))) 8 (decide (dLo (D j) < en)) from rfl)
      generalize dLo (D j) = sl at *
      generalize dHi (D j) = sh at *
      generalize kindD (D j) cut en = kd at *
      have HDJ : ∃ x y z, (D j).d = x ∧ (D j).lo = y ∧ (D j).hi = z := ⟨_, _, _, rfl, rfl, rfl⟩
      obtain ⟨d, lo, hi, e1, e2, e3⟩ := HDJ
      rw [e1] at d0 b3 b4 b5 CU SU CL CH
      rw [e2] at d1 b1 b2 CL
      rw [e3] at d2 b2 b3 CH
      clear e1 e2 e3
      obtain ⟨V1, hV1⟩ : ∃ V1, (wr.alloc (.cells #[.int .i64 d, .int .i64 lo, .int .i64 hi] 36)).alloc (.cells #[.int .i64 0] 56) = V1 := ⟨_, rfl⟩
      have B1 : Below wr.heap.size wr V1 := by rw [← hV1]; exact (below_alloc _ _).alloc (by simp) _
      have kD : V1.heap[wr.heap.size]? = some (.cells #[.int .i64 d, .int .i64 lo, .int .i64 hi] 36 (0, 0)) := by rw [← hV1]; exact (Below.heap_alloc _ _ _ (by simp)).trans (World.alloc_heap_new wr _)
      have kK : V1.heap[wr.heap.size + 1]? = some (.cells #[.int .i64 0] 56 (0, 0)) := by rw [← hV1]; have := World.alloc_heap_new (wr.alloc (.cells #[.int .i64 d, .int .i64 lo, .int .i64 hi] 36)) (.cells #[.int .i64 0] 56); rwa [World.size_alloc] at this
      have SP := Lib.hid (show Calls Try.prog 19 #[.agg #[.int .i64 lo, .int .i64 hi], .int .i64 d] V1 fun e w' => e = .returned (.agg #[.int .i64 sl, .int .i64 sh]) ∧ Below V1.heap.size V1 w' by
        rw [CL.out, CH.out]; exact strong_pos _ _ _ _ (by omega) (by omega) (by omega) (by omega) (by omega) (by omega))
      have HV1 := Lib.hid hV1
      have HB1 := Lib.hid B1
      have KD0 := Lib.hid kD
      have KK0 := Lib.hid kK
      clear hV1 B1 kD kK
      go_wp2_with fail
      rw [HV1.out]
      refine SP.out.mono ?_
      clear SP
      rintro e w1 ⟨rfl, hb⟩
      obtain ⟨V2, hV2⟩ : ∃ V2, w1.alloc (.cells #[.int .i64 sl, .int .i64 sh] 27) = V2 := ⟨_, rfl⟩
      have B2 : Below w1.heap.size w1 V2 := by rw [← hV2]; exact below_alloc _ _
      have B12 : Below V1.heap.size V1 V2 := thru B2 hb
      have kS : V2.heap[w1.heap.size]? = some (.cells #[.int .i64 sl, .int .i64 sh] 27 (0, 0)) := by rw [← hV2]; exact World.alloc_heap_new w1 _
      have kD := (B12.block _ (Array.getElem?_eq_some_iff.1 KD0.out).1).trans KD0.out
      have kK := (B12.block _ (Array.getElem?_eq_some_iff.1 KK0.out).1).trans KK0.out
      have lo1 := (Array.getElem?_eq_some_iff.1 KK0.out).1
      have lo2 := hb.size
      have eD0 : w1.cell? ⟨wr.heap.size, 0, none⟩ = some (.int .i64 d) := (hb.cell (p := ⟨wr.heap.size, 0, none⟩) (Array.getElem?_eq_some_iff.1 KD0.out).1).trans (cell_of_block KD0.out 0 (by simp))
      have lz : wr.heap.size < w1.heap.size := by omega
      have gD0 : V2.cell? ⟨wr.heap.size, 0, none⟩ = some (.int .i64 d) := cell_of_block kD 0 (by simp)
      have gS0 : V2.cell? ⟨w1.heap.size, 0, none⟩ = some (.int .i64 sl) := cell_of_block kS 0 (by simp)
      have gS1 : V2.cell? ⟨w1.heap.size, 1, none⟩ = some (.int .i64 sh) := cell_of_block kS 1 (by simp)
      have gK0 : V2.cell? ⟨wr.heap.size + 1, 0, none⟩ = some (.int .i64 0) := cell_of_block kK 0 (by simp)
      have gK1 : V2.frozen? ⟨wr.heap.size + 1, 0, none⟩ = false := frozen_of_block kK 0
      have nS : wr.heap.size + 1 ≠ w1.heap.size := by omega
      have nS2 := nS.symm
      have LOWV := Lib.hid (show Below W4.heap.size W4 V2 from thru (thru B12 HB1.out) HLOW.out)
      have ROWV := Lib.hid (own_below HROW.out (thru B12 HB1.out))
      have RL := Lib.hid (show ∀ g, u18.ownBlock = some g → g ≠ wr.heap.size + 1 from fun g hg => by have := HROW.out.lt g hg; omega)
      have HV2 := Lib.hid hV2
      have SZ2 := Lib.hid (show W4.heap.size ≤ wr.heap.size ∧ wr.heap.size + 2 ≤ V2.heap.size from ⟨HLOW.out.size, by have := B12.size; omega⟩)
      clear hV2 B2 B12 kS kD kK hb lo1 lo2 d0 d1 d2 lb
      go_upto_region 16 with (fail)
      rw [HV2.out]
      by_cases hs : sumD D j + d ≤ fore
      · have CA := Lib.hid (show cutAt D fore cut en j = 1 by rw [CU.out, if_pos hs])
        go_wp2_with (at_builtin; refine wpList_append_own _ rfl _ _ 22 rfl W4.heap.size 3 i0 (.int .i64 0) 1 8 Try.underlying22 HI.out Z0.out Z1.out Z2.out rfl (by decide) _ j (cutsOut D fore cut en j) rfl (ROWV.out.alloc _) ⟨V2.heap.size, 0, none⟩ 1 1 [.int .i64 (1)] rfl rfl (cell_one_new _ _ _) (by simp [Value.oneCell']) (by unfold maxLen; omega) (by omega) (by have := SZ2.out; simp; omega) ?_; intro v' w' hown' hgrow _)
        · have hrow' : w'.ownsRow W4.heap.size 3 1 v' (j + 1) (cutsOut D fore cut en (j + 1)) := by rw [cutsOut_succ, CA.out]; exact hown'
          have low' := (LOWV.out.alloc (by have := LOWV.out.size; omega) _).grown hgrow (by have := SZ2.out; have := LOWV.out.size; simp; omega) (fun g hg => (ROWV.out.lt g hg).1)
          have HR' := Lib.hid hrow'
          have HL' := Lib.hid low'
          clear hrow' low' hown' hgrow
          go_wp2_with fail
          go_roundw
          case rel => exact ⟨⟨j + 1, by omega, by go_num, by rw [SU.out], HR'.out, HL'.out⟩⟩
          case measure => simp [intOf]; omega
      · have hs' : ¬ sumD D j + d ≤ fore := hs
        have CA := Lib.hid (show cutAt D fore cut en j = kd by rw [CU.out, if_neg hs])
        go_wp2_with fail
        refine (add_any _ _ _ _ _ gK0 gK1).mono ?_
        rintro e w' ⟨rfl, rfl⟩
        have g3 := World.cell?_setCell_same V2 _ (.int .i64 (addK 0 2 (decide (cut ≤ sh)))) gK0
        have f3 : (V2.setCell ⟨wr.heap.size + 1, 0, none⟩ (.int .i64 (addK 0 2 (decide (cut ≤ sh))))).frozen? ⟨wr.heap.size + 1, 0, none⟩ = false := by simpa using gK1
        have CALL : ∀ b2 : Bool, Calls Try.prog 20 #[.pointer (some ⟨wr.heap.size + 1, 0, none⟩), .int .i64 4, .bool b2] _ _ := fun b2 => add_any _ _ 4 b2 _ g3 f3
        have HCALL := Lib.hid CALL
        clear CALL
        have CALL2 : ∀ b2 b3 : Bool, Calls Try.prog 20 #[.pointer (some ⟨wr.heap.size + 1, 0, none⟩), .int .i64 8, .bool b3] _ _ := fun b2 b3 => add_any _ _ 8 b3 _ (World.cell?_setCell_same _ _ (.int .i64 (addK (addK 0 2 (decide (cut ≤ sh))) 4 b2)) g3) (by simpa using gK1)
        have HCALL2 := Lib.hid CALL2
        clear CALL2
        have ROW4 := Lib.hid (fun b2 b3 => row_set1 (row_set1 (row_set1 ROWV.out (fun h => RL.out _ h rfl) (.int .i64 (addK 0 2 (decide (cut ≤ sh))))) (fun h => RL.out _ h rfl) (.int .i64 (addK (addK 0 2 (decide (cut ≤ sh))) 4 b2))) (fun h => RL.out _ h rfl) (.int .i64 (addK (addK (addK 0 2 (decide (cut ≤ sh))) 4 b2) 8 b3)))
        have LOW4' := Lib.hid (fun b2 b3 => ((LOWV.out.setCell (p := ⟨wr.heap.size + 1, 0, none⟩) (by have := SZ2.out; simp; omega) (.int .i64 (addK 0 2 (decide (cut ≤ sh))))).setCell (p := ⟨wr.heap.size + 1, 0, none⟩) (by have := SZ2.out; simp; omega) (.int .i64 (addK (addK 0 2 (decide (cut ≤ sh))) 4 b2))).setCell (p := ⟨wr.heap.size + 1, 0, none⟩) (by have := SZ2.out; simp; omega) (.int .i64 (addK (addK (addK 0 2 (decide (cut ≤ sh))) 4 b2) 8 b3)))
        clear g3 f3
        by_cases hc : sl < cut
        · have CA2 := Lib.hid (show cutAt D fore cut en j = addK (addK (addK 0 2 (decide (cut ≤ sh))) 4 (decide (en ≤ sh))) 8 (decide (sl < en)) by rw [CA.out, KD.out]; simp [hc])
          go_wp2_with fail
          refine (HCALL.out _).mono ?_
          rintro e w' ⟨rfl, rfl⟩
          go_wp2_with fail
          refine (HCALL2.out _ _).mono ?_
          rintro e w' ⟨rfl, rfl⟩
          have R3 := ROW4.out (decide (en ≤ sh)) (decide (sl < en))
          have L3 := LOW4'.out (decide (en ≤ sh)) (decide (sl < en))
          have g5 := World.cell?_setCell_same _ _ (.int .i64 (addK (addK (addK 0 2 (decide (cut ≤ sh))) 4 (decide (en ≤ sh))) 8 (decide (sl < en)))) (World.cell?_setCell_same _ _ (.int .i64 (addK (addK 0 2 (decide (cut ≤ sh))) 4 (decide (en ≤ sh)))) (World.cell?_setCell_same V2 _ (.int .i64 (addK 0 2 (decide (cut ≤ sh)))) gK0))
          have z5 : (((V2.setCell ⟨wr.heap.size + 1, 0, none⟩ (.int .i64 (addK 0 2 (decide (cut ≤ sh))))).setCell ⟨wr.heap.size + 1, 0, none⟩ (.int .i64 (addK (addK 0 2 (decide (cut ≤ sh))) 4 (decide (en ≤ sh))))).setCell ⟨wr.heap.size + 1, 0, none⟩ (.int .i64 (addK (addK (addK 0 2 (decide (cut ≤ sh))) 4 (decide (en ≤ sh))) 8 (decide (sl < en))))).heap.size = V2.heap.size := by simp
          clear gD0 gS0 gS1 gK0 gK1 HCALL HCALL2 ROW4 LOW4' nS nS2 eD0
          generalize (((V2.setCell ⟨wr.heap.size + 1, 0, none⟩ (.int .i64 (addK 0 2 (decide (cut ≤ sh))))).setCell ⟨wr.heap.size + 1, 0, none⟩ (.int .i64 (addK (addK 0 2 (decide (cut ≤ sh))) 4 (decide (en ≤ sh))))).setCell ⟨wr.heap.size + 1, 0, none⟩ (.int .i64 (addK (addK (addK 0 2 (decide (cut ≤ sh))) 4 (decide (en ≤ sh))) 8 (decide (sl < en))))) = V3 at R3 L3 g5 z5 ⊢
          generalize (addK (addK (addK 0 2 (decide (cut ≤ sh))) 4 (decide (en ≤ sh))) 8 (decide (sl < en))) = q at g5 CA2
          have R3 := Lib.hid R3
          have L3 := Lib.hid L3
          have Z5 := Lib.hid z5; clear z5
          go_wp2_with (at_builtin; refine wpList_append_own _ rfl _ _ 22 rfl W4.heap.size 3 i0 (.int .i64 0) 1 8 Try.underlying22 HI.out Z0.out Z1.out Z2.out rfl (by decide) _ j (cutsOut D fore cut en j) rfl (R3.out.alloc _) ⟨V3.heap.size, 0, none⟩ 1 1 [.int .i64 q] rfl rfl (cell_one_new _ _ _) (by simp [Value.oneCell']) (by unfold maxLen; omega) (by omega) (by have := SZ2.out; have := Z5.out; simp; omega) ?_; intro v' w' hown' hgrow _)
          have hrow' : w'.ownsRow W4.heap.size 3 1 v' (j + 1) (cutsOut D fore cut en (j + 1)) := by rw [cutsOut_succ, CA2.out]; exact hown'
          have low' := (L3.out.alloc (by have := L3.out.size; omega) _).grown hgrow (by have := L3.out.size; simp; omega) (fun g hg => (R3.out.lt g hg).1)
          have HR' := Lib.hid hrow'
          have HL' := Lib.hid low'
          clear hrow' low' hown' hgrow
          go_wp2_with fail
          go_roundw
          case rel => exact ⟨⟨j + 1, by omega, by go_num, by rw [SU.out], HR'.out, HL'.out⟩⟩
          case measure => simp [intOf]; omega
        · have CA2 := Lib.hid (show cutAt D fore cut en j = addK (addK (addK 0 2 (decide (cut ≤ sh))) 4 false) 8 (decide (sl < en)) by rw [CA.out, KD.out]; simp [hc])
          go_wp2_with fail
          refine (HCALL.out _).mono ?_
          rintro e w' ⟨rfl, rfl⟩
          go_wp2_with fail
          refine (HCALL2.out _ _).mono ?_
          rintro e w' ⟨rfl, rfl⟩
          have R3 := ROW4.out false (decide (sl < en))
          have L3 := LOW4'.out false (decide (sl < en))
          have g5 := World.cell?_setCell_same _ _ (.int .i64 (addK (addK (addK 0 2 (decide (cut ≤ sh))) 4 false) 8 (decide (sl < en)))) (World.cell?_setCell_same _ _ (.int .i64 (addK (addK 0 2 (decide (cut ≤ sh))) 4 false)) (World.cell?_setCell_same V2 _ (.int .i64 (addK 0 2 (decide (cut ≤ sh)))) gK0))
          have z5 : (((V2.setCell ⟨wr.heap.size + 1, 0, none⟩ (.int .i64 (addK 0 2 (decide (cut ≤ sh))))).setCell ⟨wr.heap.size + 1, 0, none⟩ (.int .i64 (addK (addK 0 2 (decide (cut ≤ sh))) 4 false))).setCell ⟨wr.heap.size + 1, 0, none⟩ (.int .i64 (addK (addK (addK 0 2 (decide (cut ≤ sh))) 4 false) 8 (decide (sl < en))))).heap.size = V2.heap.size := by simp
          clear gD0 gS0 gS1 gK0 gK1 HCALL HCALL2 ROW4 LOW4' nS nS2 eD0
          generalize (((V2.setCell ⟨wr.heap.size + 1, 0, none⟩ (.int .i64 (addK 0 2 (decide (cut ≤ sh))))).setCell ⟨wr.heap.size + 1, 0, none⟩ (.int .i64 (addK (addK 0 2 (decide (cut ≤ sh))) 4 false))).setCell ⟨wr.heap.size + 1, 0, none⟩ (.int .i64 (addK (addK (addK 0 2 (decide (cut ≤ sh))) 4 false) 8 (decide (sl < en))))) = V3 at R3 L3 g5 z5 ⊢
          generalize (addK (addK (addK 0 2 (decide (cut ≤ sh))) 4 false) 8 (decide (sl < en))) = q at g5 CA2
          have R3 := Lib.hid R3
          have L3 := Lib.hid L3
          have Z5 := Lib.hid z5; clear z5
          go_wp2_with (at_builtin; refine wpList_append_own _ rfl _ _ 22 rfl W4.heap.size 3 i0 (.int .i64 0) 1 8 Try.underlying22 HI.out Z0.out Z1.out Z2.out rfl (by decide) _ j (cutsOut D fore cut en j) rfl (R3.out.alloc _) ⟨V3.heap.size, 0, none⟩ 1 1 [.int .i64 q] rfl rfl (cell_one_new _ _ _) (by simp [Value.oneCell']) (by unfold maxLen; omega) (by omega) (by have := SZ2.out; have := Z5.out; simp; omega) ?_; intro v' w' hown' hgrow _)
          have hrow' : w'.ownsRow W4.heap.size 3 1 v' (j + 1) (cutsOut D fore cut en (j + 1)) := by rw [cutsOut_succ, CA2.out]; exact hown'
          have low' := (L3.out.alloc (by have := L3.out.size; omega) _).grown hgrow (by have := L3.out.size; simp; omega) (fun g hg => (R3.out.lt g hg).1)
          have HR' := Lib.hid hrow'
          have HL' := Lib.hid low'
          clear hrow' low' hown' hgrow
          go_wp2_with fail
          go_roundw
          case rel => exact ⟨⟨j + 1, by omega, by go_num, by rw [SU.out], HR'.out, HL'.out⟩⟩
          case measure => simp [intOf]; omega
    · obtain rfl : k = j := by omega
      go_wp2_with fail
      go_ret2
      exact ⟨_, rfl, HROW.out.base LOW4.out.size, thru HLOW.out LOW4.out⟩
end Go.Proofs.Yticgkhoidgkejaa
