/- StillSplit: the walk of the law where the run goes through. No conditions beyond each theorem's own. -/
import Derived.Test.YtnmldophadanbaaMi
set_option linter.unusedVariables false
set_option linter.unusedSimpArgs false
set_option linter.unusedSectionVars false
set_option linter.constructorNameAsVariable false
namespace Go.Proofs.Ytnmldophadanbaa
open Go.RowKit Go.Deep

attribute [local go_sem] gw_cell gw_frozen gw_size

set_option maxRecDepth 100000 in
set_option maxHeartbeats 16000000 in
theorem split_ok (aL aV aM : Option Addr) (m k cL cV cM : Nat) (c : Crv) (p : Pot3) (M : Nat → Int) (a : Int) (w : World) (h : longB c.n m k = false) (hL : IntsAt w aL c.n c.L) (hV : SpansAt w aV m c.A c.B) (hM : IntsAt w aM k M) (hkc : k ≤ cM)
    (hx : runErr m c p M k = 0) (ha : 0 ≤ a ∧ a ≤ 255) :
    Calls Try.prog 6 #[.agg #[.slice aL c.n cL, .slice aV m cV], .agg #[.int .i64 p.v, .int .i64 p.lo, .int .i64 p.hi], .slice aM k cM, .int .u8 a] w (True1 w) := by
  obtain ⟨k1, k2, k3⟩ := longB_f h
  obtain ⟨_, k64, rfl, g, _, _, _⟩ := run_zero hx
  clear g
  obtain ⟨A, hA, hAk⟩ : ∃ A : Nat, a % ((k : Int) + 1) = A ∧ A ≤ k := ⟨(a % ((k : Int) + 1)).toNat, by have := Int.emod_nonneg a (show (k : Int) + 1 ≠ 0 by omega); omega, by have := Int.emod_lt_of_pos a (show (0 : Int) < (k : Int) + 1 by omega); omega⟩
  have HA := Lib.hid hA; clear hA
  have H := Lib.hid h; clear h
  obtain ⟨W2, hW2⟩ : ∃ W2, (w.alloc (.cells #[.slice aL c.n cL, .slice aV c.n cV] 25)).alloc (.cells #[.int .i64 p.v, .int .i64 p.lo, .int .i64 p.hi] 29) = W2 := ⟨_, rfl⟩
  have nb : NB w W2 aL aV c.n c.n cL cV p.v p.lo p.hi := by rw [← hW2]; exact nb_of w aL aV c.n c.n cL cV p.v p.lo p.hi _ _
  have HL := Lib.hid (hL.below nb.low); clear hL
  have HV := Lib.hid (hV.below nb.low); clear hV
  have HM := Lib.hid (hM.below nb.low); clear hM
  have HX := Lib.hid hx; clear hx
  have HW2 := Lib.hid hW2; clear hW2
  have NB2 := Lib.hid nb
  obtain ⟨c0, c1, p0, p1, p2, _, _⟩ := nb
  have s0 := NB2.out.s0
  have s1 := NB2.out.s1
  go_enter Try.func6, Try.ntmps6
  go_wp2_with fail
  rw [HW2.out]
  refine (long_b _ _ _ _ _ _ _ _ _ _ (by omega) (by omega) (by omega) H.out).mono ?_
  rintro e w1 ⟨rfl, y, rfl⟩
  go_wp2_with fail
  refine (run_ok aL aV aM c.n cL cV k cM c p M (gw W2 y) (by omega) (by omega) (HL.out.below (below_gw W2 y)) (HV.out.below (below_gw W2 y)) (HM.out.below (below_gw W2 y)) HX.out).mono ?_
  rintro e w3 ⟨vl, rfl, hown, hb3⟩
  obtain ⟨a1, cap1, rfl, hD⟩ := drawn_of_own hown
  have B23 := Lib.hid (thru hb3 (below_gw W2 y)); clear hb3 hown
  obtain ⟨E, hE⟩ : ∃ E, E = c.potAt p M k := ⟨_, rfl⟩
  rw [← hE]
  have HE := Lib.hid hE; clear hE
  obtain ⟨W4, hW4⟩ : ∃ W4, w3.alloc (.cells #[.int .i64 E.v, .int .i64 E.lo, .int .i64 E.hi] 29) = W4 := ⟨_, rfl⟩
  have B34 : Below w3.heap.size w3 W4 := by rw [← hW4]; exact below_alloc _ _
  have bx : Box3 W4 w3.heap.size E.v E.lo E.hi := by rw [← hW4]; exact box3_of _ _ _ _ _
  have B24 := Lib.hid (thru B34 B23.out)
  have NB4 := Lib.hid (NB2.out.below B24.out)
  have hD4 := Lib.hid (hD.below B34)
  have HW4 := Lib.hid hW4
  have HBX := Lib.hid bx
  clear c0 c1 p0 p1 p2 s0 s1 hD hW4 B34 bx
  go_wp2_with fail
  rw [HW4.out]
  rw [HA.out]
  obtain ⟨aF, hsf, hF⟩ := slice_first (P := Try.prog) (t := 22) (by kernel_rfl) (fun _ => by kernel_rfl) (HM.out.below B24.out) hkc A hAk
  have HF := Lib.hid hF; clear hF
  have RC := Lib.hid (fun W (hb : Below W4.heap.size W4 W) => run_ok aL aV aF c.n cL cV A cM c p M W (by omega) (by omega) ((HL.out.below B24.out).below hb) ((HV.out.below B24.out).below hb) (HF.out.below hb) (run_first HX.out hAk))
  have nb := NB4.out
  have s0 := nb.s0
  have s1 := nb.s1
  obtain ⟨c0, c1, p0, p1, p2, _, _⟩ := nb
  have ne0 : w.heap.size ≠ W4.heap.size := by omega
  have ne1 : w.heap.size + 1 ≠ W4.heap.size := by omega
  go_cut [13, 14, 15] (fun s13 s14 s15 wx => Mid c p M A W4 s13 s14 s15 wx)
  case first =>
    go_region_held3 (fun w' => w'.cell? ⟨w.heap.size, 0, none⟩ = some (.slice aL c.n cL) ∧ w'.cell? ⟨w.heap.size, 1, none⟩ = some (.slice aV c.n cV) ∧ w'.cell? ⟨w.heap.size + 1, 0, none⟩ = some (.int .i64 p.v) ∧ w'.cell? ⟨w.heap.size + 1, 1, none⟩ = some (.int .i64 p.lo) ∧ w'.cell? ⟨w.heap.size + 1, 2, none⟩ = some (.int .i64 p.hi))
      (first | go_keep | exact ⟨k0, k1, k2, k3, k4⟩ | exact ⟨(far3 ne0 _ _ _ _).trans k0, (far3 ne0 _ _ _ _).trans k1, (far3 ne1 _ _ _ _).trans k2, (far3 ne1 _ _ _ _).trans k3, (far3 ne1 _ _ _ _).trans k4⟩)
      (first
        | (go_at_call 17; refine (RC.out (W4.drew) (below_drew W4)).mono ?_; rintro e w1 ⟨vA, rfl, hown, hb1⟩
           have HB1 := Lib.hid (thru hb1 (below_drew W4))
           have k0 := below_cell HB1.out c0
           have k1 := below_cell HB1.out c1
           have k2 := below_cell HB1.out p0
           have k3 := below_cell HB1.out p1
           have k4 := below_cell HB1.out p2)
        | (go_at_call 17; refine (RC.out ((W4.alloc (.cells #[.int .i64 0, .int .i64 0, .int .i64 0] 29)).drew) (below_alloc_drew W4 (.cells #[.int .i64 0, .int .i64 0, .int .i64 0] 29))).mono ?_; rintro e w1 ⟨vA, rfl, hown, hb1⟩
           have HB1 := Lib.hid (thru hb1 (below_alloc_drew W4 (.cells #[.int .i64 0, .int .i64 0, .int .i64 0] 29)))
           have k0 := below_cell HB1.out c0
           have k1 := below_cell HB1.out c1
           have k2 := below_cell HB1.out p0
           have k3 := below_cell HB1.out p1
           have k4 := below_cell HB1.out p2
           have kb := Lib.hid ((hb1.block W4.heap.size (by simp)).trans (World.alloc_heap_new W4 _))
           have n0 := cell_of_block kb.out 0 (by simp)
           have n1 := cell_of_block kb.out 1 (by simp)
           have n2 := cell_of_block kb.out 2 (by simp)
           simp at n0 n1 n2
           have f0 := frozen_of_block kb.out 0
           have f1 := frozen_of_block kb.out 1
           have f2 := frozen_of_block kb.out 2))
    all_goals
      go_wp2_with fail
      go_meet
      first
        | exact ⟨rfl, hown.alloc _, ⟨w1.heap.size, rfl, World.alloc_heap_new w1 _, HB1.out.size⟩, HB1.out.alloc HB1.out.size _⟩
        | exact ⟨rfl, row_set3 (hown.base (by simp)) (by have := hown.lt; intro h; have := this _ h; simp at this; omega) _ _ _, ⟨W4.heap.size, rfl, block_set3 kb.out _ _ _, Nat.le_refl _⟩, ((HB1.out.setCell (Nat.le_refl _) _).setCell (Nat.le_refl _) _).setCell (Nat.le_refl _) _⟩
  case rest =>
    obtain ⟨V, rfl⟩ : ∃ V : World, V = wc := ⟨_, rfl⟩
    obtain ⟨rfl, hrow, ⟨B, rfl, hbox, hB⟩, hlow⟩ := hcut
    have B2c := Lib.hid (thru hlow B24.out)
    have nbc := NB4.out.below hlow
    have HROW := Lib.hid hrow
    have HLOW := Lib.hid hlow
    have HBOX := Lib.hid hbox
    clear c0 c1 p0 p1 p2 s0 s1 ne0 ne1 hsf RC hrow hlow
    have s0 := nbc.s0
    have NBC := Lib.hid nbc
    obtain ⟨c0, c1, _, _, _, _, _⟩ := nbc
    have q0 := cell_of_block hbox 0 (by simp)
    have q1 := cell_of_block hbox 1 (by simp)
    have q2 := cell_of_block hbox 2 (by simp)
    simp at q0 q1 q2
    have sB := (Array.getElem?_eq_some_iff.1 hbox).1
    clear hbox
    obtain ⟨aR, hsl, hR⟩ := slice_rest (P := Try.prog) (t := 22) (by kernel_rfl) (fun _ => by kernel_rfl) (HM.out.below B2c.out) hkc A hAk
    have HR := Lib.hid hR; clear hR
    obtain ⟨F, hF⟩ : ∃ F, F = c.potAt p M A := ⟨_, rfl⟩
    rw [← hF] at q0 q1 q2
    have RC := Lib.hid (fun W (hb : Below V.heap.size V W) => run_ok aL aV aR c.n cL cV (k - A) (cM - A) c F (fun i => M (A + i)) W (by omega) (by omega) ((HL.out.below B2c.out).below hb) ((HV.out.below B2c.out).below hb) (HR.out.below hb) (by rw [hF]; exact run_second HX.out hAk))
    have eE : c.potAt F (fun i => M (A + i)) (k - A) = E := by rw [hF, c.pot_cut, HE.out, show A + (k - A) = k by omega]
    rw [eE] at RC
    obtain ⟨O2, hO2⟩ : ∃ O2, O2 = c.outs F (fun i => M (A + i)) (k - A) := ⟨_, rfl⟩
    rw [← hO2] at RC
    have EO := Lib.hid (show c.outs p M A ++ O2 = c.outs p M k by rw [hO2, hF, c.outs_cut, show A + (k - A) = k by omega])
    have EO1 := Lib.hid (show ∀ u ∈ O2, u.oneCell' = true by rw [hO2]; exact outs_one _ _ _ _)
    clear eE hF hO2
    have ne0 : w.heap.size ≠ V.heap.size := by omega
    have ne1 : B ≠ V.heap.size := by omega
    go_wp2_with fail
    go_cut [16, 17, 18] (fun s16 s17 s18 wx => Mid2 E O2 (k - A) V s16 s17 s18 wx)
    case first =>
      go_region_held3 (fun w' => w'.cell? ⟨w.heap.size, 0, none⟩ = some (.slice aL c.n cL) ∧ w'.cell? ⟨w.heap.size, 1, none⟩ = some (.slice aV c.n cV) ∧ w'.cell? ⟨B, 0, none⟩ = some (.int .i64 F.v) ∧ w'.cell? ⟨B, 1, none⟩ = some (.int .i64 F.lo) ∧ w'.cell? ⟨B, 2, none⟩ = some (.int .i64 F.hi))
        (first | go_keep | exact ⟨k0, k1, k2, k3, k4⟩ | exact ⟨(far3 ne0 _ _ _ _).trans k0, (far3 ne0 _ _ _ _).trans k1, (far3 ne1 _ _ _ _).trans k2, (far3 ne1 _ _ _ _).trans k3, (far3 ne1 _ _ _ _).trans k4⟩)
        (first
          | (go_at_call 17; refine (RC.out (V.drew) (below_drew V)).mono ?_; rintro e w1 ⟨vB, rfl, hown, hb1⟩
             have HB1 := Lib.hid (thru hb1 (below_drew V))
             have k0 := below_cell HB1.out c0
             have k1 := below_cell HB1.out c1
             have k2 := below_cell HB1.out q0
             have k3 := below_cell HB1.out q1
             have k4 := below_cell HB1.out q2)
          | (go_at_call 17; refine (RC.out ((V.alloc (.cells #[.int .i64 0, .int .i64 0, .int .i64 0] 29)).drew) (below_alloc_drew V (.cells #[.int .i64 0, .int .i64 0, .int .i64 0] 29))).mono ?_; rintro e w1 ⟨vB, rfl, hown, hb1⟩
             have HB1 := Lib.hid (thru hb1 (below_alloc_drew V (.cells #[.int .i64 0, .int .i64 0, .int .i64 0] 29)))
             have k0 := below_cell HB1.out c0
             have k1 := below_cell HB1.out c1
             have k2 := below_cell HB1.out q0
             have k3 := below_cell HB1.out q1
             have k4 := below_cell HB1.out q2
             have kb := Lib.hid ((hb1.block V.heap.size (by simp)).trans (World.alloc_heap_new V _))
             have n0 := cell_of_block kb.out 0 (by simp)
             have n1 := cell_of_block kb.out 1 (by simp)
             have n2 := cell_of_block kb.out 2 (by simp)
             simp at n0 n1 n2
             have f0 := frozen_of_block kb.out 0
             have f1 := frozen_of_block kb.out 1
             have f2 := frozen_of_block kb.out 2))
      all_goals
        go_wp2_with fail
        go_meet
        first
          | exact ⟨rfl, hown.alloc _, ⟨w1.heap.size, rfl, World.alloc_heap_new w1 _, HB1.out.size⟩, HB1.out.alloc HB1.out.size _⟩
          | exact ⟨rfl, row_set3 (hown.base (by simp)) (by have := hown.lt; intro h; have := this _ h; simp at this; omega) _ _ _, ⟨V.heap.size, rfl, block_set3 kb.out _ _ _, Nat.le_refl _⟩, ((HB1.out.setCell (Nat.le_refl _) _).setCell (Nat.le_refl _) _).setCell (Nat.le_refl _) _⟩
    case rest =>
      obtain ⟨rfl, hrow2, ⟨B2, rfl, hbox2, hB2⟩, hlow2⟩ := hcut
      have B2x := Lib.hid (thru hlow2 B2c.out)
      have B4x := Lib.hid (thru hlow2 HLOW.out)
      have HR1 := Lib.hid (own_below HROW.out hlow2)
      have HR2 := Lib.hid hrow2
      have HD := Lib.hid (hD4.out.below B4x.out)
      have nbx := NBC.out.below hlow2
      have NBX := Lib.hid nbx
      have e1 := HBX.out.below B4x.out
      clear c0 c1 q0 q1 q2 s0 sB ne0 ne1 RC hrow2 hlow2 hB hB2
      obtain ⟨f0, f1, f2, fl⟩ := e1
      have s0 := nbx.s0
      have s1 := nbx.s1
      obtain ⟨c0, c1, p0, p1, p2, _, _⟩ := nbx
      have g0 := cell_of_block hbox2 0 (by simp)
      have g1 := cell_of_block hbox2 1 (by simp)
      have g2 := cell_of_block hbox2 2 (by simp)
      simp at g0 g1 g2
      have gl := (Array.getElem?_eq_some_iff.1 hbox2).1
      clear hbox2
      obtain ⟨i0, hi, hz0, hz1, hz2⟩ := info_parts infoD
      have HI := Lib.hid hi; clear hi
      have Z0 := Lib.hid hz0; clear hz0
      have Z1 := Lib.hid hz1; clear hz1
      have Z2 := Lib.hid hz2; clear hz2
      go_wp2_with (at_builtin; refine wpList_append_rows (by rfl) _ _ 33 rfl W4.heap.size 41 i0 (.agg #[.int .i64 0, .int .i64 0, .int .i64 0]) 3 24 Try.underlying33 HI.out Z0.out Z1.out Z2.out rfl (by decide) _ A (c.outs p M A) rfl HR1.out _ (k - A) V.heap.size O2 rfl HR2.out EO1.out ?_ ?_ ?_ ?_)
      · unfold maxLen; omega
      · omega
      · exact B4x.out.size
      intro v' w' hown' hgrow
      rw [EO.out] at hown'
      obtain ⟨a', cap', rfl, hD'⟩ := drawn_of_own hown'
      have B4' := Lib.hid (B4x.out.grown hgrow B4x.out.size (fun k hk => (HR1.out.lt k hk).1))
      have HD' := Lib.hid hD'
      have HL' := Lib.hid (hD4.out.below B4'.out)
      clear c0 c1 p0 p1 p2 s0 s1 f0 f1 f2 fl g0 g1 g2 gl hown' hgrow hD'
      have nb' := NB4.out.below B4'.out
      have NB' := Lib.hid nb'
      have s0 := nb'.s0
      have s1 := nb'.s1
      obtain ⟨c0, c1, p0, p1, p2, _, _⟩ := nb'
      go_wp2_with fail
      refine (sameDrawn_t a' a1 k cap' cap1 (c.outAt p M) w' (by omega) HD'.out HL'.out).mono ?_
      rintro e w5 ⟨rfl, x, rfl⟩
      by_cases hk0 : k = 0
      · obtain rfl : 0 = k := hk0.symm
        go_wp2_with fail
        refine (alive_any _).mono ?_
        rintro e w1 ⟨rfl, hb⟩
        have HB := Lib.hid (thru hb (NB'.out.low.gw x)); clear hb
        go_wp2_with fail
        go_ret
        exact ⟨rfl, HB.out⟩
      · have kpos : 0 < k := by omega
        clear hk0
        go_wp2_with fail
        rename_i K1 h1 K2 h2
        have H1 := Lib.hid h1
        have H2 := Lib.hid h2
        clear h1 h2
        obtain ⟨bm, offm, rfl, lbm, hm⟩ := ints_get (HM.out.below B24.out) kpos
        have HMM := Lib.hid hm; clear hm
        obtain ⟨V2, hV2⟩ : ∃ V2, gw w' x = V2 := ⟨_, rfl⟩
        have HV2 := Lib.hid hV2
        have B42 := Lib.hid (show Below W4.heap.size W4 V2 by rw [← hV2]; exact B4'.out.gw x)
        have LOW2 := Lib.hid (show Below w.heap.size w V2 by rw [← hV2]; exact NB'.out.low.gw x)
        rw [hV2]
        clear hV2 c0 c1 p0 p1 p2 s0 s1
        have nb2 := NB4.out.below B42.out
        have s0 := nb2.s0
        have s1 := nb2.s1
        obtain ⟨c0, c1, p0, p1, p2, _, _⟩ := nb2
        have B22 := Lib.hid (thru B42.out B24.out)
        obtain ⟨m1, m2, m3, m4, m5⟩ : True ∧ True ∧ True ∧ True ∧ True := ⟨trivial, trivial, trivial, trivial, trivial⟩
        have m0 := below_cell B42.out (HMM.out 0 kpos)
        simp at m0
        have lm2 := World.block_lt_of_cell? V2 _ m0
        simp at lm2
        obtain ⟨X, hX⟩ : ∃ X, X = c.outAt p M 0 := ⟨_, rfl⟩
        obtain ⟨Y, hY⟩ : ∃ Y, Y = c.potAt p (fun _ => M 0) 1 := ⟨_, rfl⟩
        have DC := Lib.hid (fun W (hb : Below V2.heap.size V2 W) => drawF_ok aL aV c.n cL cV c p (M 0) W (by omega) (by omega) ((HL.out.below B22.out).below hb) ((HV.out.below B22.out).below hb) (run_one HX.out kpos) X Y hX hY)
        have EXX := Lib.hid hX
        clear hX hY
        have ne0 : w.heap.size ≠ V2.heap.size := by omega
        have ne1 : w.heap.size + 1 ≠ V2.heap.size := by omega
        have ne2 : bm ≠ V2.heap.size := by omega
        have nr0 := ne0.symm
        have nr1 := ne1.symm
        have nr2 := ne2.symm
        have nt0 : V2.heap.size + 1 ≠ w.heap.size := by omega
        have nt1 : V2.heap.size + 1 ≠ w.heap.size + 1 := by omega
        have nt2 : V2.heap.size + 1 ≠ bm := by omega
        go_cut [19, 21] (fun s19 s21 wx => Out3 X V2 s19 s21 wx)
        case first =>
          go_region_held3 (fun w' => w'.cell? ⟨w.heap.size, 0, none⟩ = some (.slice aL c.n cL) ∧ w'.cell? ⟨w.heap.size, 1, none⟩ = some (.slice aV c.n cV) ∧ w'.cell? ⟨w.heap.size + 1, 0, none⟩ = some (.int .i64 p.v) ∧ w'.cell? ⟨w.heap.size + 1, 1, none⟩ = some (.int .i64 p.lo) ∧ w'.cell? ⟨w.heap.size + 1, 2, none⟩ = some (.int .i64 p.hi) ∧ w'.cell? ⟨bm, offm, none⟩ = some (.int .i64 (M 0)))
            (first | go_keep)
            (first
              | (go_at_call 24; refine (DC.out (V2.drew) ((Below.refl _ V2).drew)).mono ?_; rintro e w1 ⟨rfl, hb1⟩
                 have HB1 := Lib.hid (thru hb1 (show Below V2.heap.size V2 (V2.drew) from (Below.refl _ V2).drew))
                 have k0 := below_cell HB1.out c0
                 have k1 := below_cell HB1.out c1
                 have k2 := below_cell HB1.out p0
                 have k3 := below_cell HB1.out p1
                 have k4 := below_cell HB1.out p2
                 have k5 := below_cell HB1.out m0
                 have hz1 := HB1.out.size)
              | (go_at_call 24; refine (DC.out ((V2.alloc (.cells #[.int .i64 0, .int .i64 0, .int .i64 0] 41)).drew) (((Below.refl _ V2).alloc (by simp) (.cells #[.int .i64 0, .int .i64 0, .int .i64 0] 41)).drew)).mono ?_; rintro e w1 ⟨rfl, hb1⟩
                 have HB1 := Lib.hid (thru hb1 (show Below V2.heap.size V2 ((V2.alloc (.cells #[.int .i64 0, .int .i64 0, .int .i64 0] 41)).drew) from ((Below.refl _ V2).alloc (by simp) (.cells #[.int .i64 0, .int .i64 0, .int .i64 0] 41)).drew))
                 have k0 := below_cell HB1.out c0
                 have k1 := below_cell HB1.out c1
                 have k2 := below_cell HB1.out p0
                 have k3 := below_cell HB1.out p1
                 have k4 := below_cell HB1.out p2
                 have k5 := below_cell HB1.out m0
                 have kb0 := Lib.hid (show w1.heap[V2.heap.size]? = some (.cells #[.int .i64 0, .int .i64 0, .int .i64 0] 41 (0, 0)) from (hb1.block (V2.heap.size) (by simp)).trans (World.alloc_heap_new V2 (.cells #[.int .i64 0, .int .i64 0, .int .i64 0] 41)))
                 have n00 := cell_of_block kb0.out 0 (by simp)
                 have n01 := cell_of_block kb0.out 1 (by simp)
                 have n02 := cell_of_block kb0.out 2 (by simp)
                 simp at n00 n01 n02
                 have hl0 := (Array.getElem?_eq_some_iff.1 kb0.out).1
                 have f00 := frozen_of_block kb0.out 0
                 have f01 := frozen_of_block kb0.out 1
                 have f02 := frozen_of_block kb0.out 2
                 have hz1 := HB1.out.size)
              | (go_at_call 24; refine (DC.out ((V2.alloc (.cells #[.int .i64 0, .int .i64 0, .int .i64 0] 29)).drew) (((Below.refl _ V2).alloc (by simp) (.cells #[.int .i64 0, .int .i64 0, .int .i64 0] 29)).drew)).mono ?_; rintro e w1 ⟨rfl, hb1⟩
                 have HB1 := Lib.hid (thru hb1 (show Below V2.heap.size V2 ((V2.alloc (.cells #[.int .i64 0, .int .i64 0, .int .i64 0] 29)).drew) from ((Below.refl _ V2).alloc (by simp) (.cells #[.int .i64 0, .int .i64 0, .int .i64 0] 29)).drew))
                 have k0 := below_cell HB1.out c0
                 have k1 := below_cell HB1.out c1
                 have k2 := below_cell HB1.out p0
                 have k3 := below_cell HB1.out p1
                 have k4 := below_cell HB1.out p2
                 have k5 := below_cell HB1.out m0
                 have kb0 := Lib.hid (show w1.heap[V2.heap.size]? = some (.cells #[.int .i64 0, .int .i64 0, .int .i64 0] 29 (0, 0)) from (hb1.block (V2.heap.size) (by simp)).trans (World.alloc_heap_new V2 (.cells #[.int .i64 0, .int .i64 0, .int .i64 0] 29)))
                 have n00 := cell_of_block kb0.out 0 (by simp)
                 have n01 := cell_of_block kb0.out 1 (by simp)
                 have n02 := cell_of_block kb0.out 2 (by simp)
                 simp at n00 n01 n02
                 have hl0 := (Array.getElem?_eq_some_iff.1 kb0.out).1
                 have f00 := frozen_of_block kb0.out 0
                 have f01 := frozen_of_block kb0.out 1
                 have f02 := frozen_of_block kb0.out 2
                 have hz1 := HB1.out.size)
              | (go_at_call 24; refine (DC.out (((V2.alloc (.cells #[.int .i64 0, .int .i64 0, .int .i64 0] 41)).alloc (.cells #[.int .i64 0, .int .i64 0, .int .i64 0] 29)).drew) ((((Below.refl _ V2).alloc (by simp) (.cells #[.int .i64 0, .int .i64 0, .int .i64 0] 41)).alloc (by simp) (.cells #[.int .i64 0, .int .i64 0, .int .i64 0] 29)).drew)).mono ?_; rintro e w1 ⟨rfl, hb1⟩
                 have HB1 := Lib.hid (thru hb1 (show Below V2.heap.size V2 (((V2.alloc (.cells #[.int .i64 0, .int .i64 0, .int .i64 0] 41)).alloc (.cells #[.int .i64 0, .int .i64 0, .int .i64 0] 29)).drew) from (((Below.refl _ V2).alloc (by simp) (.cells #[.int .i64 0, .int .i64 0, .int .i64 0] 41)).alloc (by simp) (.cells #[.int .i64 0, .int .i64 0, .int .i64 0] 29)).drew))
                 have k0 := below_cell HB1.out c0
                 have k1 := below_cell HB1.out c1
                 have k2 := below_cell HB1.out p0
                 have k3 := below_cell HB1.out p1
                 have k4 := below_cell HB1.out p2
                 have k5 := below_cell HB1.out m0
                 have kb0 := Lib.hid (show w1.heap[V2.heap.size]? = some (.cells #[.int .i64 0, .int .i64 0, .int .i64 0] 41 (0, 0)) from (hb1.block (V2.heap.size) (by simp <;> omega)).trans ((Below.heap_alloc (V2.alloc (.cells #[.int .i64 0, .int .i64 0, .int .i64 0] 41)) (.cells #[.int .i64 0, .int .i64 0, .int .i64 0] 29) (V2.heap.size) (by simp)).trans (World.alloc_heap_new V2 (.cells #[.int .i64 0, .int .i64 0, .int .i64 0] 41))))
                 have n00 := cell_of_block kb0.out 0 (by simp)
                 have n01 := cell_of_block kb0.out 1 (by simp)
                 have n02 := cell_of_block kb0.out 2 (by simp)
                 simp at n00 n01 n02
                 have hl0 := (Array.getElem?_eq_some_iff.1 kb0.out).1
                 have f00 := frozen_of_block kb0.out 0
                 have f01 := frozen_of_block kb0.out 1
                 have f02 := frozen_of_block kb0.out 2
                 have kb1 := Lib.hid (show w1.heap[V2.heap.size + 1]? = some (.cells #[.int .i64 0, .int .i64 0, .int .i64 0] 29 (0, 0)) from (hb1.block (V2.heap.size + 1) (by simp <;> omega)).trans ((by have := World.alloc_heap_new (V2.alloc (.cells #[.int .i64 0, .int .i64 0, .int .i64 0] 41)) (.cells #[.int .i64 0, .int .i64 0, .int .i64 0] 29); rwa [World.size_alloc] at this)))
                 have n10 := cell_of_block kb1.out 0 (by simp)
                 have n11 := cell_of_block kb1.out 1 (by simp)
                 have n12 := cell_of_block kb1.out 2 (by simp)
                 simp at n10 n11 n12
                 have hl1 := (Array.getElem?_eq_some_iff.1 kb1.out).1
                 have f10 := frozen_of_block kb1.out 0
                 have f11 := frozen_of_block kb1.out 1
                 have f12 := frozen_of_block kb1.out 2
                 have hz1 := HB1.out.size)
              | (go_at_call 24; refine (DC.out (((V2.alloc (.cells #[.int .i64 0, .int .i64 0, .int .i64 0] 29)).alloc (.cells #[.int .i64 0, .int .i64 0, .int .i64 0] 41)).drew) ((((Below.refl _ V2).alloc (by simp) (.cells #[.int .i64 0, .int .i64 0, .int .i64 0] 29)).alloc (by simp) (.cells #[.int .i64 0, .int .i64 0, .int .i64 0] 41)).drew)).mono ?_; rintro e w1 ⟨rfl, hb1⟩
                 have HB1 := Lib.hid (thru hb1 (show Below V2.heap.size V2 (((V2.alloc (.cells #[.int .i64 0, .int .i64 0, .int .i64 0] 29)).alloc (.cells #[.int .i64 0, .int .i64 0, .int .i64 0] 41)).drew) from (((Below.refl _ V2).alloc (by simp) (.cells #[.int .i64 0, .int .i64 0, .int .i64 0] 29)).alloc (by simp) (.cells #[.int .i64 0, .int .i64 0, .int .i64 0] 41)).drew))
                 have k0 := below_cell HB1.out c0
                 have k1 := below_cell HB1.out c1
                 have k2 := below_cell HB1.out p0
                 have k3 := below_cell HB1.out p1
                 have k4 := below_cell HB1.out p2
                 have k5 := below_cell HB1.out m0
                 have kb0 := Lib.hid (show w1.heap[V2.heap.size]? = some (.cells #[.int .i64 0, .int .i64 0, .int .i64 0] 29 (0, 0)) from (hb1.block (V2.heap.size) (by simp <;> omega)).trans ((Below.heap_alloc (V2.alloc (.cells #[.int .i64 0, .int .i64 0, .int .i64 0] 29)) (.cells #[.int .i64 0, .int .i64 0, .int .i64 0] 41) (V2.heap.size) (by simp)).trans (World.alloc_heap_new V2 (.cells #[.int .i64 0, .int .i64 0, .int .i64 0] 29))))
                 have n00 := cell_of_block kb0.out 0 (by simp)
                 have n01 := cell_of_block kb0.out 1 (by simp)
                 have n02 := cell_of_block kb0.out 2 (by simp)
                 simp at n00 n01 n02
                 have hl0 := (Array.getElem?_eq_some_iff.1 kb0.out).1
                 have f00 := frozen_of_block kb0.out 0
                 have f01 := frozen_of_block kb0.out 1
                 have f02 := frozen_of_block kb0.out 2
                 have kb1 := Lib.hid (show w1.heap[V2.heap.size + 1]? = some (.cells #[.int .i64 0, .int .i64 0, .int .i64 0] 41 (0, 0)) from (hb1.block (V2.heap.size + 1) (by simp <;> omega)).trans ((by have := World.alloc_heap_new (V2.alloc (.cells #[.int .i64 0, .int .i64 0, .int .i64 0] 29)) (.cells #[.int .i64 0, .int .i64 0, .int .i64 0] 41); rwa [World.size_alloc] at this)))
                 have n10 := cell_of_block kb1.out 0 (by simp)
                 have n11 := cell_of_block kb1.out 1 (by simp)
                 have n12 := cell_of_block kb1.out 2 (by simp)
                 simp at n10 n11 n12
                 have hl1 := (Array.getElem?_eq_some_iff.1 kb1.out).1
                 have f10 := frozen_of_block kb1.out 0
                 have f11 := frozen_of_block kb1.out 1
                 have f12 := frozen_of_block kb1.out 2
                 have hz1 := HB1.out.size))
          all_goals
            go_wp2_with fail
            go_meet
            first | with_reducible exact out_A _ _ _ HB1.out | with_reducible exact out_B HB1.out | with_reducible exact out_C HB1.out kb0.out | with_reducible exact out_D HB1.out kb0.out kb1.out | with_reducible exact out_E HB1.out kb0.out | with_reducible exact out_F HB1.out kb0.out kb1.out
        case rest =>
          obtain ⟨rfl, ⟨B9, rfl, hbx9⟩, hlow9⟩ := hcut
          have LOW9 := Lib.hid (thru hlow9 LOW2.out)
          have hd9 := HL'.out.below (show Below w'.heap.size w' wc from thru hlow9 (by rw [← HV2.out]; exact below_gw w' x))
          obtain ⟨b1, off1, rfl, lb1, hD1⟩ := hd9.get kpos
          obtain ⟨d0, d1, d2⟩ := hD1 0 kpos
          rw [← EXX.out] at d0 d1 d2
          simp at d0 d1 d2
          obtain ⟨e0, e1, e2, el⟩ := hbx9
          clear hD1 hd9 c0 c1 p0 p1 p2 m0 s0 s1 hlow9 ne0 ne1 ne2 nr0 nr1 nr2 nt0 nt1 nt2 DC
          refine H2.out _ _ ?_
          go_wp2_with fail
          refine wp_region_gw (by kernel_rfl) (by kernel_rfl) ?_
          repeat (go_big_quiet_step ((go_at_call 16; exact Calls.gw_of (alive_any _))))
          refine wpQuiet_nil ?_
          rintro _ ⟨z, rfl⟩
          go_wp2_with fail
          go_ret
          exact ⟨rfl, LOW9.out.gw z⟩
end Go.Proofs.Ytnmldophadanbaa
