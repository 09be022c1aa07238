/- WashBound walked: it returns true. No conditions beyond each theorem's own. -/
import Derived.Test.YtecbacbecopbeaaDh
import Derived.Test.YtecbacbecopbeaaBq
import Derived.Test.YtecbacbecopbeaaAe
set_option linter.unusedVariables false
set_option linter.unusedSimpArgs false
set_option linter.unusedSectionVars false
set_option linter.constructorNameAsVariable false
namespace Go.Proofs.Ytecbacbecopbeaa
open Go.RowKit

attribute [local go_sem] gw_cell gw_frozen gw_size

/-- Air under a bound -/
theorem air_calls (a b v sl sh : Int) (aS : Option Addr) (k cS : Nat) (F G : Nat → Int) (W : World) (hS : SpansAt W aS k F G) (hk : k ≤ 200) (hv : 0 ≤ v ∧ v ≤ 1000) (hs : 0 ≤ sl ∧ sl ≤ sh ∧ sh ≤ b) (hg : ∀ i, i < k → 0 ≤ F i ∧ F i ≤ G i ∧ G i ≤ a) (ha : a ≤ 1073741824) (hb : b ≤ 1073741824)
    (st : ∀ x g, 0 ≤ x ∧ x ≤ b → 0 ≤ g ∧ g ≤ a → upI ((x + g) * (1000 - v)) 1000 ≤ b) :
    Calls Try.prog 40 #[.agg #[.int .i64 sl, .int .i64 sh], .slice aS k cS, .int .i64 v] W fun e w' => ∃ al cl, e = .returned (.tuple #[.slice al k cl, .int .i64 0]) ∧ SpansAt w' al k (fun i => airL sl v F (i + 1)) (fun i => airH sh v G (i + 1)) ∧ Below W.heap.size W w' := by
  obtain ⟨e1, e2, _⟩ := air_under hk hv hs hg ha hb st
  refine (Air_any sl sh aS k cS F G v W hS (by omega)).mono ?_
  rintro e w' ⟨vl, rfl, hO, hB⟩
  rw [e2] at hO
  rw [e1]
  obtain ⟨al, cl, rfl, hL⟩ := spans_of_own hO
  exact ⟨al, cl, rfl, hL, hB⟩
theorem bound_calls {a u : Int} (w : World) (h : boundE a u = 0) : Calls Try.prog 32 #[.int .i64 a, .int .i64 u] w fun e w' => e = .returned (.tuple #[.int .i64 (boundV a u), .int .i64 0]) ∧ w = w' := by
  have k := Bound_any a u w
  rw [h] at k
  exact k
theorem infoSpB : (Try.prog.info? 23).map (fun i => (i.zero, i.size, i.bytes)) = some (some (.agg #[.int .i64 0, .int .i64 0]), 2, 16) := by kernel_rfl

set_option maxRecDepth 100000 in
set_option maxHeartbeats 8000000 in
theorem bound_any (a v s : Int) (aB : Option Addr) (nb cB : Nat) (U : Nat → Int) (w : World) (hU : NumsAt .u32 w aB nb U) (hu : ∀ i, i < nb → 0 ≤ U i ∧ U i ≤ 4294967295) (hk : nb ≤ 9223372036854775807) (hs : 0 ≤ s ∧ s ≤ 4294967295) :
    Calls Try.prog 11 #[.int .i64 a, .int .i64 v, .int .u32 s, .slice aB nb cB] w (True1 w) := by
  have BA := fun w => Bound_any a v w
  have b0 := boundV_range a v
  rcases bound_cases a v with ⟨e, q⟩ | ⟨e, q, rfl, ha⟩ | ⟨e, hb⟩
  · rw [e, q] at BA
    have HB := Lib.hid BA; clear BA e q hU hu b0
    go_enter Try.func11, Try.ntmps11
    go_wp2_with fail
    refine (HB.out _).mono ?_
    rintro e w1 ⟨rfl, rfl⟩
    go_wp2_with fail
    refine (Calls.grown (alive_any _)).mono ?_
    rintro e w1 ⟨rfl, z1, rfl⟩
    go_wp2_with fail
    go_ret
    exact ⟨rfl, below_gw w z1⟩
  · rw [e, q] at BA
    have HB := Lib.hid BA; clear BA e q hU hu b0
    go_enter Try.func11, Try.ntmps11
    go_wp2_with fail
    refine (HB.out _).mono ?_
    rintro e w1 ⟨rfl, rfl⟩
    go_wp2_with fail
    refine (Calls.grown (alive_any _)).mono ?_
    rintro e w1 ⟨rfl, z1, rfl⟩
    go_wp2_with fail
    go_ret
    exact ⟨rfl, below_gw w z1⟩
  · have UP := Lib.hid (fun x g h1 h2 => bound_holds_up (x := x) (g := g) hb e h1 h2)
    have LE := Lib.hid (bound_least hb e)
    have NX := Lib.hid (fun u h1 h2 h3 => bound_next (u := u) hb e h1 h2 h3)
    obtain ⟨a0, v0⟩ := boundB_t hb
    rw [e] at BA
    obtain ⟨b, hbv⟩ : ∃ b, boundV a v = b := ⟨_, rfl⟩
    rw [hbv] at BA b0
    simp only [hbv] at UP LE NX
    have HB := Lib.hid BA; clear BA e hb hbv
    have HU := Lib.hid hU; clear hU
    have HV := Lib.hid hu; clear hu
    by_cases hbig : 1048576 < a ∨ 268435456 < b ∨ 60 < nb
    · clear UP LE NX HU HV
      rcases hbig with h1 | h1 | h1
      · skip
        go_enter Try.func11, Try.ntmps11
        go_wp2_with fail
        refine (HB.out _).mono ?_
        rintro e w1 ⟨rfl, rfl⟩
        go_wp2_with fail
        refine (Calls.grown (alive_any _)).mono ?_
        rintro e w1 ⟨rfl, z1, rfl⟩
        go_wp2_with fail
        go_ret
        exact ⟨rfl, below_gw w z1⟩
      · by_cases h2 : 1048576 < a
        · skip
          go_enter Try.func11, Try.ntmps11
          go_wp2_with fail
          refine (HB.out _).mono ?_
          rintro e w1 ⟨rfl, rfl⟩
          go_wp2_with fail
          refine (Calls.grown (alive_any _)).mono ?_
          rintro e w1 ⟨rfl, z1, rfl⟩
          go_wp2_with fail
          go_ret
          exact ⟨rfl, below_gw w z1⟩
        · skip
          go_enter Try.func11, Try.ntmps11
          go_wp2_with fail
          refine (HB.out _).mono ?_
          rintro e w1 ⟨rfl, rfl⟩
          go_wp2_with fail
          refine (Calls.grown (alive_any _)).mono ?_
          rintro e w1 ⟨rfl, z1, rfl⟩
          go_wp2_with fail
          go_ret
          exact ⟨rfl, below_gw w z1⟩
      · by_cases h2 : 1048576 < a
        · skip
          go_enter Try.func11, Try.ntmps11
          go_wp2_with fail
          refine (HB.out _).mono ?_
          rintro e w1 ⟨rfl, rfl⟩
          go_wp2_with fail
          refine (Calls.grown (alive_any _)).mono ?_
          rintro e w1 ⟨rfl, z1, rfl⟩
          go_wp2_with fail
          go_ret
          exact ⟨rfl, below_gw w z1⟩
        · by_cases h3 : 268435456 < b
          · skip
            go_enter Try.func11, Try.ntmps11
            go_wp2_with fail
            refine (HB.out _).mono ?_
            rintro e w1 ⟨rfl, rfl⟩
            go_wp2_with fail
            refine (Calls.grown (alive_any _)).mono ?_
            rintro e w1 ⟨rfl, z1, rfl⟩
            go_wp2_with fail
            go_ret
            exact ⟨rfl, below_gw w z1⟩
          · skip
            go_enter Try.func11, Try.ntmps11
            go_wp2_with fail
            refine (HB.out _).mono ?_
            rintro e w1 ⟨rfl, rfl⟩
            go_wp2_with fail
            refine (Calls.grown (alive_any _)).mono ?_
            rintro e w1 ⟨rfl, z1, rfl⟩
            go_wp2_with fail
            go_ret
            exact ⟨rfl, below_gw w z1⟩
    · have s0 : 0 ≤ a ∧ a ≤ 1048576 := by omega
      have s1 : 0 ≤ b ∧ b ≤ 268435456 := by omega
      have s2 : nb ≤ 60 := by omega
      clear hbig a0 b0
      have m0 := Int.emod_nonneg s (show b + 1 ≠ 0 by omega)
      have m1 := Int.emod_lt_of_pos s (show 0 < b + 1 by omega)
      obtain ⟨t, ht⟩ : ∃ t, s % (b + 1) = t := ⟨_, rfl⟩
      have t0 : 0 ≤ t ∧ t ≤ b := by omega
      have ET := Lib.hid ht; clear ht
      obtain ⟨j0, hj, hy0, hy1, hy2⟩ := info_parts infoSpB
      have JI := Lib.hid hj; have Y0 := Lib.hid hy0; have Y1 := Lib.hid hy1; have Y2 := Lib.hid hy2
      clear hj hy0 hy1 hy2
      go_enter Try.func11, Try.ntmps11
      go_wp2_with fail
      refine (HB.out _).mono ?_
      rintro e w1 ⟨rfl, rfl⟩
      go_upto_region 9 with (fail)
      rw [ET.out]
      clear m0 m1
      obtain ⟨W1, hW1⟩ : ∃ W1, w.alloc (.cells #[.int .i64 0, .int .i64 t] 23) = W1 := ⟨_, rfl⟩
      have hBc : Below w.heap.size w W1 := by rw [← hW1]; exact below_alloc _ _
      have zc0 : W1.heap[w.heap.size]? = some (.cells #[.int .i64 0, .int .i64 t] 23 (0, 0)) := by rw [← hW1]; exact alloc_at rfl
      have c00 : W1.cell? ⟨w.heap.size, 0, none⟩ = some (.int .i64 0) := cell_of_block zc0 0 (by simp)
      have c01 : W1.cell? ⟨w.heap.size, 1, none⟩ = some (.int .i64 t) := cell_of_block zc0 1 (by simp)
      have lc0 := (Array.getElem?_eq_some_iff.1 zc0).1
      have Zc0 := Lib.hid zc0
      clear zc0
      have HBc := Lib.hid hBc; clear hBc
      have HWc := Lib.hid hW1; clear hW1
      rw [HWc.out]
      clear c00 c01
      go_wp2_with fail
      go_loopw [12, 86] (fun q p wr => ∃ j : Nat, j ≤ nb ∧ p = .int .i64 j ∧ Hid (wr.ownsRow W1.heap.size 23 2 q j (spansV j (fun _ => 0) (fun i => U i % (a + 1)))) ∧ Hid (wr.heap[w.heap.size]? = some (.cells #[.int .i64 0, .int .i64 t] 23 (0, 0))) ∧ Hid (Below w.heap.size w wr) ∧ W1.heap.size ≤ wr.heap.size) (fun _ p _ => nb - (intOf p).toNat)
      case atStart => exact ⟨0, Nat.zero_le _, rfl, Lib.hid (World.ownsRow_nil _ _ _ _), Zc0, HBc, Nat.le_refl _⟩
      case round =>
        obtain ⟨j, hj, rfl, HR, X0, HBr, zr⟩ := hrel
        have lx := (Array.getElem?_eq_some_iff.1 X0.out).1
        by_cases hlt : j < nb
        · rcases (HU.out.below HBr.out) with hz | ⟨bb, off, rfl, lb, hc⟩
          · omega
          · have q0 := hc j hlt
            clear hc
            have uu := HV.out j hlt
            have VS := Lib.hid (spansV_succ j (fun _ => 0) (fun i => U i % (a + 1)))
            obtain ⟨u, hu⟩ : ∃ u, U j = u := ⟨_, rfl⟩
            simp only [hu] at q0 uu VS
            clear hu
            have m0 := Int.emod_nonneg u (show a + 1 ≠ 0 by omega)
            have m1 := Int.emod_lt_of_pos u (show 0 < a + 1 by omega)
            have BV := Lib.hid (below_alloc wr (.cells #[.int .i64 0, .int .i64 (u % (a + 1))] 23))
            go_wp2_with (at_builtin; refine wpList_append_own _ rfl _ _ 34 rfl W1.heap.size 23 j0 (.agg #[.int .i64 0, .int .i64 0]) 2 16 Try.underlying34 JI.out Y0.out Y1.out Y2.out rfl (by decide) _ j (spansV j (fun _ => 0) (fun i => U i % (a + 1))) rfl (HR.out.alloc _) ⟨wr.heap.size, 0, none⟩ 1 1 [.int .i64 0, .int .i64 (u % (a + 1))] rfl rfl (news_lit _ _ _) (by simp [Value.oneCell']) (by unfold maxLen; omega) (by omega) (by simp; omega) ?_; intro v9 w9 hown9 hgrow9 _)
            rw [← VS.out] at hown9
            have HO9 := Lib.hid hown9
            have B9 := Lib.hid ((HBr.out.alloc HBr.out.size (.cells #[.int .i64 0, .int .i64 (u % (a + 1))] 23)).grown hgrow9 (by have := HBr.out.size; simp; omega) (fun g hg => by have := (HR.out.lt g hg).1; have := HBc.out.size; omega))
            have k0 := (hgrow9.block w.heap.size (by simp; omega) (by have := row_low HR.out (B := w.heap.size) (by omega); first | exact this | exact Ne.symm this)).trans ((BV.out.block _ (by omega)).trans X0.out)
            have z9 : W1.heap.size ≤ w9.heap.size := by have := hgrow9.size; simp at this; omega
            have K0 := Lib.hid k0; clear k0 hown9 hgrow9
            go_wp2_with fail
            go_roundw
            case rel => exact ⟨j + 1, by omega, by go_num, HO9, K0, B9, z9⟩
            case measure => simp [intOf]; omega
        · obtain rfl : j = nb := by omega
          obtain ⟨ag, cg, rfl, hG⟩ := spans_of_own HR.out
          have HG := Lib.hid hG; clear hG
          have AIR := Lib.hid (air_calls a b v 0 t ag j cg (fun _ => 0) (fun i => U i % (a + 1)) wr HG.out (by omega) v0 (by omega) (fun i hi => ⟨by omega, Int.emod_nonneg _ (by omega), by have := Int.emod_lt_of_pos (U i) (show 0 < a + 1 by omega); omega⟩) (by omega) (by omega) UP.out)
          have AH := Lib.hid (air_under (sl := 0) (sh := t) (k := j) (F := fun _ => 0) (G := fun i => U i % (a + 1)) (by omega) v0 (by omega) (fun i hi => ⟨by omega, Int.emod_nonneg _ (by omega), by have := Int.emod_lt_of_pos (U i) (show 0 < a + 1 by omega); omega⟩) (show a ≤ 1073741824 by omega) (show b ≤ 1073741824 by omega) UP.out).2.2
          have es0 := cell_of_block X0.out 0 (by simp)
          have es1 := cell_of_block X0.out 1 (by simp)
          go_wp2_with fail
          refine AIR.out.mono ?_
          rintro e W5 ⟨al, cl, rfl, hL, hB5⟩
          have HL := Lib.hid hL; have HB5 := Lib.hid (thru hB5 HBr.out); clear hL hB5 es0 es1
          go_wp2_with fail
          go_loopw [118] (fun p wr => ∃ i : Nat, i ≤ j ∧ p = .int .i64 i ∧ Hid (Below W5.heap.size W5 wr)) (fun p _ => j - (intOf p).toNat)
          case atStart => exact ⟨0, Nat.zero_le _, rfl, Lib.hid (Below.refl _ _)⟩
          case round =>
            obtain ⟨i, hi, rfl, HX⟩ := hrel
            by_cases hil : i < j
            · rename_i K3 h3 K2 h2
              have H3 := Lib.hid h3; have H2 := Lib.hid h2; clear h3 h2
              rcases (HL.out.below HX.out) with hz | ⟨b2, o2, rfl, l2, hc2⟩
              · omega
              · obtain ⟨q0, q1⟩ := hc2 i hil
                clear hc2
                have y0 := AH.out (i + 1) (by omega)
                dsimp only at q0 q1
                rw [airL_zero] at q0
                obtain ⟨y, hy⟩ : ∃ y, airH t v (fun i => U i % (a + 1)) (i + 1) = y := ⟨_, rfl⟩
                rw [hy] at q1 y0
                clear hy
                go_upto_region 21 with (fail)
                obtain ⟨W6, hW6⟩ : ∃ W6, (wr).alloc (.cells #[.int .i64 0, .int .i64 y] 23) = W6 := ⟨_, rfl⟩
                have hBd : Below wr.heap.size wr W6 := by rw [← hW6]; exact below_alloc _ _
                have zd0 : W6.heap[wr.heap.size]? = some (.cells #[.int .i64 0, .int .i64 y] 23 (0, 0)) := by rw [← hW6]; exact alloc_at rfl
                have d00 : W6.cell? ⟨wr.heap.size, 0, none⟩ = some (.int .i64 0) := cell_of_block zd0 0 (by simp)
                have d01 : W6.cell? ⟨wr.heap.size, 1, none⟩ = some (.int .i64 y) := cell_of_block zd0 1 (by simp)
                have ld0 := (Array.getElem?_eq_some_iff.1 zd0).1
                clear zd0
                have HBd := Lib.hid hBd; clear hBd
                have HWd := Lib.hid hW6; clear hW6
                rw [HWd.out]
                go_wp2_with fail
                go_roundw
                case rel => exact ⟨i + 1, by omega, by go_num, Lib.hid (thru HBd.out HX.out)⟩
                case measure => simp [intOf]; omega
            · obtain rfl : i = j := by omega
              clear AH
              rename_i K3 h3 K2 h2
              have H3 := Lib.hid h3; clear h3
              have HX5 := Lib.hid (thru HX.out HB5.out)
              have NXT := Lib.hid (show ∀ u, v ≤ u → 1 ≤ u → u ≤ 1000 → ∀ w, ∃ c, c ≤ b ∧ Calls Try.prog 32 #[.int .i64 a, .int .i64 u] w fun e w' => e = .returned (.tuple #[.int .i64 c, .int .i64 0]) ∧ w = w' from fun u h1 h2 h3 w => ⟨boundV a u, (NX.out u h1 h2 h3).2, bound_calls w (NX.out u h1 h2 h3).1⟩)
              by_cases hp : 0 < b
              · have LEb := LE.out hp
                obtain ⟨W7, hW7⟩ : ∃ W7, (wr).alloc (.cells #[.int .i64 a, .int .i64 a] 23) = W7 := ⟨_, rfl⟩
                have hBf : Below wr.heap.size wr W7 := by rw [← hW7]; exact below_alloc _ _
                have zf0 : W7.heap[wr.heap.size]? = some (.cells #[.int .i64 a, .int .i64 a] 23 (0, 0)) := by rw [← hW7]; exact alloc_at rfl
                have f00 : W7.cell? ⟨wr.heap.size, 0, none⟩ = some (.int .i64 a) := cell_of_block zf0 0 (by simp)
                have f01 : W7.cell? ⟨wr.heap.size, 1, none⟩ = some (.int .i64 a) := cell_of_block zf0 1 (by simp)
                have lf0 := (Array.getElem?_eq_some_iff.1 zf0).1
                clear zf0
                have HBf := Lib.hid hBf; clear hBf
                have HWf := Lib.hid hW7; clear hW7
                have AIR2 := Lib.hid (air_calls a b v (b - 1) (b - 1) (some ⟨wr.heap.size, 0, none⟩) 1 1 (fun _ => a) (fun _ => a) W7 (spans_one lf0 f00 f01) (by omega) v0 (by omega) (fun i hi => ⟨by omega, by omega, by omega⟩) (by omega) (by omega) UP.out)
                go_wp2_with fail
                rw [HWf.out]
                refine AIR2.out.mono ?_
                rintro e W8 ⟨a8, c8, rfl, hL8, hB8⟩
                have HB8 := Lib.hid (thru hB8 (thru HBf.out HX5.out)); clear hB8
                rcases hL8 with hz | ⟨b8, o8, rfl, l8, hc8⟩
                · omega
                · obtain ⟨q0, q1⟩ := hc8 0 (by omega)
                  clear hc8
                  have LY : b ≤ airH (b - 1) v (fun _ => a) (0 + 1) := LEb
                  dsimp only at q0 q1
                  obtain ⟨y, hy⟩ : ∃ y, airH (b - 1) v (fun _ => a) (0 + 1) = y := ⟨_, rfl⟩
                  rw [hy] at q1 LY
                  clear hy LEb
                  simp only [Nat.zero_mul, Nat.add_zero] at q0 q1
                  go_wp2_with fail
                  · clear h2
                    obtain ⟨c, hc, C⟩ := NXT.out (v + 1) (by omega) (by omega) (by omega) W8
                    with_reducible refine C.mono ?_
                    rintro e w1 ⟨rfl, rfl⟩
                    go_wp2_with fail
                    refine (Calls.grown (alive_any _)).mono ?_
                    rintro e w1 ⟨rfl, z1, rfl⟩
                    go_wp2_with fail
                    go_ret
                    exact ⟨rfl, HB8.out.gw z1⟩
                  · clear h2
                    obtain ⟨c, hc, C⟩ := NXT.out 1000 (by omega) (by omega) (by omega) W8
                    with_reducible refine C.mono ?_
                    rintro e w1 ⟨rfl, rfl⟩
                    go_wp2_with fail
                    refine (Calls.grown (alive_any _)).mono ?_
                    rintro e w1 ⟨rfl, z1, rfl⟩
                    go_wp2_with fail
                    go_ret
                    exact ⟨rfl, HB8.out.gw z1⟩
              · skip
                go_wp2_with fail
                · clear h2
                  obtain ⟨c, hc, C⟩ := NXT.out (v + 1) (by omega) (by omega) (by omega) wr
                  with_reducible refine C.mono ?_
                  rintro e w1 ⟨rfl, rfl⟩
                  go_wp2_with fail
                  refine (Calls.grown (alive_any _)).mono ?_
                  rintro e w1 ⟨rfl, z1, rfl⟩
                  go_wp2_with fail
                  go_ret
                  exact ⟨rfl, HX5.out.gw z1⟩
                · clear h2
                  obtain ⟨c, hc, C⟩ := NXT.out 1000 (by omega) (by omega) (by omega) wr
                  with_reducible refine C.mono ?_
                  rintro e w1 ⟨rfl, rfl⟩
                  go_wp2_with fail
                  refine (Calls.grown (alive_any _)).mono ?_
                  rintro e w1 ⟨rfl, z1, rfl⟩
                  go_wp2_with fail
                  go_ret
                  exact ⟨rfl, HX5.out.gw z1⟩
end Go.Proofs.Ytecbacbecopbeaa
