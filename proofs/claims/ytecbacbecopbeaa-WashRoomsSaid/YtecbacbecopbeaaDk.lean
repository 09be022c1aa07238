/- WashRooms walked: it returns true. No conditions beyond each theorem's own. -/
import Derived.Test.YtecbacbecopbeaaBv
import Derived.Test.YtecbacbecopbeaaBq
set_option linter.unusedVariables false
set_option linter.unusedSimpArgs false
set_option linter.unusedSectionVars false
set_option linter.constructorNameAsVariable false
namespace Go.Proofs.Ytecbacbecopbeaa
open Go.RowKit

attribute [local go_sem] gw_cell gw_frozen gw_size

/-- Air's room as a list -/
theorem air_list {sl sh v : Int} {k : Nat} {F G : Nat → Int} {w : World} {e : Ending} {w' : World} (h : AirR sl sh k F G v w e w') :
    ∃ a c, e = .returned (.tuple #[.slice a (airN sl sh k F G v) c, .int .i64 (airE sl sh k F G v)]) ∧ SpansAt w' a (airN sl sh k F G v) (fun i => airL sl v F (i + 1)) (fun i => airH sh v G (i + 1)) ∧ Below w.heap.size w w' := by
  obtain ⟨vl, rfl, hO, hB⟩ := h
  obtain ⟨a, c, rfl, hS⟩ := spans_of_own hO
  exact ⟨a, c, rfl, hS, hB⟩
theorem airN_le (sl sh : Int) (k : Nat) (F G : Nat → Int) (v : Int) : airN sl sh k F G v ≤ k := by unfold airN; split <;> omega

set_option maxRecDepth 100000 in
set_option maxHeartbeats 8000000 in
theorem rooms_any (sl sh : Int) (aS : Option Addr) (k cS : Nat) (F G : Nat → Int) (v a lim : Int) (w : World) (hS : SpansAt w aS k F G) (hk : k ≤ 9223372036854775807) :
    Calls Try.prog 10 #[.agg #[.int .i64 sl, .int .i64 sh], .slice aS k cS, .int .i64 v, .int .i64 a, .int .i64 lim] w (True1 w) := by
  have LG := fun w => long3_any k 40 200 w hk (by omega)
  obtain ⟨W1, hW1⟩ : ∃ W1, w.alloc (.cells #[.int .i64 sl, .int .i64 sh] 23) = W1 := ⟨_, rfl⟩
  have hBc : Below w.heap.size w W1 := by rw [← hW1]; exact below_alloc _ _
  have zc0 : W1.heap[w.heap.size]? = some (.cells #[.int .i64 sl, .int .i64 sh] 23 (0, 0)) := by rw [← hW1]; exact alloc_at rfl
  have c00 : W1.cell? ⟨w.heap.size, 0, none⟩ = some (.int .i64 sl) := cell_of_block zc0 0 (by simp)
  have c01 : W1.cell? ⟨w.heap.size, 1, none⟩ = some (.int .i64 sh) := cell_of_block zc0 1 (by simp)
  have lc0 := (Array.getElem?_eq_some_iff.1 zc0).1
  have Zc0 := Lib.hid zc0
  clear zc0
  have HBc := Lib.hid hBc; clear hBc
  have HWc := Lib.hid hW1; clear hW1
  have HS := Lib.hid (hS.below HBc.out); clear hS
  cases hl : longB k 40 200 with
  | true =>
    rw [hl] at LG
    have LG' := Lib.hid LG; clear LG hl
    go_enter Try.func10, Try.ntmps10
    go_upto_region 1 with (fail)
    rw [HWc.out]
    go_wp2_with fail
    refine (LG'.out _).mono ?_
    rintro e w1 ⟨rfl, rfl⟩
    go_wp2_with fail
    refine (Calls.grown (alive_any _)).mono ?_
    rintro e w1 ⟨rfl, z1, rfl⟩
    go_wp2_with fail
    go_ret
    exact ⟨rfl, HBc.out.gw z1⟩
  | false =>
    rw [hl] at LG
    have LG' := Lib.hid LG; clear LG hl
    have AIR := Lib.hid (fun W (hb : Below W1.heap.size W1 W) => (Air_any sl sh aS k cS F G v W (HS.out.below hb) hk).mono (fun _ _ h => air_list h))
    have RAI := Lib.hid (fun W (hb : Below W1.heap.size W1 W) => (rAir_any sl sh aS k cS F G v W (HS.out.below hb) hk).mono (fun _ _ h => air_list h))
    have BO := fun w => Bound_any a v w
    have RB := fun w => rBound_any a v w
    have VE := fun w => Vent_any a lim w
    have RV := fun w => rVent_any a lim w
    have nl := airN_le sl sh k F G v
    obtain ⟨N, hN⟩ : ∃ N, airN sl sh k F G v = N := ⟨_, rfl⟩
    obtain ⟨E, hE⟩ : ∃ E, airE sl sh k F G v = E := ⟨_, rfl⟩
    rw [hN, hE] at AIR RAI
    rw [hN] at nl
    obtain ⟨b1, hb1⟩ : ∃ b1, boundV a v = b1 := ⟨_, rfl⟩
    obtain ⟨b2, hb2⟩ : ∃ b2, boundE a v = b2 := ⟨_, rfl⟩
    rw [hb1, hb2] at BO RB
    obtain ⟨b3, hb3⟩ : ∃ b3, ventV a lim = b3 := ⟨_, rfl⟩
    obtain ⟨b4, hb4⟩ : ∃ b4, ventE a lim = b4 := ⟨_, rfl⟩
    rw [hb3, hb4] at VE RV
    clear hN hE hb1 hb2 hb3 hb4
    have BO' := Lib.hid BO; have RB' := Lib.hid RB; have VE' := Lib.hid VE; have RV' := Lib.hid RV; clear BO RB VE RV
    go_enter Try.func10, Try.ntmps10
    go_upto_region 1 with (fail)
    rw [HWc.out]
    go_wp2_with fail
    refine (LG'.out _).mono ?_
    rintro e w1 ⟨rfl, rfl⟩
    go_wp2_with fail
    refine (AIR.out _ (Below.refl _ _)).mono ?_
    rintro e u1 ⟨a1, c1, rfl, hS1, hB1⟩
    have HS1 := Lib.hid hS1; have HU1 := Lib.hid hB1; clear hS1 hB1 c00 c01
    have SBu1 := Lib.hid HU1.out
    have Zsu1 := Lib.hid ((HU1.out.block _ (Array.getElem?_eq_some_iff.1 Zc0.out).1).trans Zc0.out)
    have HBu1 := Lib.hid (thru HU1.out HBc.out)
    have e0 := cell_of_block Zsu1.out 0 (by simp)
    have e1 := cell_of_block Zsu1.out 1 (by simp)
    have lz := (Array.getElem?_eq_some_iff.1 Zsu1.out).1
    simp at e0 e1
    go_wp2_with fail
    refine (RAI.out _ HU1.out).mono ?_
    rintro e u2 ⟨a2, c2, rfl, hS2, hB2⟩
    have HS2 := Lib.hid hS2; have HS1b := Lib.hid (HS1.out.below hB2); have HBu2 := Lib.hid (thru hB2 HBu1.out); clear hS2 hB2 e0 e1
    go_wp2_with fail
    refine (BO'.out _).mono ?_
    rintro e w1 ⟨rfl, rfl⟩
    go_wp2_with fail
    refine (RB'.out _).mono ?_
    rintro e w1 ⟨rfl, rfl⟩
    go_wp2_with fail
    refine (Calls.grown (VE'.out _)).mono ?_
    rintro e w1 ⟨rfl, z0, rfl⟩
    go_wp2_with fail
    refine (RV'.out _).mono ?_
    rintro e w1 ⟨rfl, rfl⟩
    have SS := Lib.hid (sameSpans_t a1 a2 N c1 c2 _ _ (gw u2 z0) (by omega) (HS1b.out.below (below_gw u2 z0)) (HS2.out.below (below_gw u2 z0)))
    go_wp2_with fail
    refine (Calls.gw_of SS.out).mono ?_
    rintro e w1 ⟨rfl, z1, rfl⟩
    go_wp2_with fail
    refine (Calls.gw_of (alive_any _)).mono ?_
    rintro e w1 ⟨rfl, z2, rfl⟩
    go_wp2_with fail
    go_ret
    exact ⟨rfl, HBu2.out.gw z2⟩
end Go.Proofs.Ytecbacbecopbeaa
