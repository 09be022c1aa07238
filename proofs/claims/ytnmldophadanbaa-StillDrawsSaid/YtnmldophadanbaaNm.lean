/- StillDraws: the walk of the law. No conditions beyond each theorem's own. -/
import Derived.Test.YtnmldophadanbaaNl
set_option linter.unusedVariables false
set_option linter.unusedSimpArgs false
set_option linter.unusedSectionVars false
set_option linter.constructorNameAsVariable false
namespace Go.Proofs.Ytnmldophadanbaa
open Go.RowKit

attribute [local go_sem] gw_cell gw_frozen gw_size

/-- a curve, a pot and a span were boxed -/
structure SB (w W : World) (aL aV : Option Addr) (n m cL cV : Nat) (v lo hi sl sh : Int) : Prop where
  c0 : W.cell? ⟨w.heap.size, 0, none⟩ = some (.slice aL n cL)
  c1 : W.cell? ⟨w.heap.size, 1, none⟩ = some (.slice aV m cV)
  p0 : W.cell? ⟨w.heap.size + 1, 0, none⟩ = some (.int .i64 v)
  p1 : W.cell? ⟨w.heap.size + 1, 1, none⟩ = some (.int .i64 lo)
  p2 : W.cell? ⟨w.heap.size + 1, 2, none⟩ = some (.int .i64 hi)
  q0 : W.cell? ⟨w.heap.size + 1 + 1, 0, none⟩ = some (.int .i64 sl)
  q1 : W.cell? ⟨w.heap.size + 1 + 1, 1, none⟩ = some (.int .i64 sh)
  sz : w.heap.size + 3 ≤ W.heap.size
  low : Below w.heap.size w W
section
variable {w W W' : World} {aL aV : Option Addr} {n m cL cV : Nat} {v lo hi sl sh : Int}
theorem SB.s0 (h : SB w W aL aV n m cL cV v lo hi sl sh) : w.heap.size < W.heap.size := by have := h.sz; omega
theorem SB.s1 (h : SB w W aL aV n m cL cV v lo hi sl sh) : w.heap.size + 1 < W.heap.size := by have := h.sz; omega
theorem SB.s2 (h : SB w W aL aV n m cL cV v lo hi sl sh) : w.heap.size + 1 + 1 < W.heap.size := by have := h.sz; omega
theorem SB.below (h : SB w W aL aV n m cL cV v lo hi sl sh) (hb : Below W.heap.size W W') : SB w W' aL aV n m cL cV v lo hi sl sh :=
  ⟨below_cell' hb h.c0, below_cell' hb h.c1, below_cell' hb h.p0, below_cell' hb h.p1, below_cell' hb h.p2, below_cell' hb h.q0, below_cell' hb h.q1, Nat.le_trans h.sz hb.size, thru hb h.low⟩
theorem sb_of (w : World) (aL aV : Option Addr) (n m cL cV : Nat) (v lo hi sl sh : Int) (t t' t'' : TypeId) : SB w (((w.alloc (.cells #[.slice aL n cL, .slice aV m cV] t)).alloc (.cells #[.int .i64 v, .int .i64 lo, .int .i64 hi] t')).alloc (.cells #[.int .i64 sl, .int .i64 sh] t'')) aL aV n m cL cV v lo hi sl sh :=
  ⟨by simp [go_sem], by simp [go_sem], by simp [go_sem], by simp [go_sem], by simp [go_sem], by simp [go_sem], by simp [go_sem], by simp, ((below_alloc _ _).alloc (by simp) _).alloc (by simp; omega) _⟩
end

theorem Calls.gw_same {P : Program} {f : FuncId} {args : Array Value} {w : World} {x : Grew} {v : Value}
    (h : Calls P f args (gw w x) fun e w' => e = .returned v ∧ ∃ y, w' = gw (gw w x) y) : Calls P f args (gw w x) fun e w'' => e = .returned v ∧ ∃ x', w'' = gw w x' :=
  h.mono fun _ _ ⟨he, y, hb⟩ => ⟨he, by obtain ⟨z, hz⟩ := gw_gw w x y; exact ⟨z, by rw [hb, hz]⟩⟩

set_option maxRecDepth 100000 in
set_option maxHeartbeats 16000000 in
theorem draws_any (aL aV aM : Option Addr) (n m k cL cV cM : Nat) (L A B M : Nat → Int) (v lo hi sl sh d : Int) (w : World) (hn : n ≤ 9223372036854775807) (hm : m ≤ 9223372036854775807) (hk : k ≤ 9223372036854775807) (hL : IntsAt w aL n L) (hV : SpansAt w aV m A B) (hM : IntsAt w aM k M) :
    Calls Try.prog 8 #[.agg #[.slice aL n cL, .slice aV m cV], .agg #[.int .i64 v, .int .i64 lo, .int .i64 hi], .agg #[.int .i64 sl, .int .i64 sh], .int .i64 d, .slice aM k cM] w (True1 w) := by
  obtain ⟨W1, hW1⟩ : ∃ W1, ((w.alloc (.cells #[.slice aL n cL, .slice aV m cV] 25)).alloc (.cells #[.int .i64 v, .int .i64 lo, .int .i64 hi] 29)).alloc (.cells #[.int .i64 sl, .int .i64 sh] 27) = W1 := ⟨_, rfl⟩
  have sb : SB w W1 aL aV n m cL cV v lo hi sl sh := by rw [← hW1]; exact sb_of w aL aV n m cL cV v lo hi sl sh _ _ _
  have CU := Lib.hid (show CurIn W1 aL aV n m L A B from ⟨hL.below sb.low, hV.below sb.low⟩); clear hL hV
  have HM := Lib.hid (hM.below sb.low); clear hM
  have HW1 := Lib.hid hW1; clear hW1
  have SB1 := Lib.hid sb
  have s0 := sb.s0
  have s1 := sb.s1
  have s2 := sb.s2
  obtain ⟨c0, c1, p0, p1, p2, q0, q1, _, _⟩ := sb
  cases h : longB n m k with
  | true =>
    have H := Lib.hid h; clear h
    go_enter Try.func8, Try.ntmps8
    go_wp2_with fail
    rw [HW1.out]
    refine (long_b _ _ _ _ _ _ _ _ _ _ hn hm hk H.out).mono ?_
    rintro e w1 ⟨rfl, x, rfl⟩
    go_wp2_with fail
    refine (alive_any _).mono ?_
    rintro e w1 ⟨rfl, hb⟩
    have HB := Lib.hid (thru hb (SB1.out.low.gw x)); clear hb
    go_wp2_with fail
    go_ret
    exact ⟨rfl, HB.out⟩
  | false =>
    obtain ⟨k1, k2, k3⟩ := longB_f h
    have H := Lib.hid h; clear h
    obtain ⟨va, vb, vx, VP0, VR0⟩ := vapour_both aL aV m cL cV ⟨n, L, A, B⟩ sl sh (by show n ≤ _; omega) (by omega)
    obtain ⟨X, Y, dx, DP0, DR0⟩ := draw_both aL aV m cL cV ⟨n, L, A, B⟩ ⟨v, lo, hi⟩ d (by show n ≤ _; omega) (by omega)
    obtain ⟨cx, CP0, CR0⟩ := check_both aL aV m cL cV ⟨n, L, A, B⟩ (by show n ≤ _; omega) (by omega)
    have VP := Lib.hid VP0; clear VP0
    have VR := Lib.hid VR0; clear VR0
    have DP := Lib.hid DP0; clear DP0
    have DR := Lib.hid DR0; clear DR0
    have CP := Lib.hid CP0; clear CP0
    have CR := Lib.hid CR0; clear CR0
    by_cases hx : runErr m ⟨n, L, A, B⟩ ⟨v, lo, hi⟩ M k = 0
    · have HX := Lib.hid hx; clear hx
      obtain ⟨E, hE⟩ : ∃ E, Crv.potAt ⟨n, L, A, B⟩ ⟨v, lo, hi⟩ M k = E := ⟨_, rfl⟩
      have HE := Lib.hid hE; clear hE
      have RP := Lib.hid (fun W (hc : CurIn W aL aV n m L A B) (hM : IntsAt W aM k M) => run_ok aL aV aM m cL cV k cM ⟨n, L, A, B⟩ ⟨v, lo, hi⟩ M W (by show n ≤ _; omega) (by omega) hc.ls hc.vs hM HX.out)
      have RR := Lib.hid (fun W (hc : CurIn W aL aV n m L A B) (hM : IntsAt W aM k M) => rrun_ok aL aV aM m cL cV k cM ⟨n, L, A, B⟩ ⟨v, lo, hi⟩ M (by show n ≤ _; omega) W hc hM HX.out)
      rw [HE.out] at RP RR
      go_enter Try.func8, Try.ntmps8
      go_wp2_with fail
      rw [HW1.out]
      refine (long_b _ _ _ _ _ _ _ _ _ _ hn hm hk H.out).mono ?_
      rintro e w1 ⟨rfl, x, rfl⟩
      have BW0 := Lib.hid (below_gw W1 x)
      go_wp2_with fail
      refine (VP.out (gw W1 x) (CU.out.below BW0.out)).mono ?_
      rintro e u1 ⟨rfl, hb1⟩
      obtain ⟨V1, hV1⟩ : ∃ V, (u1.alloc (.cells #[.int .i64 va, .int .i64 vb] 27)) = V := ⟨_, rfl⟩
      have BU1 : Below u1.heap.size u1 V1 := by rw [← hV1]; exact below_alloc _ _
      have bk10 : V1.heap[u1.heap.size]? = some (.cells #[.int .i64 va, .int .i64 vb] 27 (0, 0)) := by rw [← hV1]; exact World.alloc_heap_new _ _
      have BV1 := Lib.hid (thru BU1 hb1)
      have BW1 := Lib.hid (thru BV1.out BW0.out)
      have HV1 := Lib.hid hV1
      have Lbk10 := Lib.hid bk10
      clear hV1 BU1 hb1 c0 c1 p0 p1 p2 q0 q1 s0 s1 s2 bk10
      go_upto_region 4 with (fail)
      rw [HV1.out]
      have sb := SB1.out.below BW1.out
      have s0 := sb.s0
      have s1 := sb.s1
      have s2 := sb.s2
      obtain ⟨c0, c1, p0, p1, p2, q0, q1, _, _⟩ := sb
      go_wp2_with fail
      have bk10 := Lbk10.out
      clear Lbk10
      refine (VR.out V1 (CU.out.below BW1.out)).mono ?_
      rintro e u2 ⟨rfl, hb2⟩
      obtain ⟨V2, hV2⟩ : ∃ V, (u2.alloc (.cells #[.int .i64 va, .int .i64 vb] 27)) = V := ⟨_, rfl⟩
      have BU2 : Below u2.heap.size u2 V2 := by rw [← hV2]; exact below_alloc _ _
      have bk20 : V2.heap[u2.heap.size]? = some (.cells #[.int .i64 va, .int .i64 vb] 27 (0, 0)) := by rw [← hV2]; exact World.alloc_heap_new _ _
      have BV2 := Lib.hid (thru BU2 hb2)
      have BW2 := Lib.hid (thru BV2.out BW1.out)
      replace bk10 := (BV2.out.block _ (Array.getElem?_eq_some_iff.1 bk10).1).trans bk10
      have HV2 := Lib.hid hV2
      have Lbk10 := Lib.hid bk10
      have Lbk20 := Lib.hid bk20
      clear hV2 BU2 hb2 c0 c1 p0 p1 p2 q0 q1 s0 s1 s2 bk10 bk20
      go_upto_region 5 with (fail)
      rw [HV2.out]
      have sb := SB1.out.below BW2.out
      have s0 := sb.s0
      have s1 := sb.s1
      have s2 := sb.s2
      obtain ⟨c0, c1, p0, p1, p2, q0, q1, _, _⟩ := sb
      go_wp2_with fail
      have bk10 := Lbk10.out
      have bk20 := Lbk20.out
      clear Lbk10
      clear Lbk20
      refine (DP.out V2 (CU.out.below BW2.out)).mono ?_
      rintro e u3 ⟨rfl, hb3⟩
      obtain ⟨V3, hV3⟩ : ∃ V, ((u3.alloc (.cells #[.int .i64 X.d, .int .i64 X.lo, .int .i64 X.hi] 41)).alloc (.cells #[.int .i64 Y.v, .int .i64 Y.lo, .int .i64 Y.hi] 29)) = V := ⟨_, rfl⟩
      have BU3 : Below u3.heap.size u3 V3 := by rw [← hV3]; exact (below_alloc _ _).alloc (by simp) _
      have bk30 : V3.heap[u3.heap.size]? = some (.cells #[.int .i64 X.d, .int .i64 X.lo, .int .i64 X.hi] 41 (0, 0)) := by rw [← hV3]; exact (Below.heap_alloc _ _ _ (by simp)).trans (World.alloc_heap_new _ _)
      have bk31 : V3.heap[u3.heap.size + 1]? = some (.cells #[.int .i64 Y.v, .int .i64 Y.lo, .int .i64 Y.hi] 29 (0, 0)) := by rw [← hV3]; exact (by have := World.alloc_heap_new (u3.alloc (.cells #[.int .i64 X.d, .int .i64 X.lo, .int .i64 X.hi] 41)) (.cells #[.int .i64 Y.v, .int .i64 Y.lo, .int .i64 Y.hi] 29); rwa [World.size_alloc] at this)
      have BV3 := Lib.hid (thru BU3 hb3)
      have BW3 := Lib.hid (thru BV3.out BW2.out)
      replace bk10 := (BV3.out.block _ (Array.getElem?_eq_some_iff.1 bk10).1).trans bk10
      replace bk20 := (BV3.out.block _ (Array.getElem?_eq_some_iff.1 bk20).1).trans bk20
      have HV3 := Lib.hid hV3
      have Lbk10 := Lib.hid bk10
      have Lbk20 := Lib.hid bk20
      have Lbk30 := Lib.hid bk30
      have Lbk31 := Lib.hid bk31
      clear hV3 BU3 hb3 c0 c1 p0 p1 p2 q0 q1 s0 s1 s2 bk10 bk20 bk30 bk31
      go_upto_region 6 with (fail)
      rw [HV3.out]
      have sb := SB1.out.below BW3.out
      have s0 := sb.s0
      have s1 := sb.s1
      have s2 := sb.s2
      obtain ⟨c0, c1, p0, p1, p2, q0, q1, _, _⟩ := sb
      go_wp2_with fail
      have bk10 := Lbk10.out
      have bk20 := Lbk20.out
      have bk30 := Lbk30.out
      have bk31 := Lbk31.out
      clear Lbk10
      clear Lbk20
      clear Lbk30
      clear Lbk31
      refine (DR.out V3 (CU.out.below BW3.out)).mono ?_
      rintro e u4 ⟨rfl, hb4⟩
      obtain ⟨V4, hV4⟩ : ∃ V, ((u4.alloc (.cells #[.int .i64 X.d, .int .i64 X.lo, .int .i64 X.hi] 41)).alloc (.cells #[.int .i64 Y.v, .int .i64 Y.lo, .int .i64 Y.hi] 29)) = V := ⟨_, rfl⟩
      have BU4 : Below u4.heap.size u4 V4 := by rw [← hV4]; exact (below_alloc _ _).alloc (by simp) _
      have bk40 : V4.heap[u4.heap.size]? = some (.cells #[.int .i64 X.d, .int .i64 X.lo, .int .i64 X.hi] 41 (0, 0)) := by rw [← hV4]; exact (Below.heap_alloc _ _ _ (by simp)).trans (World.alloc_heap_new _ _)
      have bk41 : V4.heap[u4.heap.size + 1]? = some (.cells #[.int .i64 Y.v, .int .i64 Y.lo, .int .i64 Y.hi] 29 (0, 0)) := by rw [← hV4]; exact (by have := World.alloc_heap_new (u4.alloc (.cells #[.int .i64 X.d, .int .i64 X.lo, .int .i64 X.hi] 41)) (.cells #[.int .i64 Y.v, .int .i64 Y.lo, .int .i64 Y.hi] 29); rwa [World.size_alloc] at this)
      have BV4 := Lib.hid (thru BU4 hb4)
      have BW4 := Lib.hid (thru BV4.out BW3.out)
      replace bk10 := (BV4.out.block _ (Array.getElem?_eq_some_iff.1 bk10).1).trans bk10
      replace bk20 := (BV4.out.block _ (Array.getElem?_eq_some_iff.1 bk20).1).trans bk20
      replace bk30 := (BV4.out.block _ (Array.getElem?_eq_some_iff.1 bk30).1).trans bk30
      replace bk31 := (BV4.out.block _ (Array.getElem?_eq_some_iff.1 bk31).1).trans bk31
      have HV4 := Lib.hid hV4
      have Lbk10 := Lib.hid bk10
      have Lbk20 := Lib.hid bk20
      have Lbk30 := Lib.hid bk30
      have Lbk31 := Lib.hid bk31
      have Lbk40 := Lib.hid bk40
      have Lbk41 := Lib.hid bk41
      clear hV4 BU4 hb4 c0 c1 p0 p1 p2 q0 q1 s0 s1 s2 bk10 bk20 bk30 bk31 bk40 bk41
      go_upto_region 7 with (fail)
      rw [HV4.out]
      have sb := SB1.out.below BW4.out
      have s0 := sb.s0
      have s1 := sb.s1
      have s2 := sb.s2
      obtain ⟨c0, c1, p0, p1, p2, q0, q1, _, _⟩ := sb
      go_wp2_with fail
      have bk10 := Lbk10.out
      have bk20 := Lbk20.out
      have bk30 := Lbk30.out
      have bk31 := Lbk31.out
      have bk40 := Lbk40.out
      have bk41 := Lbk41.out
      clear Lbk10
      clear Lbk20
      clear Lbk30
      clear Lbk31
      clear Lbk40
      clear Lbk41
      refine (RP.out V4 (CU.out.below BW4.out) (HM.out.below BW4.out)).mono ?_
      rintro e u5 ⟨vl5, rfl, hown, hb5⟩
      obtain ⟨a5, ca5, rfl, hDr⟩ := drawn_of_own hown
      clear hown
      obtain ⟨V5, hV5⟩ : ∃ V, (u5.alloc (.cells #[.int .i64 E.v, .int .i64 E.lo, .int .i64 E.hi] 29)) = V := ⟨_, rfl⟩
      have BU5 : Below u5.heap.size u5 V5 := by rw [← hV5]; exact below_alloc _ _
      have bk50 : V5.heap[u5.heap.size]? = some (.cells #[.int .i64 E.v, .int .i64 E.lo, .int .i64 E.hi] 29 (0, 0)) := by rw [← hV5]; exact World.alloc_heap_new _ _
      have BV5 := Lib.hid (thru BU5 hb5)
      have BW5 := Lib.hid (thru BV5.out BW4.out)
      replace bk10 := (BV5.out.block _ (Array.getElem?_eq_some_iff.1 bk10).1).trans bk10
      replace bk20 := (BV5.out.block _ (Array.getElem?_eq_some_iff.1 bk20).1).trans bk20
      replace bk30 := (BV5.out.block _ (Array.getElem?_eq_some_iff.1 bk30).1).trans bk30
      replace bk31 := (BV5.out.block _ (Array.getElem?_eq_some_iff.1 bk31).1).trans bk31
      replace bk40 := (BV5.out.block _ (Array.getElem?_eq_some_iff.1 bk40).1).trans bk40
      replace bk41 := (BV5.out.block _ (Array.getElem?_eq_some_iff.1 bk41).1).trans bk41
      have HDR5 := Lib.hid (hDr.below BU5); clear hDr
      have HV5 := Lib.hid hV5
      have Lbk10 := Lib.hid bk10
      have Lbk20 := Lib.hid bk20
      have Lbk30 := Lib.hid bk30
      have Lbk31 := Lib.hid bk31
      have Lbk40 := Lib.hid bk40
      have Lbk41 := Lib.hid bk41
      have Lbk50 := Lib.hid bk50
      clear hV5 BU5 hb5 c0 c1 p0 p1 p2 q0 q1 s0 s1 s2 bk10 bk20 bk30 bk31 bk40 bk41 bk50
      go_upto_region 8 with (fail)
      rw [HV5.out]
      have sb := SB1.out.below BW5.out
      have s0 := sb.s0
      have s1 := sb.s1
      have s2 := sb.s2
      obtain ⟨c0, c1, p0, p1, p2, q0, q1, _, _⟩ := sb
      go_wp2_with fail
      have bk10 := Lbk10.out
      have bk20 := Lbk20.out
      have bk30 := Lbk30.out
      have bk31 := Lbk31.out
      have bk40 := Lbk40.out
      have bk41 := Lbk41.out
      have bk50 := Lbk50.out
      clear Lbk10
      clear Lbk20
      clear Lbk30
      clear Lbk31
      clear Lbk40
      clear Lbk41
      clear Lbk50
      refine (RR.out V5 (CU.out.below BW5.out) (HM.out.below BW5.out)).mono ?_
      rintro e u6 ⟨vl6, rfl, hown, hb6⟩
      obtain ⟨a6, ca6, rfl, hDr⟩ := drawn_of_own hown
      clear hown
      obtain ⟨V6, hV6⟩ : ∃ V, (u6.alloc (.cells #[.int .i64 E.v, .int .i64 E.lo, .int .i64 E.hi] 29)) = V := ⟨_, rfl⟩
      have BU6 : Below u6.heap.size u6 V6 := by rw [← hV6]; exact below_alloc _ _
      have bk60 : V6.heap[u6.heap.size]? = some (.cells #[.int .i64 E.v, .int .i64 E.lo, .int .i64 E.hi] 29 (0, 0)) := by rw [← hV6]; exact World.alloc_heap_new _ _
      have BV6 := Lib.hid (thru BU6 hb6)
      have BW6 := Lib.hid (thru BV6.out BW5.out)
      replace bk10 := (BV6.out.block _ (Array.getElem?_eq_some_iff.1 bk10).1).trans bk10
      replace bk20 := (BV6.out.block _ (Array.getElem?_eq_some_iff.1 bk20).1).trans bk20
      replace bk30 := (BV6.out.block _ (Array.getElem?_eq_some_iff.1 bk30).1).trans bk30
      replace bk31 := (BV6.out.block _ (Array.getElem?_eq_some_iff.1 bk31).1).trans bk31
      replace bk40 := (BV6.out.block _ (Array.getElem?_eq_some_iff.1 bk40).1).trans bk40
      replace bk41 := (BV6.out.block _ (Array.getElem?_eq_some_iff.1 bk41).1).trans bk41
      replace bk50 := (BV6.out.block _ (Array.getElem?_eq_some_iff.1 bk50).1).trans bk50
      have HDR6 := Lib.hid (hDr.below BU6); clear hDr
      have HDR55 := Lib.hid (HDR5.out.below BV6.out)
      have HV6 := Lib.hid hV6
      have Lbk10 := Lib.hid bk10
      have Lbk20 := Lib.hid bk20
      have Lbk30 := Lib.hid bk30
      have Lbk31 := Lib.hid bk31
      have Lbk40 := Lib.hid bk40
      have Lbk41 := Lib.hid bk41
      have Lbk50 := Lib.hid bk50
      have Lbk60 := Lib.hid bk60
      clear hV6 BU6 hb6 c0 c1 p0 p1 p2 q0 q1 s0 s1 s2 bk10 bk20 bk30 bk31 bk40 bk41 bk50 bk60
      go_upto_region 9 with (fail)
      rw [HV6.out]
      have sb := SB1.out.below BW6.out
      have s0 := sb.s0
      have s1 := sb.s1
      have s2 := sb.s2
      obtain ⟨c0, c1, p0, p1, p2, q0, q1, _, _⟩ := sb
      have bk10 := Lbk10.out
      have bk20 := Lbk20.out
      have bk30 := Lbk30.out
      have bk31 := Lbk31.out
      have bk40 := Lbk40.out
      have bk41 := Lbk41.out
      have bk50 := Lbk50.out
      have bk60 := Lbk60.out
      clear Lbk10
      clear Lbk20
      clear Lbk30
      clear Lbk31
      clear Lbk40
      clear Lbk41
      clear Lbk50
      clear Lbk60
      have g100 := cell_of_block bk10 0 (by simp)
      have g101 := cell_of_block bk10 1 (by simp)
      simp at g100 g101
      have l10 := (Array.getElem?_eq_some_iff.1 bk10).1
      have g200 := cell_of_block bk20 0 (by simp)
      have g201 := cell_of_block bk20 1 (by simp)
      simp at g200 g201
      have l20 := (Array.getElem?_eq_some_iff.1 bk20).1
      have g300 := cell_of_block bk30 0 (by simp)
      have g301 := cell_of_block bk30 1 (by simp)
      have g302 := cell_of_block bk30 2 (by simp)
      simp at g300 g301 g302
      have l30 := (Array.getElem?_eq_some_iff.1 bk30).1
      have g310 := cell_of_block bk31 0 (by simp)
      have g311 := cell_of_block bk31 1 (by simp)
      have g312 := cell_of_block bk31 2 (by simp)
      simp at g310 g311 g312
      have l31 := (Array.getElem?_eq_some_iff.1 bk31).1
      have g400 := cell_of_block bk40 0 (by simp)
      have g401 := cell_of_block bk40 1 (by simp)
      have g402 := cell_of_block bk40 2 (by simp)
      simp at g400 g401 g402
      have l40 := (Array.getElem?_eq_some_iff.1 bk40).1
      have g410 := cell_of_block bk41 0 (by simp)
      have g411 := cell_of_block bk41 1 (by simp)
      have g412 := cell_of_block bk41 2 (by simp)
      simp at g410 g411 g412
      have l41 := (Array.getElem?_eq_some_iff.1 bk41).1
      have g500 := cell_of_block bk50 0 (by simp)
      have g501 := cell_of_block bk50 1 (by simp)
      have g502 := cell_of_block bk50 2 (by simp)
      simp at g500 g501 g502
      have l50 := (Array.getElem?_eq_some_iff.1 bk50).1
      have g600 := cell_of_block bk60 0 (by simp)
      have g601 := cell_of_block bk60 1 (by simp)
      have g602 := cell_of_block bk60 2 (by simp)
      simp at g600 g601 g602
      have l60 := (Array.getElem?_eq_some_iff.1 bk60).1
      clear bk10 bk20 bk30 bk31 bk40 bk41 bk50 bk60
      have CPG := Lib.hid (fun z => Calls.gw_of (CP.out (gw V6 z) ((CU.out.below BW6.out).below (below_gw V6 z))))
      have CRG := Lib.hid (fun z => Calls.gw_of (CR.out (gw V6 z) ((CU.out.below BW6.out).below (below_gw V6 z))))
      have SDG := Lib.hid (fun z => Calls.gw_same (sameDrawn_t a5 a6 k ca5 ca6 _ (gw V6 z) (by omega) (HDR55.out.below (below_gw V6 z)) (HDR6.out.below (below_gw V6 z))))
      refine wp_region_gw (by kernel_rfl) (by kernel_rfl) ?_
      repeat (go_big_quiet_step ((first | (go_at_call 31; exact CPG.out _) | (go_at_call 32; exact CRG.out _) | (go_at_call 25; exact SDG.out _) | (go_at_call 16; exact Calls.gw_of (alive_any _)))))
      refine wpQuiet_nil ?_
      rintro _ ⟨z, rfl⟩
      go_wp2_with fail
      go_ret
      exact ⟨rfl, (thru BW6.out SB1.out.low).gw z⟩
    · obtain ⟨rx, hrx⟩ : ∃ rx, runErr m ⟨n, L, A, B⟩ ⟨v, lo, hi⟩ M k = rx := ⟨_, rfl⟩
      have hr0 : rx ≠ 0 := by rw [← hrx]; exact hx
      have HX := Lib.hid hrx; clear hx hrx
      have RP := Lib.hid (fun W (hc : CurIn W aL aV n m L A B) (hM : IntsAt W aM k M) => run_err aL aV aM m cL cV k cM ⟨n, L, A, B⟩ ⟨v, lo, hi⟩ M W (by show n ≤ _; omega) (by omega) (by omega) hc.ls hc.vs hM rx HX.out hr0)
      have RR := Lib.hid (fun W (hc : CurIn W aL aV n m L A B) (hM : IntsAt W aM k M) => rrun_err aL aV aM m cL cV k cM ⟨n, L, A, B⟩ ⟨v, lo, hi⟩ M (by show n ≤ _; omega) (by omega) (by omega) W hc hM rx HX.out hr0)
      go_enter Try.func8, Try.ntmps8
      go_wp2_with fail
      rw [HW1.out]
      refine (long_b _ _ _ _ _ _ _ _ _ _ hn hm hk H.out).mono ?_
      rintro e w1 ⟨rfl, x, rfl⟩
      have BW0 := Lib.hid (below_gw W1 x)
      go_wp2_with fail
      refine (VP.out (gw W1 x) (CU.out.below BW0.out)).mono ?_
      rintro e u1 ⟨rfl, hb1⟩
      obtain ⟨V1, hV1⟩ : ∃ V, (u1.alloc (.cells #[.int .i64 va, .int .i64 vb] 27)) = V := ⟨_, rfl⟩
      have BU1 : Below u1.heap.size u1 V1 := by rw [← hV1]; exact below_alloc _ _
      have bk10 : V1.heap[u1.heap.size]? = some (.cells #[.int .i64 va, .int .i64 vb] 27 (0, 0)) := by rw [← hV1]; exact World.alloc_heap_new _ _
      have BV1 := Lib.hid (thru BU1 hb1)
      have BW1 := Lib.hid (thru BV1.out BW0.out)
      have HV1 := Lib.hid hV1
      have Lbk10 := Lib.hid bk10
      clear hV1 BU1 hb1 c0 c1 p0 p1 p2 q0 q1 s0 s1 s2 bk10
      go_upto_region 4 with (fail)
      rw [HV1.out]
      have sb := SB1.out.below BW1.out
      have s0 := sb.s0
      have s1 := sb.s1
      have s2 := sb.s2
      obtain ⟨c0, c1, p0, p1, p2, q0, q1, _, _⟩ := sb
      go_wp2_with fail
      have bk10 := Lbk10.out
      clear Lbk10
      refine (VR.out V1 (CU.out.below BW1.out)).mono ?_
      rintro e u2 ⟨rfl, hb2⟩
      obtain ⟨V2, hV2⟩ : ∃ V, (u2.alloc (.cells #[.int .i64 va, .int .i64 vb] 27)) = V := ⟨_, rfl⟩
      have BU2 : Below u2.heap.size u2 V2 := by rw [← hV2]; exact below_alloc _ _
      have bk20 : V2.heap[u2.heap.size]? = some (.cells #[.int .i64 va, .int .i64 vb] 27 (0, 0)) := by rw [← hV2]; exact World.alloc_heap_new _ _
      have BV2 := Lib.hid (thru BU2 hb2)
      have BW2 := Lib.hid (thru BV2.out BW1.out)
      replace bk10 := (BV2.out.block _ (Array.getElem?_eq_some_iff.1 bk10).1).trans bk10
      have HV2 := Lib.hid hV2
      have Lbk10 := Lib.hid bk10
      have Lbk20 := Lib.hid bk20
      clear hV2 BU2 hb2 c0 c1 p0 p1 p2 q0 q1 s0 s1 s2 bk10 bk20
      go_upto_region 5 with (fail)
      rw [HV2.out]
      have sb := SB1.out.below BW2.out
      have s0 := sb.s0
      have s1 := sb.s1
      have s2 := sb.s2
      obtain ⟨c0, c1, p0, p1, p2, q0, q1, _, _⟩ := sb
      go_wp2_with fail
      have bk10 := Lbk10.out
      have bk20 := Lbk20.out
      clear Lbk10
      clear Lbk20
      refine (DP.out V2 (CU.out.below BW2.out)).mono ?_
      rintro e u3 ⟨rfl, hb3⟩
      obtain ⟨V3, hV3⟩ : ∃ V, ((u3.alloc (.cells #[.int .i64 X.d, .int .i64 X.lo, .int .i64 X.hi] 41)).alloc (.cells #[.int .i64 Y.v, .int .i64 Y.lo, .int .i64 Y.hi] 29)) = V := ⟨_, rfl⟩
      have BU3 : Below u3.heap.size u3 V3 := by rw [← hV3]; exact (below_alloc _ _).alloc (by simp) _
      have bk30 : V3.heap[u3.heap.size]? = some (.cells #[.int .i64 X.d, .int .i64 X.lo, .int .i64 X.hi] 41 (0, 0)) := by rw [← hV3]; exact (Below.heap_alloc _ _ _ (by simp)).trans (World.alloc_heap_new _ _)
      have bk31 : V3.heap[u3.heap.size + 1]? = some (.cells #[.int .i64 Y.v, .int .i64 Y.lo, .int .i64 Y.hi] 29 (0, 0)) := by rw [← hV3]; exact (by have := World.alloc_heap_new (u3.alloc (.cells #[.int .i64 X.d, .int .i64 X.lo, .int .i64 X.hi] 41)) (.cells #[.int .i64 Y.v, .int .i64 Y.lo, .int .i64 Y.hi] 29); rwa [World.size_alloc] at this)
      have BV3 := Lib.hid (thru BU3 hb3)
      have BW3 := Lib.hid (thru BV3.out BW2.out)
      replace bk10 := (BV3.out.block _ (Array.getElem?_eq_some_iff.1 bk10).1).trans bk10
      replace bk20 := (BV3.out.block _ (Array.getElem?_eq_some_iff.1 bk20).1).trans bk20
      have HV3 := Lib.hid hV3
      have Lbk10 := Lib.hid bk10
      have Lbk20 := Lib.hid bk20
      have Lbk30 := Lib.hid bk30
      have Lbk31 := Lib.hid bk31
      clear hV3 BU3 hb3 c0 c1 p0 p1 p2 q0 q1 s0 s1 s2 bk10 bk20 bk30 bk31
      go_upto_region 6 with (fail)
      rw [HV3.out]
      have sb := SB1.out.below BW3.out
      have s0 := sb.s0
      have s1 := sb.s1
      have s2 := sb.s2
      obtain ⟨c0, c1, p0, p1, p2, q0, q1, _, _⟩ := sb
      go_wp2_with fail
      have bk10 := Lbk10.out
      have bk20 := Lbk20.out
      have bk30 := Lbk30.out
      have bk31 := Lbk31.out
      clear Lbk10
      clear Lbk20
      clear Lbk30
      clear Lbk31
      refine (DR.out V3 (CU.out.below BW3.out)).mono ?_
      rintro e u4 ⟨rfl, hb4⟩
      obtain ⟨V4, hV4⟩ : ∃ V, ((u4.alloc (.cells #[.int .i64 X.d, .int .i64 X.lo, .int .i64 X.hi] 41)).alloc (.cells #[.int .i64 Y.v, .int .i64 Y.lo, .int .i64 Y.hi] 29)) = V := ⟨_, rfl⟩
      have BU4 : Below u4.heap.size u4 V4 := by rw [← hV4]; exact (below_alloc _ _).alloc (by simp) _
      have bk40 : V4.heap[u4.heap.size]? = some (.cells #[.int .i64 X.d, .int .i64 X.lo, .int .i64 X.hi] 41 (0, 0)) := by rw [← hV4]; exact (Below.heap_alloc _ _ _ (by simp)).trans (World.alloc_heap_new _ _)
      have bk41 : V4.heap[u4.heap.size + 1]? = some (.cells #[.int .i64 Y.v, .int .i64 Y.lo, .int .i64 Y.hi] 29 (0, 0)) := by rw [← hV4]; exact (by have := World.alloc_heap_new (u4.alloc (.cells #[.int .i64 X.d, .int .i64 X.lo, .int .i64 X.hi] 41)) (.cells #[.int .i64 Y.v, .int .i64 Y.lo, .int .i64 Y.hi] 29); rwa [World.size_alloc] at this)
      have BV4 := Lib.hid (thru BU4 hb4)
      have BW4 := Lib.hid (thru BV4.out BW3.out)
      replace bk10 := (BV4.out.block _ (Array.getElem?_eq_some_iff.1 bk10).1).trans bk10
      replace bk20 := (BV4.out.block _ (Array.getElem?_eq_some_iff.1 bk20).1).trans bk20
      replace bk30 := (BV4.out.block _ (Array.getElem?_eq_some_iff.1 bk30).1).trans bk30
      replace bk31 := (BV4.out.block _ (Array.getElem?_eq_some_iff.1 bk31).1).trans bk31
      have HV4 := Lib.hid hV4
      have Lbk10 := Lib.hid bk10
      have Lbk20 := Lib.hid bk20
      have Lbk30 := Lib.hid bk30
      have Lbk31 := Lib.hid bk31
      have Lbk40 := Lib.hid bk40
      have Lbk41 := Lib.hid bk41
      clear hV4 BU4 hb4 c0 c1 p0 p1 p2 q0 q1 s0 s1 s2 bk10 bk20 bk30 bk31 bk40 bk41
      go_upto_region 7 with (fail)
      rw [HV4.out]
      have sb := SB1.out.below BW4.out
      have s0 := sb.s0
      have s1 := sb.s1
      have s2 := sb.s2
      obtain ⟨c0, c1, p0, p1, p2, q0, q1, _, _⟩ := sb
      go_wp2_with fail
      have bk10 := Lbk10.out
      have bk20 := Lbk20.out
      have bk30 := Lbk30.out
      have bk31 := Lbk31.out
      have bk40 := Lbk40.out
      have bk41 := Lbk41.out
      clear Lbk10
      clear Lbk20
      clear Lbk30
      clear Lbk31
      clear Lbk40
      clear Lbk41
      refine (RP.out V4 (CU.out.below BW4.out) (HM.out.below BW4.out)).mono ?_
      rintro e u5 ⟨rfl, hb5⟩
      have hDr : DrawnAt u5 none 0 (fun _ => ⟨0, 0, 0⟩) := .inl rfl
      obtain ⟨V5, hV5⟩ : ∃ V, (u5.alloc (.cells #[.int .i64 0, .int .i64 0, .int .i64 0] 29)) = V := ⟨_, rfl⟩
      have BU5 : Below u5.heap.size u5 V5 := by rw [← hV5]; exact below_alloc _ _
      have bk50 : V5.heap[u5.heap.size]? = some (.cells #[.int .i64 0, .int .i64 0, .int .i64 0] 29 (0, 0)) := by rw [← hV5]; exact World.alloc_heap_new _ _
      have BV5 := Lib.hid (thru BU5 hb5)
      have BW5 := Lib.hid (thru BV5.out BW4.out)
      replace bk10 := (BV5.out.block _ (Array.getElem?_eq_some_iff.1 bk10).1).trans bk10
      replace bk20 := (BV5.out.block _ (Array.getElem?_eq_some_iff.1 bk20).1).trans bk20
      replace bk30 := (BV5.out.block _ (Array.getElem?_eq_some_iff.1 bk30).1).trans bk30
      replace bk31 := (BV5.out.block _ (Array.getElem?_eq_some_iff.1 bk31).1).trans bk31
      replace bk40 := (BV5.out.block _ (Array.getElem?_eq_some_iff.1 bk40).1).trans bk40
      replace bk41 := (BV5.out.block _ (Array.getElem?_eq_some_iff.1 bk41).1).trans bk41
      have HDR5 := Lib.hid (hDr.below BU5); clear hDr
      have HV5 := Lib.hid hV5
      have Lbk10 := Lib.hid bk10
      have Lbk20 := Lib.hid bk20
      have Lbk30 := Lib.hid bk30
      have Lbk31 := Lib.hid bk31
      have Lbk40 := Lib.hid bk40
      have Lbk41 := Lib.hid bk41
      have Lbk50 := Lib.hid bk50
      clear hV5 BU5 hb5 c0 c1 p0 p1 p2 q0 q1 s0 s1 s2 bk10 bk20 bk30 bk31 bk40 bk41 bk50
      go_upto_region 8 with (fail)
      rw [HV5.out]
      have sb := SB1.out.below BW5.out
      have s0 := sb.s0
      have s1 := sb.s1
      have s2 := sb.s2
      obtain ⟨c0, c1, p0, p1, p2, q0, q1, _, _⟩ := sb
      go_wp2_with fail
      have bk10 := Lbk10.out
      have bk20 := Lbk20.out
      have bk30 := Lbk30.out
      have bk31 := Lbk31.out
      have bk40 := Lbk40.out
      have bk41 := Lbk41.out
      have bk50 := Lbk50.out
      clear Lbk10
      clear Lbk20
      clear Lbk30
      clear Lbk31
      clear Lbk40
      clear Lbk41
      clear Lbk50
      refine (RR.out V5 (CU.out.below BW5.out) (HM.out.below BW5.out)).mono ?_
      rintro e u6 ⟨rfl, hb6⟩
      have hDr : DrawnAt u6 none 0 (fun _ => ⟨0, 0, 0⟩) := .inl rfl
      obtain ⟨V6, hV6⟩ : ∃ V, (u6.alloc (.cells #[.int .i64 0, .int .i64 0, .int .i64 0] 29)) = V := ⟨_, rfl⟩
      have BU6 : Below u6.heap.size u6 V6 := by rw [← hV6]; exact below_alloc _ _
      have bk60 : V6.heap[u6.heap.size]? = some (.cells #[.int .i64 0, .int .i64 0, .int .i64 0] 29 (0, 0)) := by rw [← hV6]; exact World.alloc_heap_new _ _
      have BV6 := Lib.hid (thru BU6 hb6)
      have BW6 := Lib.hid (thru BV6.out BW5.out)
      replace bk10 := (BV6.out.block _ (Array.getElem?_eq_some_iff.1 bk10).1).trans bk10
      replace bk20 := (BV6.out.block _ (Array.getElem?_eq_some_iff.1 bk20).1).trans bk20
      replace bk30 := (BV6.out.block _ (Array.getElem?_eq_some_iff.1 bk30).1).trans bk30
      replace bk31 := (BV6.out.block _ (Array.getElem?_eq_some_iff.1 bk31).1).trans bk31
      replace bk40 := (BV6.out.block _ (Array.getElem?_eq_some_iff.1 bk40).1).trans bk40
      replace bk41 := (BV6.out.block _ (Array.getElem?_eq_some_iff.1 bk41).1).trans bk41
      replace bk50 := (BV6.out.block _ (Array.getElem?_eq_some_iff.1 bk50).1).trans bk50
      have HDR6 := Lib.hid (hDr.below BU6); clear hDr
      have HDR55 := Lib.hid (HDR5.out.below BV6.out)
      have HV6 := Lib.hid hV6
      have Lbk10 := Lib.hid bk10
      have Lbk20 := Lib.hid bk20
      have Lbk30 := Lib.hid bk30
      have Lbk31 := Lib.hid bk31
      have Lbk40 := Lib.hid bk40
      have Lbk41 := Lib.hid bk41
      have Lbk50 := Lib.hid bk50
      have Lbk60 := Lib.hid bk60
      clear hV6 BU6 hb6 c0 c1 p0 p1 p2 q0 q1 s0 s1 s2 bk10 bk20 bk30 bk31 bk40 bk41 bk50 bk60
      go_upto_region 9 with (fail)
      rw [HV6.out]
      have sb := SB1.out.below BW6.out
      have s0 := sb.s0
      have s1 := sb.s1
      have s2 := sb.s2
      obtain ⟨c0, c1, p0, p1, p2, q0, q1, _, _⟩ := sb
      have bk10 := Lbk10.out
      have bk20 := Lbk20.out
      have bk30 := Lbk30.out
      have bk31 := Lbk31.out
      have bk40 := Lbk40.out
      have bk41 := Lbk41.out
      have bk50 := Lbk50.out
      have bk60 := Lbk60.out
      clear Lbk10
      clear Lbk20
      clear Lbk30
      clear Lbk31
      clear Lbk40
      clear Lbk41
      clear Lbk50
      clear Lbk60
      have g100 := cell_of_block bk10 0 (by simp)
      have g101 := cell_of_block bk10 1 (by simp)
      simp at g100 g101
      have l10 := (Array.getElem?_eq_some_iff.1 bk10).1
      have g200 := cell_of_block bk20 0 (by simp)
      have g201 := cell_of_block bk20 1 (by simp)
      simp at g200 g201
      have l20 := (Array.getElem?_eq_some_iff.1 bk20).1
      have g300 := cell_of_block bk30 0 (by simp)
      have g301 := cell_of_block bk30 1 (by simp)
      have g302 := cell_of_block bk30 2 (by simp)
      simp at g300 g301 g302
      have l30 := (Array.getElem?_eq_some_iff.1 bk30).1
      have g310 := cell_of_block bk31 0 (by simp)
      have g311 := cell_of_block bk31 1 (by simp)
      have g312 := cell_of_block bk31 2 (by simp)
      simp at g310 g311 g312
      have l31 := (Array.getElem?_eq_some_iff.1 bk31).1
      have g400 := cell_of_block bk40 0 (by simp)
      have g401 := cell_of_block bk40 1 (by simp)
      have g402 := cell_of_block bk40 2 (by simp)
      simp at g400 g401 g402
      have l40 := (Array.getElem?_eq_some_iff.1 bk40).1
      have g410 := cell_of_block bk41 0 (by simp)
      have g411 := cell_of_block bk41 1 (by simp)
      have g412 := cell_of_block bk41 2 (by simp)
      simp at g410 g411 g412
      have l41 := (Array.getElem?_eq_some_iff.1 bk41).1
      have g500 := cell_of_block bk50 0 (by simp)
      have g501 := cell_of_block bk50 1 (by simp)
      have g502 := cell_of_block bk50 2 (by simp)
      simp at g500 g501 g502
      have l50 := (Array.getElem?_eq_some_iff.1 bk50).1
      have g600 := cell_of_block bk60 0 (by simp)
      have g601 := cell_of_block bk60 1 (by simp)
      have g602 := cell_of_block bk60 2 (by simp)
      simp at g600 g601 g602
      have l60 := (Array.getElem?_eq_some_iff.1 bk60).1
      clear bk10 bk20 bk30 bk31 bk40 bk41 bk50 bk60
      have CPG := Lib.hid (fun z => Calls.gw_of (CP.out (gw V6 z) ((CU.out.below BW6.out).below (below_gw V6 z))))
      have CRG := Lib.hid (fun z => Calls.gw_of (CR.out (gw V6 z) ((CU.out.below BW6.out).below (below_gw V6 z))))
      have SDG := Lib.hid (fun z => Calls.gw_same (sameDrawn_t none none 0 0 0 _ (gw V6 z) (by omega) (HDR55.out.below (below_gw V6 z)) (HDR6.out.below (below_gw V6 z))))
      refine wp_region_gw (by kernel_rfl) (by kernel_rfl) ?_
      repeat (go_big_quiet_step ((first | (go_at_call 31; exact CPG.out _) | (go_at_call 32; exact CRG.out _) | (go_at_call 25; exact SDG.out _) | (go_at_call 16; exact Calls.gw_of (alive_any _)))))
      refine wpQuiet_nil ?_
      rintro _ ⟨z, rfl⟩
      go_wp2_with fail
      go_ret
      exact ⟨rfl, (thru BW6.out SB1.out.low).gw z⟩
end Go.Proofs.Ytnmldophadanbaa
