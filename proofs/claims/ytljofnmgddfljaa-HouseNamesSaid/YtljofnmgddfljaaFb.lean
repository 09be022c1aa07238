/- Contract of the law's live: a true cask stays within the spans of its days. No conditions beyond each theorem's own. -/
import Derived.Test.YtljofnmgddfljaaFa
import Derived.Test.YtljofnmgddfljaaAe
set_option linter.unusedVariables false
set_option linter.unusedSimpArgs false
set_option linter.unusedSectionVars false
set_option linter.constructorNameAsVariable false
namespace Go.Proofs.Ytljofnmgddfljaa
open Go.RowKit

attribute [local go_sem] gw_cell gw_frozen gw_size

/-- the floor among the first stays -/
def floI (F G : Nat → Int) (n : Nat) (d : Int) (k : Nat) : Int := G (min k (lb F (d + 1) n) - 1)
theorem floI_low {F G : Nat → Int} {n : Nat} {d : Int} {k : Nat} (hm : ∀ i, i + 1 < n → F i < F (i + 1)) (hk : k < n) (h : F k ≤ d) : floI F G n d (k + 1) = G k := by
  have : k < lb F (d + 1) n := by
    rcases Nat.lt_or_ge k (lb F (d + 1) n) with h' | h'
    · exact h'
    · have a := lb_stop F (d + 1) n (by omega)
      have := mono_of (fun i hi => Int.le_of_lt (hm i hi)) _ _ h' hk
      omega
  unfold floI
  rw [show min (k + 1) (lb F (d + 1) n) = k + 1 by omega, Nat.add_sub_cancel]
theorem floI_high {F G : Nat → Int} {n : Nat} {d : Int} {k : Nat} (h : ¬ F k ≤ d) : floI F G n d (k + 1) = floI F G n d k := by
  have : lb F (d + 1) n ≤ k := by
    rcases Nat.lt_or_ge k (lb F (d + 1) n) with h' | h'
    · have := lb_lt F (d + 1) n k h'; omega
    · exact h'
  unfold floI
  rw [show min (k + 1) (lb F (d + 1) n) = min k (lb F (d + 1) n) by omega]
theorem floI_all (F G : Nat → Int) (n : Nat) (d : Int) : floI F G n d n = G (stayAt F n d) := by
  unfold floI stayAt
  rw [show min n (lb F (d + 1) n) = lb F (d + 1) n from Nat.min_eq_right (lb_le _ _ _)]
theorem floI_zero (F G : Nat → Int) (n : Nat) (d : Int) : floI F G n d 0 = G 0 := by unfold floI; simp

/-- a true cask within a content -/
structure Truly (y : Cont) (a w : Int) : Prop where
  a0 : y.alo ≤ a
  a1 : a ≤ y.ahi
  w0 : y.wlo ≤ w
  w1 : w ≤ y.whi
/-- one day of live; all days; its results -/
def liveN (C : Clim) (F G U : Nat → Int) (k nb : Nat) (dd a t : Int) : Option (Int × Int) :=
  if (leavesB a ((C.RA (floorOf F G k dd)).A (seasonOf C dd)) ((C.RA (floorOf F G k dd)).B (seasonOf C dd)) && leavesB t ((C.RW (floorOf F G k dd)).A (seasonOf C dd)) ((C.RW (floorOf F G k dd)).B (seasonOf C dd))) = true then
    some (leavesV a ((C.RA (floorOf F G k dd)).A (seasonOf C dd)) ((C.RA (floorOf F G k dd)).B (seasonOf C dd)) (U (dd % nb).toNat), leavesV t ((C.RW (floorOf F G k dd)).A (seasonOf C dd)) ((C.RW (floorOf F G k dd)).B (seasonOf C dd)) (U ((dd + 1) % nb).toNat))
  else none
def liveS (C : Clim) (F G U : Nat → Int) (k nb : Nat) (d0 a0 w0 : Int) : Nat → Option (Int × Int)
  | 0 => some (a0, w0)
  | j + 1 => (liveS C F G U k nb d0 a0 w0 j).bind fun p => liveN C F G U k nb (d0 + j) p.1 p.2
def liveO (o : Option (Int × Int)) : Value := match o with
  | some p => .tuple #[.int .i64 p.1, .int .i64 p.2, .bool true]
  | none => .tuple #[.int .i64 0, .int .i64 0, .bool false]
theorem liveS_none {C : Clim} {F G U : Nat → Int} {k nb : Nat} {d0 a0 w0 : Int} {j : Nat} (h : liveS C F G U k nb d0 a0 w0 j = none) : ∀ i, liveS C F G U k nb d0 a0 w0 (j + i) = none
  | 0 => h
  | i + 1 => by
    show (liveS C F G U k nb d0 a0 w0 (j + i)).bind _ = none
    rw [liveS_none h i]
    rfl
theorem liveS_succ {C : Clim} {F G U : Nat → Int} {k nb : Nat} {d0 a0 w0 : Int} {j : Nat} {dd a t : Int} (h : liveS C F G U k nb d0 a0 w0 j = some (a, t)) (hd : dd = d0 + j) : liveS C F G U k nb d0 a0 w0 (j + 1) = liveN C F G U k nb dd a t := by
  show (liveS C F G U k nb d0 a0 w0 j).bind _ = _
  rw [h, hd]
  rfl
theorem Truly.next {C : Clim} {x : Cont} {k : Nat} {F G : Nat → Int} {j : Nat} {dd a w b c : Int} (h : Truly (dayC C F G k x j) a w) (hd : dd = x.day + j) (hj : x.day + (j + 1) ≤ 65536) (hB : climB C = true) (hst : staysB C.nA k F G = true) (hx : contB x = true)
    (h1 : leavesB a ((C.RA (floorOf F G k dd)).A (seasonOf C dd)) ((C.RA (floorOf F G k dd)).B (seasonOf C dd)) = true) (h2 : leavesB w ((C.RW (floorOf F G k dd)).A (seasonOf C dd)) ((C.RW (floorOf F G k dd)).B (seasonOf C dd)) = true) :
    Truly (dayC C F G k x (j + 1)) (leavesV a ((C.RA (floorOf F G k dd)).A (seasonOf C dd)) ((C.RA (floorOf F G k dd)).B (seasonOf C dd)) b) (leavesV w ((C.RW (floorOf F G k dd)).A (seasonOf C dd)) ((C.RW (floorOf F G k dd)).B (seasonOf C dd)) c) := by
  obtain ⟨oy, ey⟩ := dayC_ok hB hst hx j (by omega)
  obtain ⟨_, ⟨y0, y1, y2⟩, y3, y4, y5⟩ := contB_t oy
  obtain ⟨⟨_, _⟩, ⟨na1, na2⟩, nw, ⟨nb1, nb2⟩, ra, rw'⟩ := climB_t hB
  have fl := (floorOf_lt hst na1 dd).1
  obtain ⟨p1, p2, p3⟩ := (ra _ fl).2 (seasonOf C dd) (seasonOf_lt (by omega))
  obtain ⟨q1, q2, q3⟩ := (rw' _ fl).2 (seasonOf C dd) (seasonOf_lt (by omega))
  obtain ⟨t0, t1, t2, t3⟩ := h
  have A := leavesV_in (b := b) h1 (by omega) (by omega) p1 p2 p3 y0 t0 t1
  have W := leavesV_in (b := c) h2 (by omega) (by omega) q1 q2 q3 y3 t2 t3
  have ed : (dayC C F G k x j).day = dd := by rw [ey, hd]
  show Truly ((dayC C F G k x j).next C F G k) _ _
  unfold Cont.next
  rw [ed]
  exact ⟨A.1, A.2, W.1, W.2⟩
/-- what is true stays within the spans -/
theorem liveS_truly {C : Clim} {x : Cont} {k nb : Nat} {F G U : Nat → Int} {a0 w0 : Int} (hB : climB C = true) (hst : staysB C.nA k F G = true) (hx : contB x = true) (h0 : Truly x a0 w0) : ∀ (j : Nat) (a t : Int), x.day + j ≤ 65536 → liveS C F G U k nb x.day a0 w0 j = some (a, t) → Truly (dayC C F G k x j) a t
  | 0, a, t, _, h => by
    simp only [liveS, Option.some.injEq, Prod.mk.injEq] at h
    obtain ⟨rfl, rfl⟩ := h
    exact h0
  | j + 1, a, t, hj, h => by
    cases e : liveS C F G U k nb x.day a0 w0 j with
    | none => rw [liveS_none e 1] at h; cases h
    | some p =>
      obtain ⟨b, c⟩ := p
      rw [liveS_succ e rfl] at h
      unfold liveN at h
      split at h
      · rename_i hh
        simp only [Bool.and_eq_true] at hh
        simp only [Option.some.injEq, Prod.mk.injEq] at h
        obtain ⟨rfl, rfl⟩ := h
        exact (liveS_truly hB hst hx h0 j b c (by omega) e).next rfl (by omega) hB hst hx hh.1 hh.2
      · cases h
/-- what is known of a round of live -/
structure LiveAt (C : Clim) (x : Cont) (k nb : Nat) (F G U : Nat → Int) (a0 w0 : Int) (m j : Nat) (dd a w : Int) : Prop where
  le : j ≤ m
  day : dd = x.day + j
  run : liveS C F G U k nb x.day a0 w0 j = some (a, w)

set_option maxRecDepth 100000 in
set_option maxHeartbeats 8000000 in
theorem live_any (C : Clim) (x : Cont) (aS aB : Option Addr) (k cS nb cB : Nat) (F G U : Nat → Int) (day a0 w0 : Int) (w : World) (hC : C.In w) (hS : SpansAt w aS k F G) (hU : NumsAt .u32 w aB nb U) (hr : ∀ i, i < nb → 0 ≤ U i ∧ U i ≤ 4294967295) (hn : 0 < nb) (hn2 : nb ≤ 9223372036854775807)
    (hB : climB C = true) (hx : contB x = true) (hst : staysB C.nA k F G = true) (hd : x.day ≤ day) (hd2 : day ≤ 65536) (ht : Truly x a0 w0) :
    Calls Try.prog 28 #[.agg #[.int .i64 C.days, .slice C.aA C.nA C.cA, .slice C.aW C.nW C.cW], .slice aS k cS, .int .i64 x.day, .int .i64 day, .int .i64 a0, .int .i64 w0, .slice aB nb cB] w fun e w' => e = .returned (liveO (liveS C F G U k nb x.day a0 w0 (day - x.day).toNat)) ∧ Below w.heap.size w w' := by
  obtain ⟨W1, hW1⟩ : ∃ W1, w.alloc (.cells #[.int .i64 C.days, .slice C.aA C.nA C.cA, .slice C.aW C.nW C.cW] 24) = W1 := ⟨_, rfl⟩
  have hBc : Below w.heap.size w W1 := by rw [← hW1]; exact below_alloc _ _
  have zc0 : W1.heap[w.heap.size]? = some (.cells #[.int .i64 C.days, .slice C.aA C.nA C.cA, .slice C.aW C.nW C.cW] 24 (0, 0)) := by rw [← hW1]; exact alloc_at rfl
  have c00 : W1.cell? ⟨w.heap.size, 0, none⟩ = some (.int .i64 C.days) := cell_of_block zc0 0 (by simp)
  have c01 : W1.cell? ⟨w.heap.size, 1, none⟩ = some (.slice C.aA C.nA C.cA) := cell_of_block zc0 1 (by simp)
  have c02 : W1.cell? ⟨w.heap.size, 2, none⟩ = some (.slice C.aW C.nW C.cW) := cell_of_block zc0 2 (by simp)
  have lc0 := (Array.getElem?_eq_some_iff.1 zc0).1
  clear zc0
  have HBc := Lib.hid hBc; clear hBc
  have HWc := Lib.hid hW1; clear hW1
  have HC := Lib.hid (hC.below HBc.out); clear hC
  have HS := Lib.hid (hS.below HBc.out); clear hS
  have HU := Lib.hid (hU.below HBc.out); clear hU
  have HR := Lib.hid hr; clear hr
  obtain ⟨m, hm⟩ : ∃ m, (day - x.day).toNat = m := ⟨_, rfl⟩
  rw [hm]
  obtain ⟨⟨xd0, xd1⟩, ⟨x0, x1, x2⟩, x3, x4, x5⟩ := contB_t hx
  have ⟨⟨k0, k1⟩, SR, SM⟩ := staysB_t hst
  have HSR := Lib.hid SR; clear SR
  have HSM := Lib.hid SM; clear SM
  have HM := Lib.hid hm; clear hm
  have T0 := Lib.hid ht; clear ht
  have HGG := Lib.hid (And.intro hB (And.intro hst hx)); clear hB hst hx
  go_enter Try.func28, Try.ntmps28
  go_wp2_with fail
  rw [HWc.out]
  go_wp2_with fail
  go_loopw [4, 5, 17] (fun al wt dv wr => ∃ (j : Nat) (a t dd : Int), al = .int .i64 a ∧ wt = .int .i64 t ∧ dv = .int .i64 dd ∧ Hid (LiveAt C x k nb F G U a0 w0 m j dd a t) ∧ ∃ z, wr = gw W1 z) (fun _ _ dv _ => (day - intOf dv).toNat)
  case atStart => exact ⟨0, a0, w0, x.day, rfl, rfl, rfl, Lib.hid ⟨Nat.zero_le _, by simp, rfl⟩, ⟨#[], W1.drawn⟩, by simp [gw]⟩
  case round =>
    obtain ⟨j, a, t, dd, rfl, rfl, rfl, HL, z, rfl⟩ := hrel
    have jd : 0 ≤ dd ∧ dd ≤ day := by have := HL.out.day; have := HL.out.le; have := HM.out; omega
    obtain ⟨jd0, jd1⟩ := jd
    have OY := (dayC_ok HGG.out.1 HGG.out.2.1 HGG.out.2.2 j (by have := HL.out.le; have := HM.out; omega)).1
    obtain ⟨_, ⟨y0, y1, y2⟩, y3, y4, y5⟩ := contB_t OY
    have TJ := liveS_truly HGG.out.1 HGG.out.2.1 HGG.out.2.2 T0.out j a t (by have := HL.out.le; have := HM.out; omega) HL.out.run
    have ab : (0 ≤ a ∧ a ≤ 2147483648) ∧ (0 ≤ t ∧ t ≤ 2147483648) := by have := TJ.a0; have := TJ.a1; have := TJ.w0; have := TJ.w1; omega
    obtain ⟨⟨a1, a2⟩, t1, t2⟩ := ab
    clear y0 y1 y2 y3 y4 y5 OY TJ
    by_cases hlt : dd < day
    · rcases HS.out with h0 | ⟨sb, so, rfl, sl, sc⟩
      · omega
      have SC := Lib.hid sc
      have s1 := (sc 0 (by omega)).2
      clear sc
      simp only [Nat.zero_mul, Nat.add_zero] at s1
      have FZ := Lib.hid (floI_zero F G k dd)
      go_wp2_with fail
      go_loopw [18, 37] (fun fl iv wr => ∃ i : Nat, i ≤ k ∧ iv = .int .i64 i ∧ fl = .int .i64 (floI F G k dd i) ∧ ∃ y, wr = gw W1 y) (fun _ iv _ => k - (intOf iv).toNat)
      case atStart => exact ⟨0, Nat.zero_le _, rfl, by rw [FZ.out], z, rfl⟩
      case round =>
        obtain ⟨i, hi, rfl, rfl, y, rfl⟩ := hrel
        by_cases hli : i < k
        · obtain ⟨u1, u2⟩ := SC.out i hli
          have si := HSR.out i hli
          obtain ⟨⟨si0, si1⟩, si2, si3⟩ := si
          go_upto_region 8 with (fail)
          obtain ⟨V, hV⟩ : ∃ V, (gw W1 y).alloc (.cells #[.int .i64 (F i), .int .i64 (G i)] 53) = V := ⟨_, rfl⟩
          have zV : V.heap[W1.heap.size + y.bs.size]? = some (.cells #[.int .i64 (F i), .int .i64 (G i)] 53 (0, 0)) := by rw [← hV]; exact alloc_at (by simp [gw_size])
          have v0 : V.cell? ⟨W1.heap.size + y.bs.size, 0, none⟩ = some (.int .i64 (F i)) := cell_of_block zV 0 (by simp)
          have v1 : V.cell? ⟨W1.heap.size + y.bs.size, 1, none⟩ = some (.int .i64 (G i)) := cell_of_block zV 1 (by simp)
          have lV := (Array.getElem?_eq_some_iff.1 zV).1
          have bV : Below W1.heap.size W1 V := by rw [← hV]; exact (below_gw W1 y).alloc (by simp [gw_size]) _
          clear zV
          have EV := Lib.hid (gw_of_below bV); clear bV
          rw [hV]
          have HV := Lib.hid hV; clear hV
          by_cases hfd : F i ≤ dd
          · have NX := Lib.hid (floI_low (G := G) HSM.out hli hfd)
            go_wp2_with fail
            go_roundw
            case rel => exact ⟨i + 1, by omega, by go_num, by rw [NX.out], EV.out⟩
            case measure => simp [intOf]; omega
          · have NX := Lib.hid (floI_high (G := G) (n := k) hfd)
            go_wp2_with fail
            go_roundw
            case rel => exact ⟨i + 1, by omega, by go_num, by rw [NX.out], EV.out⟩
            case measure => simp [intOf]; omega
        · obtain rfl : i = k := by omega
          have hfl := floorOf_lt HGG.out.2.1 (climB_t HGG.out.1).2.1.1 dd
          have FA := (floI_all F G i dd).trans hfl.2
          have SH := rShares_any C (floorOf F G i dd) dd (gw W1 y) (HC.out.below (below_gw W1 y)) HGG.out.1 hfl.1 jd0 (by omega)
          obtain ⟨⟨_, _⟩, ⟨na1, na2⟩, nw, ⟨nb1, nb2⟩, ra, rw'⟩ := climB_t HGG.out.1
          obtain ⟨p1, p2, p3⟩ := (ra _ hfl.1).2 (seasonOf C dd) (seasonOf_lt (by omega))
          obtain ⟨q1, q2, q3⟩ := (rw' _ hfl.1).2 (seasonOf C dd) (seasonOf_lt (by omega))
          rw [FA]
          have NE : liveS C F G U i nb x.day a0 w0 (j + 1) = liveN C F G U i nb dd a t := liveS_succ HL.out.run HL.out.day
          unfold liveN at NE
          obtain ⟨f, hf⟩ : ∃ f, floorOf F G i dd = f := ⟨_, rfl⟩
          obtain ⟨s, hs⟩ : ∃ s, seasonOf C dd = s := ⟨_, rfl⟩
          simp only [hf, hs] at NE SH p1 p2 p3 q1 q2 q3 ⊢
          clear hf hs FA hfl nw ra rw' na1 na2 nb1 nb2
          generalize (C.RA f).A s = p at *
          generalize (C.RA f).B s = q at *
          generalize (C.RW f).A s = r at *
          generalize (C.RW f).B s = v at *
          obtain ⟨g, em, ml⟩ : ∃ g : Nat, dd % (nb : Int) = g ∧ g < nb := ⟨(dd % (nb : Int)).toNat, by have := Int.emod_nonneg dd (show (nb : Int) ≠ 0 by omega); omega, by have := Int.emod_nonneg dd (show (nb : Int) ≠ 0 by omega); have := Int.emod_lt_of_pos dd (show 0 < (nb : Int) by omega); omega⟩
          obtain ⟨o, em2, ml2⟩ : ∃ g : Nat, (dd + 1) % (nb : Int) = g ∧ g < nb := ⟨((dd + 1) % (nb : Int)).toNat, by have := Int.emod_nonneg (dd + 1) (show (nb : Int) ≠ 0 by omega); omega, by have := Int.emod_nonneg (dd + 1) (show (nb : Int) ≠ 0 by omega); have := Int.emod_lt_of_pos (dd + 1) (show 0 < (nb : Int) by omega); omega⟩
          rw [show (dd % (nb : Int)).toNat = g by omega, show ((dd + 1) % (nb : Int)).toNat = o by omega] at NE
          rcases HU.out with h0 | ⟨ub, uo, rfl, ul, uc⟩
          · omega
          have U1 := uc g ml
          have U2 := uc o ml2
          obtain ⟨r1, r2⟩ := HR.out g ml
          obtain ⟨r3, r4⟩ := HR.out o ml2
          clear uc
          have LE1 := fun W => leaves_any a p q (U g) W a1 a2 p1 p2 p3 r1 r2
          have LE2 := fun W => leaves_any t r v (U o) W t1 t2 q1 q2 q3 r3 r4
          obtain ⟨rg1, rg2⟩ := leavesV_range (b := U g) a1 a2 p1 p2 p3
          obtain ⟨rg3, rg4⟩ := leavesV_range (b := U o) t1 t2 q1 q2 q3
          have LE1' := Lib.hid LE1; clear LE1
          have LE2' := Lib.hid LE2; clear LE2
          have SH' := Lib.hid SH; clear SH
          go_wp2_with fail
          refine (Calls.gw_of SH'.out).mono ?_
          rintro e w1 ⟨rfl, z1, rfl⟩
          go_upto_region 12 with (fail)
          obtain ⟨W2, hW2⟩ : ∃ W2, ((gw W1 z1).alloc (.cells #[.int .i64 p, .int .i64 q] 26)).alloc (.cells #[.int .i64 r, .int .i64 v] 26) = W2 := ⟨_, rfl⟩
          have b2 : Below W1.heap.size W1 W2 := by rw [← hW2]; exact ((below_gw W1 z1).alloc (by simp [gw_size]) _).alloc (by simp [gw_size] <;> omega) _
          have za : W2.heap[W1.heap.size + z1.bs.size]? = some (.cells #[.int .i64 p, .int .i64 q] 26 (0, 0)) := by rw [← hW2]; exact alloc_keep (alloc_at (by simp [gw_size]))
          have zb : W2.heap[W1.heap.size + z1.bs.size + 1]? = some (.cells #[.int .i64 r, .int .i64 v] 26 (0, 0)) := by rw [← hW2]; exact alloc_at (by simp [gw_size] <;> omega)
          have d0 : W2.cell? ⟨W1.heap.size + z1.bs.size, 0, none⟩ = some (.int .i64 p) := cell_of_block za 0 (by simp)
          have d1 : W2.cell? ⟨W1.heap.size + z1.bs.size, 1, none⟩ = some (.int .i64 q) := cell_of_block za 1 (by simp)
          have d2 : W2.cell? ⟨W1.heap.size + z1.bs.size + 1, 0, none⟩ = some (.int .i64 r) := cell_of_block zb 0 (by simp)
          have d3 : W2.cell? ⟨W1.heap.size + z1.bs.size + 1, 1, none⟩ = some (.int .i64 v) := cell_of_block zb 1 (by simp)
          have la := (Array.getElem?_eq_some_iff.1 za).1
          have lb := (Array.getElem?_eq_some_iff.1 zb).1
          have U1' := below_cell b2 U1
          have U2' := below_cell b2 U2
          have ul' := Nat.lt_of_lt_of_le ul b2.size
          have B2 := Lib.hid b2
          clear za zb b2 U1 U2 c00 c01 c02 s1
          rw [hW2]
          have HW2 := Lib.hid hW2; clear hW2
          go_wp2_with fail
          generalize leavesV a p q (U g) = A at *
          generalize leavesV t r v (U o) = B at *
          generalize leavesB a p q = x1' at *
          generalize leavesB t r v = x2' at *
          generalize U g = ug at *
          generalize U o = uo' at *
          have NE := Lib.hid NE
          refine wp_region_gw (by kernel_rfl) (by kernel_rfl) ?_
          repeat (go_big_quiet_step ((go_at_call 61; with_reducible exact Calls.gw_of (LE1'.out _))))
          refine wpQuiet_nil ?_
          rintro _ ⟨z3, rfl⟩
          go_wp2_with fail
          refine wp_region_gw2 (by kernel_rfl) (by kernel_rfl) ?_
          repeat (go_big_quiet_step ((go_at_call 61; with_reducible exact Calls.gw_of (LE2'.out _))))
          refine wpQuiet_nil ?_
          rintro _ ⟨z4, rfl⟩
          cases x1' with
          | false =>
            go_wp2_with fail
            have NN := liveS_none NE.out (m - (j + 1))
            rw [show j + 1 + (m - (j + 1)) = m by have := HL.out.day; have := HL.out.le; have := HM.out; omega] at NN
            replace NN := Lib.hid NN
            refine bodyPost_ret (v := .tuple #[.int .i64 0, .int .i64 0, .bool false]) (by simp [results, Try.results28, go_sem, *]) rfl ⟨by rw [NN.out]; rfl, ?_⟩
            exact (thru B2.out HBc.out).gw z4
          | true =>
            cases x2' with
            | false =>
              go_wp2_with fail
              have NN := liveS_none NE.out (m - (j + 1))
              rw [show j + 1 + (m - (j + 1)) = m by have := HL.out.day; have := HL.out.le; have := HM.out; omega] at NN
              replace NN := Lib.hid NN
              refine bodyPost_ret (v := .tuple #[.int .i64 0, .int .i64 0, .bool false]) (by simp [results, Try.results28, go_sem, *]) rfl ⟨by rw [NN.out]; rfl, ?_⟩
              exact (thru B2.out HBc.out).gw z4
            | true =>
              go_wp2_with fail
              go_roundw
              case rel => exact ⟨j + 1, A, B, dd + 1, rfl, rfl, rfl, Lib.hid ⟨by have := HL.out.day; have := HL.out.le; have := HM.out; omega, by have := HL.out.day; omega, NE.out⟩, gw_of_below (B2.out.trans ((below_gw W2 z4).mono B2.out.size))⟩
              case measure => simp [intOf]; omega
    · have ED : j = m := by have := HL.out.day; have := HL.out.le; have := HM.out; omega
      have TT := HL.out.run
      rw [ED] at TT
      replace TT := Lib.hid TT
      clear ED
      go_wp2_with fail
      refine bodyPost_ret (v := .tuple #[.int .i64 a, .int .i64 t, .bool true]) (by simp [results, Try.results28, go_sem, *]) rfl ⟨by rw [TT.out]; rfl, ?_⟩
      exact HBc.out.gw z
end Go.Proofs.Ytljofnmgddfljaa
