/- Contracts of some and of awake; plain: one day of a true cask, and what the house says of a right measurement. No conditions beyond each theorem's own. -/
import Derived.Test.YtjgnafhbeekebaaGreatKh
import Derived.Test.YtjgnafhbeekebaaGreatKi
import Derived.Test.YtjgnafhbeekebaaGreatLh
set_option linter.unusedVariables false
set_option linter.unusedSimpArgs false
set_option linter.unusedSectionVars false
set_option linter.constructorNameAsVariable false
namespace Go.Proofs.YtjgnafhbeekebaaGreat.L7
open Go.RowKit
open Go.Proofs.YtjgnafhbeekebaaGreat

attribute [local go_sem] gw_cell gw_frozen gw_size

set_option maxHeartbeats 1000000 in
theorem some_any (lo hi b : Int) (w : World) (h0 : -1099511627776 ≤ lo) (h1 : lo ≤ hi) (h2 : hi ≤ 1099511627776) (b0 : 0 ≤ b) (b1 : b ≤ 4294967295) :
    Calls Tryz.prog 10 #[.agg #[.int .i64 lo, .int .i64 hi], .int .u32 b] w fun e w' => e = .returned (.int .i64 (lo + b % (hi - lo + 1))) ∧ Below w.heap.size w w' := by
  obtain ⟨W1, hW1⟩ : ∃ W1, w.alloc (.cells #[.int .i64 lo, .int .i64 hi] 27) = W1 := ⟨_, rfl⟩
  have hBc : Below w.heap.size w W1 := by rw [← hW1]; exact below_alloc _ _
  have zc0 : W1.heap[w.heap.size]? = some (.cells #[.int .i64 lo, .int .i64 hi] 27 (0, 0)) := by rw [← hW1]; exact alloc_at rfl
  have c00 : W1.cell? ⟨w.heap.size, 0, none⟩ = some (.int .i64 lo) := cell_of_block zc0 0 (by simp)
  have c01 : W1.cell? ⟨w.heap.size, 1, none⟩ = some (.int .i64 hi) := cell_of_block zc0 1 (by simp)
  have lc0 := (Array.getElem?_eq_some_iff.1 zc0).1
  clear zc0
  have HBc := Lib.hid hBc; clear hBc
  have HWc := Lib.hid hW1; clear hW1
  have hd : ¬ hi - lo + 1 = 0 := by omega
  have r0 := Int.emod_nonneg b hd
  have r1 := Int.emod_lt_of_pos b (show 0 < hi - lo + 1 by omega)
  go_enter Tryz.func10, Tryz.ntmps10
  go_upto_region 1 with (fail)
  rw [HWc.out]
  refine wp_region_gw (by kernel_rfl) (by kernel_rfl) ?_
  repeat (go_big_quiet_step (fail))
  refine wpQuiet_nil ?_
  rintro _ ⟨z, rfl⟩
  go_wp2_with fail
  go_ret
  exact ⟨rfl, HBc.out.gw z⟩

theorem one_any (n : Int) (w : World) : Calls Tryz.prog 25 #[.int .i64 n] w fun e w' => e = .returned (.agg #[.int .i64 n, .int .i64 n]) ∧ Below w.heap.size w w' := by
  go_enter Tryz.func25, Tryz.ntmps25
  go_wp2
  refine bodyPost_ret (v := .agg #[.int .i64 n, .int .i64 n]) (by simp [results, Tryz.results25, go_sem]) rfl ⟨rfl, below_alloc w _⟩
def exX : Cont := ⟨0, 600000, 600000, 400000, 400000⟩
theorem ex_str : (strV exX).1 = 6000 ∧ (strV exX).2 = 6000 ∧ strE exX = 0 := by decide +kernel
theorem ex_pure : L1.purL 1000 1001 4000 4001 = 400 ∧ L1.purH 1000 1001 4000 4001 = 401 ∧ L1.purE 1000 1001 4000 4001 = 0 := by decide +kernel

set_option maxRecDepth 100000 in
set_option maxHeartbeats 8000000 in
theorem awake_any (w : World) : Calls Tryz.prog 9 #[] w fun e w' => e = .returned (.bool true) ∧ Below w.heap.size w w' := by
  have H1 := Lib.hid (fun w => one_any 600000 w)
  have H2 := Lib.hid (fun w => one_any 400000 w)
  have H6 := Lib.hid (fun w => one_any 6000 w)
  have SA := fun w => Strength_any exX w
  rw [ex_str.1, ex_str.2.1, ex_str.2.2] at SA
  unfold exX Cont.val at SA
  have SA := Lib.hid SA
  have PA := fun w => L1.Pure_any 1000 1001 4000 4001 w
  rw [ex_pure.1, ex_pure.2.1, ex_pure.2.2] at PA
  have PA := Lib.hid PA
  go_enter Tryz.func9, Tryz.ntmps9
  go_wp2_with fail
  refine (Calls.grown (H1.out _)).mono ?_
  rintro e w1 ⟨rfl, z1, rfl⟩
  go_wp2_with fail
  refine (Calls.gw_of (H2.out _)).mono ?_
  rintro e w1 ⟨rfl, z2, rfl⟩
  go_wp2_with fail
  refine (Calls.gw_of (SA.out _)).mono ?_
  rintro e w1 ⟨rfl, z3, rfl⟩
  go_upto_region 3 with (fail)
  obtain ⟨V1, hV1⟩ : ∃ V, (gw w z3).alloc (.cells #[.int .i64 6000, .int .i64 6000] 27) = V := ⟨_, rfl⟩
  have bV1 : Below w.heap.size w V1 := by rw [← hV1]; exact (below_gw w z3).alloc (by simp [gw_size]) _
  have zV1 : V1.heap[w.heap.size + z3.bs.size]? = some (.cells #[.int .i64 6000, .int .i64 6000] 27 (0, 0)) := by rw [← hV1]; exact alloc_at (by simp [gw_size])
  have B1 := Lib.hid bV1
  have Z1 := Lib.hid zV1
  clear bV1 zV1
  rw [hV1]
  clear hV1
  go_wp2_with fail
  refine (Calls.grown (PA.out _)).mono ?_
  rintro e w1 ⟨rfl, z4, rfl⟩
  go_upto_region 4 with (fail)
  obtain ⟨V2, hV2⟩ : ∃ V, (gw V1 z4).alloc (.cells #[.int .i64 400, .int .i64 401] 27) = V := ⟨_, rfl⟩
  have bV2 : Below V1.heap.size V1 V2 := by rw [← hV2]; exact (below_gw V1 z4).alloc (by simp [gw_size]) _
  have zV2 : V2.heap[V1.heap.size + z4.bs.size]? = some (.cells #[.int .i64 400, .int .i64 401] 27 (0, 0)) := by rw [← hV2]; exact alloc_at (by simp [gw_size])
  have B2 := Lib.hid (thru bV2 B1.out)
  have y1 := (bV2.block _ (Array.getElem?_eq_some_iff.1 Z1.out).1).trans Z1.out
  have s0 : V2.cell? ⟨w.heap.size + z3.bs.size, 0, none⟩ = some (.int .i64 6000) := cell_of_block y1 0 (by simp)
  have s1 : V2.cell? ⟨w.heap.size + z3.bs.size, 1, none⟩ = some (.int .i64 6000) := cell_of_block y1 1 (by simp)
  have sl := (Array.getElem?_eq_some_iff.1 y1).1
  have p0 : V2.cell? ⟨V1.heap.size + z4.bs.size, 0, none⟩ = some (.int .i64 400) := cell_of_block zV2 0 (by simp)
  have p1 : V2.cell? ⟨V1.heap.size + z4.bs.size, 1, none⟩ = some (.int .i64 401) := cell_of_block zV2 1 (by simp)
  have pl := (Array.getElem?_eq_some_iff.1 zV2).1
  clear bV2 zV2 y1
  rw [hV2]
  clear hV2
  refine wp_region_gw (by kernel_rfl) (by kernel_rfl) ?_
  repeat (go_big_quiet_step (exact Calls.gw_of (H6.out _)))
  refine wpQuiet_nil ?_
  rintro _ ⟨z9, rfl⟩
  go_wp2_with fail
  go_ret
  exact ⟨rfl, B2.out.gw z9⟩

/-- the floor among the first stays; 0 ahead of them -/
def floZ (F G : Nat → Int) (n : Nat) (d : Int) (k : Nat) : Int := if min k (lb F (d + 1) n) = 0 then 0 else G (min k (lb F (d + 1) n) - 1)
theorem floZ_low {F G : Nat → Int} {n : Nat} {d : Int} {k : Nat} (hm : ∀ i, i + 1 < n → F i < F (i + 1)) (hk : k < n) (h : F k ≤ d) : floZ F G n d (k + 1) = G k := by
  have : k < lb F (d + 1) n := by
    rcases Nat.lt_or_ge k (lb F (d + 1) n) with h' | h'
    · exact h'
    · have a := lb_stop F (d + 1) n (by omega)
      have := mono_of (fun i hi => Int.le_of_lt (hm i hi)) _ _ h' hk
      omega
  unfold floZ
  rw [show min (k + 1) (lb F (d + 1) n) = k + 1 by omega, if_neg (by omega), Nat.add_sub_cancel]
theorem floZ_high {F G : Nat → Int} {n : Nat} {d : Int} {k : Nat} (h : ¬ F k ≤ d) : floZ F G n d (k + 1) = floZ F G n d k := by
  have : lb F (d + 1) n ≤ k := by
    rcases Nat.lt_or_ge k (lb F (d + 1) n) with h' | h'
    · have := lb_lt F (d + 1) n k h'; omega
    · exact h'
  unfold floZ
  rw [show min (k + 1) (lb F (d + 1) n) = min k (lb F (d + 1) n) by omega]
theorem floZ_all {F G : Nat → Int} {n : Nat} {d : Int} (hn : 0 < n) (h : F 0 ≤ d) : floZ F G n d n = G (stayAt F n d) := by
  have := lb_pos (d := d) hn h
  unfold floZ stayAt
  rw [show min n (lb F (d + 1) n) = lb F (d + 1) n from Nat.min_eq_right (lb_le _ _ _), if_neg (by omega)]
theorem floZ_zero (F G : Nat → Int) (n : Nat) (d : Int) : floZ F G n d 0 = 0 := by unfold floZ; simp

/-- a true cask of which the first i amounts are those of the next day -/
structure Mid (Y Z : Cont) (i : Nat) (a w : Int) : Prop where
  a0 : i = 0 → Y.alo ≤ a ∧ a ≤ Y.ahi
  a1 : 0 < i → Z.alo ≤ a ∧ a ≤ Z.ahi
  w0 : i ≤ 1 → Y.wlo ≤ w ∧ w ≤ Y.whi
  w1 : 1 < i → Z.wlo ≤ w ∧ w ≤ Z.whi
section
variable {Y Z : Cont} {a w a' w' : Int}
theorem Mid.start (h : Truly Y a w) : Mid Y Z 0 a w := ⟨fun _ => ⟨h.a0, h.a1⟩, fun h => by omega, fun _ => ⟨h.w0, h.w1⟩, fun h => by omega⟩
theorem Mid.alc (h : Mid Y Z 0 a w) (h0 : Z.alo ≤ a') (h1 : a' ≤ Z.ahi) : Mid Y Z (0 + 1) a' w := ⟨fun h => by omega, fun _ => ⟨h0, h1⟩, fun _ => h.w0 (by omega), fun h => by omega⟩
theorem Mid.wat (h : Mid Y Z 1 a w) (h0 : Z.wlo ≤ w') (h1 : w' ≤ Z.whi) : Mid Y Z (1 + 1) a w' := ⟨fun h => by omega, fun _ => h.a1 (by omega), fun h => by omega, fun _ => ⟨h0, h1⟩⟩
theorem Mid.end_ (h : Mid Y Z 2 a w) : Truly Z a w := ⟨(h.a1 (by omega)).1, (h.a1 (by omega)).2, (h.w1 (by omega)).1, (h.w1 (by omega)).2⟩
/-- amounts of both days are within limits -/
theorem Mid.range {i : Nat} (h : Mid Y Z i a w) (hY : contB Y = true) (hZ : contB Z = true) : (0 ≤ a ∧ a ≤ 2147483648) ∧ (0 ≤ w ∧ w ≤ 2147483648) := by
  obtain ⟨-, ⟨y0, y1, y2⟩, y3, y4, y5⟩ := contB_t hY
  obtain ⟨-, ⟨z0, z1, z2⟩, z3, z4, z5⟩ := contB_t hZ
  constructor
  · rcases Nat.eq_zero_or_pos i with e | e
    · have := h.a0 e; omega
    · have := h.a1 e; omega
  · rcases Nat.lt_or_ge 1 i with e | e
    · have := h.w1 e; omega
    · have := h.w0 e; omega
end
theorem gone_in {n sl sh b lo hi : Int} (hl : ¬ goHi n sh < goLo n sl) (h0 : 0 ≤ n) (h2 : n ≤ 2147483648) (h3 : 0 ≤ sl) (h4 : sl ≤ sh) (h5 : sh ≤ 100000000) (h6 : 0 ≤ lo) (h7 : lo ≤ n) (h8 : n ≤ hi) :
    leftLo lo sh ≤ n - (goLo n sl + b % (goHi n sh - goLo n sl + 1)) ∧ n - (goLo n sl + b % (goHi n sh - goLo n sl + 1)) ≤ leftHi hi sl := by
  have := leavesV_in (b := b) (show leavesB n sl sh = true by unfold leavesB; simp; omega) h0 h2 h3 h4 h5 h6 h7 h8
  unfold leavesV at this
  rw [if_neg hl] at this
  exact this
/-- a day: its shares, and what they leave -/
theorem day_shares {C : Clim} {k : Nat} {F G : Nat → Int} {Y : Cont} {dd : Int} (hB : climB C = true) (hst : staysB C.nA k F G = true) (hd : Y.day = dd) :
    ∃ f s : Nat, floorOf F G k dd = f ∧ seasonOf C dd = s ∧ f < C.nA ∧ G (stayAt F k dd) = (f : Nat) ∧ (0 ≤ (C.RA f).A s ∧ (C.RA f).A s ≤ (C.RA f).B s ∧ (C.RA f).B s ≤ 100000000) ∧ (0 ≤ (C.RW f).A s ∧ (C.RW f).A s ≤ (C.RW f).B s ∧ (C.RW f).B s ≤ 100000000) ∧
      (Y.next C F G k).alo = leftLo Y.alo ((C.RA f).B s) ∧ (Y.next C F G k).ahi = leftHi Y.ahi ((C.RA f).A s) ∧ (Y.next C F G k).wlo = leftLo Y.wlo ((C.RW f).B s) ∧ (Y.next C F G k).whi = leftHi Y.whi ((C.RW f).A s) := by
  obtain ⟨⟨_, _⟩, ⟨na1, na2⟩, nw, ⟨nb1, nb2⟩, ra, rw'⟩ := climB_t hB
  have fl := floorOf_lt hst na1 dd
  have sl := seasonOf_lt (C := C) (day := dd) (by omega)
  refine ⟨_, _, rfl, rfl, fl.1, fl.2, (ra _ fl.1).2 _ sl, (rw' _ fl.1).2 _ sl, ?_⟩
  unfold Cont.next
  rw [hd]
  exact ⟨rfl, rfl, rfl, rfl⟩

/-- what the house says of a measurement that has what is true -/
theorem gauge_house {C : Clim} {x : Cont} {k : Nat} {F G : Nat → Int} {day a t vl vh sl sh : Int} (he : errH C x k F G day = 0) (ht : Truly (atV C x k F G day) a t) (h0 : 0 ≤ a) (h1 : 0 ≤ t) (hv : 1 ≤ a + t)
    (v0 : 0 ≤ vl) (v1 : 1000 * vl ≤ a + t) (v2 : a + t ≤ 1000 * vh) (v3 : vh ≤ 2147483) (s0 : 0 ≤ sl) (s1 : sl ≤ a * 10000 / (a + t)) (s2 : (a * 10000 + (a + t) - 1) / (a + t) ≤ sh) (s3 : sh ≤ 10000) :
    showV C x k F G ⟨day, 1000 * vl, 1000 * vh, sl, sh⟩ = 0 ∧ measE C x k F G ⟨day, 1000 * vl, 1000 * vh, sl, sh⟩ = 0 ∧ measF C x k F G ⟨day, 1000 * vl, 1000 * vh, sl, sh⟩ = 0 ∧
      ∃ y : Cont, measV C x k F G ⟨day, 1000 * vl, 1000 * vh, sl, sh⟩ = y ∧ Truly y a t := by
  obtain ⟨⟨q0, q1, q2⟩, q3, q4⟩ := around_parts h0 h1 (show a + t ≠ 0 by omega)
  obtain ⟨g1, g2, g3, g4, g5, g6⟩ := errH_zero he
  obtain ⟨c1, c2⟩ := atV_cont he
  have rB : regB ⟨day, 1000 * vl, 1000 * vh, sl, sh⟩ = true := by
    simp only [regB, Bool.and_eq_true]
    have := (contB_t g2).1
    exact ⟨inB_t.2 (by omega), spanB_t.2 (by show 0 ≤ 1000 * vl ∧ 1000 * vl ≤ 1000 * vh ∧ 1000 * vh ≤ 2147483648; omega), spanB_t.2 (by show 0 ≤ sl ∧ sl ≤ sh ∧ sh ≤ 10000; omega)⟩
  have mt : Truly (measC ⟨day, 1000 * vl, 1000 * vh, sl, sh⟩) a t := by
    generalize a * 10000 / (a + t) = lo at *
    generalize (a * 10000 + (a + t) - 1) / (a + t) = hi at *
    have A := (mul_le (show 0 ≤ 1000 * vl by omega) v1 s0 s1).2
    have B := Int.mul_le_mul v2 s2 (by omega) (by omega : 0 ≤ 1000 * vh)
    have C1 := (mul_le (show 0 ≤ 1000 * vl by omega) v1 (show 0 ≤ 10000 - sh by omega) (show 10000 - sh ≤ 10000 - hi by omega)).2
    have D := Int.mul_le_mul v2 (show 10000 - lo ≤ 10000 - sl by omega) (by omega) (by omega : 0 ≤ 1000 * vh)
    have x1 : (a + t) * lo ≤ a * 10000 := by rw [Int.mul_comm]; exact q3
    have x2 : a * 10000 ≤ (a + t) * hi := by rw [Int.mul_comm (a + t)]; exact q4
    have x3 : (a + t) * (10000 - hi) = (a + t) * 10000 - (a + t) * hi := Int.mul_sub _ _ _
    have x4 : (a + t) * (10000 - lo) = (a + t) * 10000 - (a + t) * lo := Int.mul_sub _ _ _
    refine ⟨?_, ?_, ?_, ?_⟩
    · show 1000 * vl * sl / 10000 ≤ a
      omega
    · show a ≤ upI (1000 * vh * sh) 10000
      unfold upI
      omega
    · show 1000 * vl * (10000 - sh) / 10000 ≤ t
      omega
    · show t ≤ upI (1000 * vh * (10000 - sl)) 10000
      unfold upI
      omega
  have eE : measE C x k F G ⟨day, 1000 * vl, 1000 * vh, sl, sh⟩ = 0 := by unfold measE; rw [if_pos rB]; exact he
  have eA := (measE_zero eE).2.2
  dsimp only at eA
  obtain ⟨m1, m2⟩ := met_truly c1 (measC_ok rB) ht mt
  refine ⟨?_, eE, ?_, _, rfl, ?_⟩
  · unfold showV
    rw [if_pos eE, eA]
    exact showsN_zero.2 m1
  · unfold measF
    rw [if_pos eE, eA, if_pos m1]
  · unfold measV
    rw [if_pos eE, eA, if_pos m1]
    exact m2
end Go.Proofs.YtjgnafhbeekebaaGreat.L7
