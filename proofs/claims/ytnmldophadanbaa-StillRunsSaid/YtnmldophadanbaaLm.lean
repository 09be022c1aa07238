/- StillNarrower: the walk of the law where the run goes through. No conditions beyond each theorem's own. -/
import Derived.Test.YtnmldophadanbaaLl
import Derived.Deep.QuietTactic
import Derived.BigQuiet
set_option linter.unusedVariables false
set_option linter.unusedSimpArgs false
set_option linter.unusedSectionVars false
set_option linter.constructorNameAsVariable false
namespace Go.Proofs.Ytnmldophadanbaa
open Go.RowKit

attribute [local go_sem] gw_cell gw_frozen gw_size
attribute [local go_sem ↓] run_minZ run_maxZ

theorem DrawnAt.get {W : World} {a : Option Addr} {n : Nat} {D : Nat → Dr3} (h : DrawnAt W a n D) (hn : 0 < n) : ∃ b off, a = some ⟨b, off, none⟩ ∧ b < W.heap.size ∧ ∀ i, i < n → W.cell? ⟨b, off + i * 3, none⟩ = some (.int .i64 (D i).d) ∧ W.cell? ⟨b, off + i * 3 + 1, none⟩ = some (.int .i64 (D i).lo) ∧ W.cell? ⟨b, off + i * 3 + 2, none⟩ = some (.int .i64 (D i).hi) := by
  rcases h with h | h
  · omega
  · exact h
theorem ints_get {W : World} {a : Option Addr} {n : Nat} {M : Nat → Int} (h : IntsAt W a n M) (hn : 0 < n) : ∃ b off, a = some ⟨b, off, none⟩ ∧ b < W.heap.size ∧ ∀ i, i < n → W.cell? ⟨b, off + i, none⟩ = some (.int .i64 (M i)) := by
  rcases h with h | h
  · omega
  · exact h

/-- three numbers in a box -/
structure Box3 (W : World) (B : Nat) (x y z : Int) : Prop where
  e0 : W.cell? ⟨B, 0, none⟩ = some (.int .i64 x)
  e1 : W.cell? ⟨B, 1, none⟩ = some (.int .i64 y)
  e2 : W.cell? ⟨B, 2, none⟩ = some (.int .i64 z)
  lt : B < W.heap.size
theorem Box3.below {W W' : World} {B : Nat} {x y z : Int} (h : Box3 W B x y z) (hb : Below W.heap.size W W') : Box3 W' B x y z :=
  ⟨(hb.cell (p := ⟨B, 0, none⟩) h.lt).trans h.e0, (hb.cell (p := ⟨B, 1, none⟩) h.lt).trans h.e1, (hb.cell (p := ⟨B, 2, none⟩) h.lt).trans h.e2, Nat.lt_of_lt_of_le h.lt hb.size⟩
theorem box3_of (W : World) (x y z : Int) (t : TypeId) : Box3 (W.alloc (.cells #[.int .i64 x, .int .i64 y, .int .i64 z] t)) W.heap.size x y z :=
  ⟨by simp [go_sem], by simp [go_sem], by simp [go_sem], by simp⟩

def sumFrom (e : Int) (M : Nat → Int) : Nat → Int
  | 0 => e
  | j + 1 => sumFrom e M j + M j
theorem sumFrom_eq (e : Int) (M : Nat → Int) : ∀ j, sumFrom e M j = e + sumM M j
  | 0 => by simp [sumFrom, sumM]
  | j + 1 => by unfold sumFrom sumM; rw [sumFrom_eq e M j]; omega

set_option maxRecDepth 100000 in
set_option maxHeartbeats 16000000 in
theorem narrower_ok (aL aV aM : Option Addr) (m k cL cV cM : Nat) (c : Crv) (p : Pot3) (M : Nat → Int) (a b : Int) (w : World) (h : longB c.n m k = false) (hL : IntsAt w aL c.n c.L) (hV : SpansAt w aV m c.A c.B) (hM : IntsAt w aM k M)
    (hx : runErr m c p M k = 0) (ha : 0 ≤ a ∧ a ≤ 4294967295) (hb : 0 ≤ b ∧ b ≤ 4294967295) :
    Calls Try.prog 3 #[.agg #[.slice aL c.n cL, .slice aV m cV], .agg #[.int .i64 p.v, .int .i64 p.lo, .int .i64 p.hi], .slice aM k cM, .int .u32 a, .int .u32 b] w (True1 w) := by
  obtain ⟨k1, k2, k3⟩ := longB_f h
  obtain ⟨_, k64, rfl, g, ⟨o0, o1, o2, o3⟩, hgo, hok⟩ := run_zero hx
  have PB := Lib.hid (show potB p.v p.lo p.hi = true by unfold potB; rw [inB_t.2 ⟨by omega, by omega⟩, spanB_t.2 ⟨by omega, by omega, by omega⟩]; rfl)
  have ix := innerI_range (b := a) o1
  have iy := innerI_range (b := b) o1
  obtain ⟨X, hX⟩ : ∃ X, X = innerI p.lo p.hi a := ⟨_, rfl⟩
  obtain ⟨Y, hY⟩ : ∃ Y, Y = innerI p.lo p.hi b := ⟨_, rfl⟩
  rw [← hX] at ix
  rw [← hY] at iy
  have CX := Lib.hid (fun W => show Calls Try.prog 19 #[.agg #[.int .i64 p.lo, .int .i64 p.hi], .int .u32 a] W fun e w' => e = .returned (.int .i64 X) ∧ Below W.heap.size W w' by rw [hX]; exact inner_any _ _ _ _ (by omega) (by omega) (by omega) (by omega) (by omega))
  have CY := Lib.hid (fun W => show Calls Try.prog 19 #[.agg #[.int .i64 p.lo, .int .i64 p.hi], .int .u32 b] W fun e w' => e = .returned (.int .i64 Y) ∧ Below W.heap.size W w' by rw [hY]; exact inner_any _ _ _ _ (by omega) (by omega) (by omega) (by omega) (by omega))
  clear hX hY
  obtain ⟨q, hq⟩ : ∃ q : Pot3, q = ⟨p.v, minZ X Y, maxZ X Y⟩ := ⟨_, rfl⟩
  have qv : q.v = p.v := by rw [hq]
  have ql : q.lo = minZ X Y := by rw [hq]
  have qh : q.hi = maxZ X Y := by rw [hq]
  have qin : q.In p := ⟨qv, by rw [ql, minZ_eq]; omega, by rw [qh, maxZ_eq]; omega⟩
  have qle : q.lo ≤ q.hi := by rw [ql, qh, minZ_eq, maxZ_eq]; omega
  have hxq := run_narrow hx qin qle
  have PIN := Lib.hid (pots_in hx qin qle)
  have NIN := Lib.hid (fun j (hj : j < k) => next_in g ((run_zero hxq).2.2.2.2.2.2 j (by omega)) (hok j (by omega)) (pots_in hx qin qle j (by omega)) ((run_zero hxq).2.2.2.2.2.1 j hj))
  have NOK := Lib.hid (fun j (hj : j < k) => next_ok g (hok j (by omega)) (hgo j hj))
  have NOQ := Lib.hid (fun j (hj : j < k) => next_ok g ((run_zero hxq).2.2.2.2.2.2 j (by omega)) ((run_zero hxq).2.2.2.2.2.1 j hj))
  have SUM := Lib.hid (sums hx)
  have MJ := Lib.hid (fun j (hj : j < k) => inB_t.1 (errD_zero (show errD (c.potAt p M j) (M j) = 0 from hgo j hj)).1)
  have QOK := Lib.hid ((run_zero hxq).2.2.2.2.2.2 k (Nat.le_refl _))
  have RQ := Lib.hid (fun (W : World) (hL : IntsAt W aL c.n c.L) (hV : SpansAt W aV c.n c.A c.B) (hM : IntsAt W aM k M) => show Calls Try.prog 17 #[.agg #[.slice aL c.n cL, .slice aV c.n cV], .agg #[.int .i64 p.v, .int .i64 (minZ X Y), .int .i64 (maxZ X Y)], .slice aM k cM] W fun e w' =>
      ∃ v, e = .returned (.tuple #[v, .agg #[.int .i64 (c.potAt q M k).v, .int .i64 (c.potAt q M k).lo, .int .i64 (c.potAt q M k).hi], .int .i64 0]) ∧ w'.ownsRow W.heap.size 41 3 v k (c.outs q M k) ∧ Below W.heap.size W w' by
    have := run_ok aL aV aM c.n cL cV k cM c q M W (by omega) (by omega) hL hV hM hxq
    rw [qv, ql, qh] at this
    exact this)
  clear hq qin qle hxq hgo qv ql qh
  have POK := Lib.hid hok; clear hok
  have H := Lib.hid h; clear h
  obtain ⟨W2, hW2⟩ : ∃ W2, (w.alloc (.cells #[.slice aL c.n cL, .slice aV c.n cV] 25)).alloc (.cells #[.int .i64 p.v, .int .i64 p.lo, .int .i64 p.hi] 29) = W2 := ⟨_, rfl⟩
  have nb : NB w W2 aL aV c.n c.n cL cV p.v p.lo p.hi := by rw [← hW2]; exact nb_of w aL aV c.n c.n cL cV p.v p.lo p.hi _ _
  have HL := Lib.hid (hL.below nb.low); clear hL
  have HV := Lib.hid (hV.below nb.low); clear hV
  have HM := Lib.hid (hM.below nb.low); clear hM
  have HX := Lib.hid hx; clear hx
  have HW2 := Lib.hid hW2; clear hW2
  have NB2 := Lib.hid nb
  obtain ⟨c0, c1, p0, p1, p2, _, _⟩ := nb
  have s0 := NB2.out.s0
  have s1 := NB2.out.s1
  go_enter Try.func3, Try.ntmps3
  go_wp2_with fail
  rw [HW2.out]
  refine (long_b _ _ _ _ _ _ _ _ _ _ (by omega) (by omega) (by omega) H.out).mono ?_
  rintro e w1 ⟨rfl, y, rfl⟩
  go_wp2_with fail
  refine (run_ok aL aV aM c.n cL cV k cM c p M (gw W2 y) (by omega) (by omega) (HL.out.below (below_gw W2 y)) (HV.out.below (below_gw W2 y)) (HM.out.below (below_gw W2 y)) HX.out).mono ?_
  rintro e w3 ⟨vl, rfl, hown, hb3⟩
  obtain ⟨a1, cap1, rfl, hD⟩ := drawn_of_own hown
  have B23 := Lib.hid (thru hb3 (below_gw W2 y)); clear hb3 hown
  obtain ⟨E, hE⟩ : ∃ E, E = c.potAt p M k := ⟨_, rfl⟩
  rw [← hE]
  have HE := Lib.hid hE; clear hE
  obtain ⟨W4, hW4⟩ : ∃ W4, w3.alloc (.cells #[.int .i64 E.v, .int .i64 E.lo, .int .i64 E.hi] 29) = W4 := ⟨_, rfl⟩
  have B34 : Below w3.heap.size w3 W4 := by rw [← hW4]; exact below_alloc _ _
  have bx : Box3 W4 w3.heap.size E.v E.lo E.hi := by rw [← hW4]; exact box3_of _ _ _ _ _
  have B24 := Lib.hid (thru B34 B23.out)
  have NB4 := Lib.hid (NB2.out.below B24.out)
  have hD4 := Lib.hid (hD.below B34)
  have HW4 := Lib.hid hW4
  clear c0 c1 p0 p1 p2 s0 s1 hD hW4 B34
  have NB3 := NB2.out.below B23.out
  have s0 := NB3.s0
  have s1 := NB3.s1
  obtain ⟨c0, c1, p0, p1, p2, _, _⟩ := NB3
  go_wp2_with fail
  rw [HW4.out]
  clear c0 c1 p0 p1 p2 s0 s1
  obtain ⟨c0, c1, p0, p1, p2, _, _⟩ := NB4.out
  have s0 := NB4.out.s0
  have s1 := NB4.out.s1
  obtain ⟨f0, f1, f2, fl⟩ := bx
  refine (Calls.grown (rpot_b _ _ _ _ PB.out)).mono ?_
  rintro e w1 ⟨rfl, y4, rfl⟩
  go_wp2_with fail
  refine wp_region_gw2 (by kernel_rfl) (by kernel_rfl) ?_
  repeat (go_big_quiet_step ((first | (go_at_call 19; with_reducible exact Calls.gw_of (CX.out _)) | (go_at_call 19; with_reducible exact Calls.gw_of (CY.out _)))))
  refine wpQuiet_nil ?_
  rintro _ ⟨z4, rfl⟩
  clear CX CY
  have NB5 := NB4.out.gw z4
  have B4v := Lib.hid (below_gw W4 z4)
  clear c0 c1 p0 p1 p2 s0 s1
  generalize gw W4 z4 = V at *
  have s0 := NB5.s0
  have s1 := NB5.s1
  obtain ⟨c0, c1, p0, p1, p2, _, _⟩ := NB5
  obtain ⟨W5, hW5⟩ : ∃ W5, V.alloc (.cells #[.int .i64 p.v, .int .i64 (minZ X Y), .int .i64 (maxZ X Y)] 29) = W5 := ⟨_, rfl⟩
  have B45 := Lib.hid (show Below W4.heap.size W4 W5 by rw [← hW5]; exact thru (below_alloc _ _) B4v.out)
  have HW5 := Lib.hid hW5; clear hW5
  go_wp2_with fail
  rw [HW5.out]
  have B25 := Lib.hid (thru B45.out B24.out)
  refine (RQ.out W5 (HL.out.below B25.out) (HV.out.below B25.out) (HM.out.below B25.out)).mono ?_
  rintro e w6 ⟨v2, rfl, hown2, hb6⟩
  obtain ⟨a2, cap2, rfl, hD2⟩ := drawn_of_own hown2
  have B26 := Lib.hid (thru hb6 B25.out)
  have B46 := Lib.hid (thru hb6 B45.out)
  clear hb6 hown2 RQ
  obtain ⟨S, hS⟩ : ∃ S, S = c.potAt q M k := ⟨_, rfl⟩
  rw [← hS]
  have sin := PIN.out k (Nat.le_refl _)
  rw [← hS, ← HE.out] at sin
  have sok := QOK.out
  rw [← hS] at sok
  obtain ⟨t1, t2, t3⟩ := sin
  obtain ⟨t4, t5, t6, t7⟩ := sok
  have sv : (S.v != E.v) = false := by rw [t1]; simp
  clear t1 hS
  obtain ⟨W7, hW7⟩ : ∃ W7, w6.alloc (.cells #[.int .i64 S.v, .int .i64 S.lo, .int .i64 S.hi] 29) = W7 := ⟨_, rfl⟩
  have B67 : Below w6.heap.size w6 W7 := by rw [← hW7]; exact below_alloc _ _
  have bS : Box3 W7 w6.heap.size S.v S.lo S.hi := by rw [← hW7]; exact box3_of _ _ _ _ _
  have B27 := Lib.hid (thru B67 B26.out)
  have B47 := Lib.hid (thru B67 B46.out)
  have hD27 := Lib.hid (hD2.below B67)
  have hD17 := Lib.hid (hD4.out.below B47.out)
  have HM7 := Lib.hid (HM.out.below B27.out)
  have bE4 : Box3 W4 w3.heap.size E.v E.lo E.hi := ⟨f0, f1, f2, fl⟩
  have bE7 := bE4.below B47.out
  have bE6 := bE4.below B46.out
  have NB7 := NB2.out.below B27.out
  have HW7 := Lib.hid hW7
  have LOW7 := Lib.hid NB7.low
  clear c0 c1 p0 p1 p2 s0 s1 f0 f1 f2 fl hD2 hW7 B67 bE4
  obtain ⟨f0, f1, f2, fl⟩ := bE6
  go_wp2_with fail
  rw [HW7.out]
  refine (Calls.grown (inside_t S.lo S.hi E.lo E.hi W7 t2 t5 t3)).mono ?_
  rintro e w1 ⟨rfl, y7, rfl⟩
  clear f0 f1 f2 fl
  obtain ⟨f0, f1, f2, fl⟩ := bE7
  obtain ⟨g0, g1, g2, gl⟩ := bS
  have s0 := NB7.s0
  have s1 := NB7.s1
  obtain ⟨c0, c1, p0, p1, p2, _, _⟩ := NB7
  go_wp2_with fail
  refine wp_region_gw2 (by kernel_rfl) (by kernel_rfl) ?_
  repeat (go_big_quiet_step (fail))
  refine wpQuiet_nil ?_
  rintro _ ⟨z7, rfl⟩
  go_wp2_with fail
  have EOK := POK.out k (Nat.le_refl _)
  rw [← HE.out] at EOK
  obtain ⟨eo0, eo1, eo2, eo3⟩ := EOK
  have SK := SUM.out k (Nat.le_refl _)
  rw [← HE.out] at SK
  have HSK := Lib.hid SK; clear SK
  clear c0 c1
  go_loopw [21, 22, 23, 109] (fun sl sh sv i wr => ∃ j : Nat, j ≤ k ∧ i = .int .i64 j ∧ sl = .int .i64 (sumLo c p M j) ∧ sh = .int .i64 (sumHi c p M j) ∧ sv = .int .i64 (sumFrom E.v M j) ∧ ∃ x, wr = gw W7 x) (fun _ _ _ i _ => k - (intOf i).toNat)
  case atStart => exact ⟨0, by omega, rfl, rfl, rfl, rfl, z7, rfl⟩
  case round =>
    obtain ⟨j, hj, rfl, rfl, rfl, rfl, x, rfl⟩ := hrel
    have sj := SUM.out j hj
    have sf := sumFrom_eq E.v M j
    have HSF := Lib.hid sf
    obtain ⟨j1, j2, j3, j4, j5, j6, j7, j8⟩ := sj
    have pj := POK.out j hj
    obtain ⟨pj0, pj1, pj2, pj3⟩ := pj
    have jm : sumM M j ≤ 1073741824 := by omega
    have sfb : 0 ≤ sumFrom E.v M j ∧ sumFrom E.v M j ≤ 4294967296 := by rw [sf]; omega
    clear sf
    clear j1 j2 j3
    by_cases hlt : j < k
    · obtain ⟨n0, n1, n2, n3, n4, n5, n6⟩ := NOK.out j hlt
      obtain ⟨r0, r1, r2⟩ := NIN.out j hlt
      obtain ⟨m0, m1, m2, m3, m4, m5, m6⟩ := NOQ.out j hlt
      clear n0 m0 r0 n5 n6 m5 m6
      obtain ⟨b1, off1, rfl, lb1, D1⟩ := hD17.out.get (by omega)
      obtain ⟨b2, off2, rfl, lb2, D2⟩ := hD27.out.get (by omega)
      obtain ⟨bm, offm, rfl, lbm, Dm⟩ := ints_get HM7.out (by omega)
      obtain ⟨d10, d11, d12⟩ := D1 j hlt
      obtain ⟨d20, d21, d22⟩ := D2 j hlt
      have dm := Dm j hlt
      clear D1 D2 Dm
      have d10' : W7.cell? ⟨b1, off1 + j * 3, none⟩ = some (.int .i64 (M j)) := d10
      have d20' : W7.cell? ⟨b2, off2 + j * 3, none⟩ = some (.int .i64 (M j)) := d20
      have d11' : W7.cell? ⟨b1, off1 + j * 3 + 1, none⟩ = some (.int .i64 (c.least (c.potAt p M j) (M j))) := d11
      have d12' : W7.cell? ⟨b1, off1 + j * 3 + 2, none⟩ = some (.int .i64 (c.most (c.potAt p M j) (M j))) := d12
      have d21' : W7.cell? ⟨b2, off2 + j * 3 + 1, none⟩ = some (.int .i64 (c.least (c.potAt q M j) (M j))) := d21
      have d22' : W7.cell? ⟨b2, off2 + j * 3 + 2, none⟩ = some (.int .i64 (c.most (c.potAt q M j) (M j))) := d22
      clear d10 d11 d12 d20 d21 d22
      have HSL := Lib.hid (show sumLo c p M (j + 1) = sumLo c p M j + c.least (c.potAt p M j) (M j) from rfl)
      have HSH := Lib.hid (show sumHi c p M (j + 1) = sumHi c p M j + c.most (c.potAt p M j) (M j) from rfl)
      have HSV := Lib.hid (show sumFrom E.v M (j + 1) = sumFrom E.v M j + M j from rfl)
      generalize c.least (c.potAt p M j) (M j) = l1 at *
      generalize c.most (c.potAt p M j) (M j) = h1 at *
      generalize c.least (c.potAt q M j) (M j) = l2 at *
      generalize c.most (c.potAt q M j) (M j) = h2 at *
      obtain ⟨Mj0, Mj⟩ := MJ.out j hlt
      clear p0 p1 p2 f0 f1 f2 fl g0 g1 g2 gl s0 s1
      go_wp2_with fail
      have bxN := box3_of (gw W7 x) (M j) l2 h2 41
      rw [gw_size] at bxN
      have B79 := thru (below_alloc (gw W7 x) (.cells #[.int .i64 (M j), .int .i64 l2, .int .i64 h2] 41)) (below_gw W7 x)
      generalize (gw W7 x).alloc (.cells #[.int .i64 (M j), .int .i64 l2, .int .i64 h2] 41) = W9 at *
      have u10 := (B79.cell (p := ⟨b1, off1 + j * 3, none⟩) lb1).trans d10'
      have u11 := (B79.cell (p := ⟨b1, off1 + j * 3 + 1, none⟩) lb1).trans d11'
      have u12 := (B79.cell (p := ⟨b1, off1 + j * 3 + 2, none⟩) lb1).trans d12'
      have um := (B79.cell (p := ⟨bm, offm + j, none⟩) lbm).trans dm
      have lb1' : b1 < W9.heap.size := Nat.lt_of_lt_of_le lb1 B79.size
      have lbm' : bm < W9.heap.size := Nat.lt_of_lt_of_le lbm B79.size
      obtain ⟨x0, x1, x2, xl⟩ := bxN
      have HB79 := Lib.hid B79
      clear d10' d11' d12' d20' d21' d22' dm B79 lb1 lb2 lbm
      generalize W7.heap.size + x.bs.size = BN at *
      refine wp_region_gw (by kernel_rfl) (by kernel_rfl) ?_
      repeat (go_big_quiet_step ((go_at_call 20; exact Calls.gw_of (inside_t _ _ _ _ _ (by omega) (by omega) (by omega)))))
      refine wpQuiet_nil ?_
      rintro _ ⟨z, rfl⟩
      go_wp2_with fail
      refine wp_region_gw2 (by kernel_rfl) (by kernel_rfl) ?_
      repeat (go_big_quiet_step (fail))
      refine wpQuiet_nil ?_
      rintro _ ⟨z2, rfl⟩
      go_wp2_with fail
      go_roundw
      case rel =>
        obtain ⟨y9, hy9⟩ := gw_of_below (thru (below_gw W9 z2) HB79.out)
        exact ⟨j + 1, by omega, by go_num, by rw [HSL.out], by rw [HSH.out], by rw [HSV.out], y9, hy9⟩
      case measure => simp [intOf]; omega
    · obtain rfl : k = j := by omega
      obtain ⟨q1, q2, q3, _⟩ := HSK.out
      have v1 : (sumFrom E.v M k == p.v) = true := by rw [HSF.out]; simp; omega
      have v2 : sumLo c p M k + E.lo ≤ p.hi := by omega
      have v3 : p.lo ≤ sumHi c p M k + E.hi := by omega
      clear q1 q2 q3
      go_wp2_with fail
      refine (alive_any _).mono ?_
      rintro e w1 ⟨rfl, hb⟩
      have HB := Lib.hid (thru hb (LOW7.out.gw x)); clear hb
      go_wp2_with fail
      go_ret
      exact ⟨rfl, HB.out⟩

theorem narrower_any (aL aV aM : Option Addr) (n m k cL cV cM : Nat) (L A B M : Nat → Int) (v lo hi a b : Int) (w : World) (hn : n ≤ 9223372036854775807) (hm : m ≤ 9223372036854775807) (hk : k ≤ 9223372036854775807) (hL : IntsAt w aL n L) (hV : SpansAt w aV m A B) (hM : IntsAt w aM k M)
    (ha : 0 ≤ a ∧ a ≤ 4294967295) (hb : 0 ≤ b ∧ b ≤ 4294967295) :
    Calls Try.prog 3 #[.agg #[.slice aL n cL, .slice aV m cV], .agg #[.int .i64 v, .int .i64 lo, .int .i64 hi], .slice aM k cM, .int .u32 a, .int .u32 b] w (True1 w) := by
  cases h : longB n m k with
  | true => exact narrower_long aL aV aM n m k cL cV cM v lo hi a b w hn hm hk h
  | false =>
    by_cases hx : runErr m ⟨n, L, A, B⟩ ⟨v, lo, hi⟩ M k = 0
    · exact narrower_ok aL aV aM m k cL cV cM ⟨n, L, A, B⟩ ⟨v, lo, hi⟩ M a b w h hL hV hM hx ha hb
    · exact narrower_err aL aV aM m k cL cV cM ⟨n, L, A, B⟩ ⟨v, lo, hi⟩ M a b w h hL hV hM _ rfl hx
end Go.Proofs.Ytnmldophadanbaa
