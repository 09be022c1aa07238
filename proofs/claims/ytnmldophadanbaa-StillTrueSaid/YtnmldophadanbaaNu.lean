/- StillTrue: the walk of the law. No conditions beyond each theorem's own. -/
import Derived.Test.YtnmldophadanbaaNt
import Derived.Test.YtnmldophadanbaaGh
set_option linter.unusedVariables false
set_option linter.unusedSimpArgs false
set_option linter.unusedSectionVars false
set_option linter.constructorNameAsVariable false
namespace Go.Proofs.Ytnmldophadanbaa
open Go.RowKit

attribute [local go_sem] gw_cell gw_frozen gw_size

/-- is one of the lists, or the pot, greater than the statement looks at? -/
def trueG (n m k ny : Nat) (v : Int) : Prop := 12 < n ∨ 12 < m ∨ 6 < k ∨ ny = 0 ∨ 3000 < v

section
variable (aL aV aM aY : Option Addr) (cL cV cM cY ny k : Nat) (c : Crv) (p : Pot3) (M Y : Nat → Int) (w : World)

set_option maxRecDepth 100000 in
set_option maxHeartbeats 4000000 in
theorem true_out (m : Nat) (hn : c.n ≤ 9223372036854775807) (hm : m ≤ 9223372036854775807) (hk : k ≤ 9223372036854775807) (hny : ny ≤ 9223372036854775807) (h : trueG c.n m k ny p.v) :
    Calls Try.prog 5 #[.agg #[.slice aL c.n cL, .slice aV m cV], .agg #[.int .i64 p.v, .int .i64 p.lo, .int .i64 p.hi], .slice aM k cM, .slice aY ny cY] w (True1 w) := by
  obtain ⟨W2, hW2⟩ : ∃ W2, (w.alloc (.cells #[.slice aL c.n cL, .slice aV m cV] 25)).alloc (.cells #[.int .i64 p.v, .int .i64 p.lo, .int .i64 p.hi] 29) = W2 := ⟨_, rfl⟩
  have nb : NB w W2 aL aV c.n m cL cV p.v p.lo p.hi := by rw [← hW2]; exact nb_of w aL aV c.n m cL cV p.v p.lo p.hi _ _
  have HW2 := Lib.hid hW2; clear hW2
  have NB2 := Lib.hid nb
  obtain ⟨c0, c1, p0, p1, p2, _, _⟩ := nb
  have s0 := NB2.out.s0
  have s1 := NB2.out.s1
  have LOW := Lib.hid NB2.out.low
  by_cases h1 : 12 < c.n
  · clear h
    go_enter Try.func5, Try.ntmps5
    go_wp2_with fail
    rw [HW2.out]
    refine (alive_any _).mono ?_
    rintro e w1 ⟨rfl, hb⟩
    have HB := Lib.hid (thru hb LOW.out); clear hb
    go_wp2_with fail
    go_ret
    exact ⟨rfl, HB.out⟩
  · by_cases h2 : 12 < m
    · clear h
      go_enter Try.func5, Try.ntmps5
      go_wp2_with fail
      rw [HW2.out]
      refine (alive_any _).mono ?_
      rintro e w1 ⟨rfl, hb⟩
      have HB := Lib.hid (thru hb LOW.out); clear hb
      go_wp2_with fail
      go_ret
      exact ⟨rfl, HB.out⟩
    · by_cases h3 : 6 < k
      · clear h
        go_enter Try.func5, Try.ntmps5
        go_wp2_with fail
        rw [HW2.out]
        refine (alive_any _).mono ?_
        rintro e w1 ⟨rfl, hb⟩
        have HB := Lib.hid (thru hb LOW.out); clear hb
        go_wp2_with fail
        go_ret
        exact ⟨rfl, HB.out⟩
      · by_cases h4 : ny = 0
        · clear h
          subst h4
          go_enter Try.func5, Try.ntmps5
          go_wp2_with fail
          rw [HW2.out]
          refine (alive_any _).mono ?_
          rintro e w1 ⟨rfl, hb⟩
          have HB := Lib.hid (thru hb LOW.out); clear hb
          go_wp2_with fail
          go_ret
          exact ⟨rfl, HB.out⟩
        · have h5 : 3000 < p.v := by unfold trueG at h; omega
          have h6 : ((ny : Int) == 0) = false := by simp; omega
          clear h
          go_enter Try.func5, Try.ntmps5
          go_wp2_with fail
          rw [HW2.out]
          refine (alive_any _).mono ?_
          rintro e w1 ⟨rfl, hb⟩
          have HB := Lib.hid (thru hb LOW.out); clear hb
          go_wp2_with fail
          go_ret
          exact ⟨rfl, HB.out⟩

set_option maxRecDepth 100000 in
set_option maxHeartbeats 4000000 in
theorem true_err (m : Nat) (hn : c.n ≤ 12) (hm : m ≤ 12) (hk : k ≤ 6) (hny : ny ≤ 9223372036854775807) (hy0 : 0 < ny) (hpv : p.v ≤ 3000) (hL : IntsAt w aL c.n c.L) (hV : SpansAt w aV m c.A c.B) (hM : IntsAt w aM k M) (x : Int) (hx : runErr m c p M k = x) (h0 : x ≠ 0) :
    Calls Try.prog 5 #[.agg #[.slice aL c.n cL, .slice aV m cV], .agg #[.int .i64 p.v, .int .i64 p.lo, .int .i64 p.hi], .slice aM k cM, .slice aY ny cY] w (True1 w) := by
  have hx0 : (x != 0) = true := by simpa using h0
  obtain ⟨W2, hW2⟩ : ∃ W2, (w.alloc (.cells #[.slice aL c.n cL, .slice aV m cV] 25)).alloc (.cells #[.int .i64 p.v, .int .i64 p.lo, .int .i64 p.hi] 29) = W2 := ⟨_, rfl⟩
  have nb : NB w W2 aL aV c.n m cL cV p.v p.lo p.hi := by rw [← hW2]; exact nb_of w aL aV c.n m cL cV p.v p.lo p.hi _ _
  have HL := Lib.hid (hL.below nb.low); clear hL
  have HV := Lib.hid (hV.below nb.low); clear hV
  have HM := Lib.hid (hM.below nb.low); clear hM
  have HX := Lib.hid hx; clear hx
  have HW2 := Lib.hid hW2; clear hW2
  have NB2 := Lib.hid nb
  obtain ⟨c0, c1, p0, p1, p2, _, _⟩ := nb
  have s0 := NB2.out.s0
  have s1 := NB2.out.s1
  have n1 : ¬ 12 < c.n := by omega
  have n2 : ¬ 12 < m := by omega
  have n3 : ¬ 6 < k := by omega
  have n4 : ((ny : Int) == 0) = false := by simp; omega
  have n5 : ¬ 3000 < p.v := by omega
  go_enter Try.func5, Try.ntmps5
  go_wp2_with fail
  rw [HW2.out]
  refine (Calls.grown (run_err aL aV aM m cL cV k cM c p M W2 (by omega) (by omega) (by omega) HL.out HV.out HM.out x HX.out h0)).mono ?_
  rintro e w1 ⟨rfl, y, rfl⟩
  have LOW := Lib.hid (show Below w.heap.size w ((gw W2 y).alloc (.cells #[.int .i64 0, .int .i64 0, .int .i64 0] 29)) from (NB2.out.low.gw y).alloc (NB2.out.low.gw y).size _)
  go_wp2_with fail
  refine (alive_any _).mono ?_
  rintro e w1 ⟨rfl, hb⟩
  have HB := Lib.hid (thru hb LOW.out); clear hb
  go_wp2_with fail
  go_ret
  exact ⟨rfl, HB.out⟩

/-- between two amounts of StillTrue -/
structure TrueRel (c : Crv) (p : Pot3) (M : Nat → Int) (k : Nat) (W : World) (i vo al su : Value) (wr : World) : Prop where
  ex : ∃ (j : Nat) (A S : Int), j ≤ k ∧ i = .int .i64 j ∧ vo = .int .i64 (c.potAt p M j).v ∧ al = .int .i64 A ∧ su = .int .i64 S ∧ 0 ≤ S ∧ S ≤ 300 ∧ 1000000 * (c.potAt p M j).lo ≤ A ∧ A ≤ 1000000 * (c.potAt p M j).hi ∧
    Below W.heap.size W wr ∧ wr.heap[W.heap.size]? = some (.cells #[.int .i64 (c.potAt p M j).v, .int .i64 (c.potAt p M j).lo, .int .i64 (c.potAt p M j).hi] 29 (0, 0))

set_option maxRecDepth 100000 in
set_option maxHeartbeats 16000000 in
theorem true_ok (hn : c.n ≤ 12) (hk : k ≤ 6) (hny : ny ≤ 9223372036854775807) (hy0 : 0 < ny) (hpv : p.v ≤ 3000) (hL : IntsAt w aL c.n c.L) (hV : SpansAt w aV c.n c.A c.B) (hM : IntsAt w aM k M) (hY : NumsAt .u32 w aY ny Y) (hrY : ∀ i, i < ny → 0 ≤ Y i ∧ Y i ≤ 4294967295) (hr : runErr c.n c p M k = 0) :
    Calls Try.prog 5 #[.agg #[.slice aL c.n cL, .slice aV c.n cV], .agg #[.int .i64 p.v, .int .i64 p.lo, .int .i64 p.hi], .slice aM k cM, .slice aY ny cY] w (True1 w) := by
  obtain ⟨hE, k64, _, g, hp, hgo, hok⟩ := run_zero hr
  have hcv : curveB c.n c.n c.L c.A c.B = true ∧ potB p.v p.lo p.hi = true := by
    unfold earlyE at hE
    rw [if_neg (by omega)] at hE
    split at hE
    · rename_i hc; simpa using hc
    · omega
  obtain ⟨yb, yo, rfl, _, _⟩ := nums_get hY hy0
  obtain ⟨W2, hW2⟩ : ∃ W2, (w.alloc (.cells #[.slice aL c.n cL, .slice aV c.n cV] 25)).alloc (.cells #[.int .i64 p.v, .int .i64 p.lo, .int .i64 p.hi] 29) = W2 := ⟨_, rfl⟩
  have nb : NB w W2 aL aV c.n c.n cL cV p.v p.lo p.hi := by rw [← hW2]; exact nb_of w aL aV c.n c.n cL cV p.v p.lo p.hi _ _
  have HL := Lib.hid (hL.below nb.low); clear hL
  have HV := Lib.hid (hV.below nb.low); clear hV
  have HM := Lib.hid (hM.below nb.low); clear hM
  have HY := Lib.hid (hY.below nb.low); clear hY
  have HRY := Lib.hid hrY; clear hrY
  have G := Lib.hid g; clear g
  have OK := Lib.hid hok; clear hok
  have GO := Lib.hid hgo; clear hgo
  have EE := Lib.hid hE; clear hE
  have P := Lib.hid hp
  obtain ⟨pp0, pp1, pp2, pp3⟩ := hp
  have H1 := Lib.hid hcv.1
  have H2 := Lib.hid hcv.2
  clear hcv
  have HRN := Lib.hid hr; clear hr
  have HW2 := Lib.hid hW2; clear hW2
  have NB2 := Lib.hid nb
  obtain ⟨c0, c1, p0, p1, p2, _, _⟩ := nb
  have s0 := NB2.out.s0
  have s1 := NB2.out.s1
  have n1 : ¬ 12 < c.n := by omega
  have n2 : ¬ 12 < c.n := by omega
  have n3 : ¬ 6 < k := by omega
  have n4 : ((ny : Int) == 0) = false := by simp; omega
  have n5 : ¬ 3000 < p.v := by omega
  go_enter Try.func5, Try.ntmps5
  go_wp2_with fail
  rw [HW2.out]
  refine (run_ok aL aV aM c.n cL cV k cM c p M W2 (by omega) (by omega) HL.out HV.out HM.out HRN.out).mono ?_
  rintro e w3 ⟨vl, rfl, hown, hb3⟩
  obtain ⟨a1, cap1, rfl, hD⟩ := drawn_of_own hown
  clear hown
  have B23 := Lib.hid hb3; clear hb3
  obtain ⟨E, hE⟩ : ∃ E, E = c.potAt p M k := ⟨_, rfl⟩
  rw [← hE]
  clear hE
  obtain ⟨W4, hW4⟩ : ∃ W4, w3.alloc (.cells #[.int .i64 E.v, .int .i64 E.lo, .int .i64 E.hi] 29) = W4 := ⟨_, rfl⟩
  have B34 : Below w3.heap.size w3 W4 := by rw [← hW4]; exact below_alloc _ _
  have B24 := Lib.hid (thru B34 B23.out)
  have HD4 := Lib.hid (hD.below B34); clear hD
  have NB4 := Lib.hid (NB2.out.below B24.out)
  have HW4 := Lib.hid hW4
  clear hW4 B34 c0 c1 p0 p1 p2 s0 s1
  obtain ⟨yb4, dy4⟩ := nums_cell (HY.out.below B24.out) 0 hy0
  have y0 := HRY.out 0 hy0
  simp only [Nat.add_zero] at dy4
  go_upto_region 6 with (fail)
  rw [HW4.out]
  have s0 := NB4.out.s0
  have s1 := NB4.out.s1
  obtain ⟨c0, c1, p0, p1, p2, _, _⟩ := NB4.out
  go_wp2_with fail
  refine (Calls.grown (rcurve_b aL aV c.n c.n cL cV c.L c.A c.B W4 (by omega) (by omega) (HL.out.below B24.out) (HV.out.below B24.out) H1.out)).mono ?_
  rintro e w1 ⟨rfl, x1, rfl⟩
  go_wp2_with fail
  refine (Calls.gw_of (rpot_b _ _ _ _ H2.out)).mono ?_
  rintro e w1 ⟨rfl, x2, rfl⟩
  have ir := innerI_range (b := Y 0) pp1
  go_upto_region 8 with (fail)
  refine wp_region_gw2 (by kernel_rfl) (by kernel_rfl) ?_
  repeat (go_big_quiet_step ((go_at_call 19; exact Calls.gw_of (inner_any _ _ _ _ (by omega) (by omega) (by omega) (by omega) (by omega)))))
  refine wpQuiet_nil ?_
  rintro _ ⟨z, rfl⟩
  obtain ⟨W5, hW5⟩ : ∃ W5, gw W4 z = W5 := ⟨_, rfl⟩
  have B45 : Below W4.heap.size W4 W5 := by rw [← hW5]; exact below_gw W4 z
  have B25 := Lib.hid (thru B45 B24.out)
  have NB5 := Lib.hid (NB4.out.below B45)
  have HD5 := Lib.hid (HD4.out.below B45)
  have LOW5 := Lib.hid (thru B25.out NB2.out.low)
  have HW5 := Lib.hid hW5
  clear hW5 B45 c0 c1 p0 p1 p2 s0 s1
  rw [HW5.out]
  have s0 := NB5.out.s0
  have s1 := NB5.out.s1
  obtain ⟨c0, c1, p0, p1, p2, _, _⟩ := NB5.out
  go_wp2_with fail
  clear c0 c1 p0 p1 p2 s0 s1
  go_loopw [92, 12, 13, 14] (fun i vo al su wr => TrueRel c p M k W5 i vo al su wr) (fun i _ _ _ _ => k - (intOf i).toNat)
  case atStart => exact ⟨⟨0, 1000000 * innerI p.lo p.hi (Y 0), 0, Nat.zero_le _, rfl, rfl, rfl, rfl, by omega, by omega, by (show 1000000 * p.lo ≤ _; omega), by (show _ ≤ 1000000 * p.hi; omega), below_alloc W5 _, World.alloc_heap_new W5 _⟩⟩
  case round =>
    obtain ⟨⟨j, A, S, hj, rfl, rfl, rfl, rfl, S0, S1, A1, A2, hb5, hbox⟩⟩ := hrel
    have LOWr := Lib.hid (thru hb5 LOW5.out)
    have B5r := Lib.hid hb5
    have NBr := Lib.hid (NB5.out.below hb5)
    have szr := (Array.getElem?_eq_some_iff.1 hbox).1
    have BOX := Lib.hid hbox
    clear hb5 hbox
    by_cases hlt : j < k
    · obtain ⟨b, off, rfl, lb, hD⟩ := HD5.out.get (by omega)
      obtain ⟨bm, offm, rfl, lm, hMm⟩ := ints_get (HM.out.below B25.out) (by omega)
      obtain ⟨d0, d1, d2⟩ := hD j hlt
      have dm := below_cell' B5r.out (hMm j hlt)
      have lm2 : bm < wr.heap.size := by omega
      have d1r := below_cell' B5r.out d1
      have d2r := below_cell' B5r.out d2
      have lb2 : b < wr.heap.size := by omega
      have D1 := Lib.hid d1
      have D2 := Lib.hid (show W5.cell? ⟨b, off + j * 3 + 1 + 1, none⟩ = _ from d2)
      clear hD hMm d0 d1 d2
      have he := GO.out j hlt
      have hpj := OK.out j (by omega)
      have hed := errD_zero (show errD (c.potAt p M j) (M j) = 0 from he)
      have hd1 := inB_t.1 hed.1
      obtain ⟨D, hDd⟩ : ∃ D : Nat, M j = D := ⟨(M j).toNat, by omega⟩
      have RN1 := Lib.hid (show runErr c.n c (c.potAt p M j) (fun _ => M j) 1 = 0 from zero_run (early_ok EE.out hpj (by omega)) fun t ht => by
        obtain rfl : t = 0 := by omega
        exact he)
      have NX1 := Lib.hid (show c.potAt (c.potAt p M j) (fun _ => M j) 1 = c.potAt p M (j + 1) from rfl)
      have OUT := Lib.hid (show c.outAt (c.potAt p M j) (fun _ => M j) 0 = c.outAt p M j from rfl)
      have NV := Lib.hid (show (c.potAt p M (j + 1)).v = (c.potAt p M j).v - M j from rfl)
      have GT := Lib.hid (fun A' (hr : GRun c (c.potAt p M j).v A D A') => show (1000000 * (c.outAt p M j).lo ≤ A - A' ∧ A - A' ≤ 1000000 * (c.outAt p M j).hi) ∧ 1000000 * (c.potAt p M (j + 1)).lo ≤ A' ∧ A' ≤ 1000000 * (c.potAt p M (j + 1)).hi from ground_true G.out hpj he A1 A2 hDd.symm hr)
      have PJ := Lib.hid hpj
      have nx := (next_ok G.out hpj (show errD (c.potAt p M j) (M j) = 0 from he)).1
      have NXB := Lib.hid (show (c.potAt p M (j + 1)).ok from nx)
      have pb : (c.potAt p M j).v ≤ 3000 := by
        have : ∀ t : Nat, t ≤ k → (c.potAt p M t).v ≤ 3000 := by
          intro t
          induction t with
          | zero => intro _; exact hpv
          | succ t ih =>
            intro ht
            have := ih (by omega)
            have h2 := inB_t.1 (errD_zero (show errD (c.potAt p M t) (M t) = 0 from GO.out t (by omega))).1
            show (c.potAt p M t).v - M t ≤ 3000
            omega
        exact this j hj
      obtain ⟨q0, q1, q2, q3⟩ := hpj
      clear he nx
      rw [hDd] at RN1 NX1 OUT NV dm hed hd1
      have HMJ := Lib.hid hDd; clear hDd
      obtain ⟨X, hX⟩ : ∃ X, c.outAt p M j = X := ⟨_, rfl⟩
      rw [hX] at d1r d2r GT OUT D1 D2
      obtain ⟨Pj, hPj⟩ : ∃ Pj, c.potAt p M j = Pj := ⟨_, rfl⟩
      obtain ⟨Pn, hPn⟩ : ∃ Pn, c.potAt p M (j + 1) = Pn := ⟨_, rfl⟩
      rw [hPj] at RN1 NX1 OUT NV GT PJ pb q0 q1 q2 q3 hed BOX A1 A2 ⊢
      rw [hPn] at NX1 NV GT NXB
      have HPN := Lib.hid hPn
      obtain ⟨n0, n1', n2', n3'⟩ := NXB.out
      clear hX hPj hPn
      have hDv : (D : Int) ≤ Pj.v := hed.2
      have xr : 0 ≤ X.lo ∧ X.lo ≤ X.hi ∧ X.hi ≤ 1073741824 := by
        have n := next_ok G.out PJ.out (show errD Pj (D : Int) = 0 by unfold errD; rw [if_pos hed.1, if_pos hDv])
        rw [← OUT.out]
        exact ⟨n.2.1, n.2.2.1, Int.le_trans n.2.2.2.2.1 (Int.le_trans q2 q3)⟩
      clear hed
      have e1 : (Pn.v == Pj.v - (D : Int)) = true := by rw [NV.out]; simp
      have e2 : (Pn.v != Pj.v - (D : Int)) = false := by rw [NV.out]; simp
      have j0 : (0 : Int) ≤ j := by omega
      have s0 := NBr.out.s0
      obtain ⟨c0, c1, _, _, _, _, _⟩ := NBr.out
      by_cases hs : 300 < S + D
      · go_wp2_with fail
        refine (alive_any _).mono ?_
        rintro e w1 ⟨rfl, hb⟩
        have HB := Lib.hid (thru hb LOWr.out); clear hb
        go_wp2_with fail
        go_ret
        exact ⟨rfl, HB.out⟩
      · go_wp2_with fail
        refine (ground_any aL aV (some ⟨yb, yo, none⟩) cL cV ny cY D c Pj.v A Y wr G.out ((HL.out.below B25.out).below B5r.out) ((HV.out.below B25.out).below B5r.out) ((HY.out.below B25.out).below B5r.out) HRY.out hy0 hny hDv pb (by omega) (by omega)).mono ?_
        rintro e u ⟨he, hbu⟩
        have BU := Lib.hid hbu; clear hbu
        rcases he with rfl | ⟨A', rfl, hrun⟩
        · clear c0 c1 s0 e1 e2 dm d1r d2r
          go_wp2_with fail
          refine (alive_any _).mono ?_
          rintro e w1 ⟨rfl, hb⟩
          have HB := Lib.hid (thru hb (thru BU.out LOWr.out)); clear hb
          go_wp2_with fail
          go_ret
          exact ⟨rfl, HB.out⟩
        · obtain ⟨⟨o1, o2⟩, o3, o4⟩ := GT.out A' hrun
          have B5u := Lib.hid (thru BU.out B5r.out)
          have szu : W5.heap.size < u.heap.size := by have := BU.out.size; omega
          have bxu := (BU.out.block _ szr).trans BOX.out
          have NBu := Lib.hid (NB5.out.below B5u.out)
          clear c0 c1 s0 d1r d2r dm
          have s0 := NBu.out.s0
          obtain ⟨c0, c1, _, _, _, _, _⟩ := NBu.out
          have t0 : u.cell? ⟨W5.heap.size, 0, none⟩ = some (.int .i64 Pj.v) := cell_of_block bxu 0 (by simp)
          have t1 : u.cell? ⟨W5.heap.size, 1, none⟩ = some (.int .i64 Pj.lo) := cell_of_block bxu 1 (by simp)
          have t2 : u.cell? ⟨W5.heap.size, 2, none⟩ = some (.int .i64 Pj.hi) := cell_of_block bxu 2 (by simp)
          have BXU := Lib.hid bxu; clear bxu
          obtain ⟨o, ho⟩ : ∃ o, A - A' = o := ⟨_, rfl⟩
          have hA' : A' = A - o := by omega
          rw [hA'] at o3 o4 hrun
          have hrr : A - (A - o) = o := by omega
          rw [hA'] at o1 o2 ⊢
          rw [hrr] at o1 o2 ⊢
          clear hrr hA' ho hrun
          go_upto_region 19 with (fail)
          go_wp2_with fail
          refine (drawF_ok aL aV c.n cL cV c Pj D u (by omega) (by omega) ((HL.out.below B25.out).below B5u.out) ((HV.out.below B25.out).below B5u.out) RN1.out X Pn OUT.out.symm NX1.out.symm).mono ?_
          rintro e u2 ⟨rfl, hb2⟩
          obtain ⟨V6, hV6⟩ : ∃ V6, (u2.alloc (.cells #[.int .i64 X.d, .int .i64 X.lo, .int .i64 X.hi] 41)).alloc (.cells #[.int .i64 Pn.v, .int .i64 Pn.lo, .int .i64 Pn.hi] 29) = V6 := ⟨_, rfl⟩
          have k6 : V6.heap[u2.heap.size + 1]? = some (.cells #[.int .i64 Pn.v, .int .i64 Pn.lo, .int .i64 Pn.hi] 29 (0, 0)) := by rw [← hV6]; have := World.alloc_heap_new (u2.alloc (.cells #[.int .i64 X.d, .int .i64 X.lo, .int .i64 X.hi] 41)) (.cells #[.int .i64 Pn.v, .int .i64 Pn.lo, .int .i64 Pn.hi] 29); rwa [World.size_alloc] at this
          have b26 : Below u2.heap.size u2 V6 := by rw [← hV6]; exact (below_alloc _ _).alloc (by simp) _
          have Bu6 := Lib.hid (thru b26 hb2)
          have B56 := Lib.hid (thru Bu6.out B5u.out)
          have bx6 := (Bu6.out.block _ szu).trans BXU.out
          have v0 : V6.cell? ⟨W5.heap.size, 0, none⟩ = some (.int .i64 Pj.v) := cell_of_block bx6 0 (by simp)
          have v1 : V6.cell? ⟨W5.heap.size, 1, none⟩ = some (.int .i64 Pj.lo) := cell_of_block bx6 1 (by simp)
          have v2 : V6.cell? ⟨W5.heap.size, 2, none⟩ = some (.int .i64 Pj.hi) := cell_of_block bx6 2 (by simp)
          have w0 := frozen_of_block bx6 0
          have w1 := frozen_of_block bx6 1
          have w2 := frozen_of_block bx6 2
          have g0 : V6.cell? ⟨u2.heap.size + 1, 0, none⟩ = some (.int .i64 Pn.v) := cell_of_block k6 0 (by simp)
          have g1 : V6.cell? ⟨u2.heap.size + 1, 1, none⟩ = some (.int .i64 Pn.lo) := cell_of_block k6 1 (by simp)
          have g2 : V6.cell? ⟨u2.heap.size + 1, 2, none⟩ = some (.int .i64 Pn.hi) := cell_of_block k6 2 (by simp)
          have d1v := below_cell' (thru Bu6.out (thru BU.out B5r.out)) D1.out
          have d2v := below_cell' (thru Bu6.out (thru BU.out B5r.out)) D2.out
          have HV6 := Lib.hid hV6
          have BX6 := Lib.hid bx6
          clear hV6 b26 hb2 k6 bx6 c0 c1 s0 t0 t1 t2
          go_upto_region 20 with (fail)
          rw [HV6.out]
          go_wp2_with fail
          go_roundw
          case rel => exact ⟨⟨j + 1, A - o, S + D, by omega, by go_num, by rw [HPN.out, NV.out], rfl, rfl, by omega, by omega, by rw [HPN.out]; exact o3, by rw [HPN.out]; exact o4, ((B56.out.setCell (Nat.le_refl _) _).setCell (Nat.le_refl _) _).setCell (Nat.le_refl _) _, by rw [HPN.out]; exact block_set3 BX6.out _ _ _⟩⟩
          case measure => simp [intOf]; omega
    · obtain rfl : k = j := by omega
      go_wp2_with fail
      refine (alive_any _).mono ?_
      rintro e w1 ⟨rfl, hb⟩
      have HB := Lib.hid (thru hb LOWr.out); clear hb
      go_wp2_with fail
      go_ret
      exact ⟨rfl, HB.out⟩
end
theorem true_any (aL aV aM aY : Option Addr) (n m k cL cV cM ny cY : Nat) (L A B M Y : Nat → Int) (v lo hi : Int) (w : World) (hn : n ≤ 9223372036854775807) (hm : m ≤ 9223372036854775807) (hk : k ≤ 9223372036854775807) (hny : ny ≤ 9223372036854775807) (hL : IntsAt w aL n L) (hV : SpansAt w aV m A B) (hM : IntsAt w aM k M) (hY : NumsAt .u32 w aY ny Y) (hrY : ∀ i, i < ny → 0 ≤ Y i ∧ Y i ≤ 4294967295) :
    Calls Try.prog 5 #[.agg #[.slice aL n cL, .slice aV m cV], .agg #[.int .i64 v, .int .i64 lo, .int .i64 hi], .slice aM k cM, .slice aY ny cY] w (True1 w) := by
  by_cases h : trueG n m k ny v
  · exact true_out aL aV aM aY cL cV cM cY ny k ⟨n, L, A, B⟩ ⟨v, lo, hi⟩ w m hn hm hk hny h
  · have h' : n ≤ 12 ∧ m ≤ 12 ∧ k ≤ 6 ∧ 0 < ny ∧ v ≤ 3000 := by unfold trueG at h; omega
    obtain ⟨q1, q2, q3, q4, q5⟩ := h'
    by_cases hx : runErr m ⟨n, L, A, B⟩ ⟨v, lo, hi⟩ M k = 0
    · have hm' : m = n := (run_zero hx).2.2.1
      subst hm'
      exact true_ok aL aV aM aY cL cV cM cY ny k ⟨m, L, A, B⟩ ⟨v, lo, hi⟩ M Y w q1 q3 hny q4 q5 hL hV hM hY hrY hx
    · exact true_err aL aV aM aY cL cV cM cY ny k ⟨n, L, A, B⟩ ⟨v, lo, hi⟩ M w m q1 q2 q3 hny q4 q5 hL hV hM _ rfl hx
end Go.Proofs.Ytnmldophadanbaa
