/- StillOwns: the walk of the law. No conditions beyond each theorem's own. -/
import Derived.Test.YtnmldophadanbaaNw
set_option linter.unusedVariables false
set_option linter.unusedSimpArgs false
set_option linter.unusedSectionVars false
set_option linter.constructorNameAsVariable false
namespace Go.Proofs.Ytnmldophadanbaa
open Go.RowKit

attribute [local go_sem] gw_cell gw_frozen gw_size

theorem infoSp : (Try.prog.info? 27).map (fun i => (i.zero, i.size, i.bytes)) = some (some (.agg #[.int .i64 0, .int .i64 0]), 2, 16) := by kernel_rfl

/-- what the three copies leave -/
structure Copied3 (n m k : Nat) (L A B M : Nat → Int) (W : World) (s7 s8 s9 : Value) (wx : World) : Prop where
  c7 : wx.ownsRow W.heap.size 3 1 s7 n (intsV n L)
  c8 : wx.ownsRow W.heap.size 27 2 s8 m (spansV m A B)
  c9 : wx.ownsRow W.heap.size 3 1 s9 k (intsV k M)
  low : Below W.heap.size W wx

/-- one row may be overwritten -/
structure Scr (e : TypeId) (K : Nat) (a1 : Option Addr) (row : Option Nat) (W wr : World) : Prop where
  gr : W.grownBy wr row
  blk : 0 < K → ∃ g cur, a1 = some ⟨g, 0, none⟩ ∧ wr.heap[g]? = some (.cells cur e (0, 0)) ∧ K * 3 ≤ cur.size
theorem scr_start {e : TypeId} {K ca base : Nat} {a1 : Option Addr} {xs : List Value} {W : World} (h : W.ownsRow base e 3 (.slice a1 K ca) K xs) : Scr e K a1 (Value.slice a1 K ca).ownBlock W W := by
  refine ⟨⟨rfl, rfl, rfl, Nat.le_refl _, fun _ _ _ => rfl⟩, fun hK => ?_⟩
  rcases h.2 with ⟨h1, h2⟩ | ⟨g, cap, cur, h1, _, h3, h4, _, h6, _⟩
  · omega
  · cases h1
    exact ⟨g, cur, rfl, h3, by omega⟩
theorem Scr.set3 {e : TypeId} {K ca g : Nat} {a1 : Option Addr} {W wr : World} (h : Scr e K a1 (Value.slice a1 K ca).ownBlock W wr) (ha : a1 = some ⟨g, 0, none⟩) (q : Nat) (x y z : Value) :
    Scr e K a1 (Value.slice a1 K ca).ownBlock W (((wr.setCell ⟨g, q, none⟩ x).setCell ⟨g, q + 1, none⟩ y).setCell ⟨g, q + 2, none⟩ z) := by
  subst ha
  refine ⟨grownBy_trans h.gr (grownBy_trans (grownBy_trans (grownBy_set wr g q x) (grownBy_set _ g (q + 1) y)) (grownBy_set _ g (q + 2) z)), fun hK => ?_⟩
  obtain ⟨g', cur, e1, h2, h3⟩ := h.blk hK
  cases e1
  exact ⟨g, _, rfl, block_set (q + 2) z (block_set (q + 1) y (block_set q x h2)), by simpa using h3⟩

set_option maxRecDepth 100000 in
set_option maxHeartbeats 16000000 in
theorem owns_any (aL aV aM : Option Addr) (n m k cL cV cM : Nat) (L A B M : Nat → Int) (v lo hi : Int) (w : World) (hn : n ≤ 9223372036854775807) (hm : m ≤ 9223372036854775807) (hk : k ≤ 9223372036854775807) (hL : IntsAt w aL n L) (hV : SpansAt w aV m A B) (hM : IntsAt w aM k M) :
    Calls Try.prog 12 #[.agg #[.slice aL n cL, .slice aV m cV], .agg #[.int .i64 v, .int .i64 lo, .int .i64 hi], .slice aM k cM] w (True1 w) := by
  obtain ⟨W1, hW1⟩ : ∃ W1, (w.alloc (.cells #[.slice aL n cL, .slice aV m cV] 25)).alloc (.cells #[.int .i64 v, .int .i64 lo, .int .i64 hi] 29) = W1 := ⟨_, rfl⟩
  have nb : NB w W1 aL aV n m cL cV v lo hi := by rw [← hW1]; exact nb_of w aL aV n m cL cV v lo hi _ _
  have CU := Lib.hid (show CurIn W1 aL aV n m L A B from ⟨hL.below nb.low, hV.below nb.low⟩); clear hL hV
  have HM := Lib.hid (hM.below nb.low); clear hM
  have HW1 := Lib.hid hW1; clear hW1
  have NB1 := Lib.hid nb
  have s0 := nb.s0
  have s1 := nb.s1
  obtain ⟨c0, c1, p0, p1, p2, _, _⟩ := nb
  cases h : longB n m k with
  | true =>
    have H := Lib.hid h; clear h
    go_enter Try.func12, Try.ntmps12
    go_wp2_with fail
    rw [HW1.out]
    refine (long_b _ _ _ _ _ _ _ _ _ _ hn hm hk H.out).mono ?_
    rintro e w1 ⟨rfl, x, rfl⟩
    go_wp2_with fail
    refine (alive_any _).mono ?_
    rintro e w1 ⟨rfl, hb⟩
    have HB := Lib.hid (thru hb (NB1.out.low.gw x)); clear hb
    go_wp2_with fail
    go_ret
    exact ⟨rfl, HB.out⟩
  | false =>
    obtain ⟨k1, k2, k3⟩ := longB_f h
    have H := Lib.hid h; clear h
    obtain ⟨i0, hi0, hz0, hz1, hz2⟩ := info_parts infoI
    have I0 := Lib.hid hi0; clear hi0
    have IZ0 := Lib.hid hz0; clear hz0
    have IZ1 := Lib.hid hz1; clear hz1
    have IZ2 := Lib.hid hz2; clear hz2
    obtain ⟨j0, hj0, hy0, hy1, hy2⟩ := info_parts infoSp
    have J0 := Lib.hid hj0; clear hj0
    have JZ0 := Lib.hid hy0; clear hy0
    have JZ1 := Lib.hid hy1; clear hy1
    have JZ2 := Lib.hid hy2; clear hy2
    go_enter Try.func12, Try.ntmps12
    go_wp2_with fail
    rw [HW1.out]
    refine (long_b _ _ _ _ _ _ _ _ _ _ hn hm hk H.out).mono ?_
    rintro e w1 ⟨rfl, x, rfl⟩
    obtain ⟨W3, hW3⟩ : ∃ W3, gw W1 x = W3 := ⟨_, rfl⟩
    have B13 := Lib.hid (show Below W1.heap.size W1 W3 by rw [← hW3]; exact below_gw W1 x)
    have HW3 := Lib.hid hW3; clear hW3
    have NB3 := Lib.hid (NB1.out.below B13.out)
    clear c0 c1 p0 p1 p2 s0 s1
    go_upto_region 3 with (fail)
    rw [HW3.out]
    have s0 := NB3.out.s0
    have s1 := NB3.out.s1
    obtain ⟨c0, c1, p0, p1, p2, _, _⟩ := NB3.out
    go_cut [7, 8, 9] (fun s7 s8 s9 wx => Copied3 n m k L A B M W3 s7 s8 s9 wx)
    case first =>
      refine wp_region_loose [false, true, true, false, false, true, true, false, false, true, false, false, false, false]
        [⟨0, 23, Empty0 W3.heap.size 3 1⟩, ⟨3, 26, fun v w => w.ownsRow W3.heap.size 3 1 v n (intsV n L)⟩, ⟨4, 27, Empty0 W3.heap.size 27 2⟩, ⟨7, 30, fun v w => w.ownsRow W3.heap.size 27 2 v m (spansV m A B)⟩,
         ⟨8, 31, Empty0 W3.heap.size 3 1⟩, ⟨10, 33, fun v w => w.ownsRow W3.heap.size 3 1 v k (intsV k M)⟩, ⟨11, 7, fun v w => w.ownsRow W3.heap.size 3 1 v n (intsV n L)⟩,
         ⟨12, 8, fun v w => w.ownsRow W3.heap.size 27 2 v m (spansV m A B)⟩, ⟨13, 9, fun v w => w.ownsRow W3.heap.size 3 1 v k (intsV k M)⟩]
        (by kernel_rfl) rfl (by kernel_rfl) (by kernel_rfl) ?_ ?_
      · intro b hb v
        simp only [List.mem_cons, List.not_mem_nil, or_false] at hb
        rcases hb with rfl | rfl | rfl | rfl | rfl | rfl | rfl | rfl | rfl <;> first | exact stable_empty | exact stable_row
      · apply Exists.intro
        refine ⟨fun S hS hx => ?_, ?_, ?_⟩
        · obtain ⟨x0, hx0⟩ := hx
          haveI : Nonempty (GrewS W3 S) := ⟨⟨x0, hx0⟩⟩
          simp only [pickM]
          repeat (go_big_quiet_step (fail))
          exact wpQuiet_nil rfl
        · intro b hb
          simp only [List.mem_cons, List.not_mem_nil, or_false] at hb
          rcases hb with rfl | rfl | rfl | rfl | rfl | rfl | rfl | rfl | rfl <;> (intro o ho a wx hbw e1 e2; injection (show some _ = some o from ho) with ho; subst ho; refine .inl ?_)
          · exact made_wp 22 3 i0 1 _ rfl Try.underlying22 I0.out IZ1.out hbw.size
          · obtain ⟨v0, h1, h2⟩ := e2 ⟨0, 23, Empty0 W3.heap.size 3 1⟩ (by simp) (List.contains_iff_mem.1 (by kernel_rfl))
            have h3 := e1 25 (List.contains_iff_mem.1 (by kernel_rfl)) (by simp)
            simp at h3
            exact copy_wp (.tmp 23) (.tmp 25) 22 3 i0 (.int .i64 0) 1 8 _ rfl rfl Try.underlying22 I0.out IZ0.out IZ1.out IZ2.out rfl (by decide) hbw.size v0 (eval_of h1) h2 _ n _ (intsV n L) (eval_of h3) (intsV_len _ _) (ints_news ((CU.out.below B13.out).below hbw).ls) (intsV_one _ _) (by unfold maxLen; omega) (by omega)
          · exact made_wp 23 27 j0 2 _ rfl Try.underlying23 J0.out JZ1.out hbw.size
          · obtain ⟨v0, h1, h2⟩ := e2 ⟨4, 27, Empty0 W3.heap.size 27 2⟩ (by simp) (List.contains_iff_mem.1 (by kernel_rfl))
            have h3 := e1 29 (List.contains_iff_mem.1 (by kernel_rfl)) (by simp)
            simp at h3
            exact copy_wp (.tmp 27) (.tmp 29) 23 27 j0 (.agg #[.int .i64 0, .int .i64 0]) 2 16 _ rfl rfl Try.underlying23 J0.out JZ0.out JZ1.out JZ2.out rfl (by decide) hbw.size v0 (eval_of h1) h2 _ m _ (spansV m A B) (eval_of h3) (spansV_len _ _ _) (spans_news ((CU.out.below B13.out).below hbw).vs) (spansV_one _ _ _) (by unfold maxLen; omega) (by omega)
          · exact made_wp 22 3 i0 1 _ rfl Try.underlying22 I0.out IZ1.out hbw.size
          · obtain ⟨v0, h1, h2⟩ := e2 ⟨8, 31, Empty0 W3.heap.size 3 1⟩ (by simp) (List.contains_iff_mem.1 (by kernel_rfl))
            have h3 := e1 32 (List.contains_iff_mem.1 (by kernel_rfl)) (by simp)
            simp at h3
            exact copy_wp (.tmp 31) (.tmp 32) 22 3 i0 (.int .i64 0) 1 8 _ rfl rfl Try.underlying22 I0.out IZ0.out IZ1.out IZ2.out rfl (by decide) hbw.size v0 (eval_of h1) h2 _ k _ (intsV k M) (eval_of h3) (intsV_len _ _) (ints_news ((HM.out.below B13.out).below hbw)) (intsV_one _ _) (by unfold maxLen; omega) (by omega)
          · obtain ⟨v0, h1, h2⟩ := e2 ⟨3, 26, fun v w => w.ownsRow W3.heap.size 3 1 v n (intsV n L)⟩ (by simp) (List.contains_iff_mem.1 (by kernel_rfl))
            exact move_wp (.tmp 26) rfl v0 (eval_of h1) h2
          · obtain ⟨v0, h1, h2⟩ := e2 ⟨7, 30, fun v w => w.ownsRow W3.heap.size 27 2 v m (spansV m A B)⟩ (by simp) (List.contains_iff_mem.1 (by kernel_rfl))
            exact move_wp (.tmp 30) rfl v0 (eval_of h1) h2
          · obtain ⟨v0, h1, h2⟩ := e2 ⟨10, 33, fun v w => w.ownsRow W3.heap.size 3 1 v k (intsV k M)⟩ (by simp) (List.contains_iff_mem.1 (by kernel_rfl))
            exact move_wp (.tmp 33) rfl v0 (eval_of h1) h2
        · intro β wx hbx hΦ
          have q7 := hΦ ⟨11, 7, fun v w => w.ownsRow W3.heap.size 3 1 v n (intsV n L)⟩ (by simp)
          have q8 := hΦ ⟨12, 8, fun v w => w.ownsRow W3.heap.size 27 2 v m (spansV m A B)⟩ (by simp)
          have q9 := hΦ ⟨13, 9, fun v w => w.ownsRow W3.heap.size 3 1 v k (intsV k M)⟩ (by simp)
          simp only [loosePut, List.foldl_cons, List.foldl_nil]
          go_wp2_with fail
          go_meet
          exact ⟨q7, q8, q9, hbx⟩
    case rest =>
      obtain ⟨h7, h8, h9, hb34⟩ := hcut
      unfold intsV at h7 h9
      obtain ⟨a7, q7, rfl, l7⟩ := ints_of_own h7
      obtain ⟨a8, q8, rfl, l8⟩ := spans_of_own h8
      obtain ⟨a9, q9, rfl, l9⟩ := ints_of_own h9
      have L7 := Lib.hid l7
      have L8 := Lib.hid l8
      have L9 := Lib.hid l9
      clear h7 h8 h9 l7 l8 l9 c0 c1 p0 p1 p2 s0 s1
      have B14 := Lib.hid (thru hb34 B13.out); clear hb34
      obtain ⟨K, D, Ds, E, x0, hK, one0, rd0, RUN0⟩ := run_row aL aV aM m cL cV k cM ⟨n, L, A, B⟩ ⟨v, lo, hi⟩ M (by show n ≤ _; omega) (by omega) (by omega)
      obtain ⟨KC, DC, xc, _, CP0, _⟩ := cuts_both aL aV aM m cL cV k cM ⟨n, L, A, B⟩ ⟨v, lo, hi⟩ M 5 4 3 (by show n ≤ _; omega) (by omega) (by omega)
      have ONE := Lib.hid one0; clear one0
      have RD := Lib.hid rd0; clear rd0
      have RUN := Lib.hid RUN0; clear RUN0
      have CP := Lib.hid CP0; clear CP0
      have NB4 := Lib.hid (NB1.out.below B14.out)
      have s0 := NB4.out.s0
      have s1 := NB4.out.s1
      obtain ⟨c0, c1, p0, p1, p2, _, _⟩ := NB4.out
      go_wp2_with fail
      refine (RUN.out wc (CU.out.below B14.out) (HM.out.below B14.out)).mono ?_
      rintro e u1 ⟨vl, rfl, hown1, hb1⟩
      obtain ⟨a1, ca1, rfl, _⟩ := RD.out u1 _ _ hown1
      obtain ⟨W5, hW5⟩ : ∃ W5, u1.alloc (.cells #[.int .i64 E.v, .int .i64 E.lo, .int .i64 E.hi] 29) = W5 := ⟨_, rfl⟩
      have b5 : Below u1.heap.size u1 W5 := by rw [← hW5]; exact below_alloc _ _
      have e5 : W5.heap[u1.heap.size]? = some (.cells #[.int .i64 E.v, .int .i64 E.lo, .int .i64 E.hi] 29 (0, 0)) := by rw [← hW5]; exact World.alloc_heap_new _ _
      have z5 : W5.heap.size = u1.heap.size + 1 := by rw [← hW5]; simp
      have Z5 := Lib.hid z5; clear z5
      have E5 := Lib.hid e5; clear e5
      have B45 := Lib.hid (thru b5 hb1)
      have R1 := Lib.hid hown1
      have R5 := Lib.hid (own_below hown1 b5)
      have HW5 := Lib.hid hW5; clear hW5 hb1 hown1 b5 c0 c1 p0 p1 p2 s0 s1
      obtain ⟨d0, hd0, hx0, hx1, hx2⟩ := info_parts infoD
      have D0 := Lib.hid hd0; clear hd0
      have DZ0 := Lib.hid hx0; clear hx0
      have DZ1 := Lib.hid hx1; clear hx1
      have DZ2 := Lib.hid hx2; clear hx2
      go_upto_region 5 with (fail)
      rw [HW5.out]
      go_wp2_with (at_builtin; refine wpList_append_rows (by rfl) _ _ 33 rfl W5.heap.size 41 d0 (.agg #[.int .i64 0, .int .i64 0, .int .i64 0]) 3 24 Try.underlying33 D0.out DZ0.out DZ1.out DZ2.out rfl (by decide) _ 0 [] rfl (World.ownsRow_lit W5 #[] 0 (Nat.le_refl _) (by unfold maxLen; omega) rfl) _ K wc.heap.size Ds rfl (own_below R5.out (below_alloc W5 _)) ONE.out (by unfold maxLen; omega) (by omega) (by simp) ?_; intro v13 W7 hown7 hgrow7)
      simp only [Nat.zero_add, List.nil_append] at hown7
      obtain ⟨a13, q13, rfl, _⟩ := RD.out W7 _ _ hown7
      have B57 := Lib.hid ((below_alloc W5 (.cells #[] 41)).grown hgrow7 (by simp) (fun g hg => by cases hg; exact Nat.le_refl _))
      have R13 := Lib.hid hown7
      have R17 := Lib.hid (own_below R5.out B57.out)
      clear hown7 hgrow7
      go_wp2_with fail
      go_loopw [47] (fun i wr => ∃ j : Nat, j ≤ K ∧ i = .int .i64 j ∧ Scr 41 K a1 (Value.slice a1 K ca1).ownBlock W7 wr) (fun i _ => K - (intOf i).toNat)
      case atStart => exact ⟨0, Nat.zero_le _, rfl, scr_start R17.out⟩
      case round =>
        obtain ⟨j, hj, rfl, hscr⟩ := hrel
        by_cases hlt : j < K
        · obtain ⟨g, cur, rfl, hg, hcs⟩ := hscr.blk (by omega)
          have v0 := cell_of_block hg (j * 3) (by omega)
          have v1 := cell_of_block hg (j * 3 + 1) (by omega)
          have v2 := cell_of_block hg (j * 3 + 2) (by omega)
          have f0 := frozen_of_block hg (j * 3)
          have f1 := frozen_of_block hg (j * 3 + 1)
          have f2 := frozen_of_block hg (j * 3 + 2)
          have SC := Lib.hid hscr; clear hscr
          have HG := Lib.hid hg; clear hg
          go_wp2_with fail
          go_roundw
          case rel => exact ⟨j + 1, by omega, by go_num, SC.out.set3 rfl _ _ _ _⟩
          case measure => simp [intOf]; omega
        · obtain rfl : K = j := by omega
          have B47 := Lib.hid (thru B57.out B45.out)
          have LOWr := Lib.hid (B47.out.grown hscr.gr B47.out.size (fun g hg => (R1.out.lt g hg).1))
          have B1r := Lib.hid (thru LOWr.out B14.out)
          have R13r := Lib.hid (R13.out.kept hscr.gr ((Classical.em ((Value.slice a13 K q13).ownBlock = none)).imp id (fun hne he => by
            obtain ⟨g, hg⟩ := Option.ne_none_iff_exists'.1 hne
            have q1 := (R13.out.lt g hg).1
            have q2 := (R1.out.lt g (by rw [← he]; exact hg)).2
            have := Z5.out
            omega)))
          have EPr := Lib.hid ((hscr.gr.block u1.heap.size (by have := B57.out.size; have := Z5.out; omega) (fun he => by have := (R1.out.lt _ he.symm).2; omega)).trans ((B57.out.block _ (by have := Z5.out; omega)).trans E5.out))
          clear hscr
          have NBr := Lib.hid (NB1.out.below B1r.out)
          have s0 := NBr.out.s0
          have s1 := NBr.out.s1
          obtain ⟨c0, c1, p0, p1, p2, _, _⟩ := NBr.out
          go_wp2_with fail
          refine (RUN.out wr (CU.out.below B1r.out) (HM.out.below B1r.out)).mono ?_
          rintro e u2 ⟨vm, rfl, hown2, hb2⟩
          obtain ⟨a15, q15, rfl, d15⟩ := RD.out u2 _ _ hown2
          obtain ⟨W8, hW8⟩ : ∃ W8, u2.alloc (.cells #[.int .i64 E.v, .int .i64 E.lo, .int .i64 E.hi] 29) = W8 := ⟨_, rfl⟩
          have b8 : Below u2.heap.size u2 W8 := by rw [← hW8]; exact below_alloc _ _
          have E8 := Lib.hid (show W8.heap[u2.heap.size]? = some (.cells #[.int .i64 E.v, .int .i64 E.lo, .int .i64 E.hi] 29 (0, 0)) by rw [← hW8]; exact World.alloc_heap_new _ _)
          have Br8 := Lib.hid (thru b8 hb2)
          have D15 := Lib.hid (d15.below b8)
          have HW8 := Lib.hid hW8
          clear hW8 b8 hb2 hown2 d15 c0 c1 p0 p1 p2 s0 s1
          have B18 := Lib.hid (thru Br8.out B1r.out)
          have NB8 := Lib.hid (NB1.out.below B18.out)
          go_upto_region 12 with (fail)
          rw [HW8.out]
          have s0 := NB8.out.s0
          have s1 := NB8.out.s1
          obtain ⟨c0, c1, p0, p1, p2, _, _⟩ := NB8.out
          go_wp2_with fail
          refine (CP.out W8 (CU.out.below B18.out) (HM.out.below B18.out)).mono ?_
          rintro e u3 ⟨ac, cc, rfl, _, hb3⟩
          have B83 := Lib.hid hb3
          have B13' := Lib.hid (thru hb3 B18.out)
          have Br3 := Lib.hid (thru hb3 Br8.out)
          clear hb3 c0 c1 p0 p1 p2 s0 s1
          have NBu := NB1.out.below B13'.out
          have s0 := NBu.s0
          have s1 := NBu.s1
          obtain ⟨c0, c1, p0, p1, p2, _, _⟩ := NBu
          have eP := (Br3.out.block _ (Array.getElem?_eq_some_iff.1 EPr.out).1).trans EPr.out
          have eQ := (B83.out.block _ (Array.getElem?_eq_some_iff.1 E8.out).1).trans E8.out
          have lP := (Array.getElem?_eq_some_iff.1 eP).1
          have lQ := (Array.getElem?_eq_some_iff.1 eQ).1
          have g0 : u3.cell? ⟨u1.heap.size, 0, none⟩ = some (.int .i64 E.v) := cell_of_block eP 0 (by simp)
          have g1 : u3.cell? ⟨u1.heap.size, 1, none⟩ = some (.int .i64 E.lo) := cell_of_block eP 1 (by simp)
          have g2 : u3.cell? ⟨u1.heap.size, 2, none⟩ = some (.int .i64 E.hi) := cell_of_block eP 2 (by simp)
          have r0 : u3.cell? ⟨u2.heap.size, 0, none⟩ = some (.int .i64 E.v) := cell_of_block eQ 0 (by simp)
          have r1 : u3.cell? ⟨u2.heap.size, 1, none⟩ = some (.int .i64 E.lo) := cell_of_block eQ 1 (by simp)
          have r2 : u3.cell? ⟨u2.heap.size, 2, none⟩ = some (.int .i64 E.hi) := cell_of_block eQ 2 (by simp)
          clear eP eQ
          have CUu := Lib.hid (CU.out.below B13'.out)
          have HMu := Lib.hid (HM.out.below B13'.out)
          obtain ⟨_, _, e13, d13⟩ := RD.out u3 _ _ (own_below R13r.out Br3.out)
          cases e13
          have D13u := Lib.hid d13; clear d13
          have Bc3 := Lib.hid (thru Br3.out LOWr.out)
          have V8 := Lib.hid (L8.out.below Bc3.out)
          go_wp2_with fail
          go_loopw [69] (fun i wz => ∃ j : Nat, j ≤ m ∧ i = .int .i64 j ∧ ∃ x, wz = gw u3 x) (fun i _ => m - (intOf i).toNat)
          case atStart => exact ⟨0, Nat.zero_le _, rfl, ⟨#[], u3.drawn⟩, by simp [gw]⟩
          case round =>
            obtain ⟨j, hj, rfl, x1, rfl⟩ := hrel
            by_cases hlt : j < m
            · obtain ⟨b8, o8, rfl, lb8, hc8⟩ := V8.out.resolve_left (by omega)
              obtain ⟨bv, ov, rfl, lbv, hcv⟩ := CUu.out.vs.resolve_left (by omega)
              obtain ⟨x8, y8⟩ := hc8 j hlt
              obtain ⟨xv, yv⟩ := hcv j hlt
              clear hc8 hcv
              go_wp2_with fail
              refine wp_region_gw2 (by kernel_rfl) (by kernel_rfl) ?_
              repeat (go_big_quiet_step (fail))
              refine wpQuiet_nil ?_
              rintro _ ⟨z, rfl⟩
              go_wp2_with fail
              go_roundw
              case rel => exact ⟨j + 1, by omega, by go_num, z, rfl⟩
              case measure => simp [intOf]; omega
            · obtain rfl : m = j := by omega
              have I1 := Lib.hid (fun z => calls_gw_same (sameInts_t aL a7 n cL q7 L (gw u3 z) (by omega) (CUu.out.ls.below (below_gw u3 z)) ((L7.out.below Bc3.out).below (below_gw u3 z))))
              have I2 := Lib.hid (fun z => calls_gw_same (sameInts_t aM a9 k cM q9 M (gw u3 z) (by omega) (HMu.out.below (below_gw u3 z)) ((L9.out.below Bc3.out).below (below_gw u3 z))))
              have I3 := Lib.hid (fun z => calls_gw_same (sameDrawn_t a15 a13 K q15 q13 D (gw u3 z) (by omega) ((D15.out.below B83.out).below (below_gw u3 z)) (D13u.out.below (below_gw u3 z))))
              go_wp2_with fail
              refine (I1.out x1).mono ?_
              rintro e w1 ⟨rfl, z1, rfl⟩
              go_wp2_with fail
              refine (I2.out z1).mono ?_
              rintro e w1 ⟨rfl, z2, rfl⟩
              go_wp2_with fail
              refine (I3.out z2).mono ?_
              rintro e w1 ⟨rfl, z3, rfl⟩
              go_wp2_with fail
              refine (alive_any _).mono ?_
              rintro e w1 ⟨rfl, hb⟩
              have HB := Lib.hid (thru hb ((thru B13'.out NB1.out.low).gw z3)); clear hb
              go_wp2_with fail
              go_ret
              exact ⟨rfl, HB.out⟩
end Go.Proofs.Ytnmldophadanbaa
