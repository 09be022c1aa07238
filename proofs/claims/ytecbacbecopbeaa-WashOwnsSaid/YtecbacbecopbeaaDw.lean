/- WashOwns walked: it returns true. No conditions beyond each theorem's own. -/
import Derived.Test.YtecbacbecopbeaaCk
import Derived.Test.YtecbacbecopbeaaCd
import Derived.Test.YtecbacbecopbeaaBq
import Derived.Test.YtecbacbecopbeaaBr
import Derived.Test.YtecbacbecopbeaaEe
import Derived.Deep.DeepCutAuto
set_option linter.unusedVariables false
set_option linter.unusedSimpArgs false
set_option linter.unusedSectionVars false
set_option linter.constructorNameAsVariable false
namespace Go.Proofs.Ytecbacbecopbeaa
open Go.RowKit

attribute [local go_sem] gw_cell gw_frozen gw_size

theorem infoSp4 : (Try.prog.info? 23).map (fun i => (i.zero, i.size, i.bytes)) = some (some (.agg #[.int .i64 0, .int .i64 0]), 2, 16) := by kernel_rfl
/-- what the three copies leave -/
structure CopiedW (y : Yst) (k : Nat) (F G : Nat → Int) (W : World) (s7 s8 s9 : Value) (wx : World) : Prop where
  c7 : wx.ownsRow W.heap.size 3 1 s7 y.nT (intsV y.nT y.T)
  c8 : wx.ownsRow W.heap.size 23 2 s8 y.nR (spansV y.nR y.A y.B)
  c9 : wx.ownsRow W.heap.size 23 2 s9 k (spansV k F G)
  low : Below W.heap.size W wx

set_option maxRecDepth 100000 in
set_option maxHeartbeats 16000000 in
theorem owns_any (y : Yst) (v : Vat) (aS : Option Addr) (k cS : Nat) (F G : Nat → Int) (w : World) (hI : y.In w) (hf : y.Fits) (hS : SpansAt w aS k F G) (hk : k ≤ 9223372036854775807) :
    Calls Try.prog 14 #[y.val, v.val, .slice aS k cS] w (True1 w) := by
  unfold Yst.val Vat.val
  obtain ⟨W1, hW1⟩ : ∃ W1, (w.alloc (.cells #[.slice y.aT y.nT y.cT, .slice y.aR y.nR y.cR, .int .i64 y.sl, .int .i64 y.sh, .int .i64 y.gl, .int .i64 y.gh, .int .i64 y.hl, .int .i64 y.hh] 36)).alloc (.cells #[.int .i64 v.sl, .int .i64 v.sh, .int .i64 v.el, .int .i64 v.eh, .int .i64 v.pl, .int .i64 v.ph, .int .i64 v.gl, .int .i64 v.gh, .int .i64 v.ol, .int .i64 v.oh, .int .i64 v.tl, .int .i64 v.th, .int .i64 v.c] 38) = W1 := ⟨_, rfl⟩
  have hBc : Below w.heap.size w W1 := by rw [← hW1]; exact (below_alloc _ _).alloc (by simp) _
  have zc0 : W1.heap[w.heap.size]? = some (.cells #[.slice y.aT y.nT y.cT, .slice y.aR y.nR y.cR, .int .i64 y.sl, .int .i64 y.sh, .int .i64 y.gl, .int .i64 y.gh, .int .i64 y.hl, .int .i64 y.hh] 36 (0, 0)) := by rw [← hW1]; exact alloc_keep (alloc_at rfl)
  have zc1 : W1.heap[w.heap.size + 1]? = some (.cells #[.int .i64 v.sl, .int .i64 v.sh, .int .i64 v.el, .int .i64 v.eh, .int .i64 v.pl, .int .i64 v.ph, .int .i64 v.gl, .int .i64 v.gh, .int .i64 v.ol, .int .i64 v.oh, .int .i64 v.tl, .int .i64 v.th, .int .i64 v.c] 38 (0, 0)) := by rw [← hW1]; exact alloc_at (by simp)
  have c00 : W1.cell? ⟨w.heap.size, 0, none⟩ = some (.slice y.aT y.nT y.cT) := cell_of_block zc0 0 (by simp)
  have c01 : W1.cell? ⟨w.heap.size, 1, none⟩ = some (.slice y.aR y.nR y.cR) := cell_of_block zc0 1 (by simp)
  have c02 : W1.cell? ⟨w.heap.size, 2, none⟩ = some (.int .i64 y.sl) := cell_of_block zc0 2 (by simp)
  have c03 : W1.cell? ⟨w.heap.size, 3, none⟩ = some (.int .i64 y.sh) := cell_of_block zc0 3 (by simp)
  have c04 : W1.cell? ⟨w.heap.size, 4, none⟩ = some (.int .i64 y.gl) := cell_of_block zc0 4 (by simp)
  have c05 : W1.cell? ⟨w.heap.size, 5, none⟩ = some (.int .i64 y.gh) := cell_of_block zc0 5 (by simp)
  have c06 : W1.cell? ⟨w.heap.size, 6, none⟩ = some (.int .i64 y.hl) := cell_of_block zc0 6 (by simp)
  have c07 : W1.cell? ⟨w.heap.size, 7, none⟩ = some (.int .i64 y.hh) := cell_of_block zc0 7 (by simp)
  have c10 : W1.cell? ⟨w.heap.size + 1, 0, none⟩ = some (.int .i64 v.sl) := cell_of_block zc1 0 (by simp)
  have c11 : W1.cell? ⟨w.heap.size + 1, 1, none⟩ = some (.int .i64 v.sh) := cell_of_block zc1 1 (by simp)
  have c12 : W1.cell? ⟨w.heap.size + 1, 2, none⟩ = some (.int .i64 v.el) := cell_of_block zc1 2 (by simp)
  have c13 : W1.cell? ⟨w.heap.size + 1, 3, none⟩ = some (.int .i64 v.eh) := cell_of_block zc1 3 (by simp)
  have c14 : W1.cell? ⟨w.heap.size + 1, 4, none⟩ = some (.int .i64 v.pl) := cell_of_block zc1 4 (by simp)
  have c15 : W1.cell? ⟨w.heap.size + 1, 5, none⟩ = some (.int .i64 v.ph) := cell_of_block zc1 5 (by simp)
  have c16 : W1.cell? ⟨w.heap.size + 1, 6, none⟩ = some (.int .i64 v.gl) := cell_of_block zc1 6 (by simp)
  have c17 : W1.cell? ⟨w.heap.size + 1, 7, none⟩ = some (.int .i64 v.gh) := cell_of_block zc1 7 (by simp)
  have c18 : W1.cell? ⟨w.heap.size + 1, 8, none⟩ = some (.int .i64 v.ol) := cell_of_block zc1 8 (by simp)
  have c19 : W1.cell? ⟨w.heap.size + 1, 9, none⟩ = some (.int .i64 v.oh) := cell_of_block zc1 9 (by simp)
  have c110 : W1.cell? ⟨w.heap.size + 1, 10, none⟩ = some (.int .i64 v.tl) := cell_of_block zc1 10 (by simp)
  have c111 : W1.cell? ⟨w.heap.size + 1, 11, none⟩ = some (.int .i64 v.th) := cell_of_block zc1 11 (by simp)
  have c112 : W1.cell? ⟨w.heap.size + 1, 12, none⟩ = some (.int .i64 v.c) := cell_of_block zc1 12 (by simp)
  have lc0 := (Array.getElem?_eq_some_iff.1 zc0).1
  have lc1 := (Array.getElem?_eq_some_iff.1 zc1).1
  have Zc0 := Lib.hid zc0
  have Zc1 := Lib.hid zc1
  clear zc0 zc1
  have HBc := Lib.hid hBc; clear hBc
  have HWc := Lib.hid hW1; clear hW1
  have FER := fun W (hb : Below W1.heap.size W1 W) => Ferment_any aS k cS F G y v W ((hI.below HBc.out).below hb) hf ((hS.below HBc.out).below hb) hk
  have CO := fun W (hb : Below W1.heap.size W1 W) => (Cool_any ⟨y, k, F, G, 0, 50000⟩ aS cS v 2 W ((hI.below HBc.out).below hb) hf ((hS.below HBc.out).below hb) hk).mono (fun e w' (h : CoolR _ _ _ _ e w') => (⟨⟨_, h.choose_spec.choose_spec.1⟩, h.choose_spec.choose_spec.2.2⟩ : (∃ x, e = .returned x) ∧ Below W.heap.size W w'))
  have AI := fun W (hb : Below W1.heap.size W1 W) => (Air_any 0 0 aS k cS F G 500 W ((hS.below HBc.out).below hb) hk).mono (fun e w' (h : AirR _ _ _ _ _ _ _ e w') => (⟨⟨_, h.choose_spec.1⟩, h.choose_spec.2.2⟩ : (∃ x, e = .returned x) ∧ Below W.heap.size W w'))
  unfold FerR at FER
  have nl : ferN y v k F G ≤ k := by unfold ferN; split <;> omega
  obtain ⟨N, hN⟩ : ∃ N, ferN y v k F G = N := ⟨_, rfl⟩
  obtain ⟨E, hE⟩ : ∃ E, ferE y v k F G = E := ⟨_, rfl⟩
  simp only [hN, hE] at FER nl
  clear hN hE
  unfold Yst.val Vat.val at FER CO
  dsimp only at CO
  have FER' := Lib.hid FER; have CO' := Lib.hid CO; have AI' := Lib.hid AI; clear FER CO AI
  have HI := Lib.hid (hI.below HBc.out); have HS := Lib.hid (hS.below HBc.out); clear hI hS
  obtain ⟨i0, hi0, hxi0, hxi1, hxi2⟩ := info_parts infoInt
  have II := Lib.hid hi0; have IZ0 := Lib.hid hxi0; have IZ1 := Lib.hid hxi1; have IZ2 := Lib.hid hxi2; clear hi0 hxi0 hxi1 hxi2
  obtain ⟨j0, hj0, hxj0, hxj1, hxj2⟩ := info_parts infoSp4
  have JI := Lib.hid hj0; have JZ0 := Lib.hid hxj0; have JZ1 := Lib.hid hxj1; have JZ2 := Lib.hid hxj2; clear hj0 hxj0 hxj1 hxj2
  obtain ⟨v0, hv0, hxv0, hxv1, hxv2⟩ := info_parts infoVat
  have VI := Lib.hid hv0; have VZ0 := Lib.hid hxv0; have VZ1 := Lib.hid hxv1; have VZ2 := Lib.hid hxv2; clear hv0 hxv0 hxv1 hxv2
  by_cases n1 : 20 < y.nT
  · skip
    go_enter Try.func14, Try.ntmps14
    go_upto_region 1 with (fail)
    rw [HWc.out]
    go_wp2_with fail
    refine (Calls.grown (alive_any _)).mono ?_
    rintro e w1 ⟨rfl, z1, rfl⟩
    go_wp2_with fail
    go_ret
    exact ⟨rfl, HBc.out.gw z1⟩
  by_cases n2 : 21 < y.nR
  · skip
    go_enter Try.func14, Try.ntmps14
    go_upto_region 1 with (fail)
    rw [HWc.out]
    go_wp2_with fail
    refine (Calls.grown (alive_any _)).mono ?_
    rintro e w1 ⟨rfl, z1, rfl⟩
    go_wp2_with fail
    go_ret
    exact ⟨rfl, HBc.out.gw z1⟩
  by_cases n3 : 20 < k
  · skip
    go_enter Try.func14, Try.ntmps14
    go_upto_region 1 with (fail)
    rw [HWc.out]
    go_wp2_with fail
    refine (Calls.grown (alive_any _)).mono ?_
    rintro e w1 ⟨rfl, z1, rfl⟩
    go_wp2_with fail
    go_ret
    exact ⟨rfl, HBc.out.gw z1⟩
  go_enter Try.func14, Try.ntmps14
  go_upto_region 1 with (fail)
  rw [HWc.out]
  go_upto_region 3 with (fail)
  go_cut [7, 8, 9] (fun s7 s8 s9 wx => CopiedW y k F G W1 s7 s8 s9 wx)
  case first =>
    refine wp_region_loose [false, true, true, false, false, true, true, false, false, true, false, false, false, false]
      [⟨0, 32, Empty0 W1.heap.size 3 1⟩, ⟨3, 35, fun v w => w.ownsRow W1.heap.size 3 1 v y.nT (intsV y.nT y.T)⟩, ⟨4, 36, Empty0 W1.heap.size 23 2⟩, ⟨7, 39, fun v w => w.ownsRow W1.heap.size 23 2 v y.nR (spansV y.nR y.A y.B)⟩, ⟨8, 40, Empty0 W1.heap.size 23 2⟩, ⟨10, 42, fun v w => w.ownsRow W1.heap.size 23 2 v k (spansV k F G)⟩, ⟨11, 7, fun v w => w.ownsRow W1.heap.size 3 1 v y.nT (intsV y.nT y.T)⟩, ⟨12, 8, fun v w => w.ownsRow W1.heap.size 23 2 v y.nR (spansV y.nR y.A y.B)⟩, ⟨13, 9, fun v w => w.ownsRow W1.heap.size 23 2 v k (spansV k F G)⟩]
      (by kernel_rfl) rfl (by kernel_rfl) (by kernel_rfl) ?_ ?_
    · intro b hb v
      simp only [List.mem_cons, List.not_mem_nil, or_false] at hb
      rcases hb with rfl | rfl | rfl | rfl | rfl | rfl | rfl | rfl | rfl <;> first | exact stable_empty | exact stable_row
    · apply Exists.intro
      refine ⟨fun S hS hx => ?_, ?_, ?_⟩
      · obtain ⟨x0, hx0⟩ := hx
        haveI : Nonempty (GrewS W1 S) := ⟨⟨x0, hx0⟩⟩
        simp only [pickM]
        repeat (go_big_quiet_step (fail))
        exact wpQuiet_nil rfl
      · intro b hb
        simp only [List.mem_cons, List.not_mem_nil, or_false] at hb
        rcases hb with rfl | rfl | rfl | rfl | rfl | rfl | rfl | rfl | rfl <;> (intro o ho a wx hbw e1 e2; injection (show some _ = some o from ho) with ho; subst ho; refine .inl ?_)
        · exact made_wp 33 3 i0 1 _ rfl Try.underlying33 II.out IZ1.out hbw.size
        · obtain ⟨v0, h1, h2⟩ := e2 ⟨0, 32, Empty0 W1.heap.size 3 1⟩ (by simp) (List.contains_iff_mem.1 (by kernel_rfl))
          have h3 := e1 34 (List.contains_iff_mem.1 (by kernel_rfl)) (by simp)
          simp at h3
          exact copy_wp (.tmp 32) (.tmp 34) 33 3 i0 (.int .i64 0) 1 8 _ rfl rfl Try.underlying33 II.out IZ0.out IZ1.out IZ2.out rfl (by decide) hbw.size v0 (eval_of h1) h2 _ y.nT _ (intsV y.nT y.T) (eval_of h3) (intsV_len _ _) (ints_news (HI.out.t.below hbw)) (intsV_one _ _) (by unfold maxLen; omega) (by omega)
        · exact made_wp 34 23 j0 2 _ rfl Try.underlying34 JI.out JZ1.out hbw.size
        · obtain ⟨v0, h1, h2⟩ := e2 ⟨4, 36, Empty0 W1.heap.size 23 2⟩ (by simp) (List.contains_iff_mem.1 (by kernel_rfl))
          have h3 := e1 38 (List.contains_iff_mem.1 (by kernel_rfl)) (by simp)
          simp at h3
          exact copy_wp (.tmp 36) (.tmp 38) 34 23 j0 (.agg #[.int .i64 0, .int .i64 0]) 2 16 _ rfl rfl Try.underlying34 JI.out JZ0.out JZ1.out JZ2.out rfl (by decide) hbw.size v0 (eval_of h1) h2 _ y.nR _ (spansV y.nR y.A y.B) (eval_of h3) (spansV_len _ _ _) (spans_news (HI.out.r.below hbw)) (spansV_one _ _ _) (by unfold maxLen; omega) (by omega)
        · exact made_wp 34 23 j0 2 _ rfl Try.underlying34 JI.out JZ1.out hbw.size
        · obtain ⟨v0, h1, h2⟩ := e2 ⟨8, 40, Empty0 W1.heap.size 23 2⟩ (by simp) (List.contains_iff_mem.1 (by kernel_rfl))
          have h3 := e1 41 (List.contains_iff_mem.1 (by kernel_rfl)) (by simp)
          simp at h3
          exact copy_wp (.tmp 40) (.tmp 41) 34 23 j0 (.agg #[.int .i64 0, .int .i64 0]) 2 16 _ rfl rfl Try.underlying34 JI.out JZ0.out JZ1.out JZ2.out rfl (by decide) hbw.size v0 (eval_of h1) h2 _ k _ (spansV k F G) (eval_of h3) (spansV_len _ _ _) (spans_news (HS.out.below hbw)) (spansV_one _ _ _) (by unfold maxLen; omega) (by omega)
        · obtain ⟨v0, h1, h2⟩ := e2 ⟨3, 35, fun v w => w.ownsRow W1.heap.size 3 1 v y.nT (intsV y.nT y.T)⟩ (by simp) (List.contains_iff_mem.1 (by kernel_rfl))
          exact move_wp (.tmp 35) rfl v0 (eval_of h1) h2
        · obtain ⟨v0, h1, h2⟩ := e2 ⟨7, 39, fun v w => w.ownsRow W1.heap.size 23 2 v y.nR (spansV y.nR y.A y.B)⟩ (by simp) (List.contains_iff_mem.1 (by kernel_rfl))
          exact move_wp (.tmp 39) rfl v0 (eval_of h1) h2
        · obtain ⟨v0, h1, h2⟩ := e2 ⟨10, 42, fun v w => w.ownsRow W1.heap.size 23 2 v k (spansV k F G)⟩ (by simp) (List.contains_iff_mem.1 (by kernel_rfl))
          exact move_wp (.tmp 42) rfl v0 (eval_of h1) h2
      · intro β wx hbx hΦ
        have q7 := hΦ ⟨11, 7, fun v w => w.ownsRow W1.heap.size 3 1 v y.nT (intsV y.nT y.T)⟩ (by simp)
        have q8 := hΦ ⟨12, 8, fun v w => w.ownsRow W1.heap.size 23 2 v y.nR (spansV y.nR y.A y.B)⟩ (by simp)
        have q9 := hΦ ⟨13, 9, fun v w => w.ownsRow W1.heap.size 23 2 v k (spansV k F G)⟩ (by simp)
        simp only [loosePut, List.foldl_cons, List.foldl_nil]
        go_wp2_with fail
        go_meet
        exact ⟨q7, q8, q9, hbx⟩
  case rest =>
    obtain ⟨W3, rfl⟩ : ∃ V : World, V = wc := ⟨_, rfl⟩
    obtain ⟨h7, h8, h9, hb3⟩ := hcut
    unfold intsV at h7
    obtain ⟨a7, q7, rfl, l7⟩ := ints_of_own h7
    obtain ⟨a8, q8, rfl, l8⟩ := spans_of_own h8
    obtain ⟨a9, q9, rfl, l9⟩ := spans_of_own h9
    have L7 := Lib.hid l7; have L8 := Lib.hid l8; have L9 := Lib.hid l9; have S3 := Lib.hid hb3; clear h7 h8 h9 l7 l8 l9 hb3 c00 c01 c02 c03 c04 c05 c06 c07 c10 c11 c12 c13 c14 c15 c16 c17 c18 c19 c110 c111 c112
    have ZyW3 := Lib.hid ((S3.out.block _ (Array.getElem?_eq_some_iff.1 Zc0.out).1).trans Zc0.out)
    have ZvW3 := Lib.hid ((S3.out.block _ (Array.getElem?_eq_some_iff.1 Zc1.out).1).trans Zc1.out)
    have HBW3 := Lib.hid (thru S3.out HBc.out)
    have ey0W3 : W3.cell? ⟨w.heap.size, 0, none⟩ = some (.slice y.aT y.nT y.cT) := cell_of_block ZyW3.out 0 (by simp)
    have ey1W3 : W3.cell? ⟨w.heap.size, 1, none⟩ = some (.slice y.aR y.nR y.cR) := cell_of_block ZyW3.out 1 (by simp)
    have ey2W3 : W3.cell? ⟨w.heap.size, 2, none⟩ = some (.int .i64 y.sl) := cell_of_block ZyW3.out 2 (by simp)
    have ey3W3 : W3.cell? ⟨w.heap.size, 3, none⟩ = some (.int .i64 y.sh) := cell_of_block ZyW3.out 3 (by simp)
    have ey4W3 : W3.cell? ⟨w.heap.size, 4, none⟩ = some (.int .i64 y.gl) := cell_of_block ZyW3.out 4 (by simp)
    have ey5W3 : W3.cell? ⟨w.heap.size, 5, none⟩ = some (.int .i64 y.gh) := cell_of_block ZyW3.out 5 (by simp)
    have ey6W3 : W3.cell? ⟨w.heap.size, 6, none⟩ = some (.int .i64 y.hl) := cell_of_block ZyW3.out 6 (by simp)
    have ey7W3 : W3.cell? ⟨w.heap.size, 7, none⟩ = some (.int .i64 y.hh) := cell_of_block ZyW3.out 7 (by simp)
    have lyW3 := (Array.getElem?_eq_some_iff.1 ZyW3.out).1
    have ev0W3 : W3.cell? ⟨w.heap.size + 1, 0, none⟩ = some (.int .i64 v.sl) := cell_of_block ZvW3.out 0 (by simp)
    have ev1W3 : W3.cell? ⟨w.heap.size + 1, 1, none⟩ = some (.int .i64 v.sh) := cell_of_block ZvW3.out 1 (by simp)
    have ev2W3 : W3.cell? ⟨w.heap.size + 1, 2, none⟩ = some (.int .i64 v.el) := cell_of_block ZvW3.out 2 (by simp)
    have ev3W3 : W3.cell? ⟨w.heap.size + 1, 3, none⟩ = some (.int .i64 v.eh) := cell_of_block ZvW3.out 3 (by simp)
    have ev4W3 : W3.cell? ⟨w.heap.size + 1, 4, none⟩ = some (.int .i64 v.pl) := cell_of_block ZvW3.out 4 (by simp)
    have ev5W3 : W3.cell? ⟨w.heap.size + 1, 5, none⟩ = some (.int .i64 v.ph) := cell_of_block ZvW3.out 5 (by simp)
    have ev6W3 : W3.cell? ⟨w.heap.size + 1, 6, none⟩ = some (.int .i64 v.gl) := cell_of_block ZvW3.out 6 (by simp)
    have ev7W3 : W3.cell? ⟨w.heap.size + 1, 7, none⟩ = some (.int .i64 v.gh) := cell_of_block ZvW3.out 7 (by simp)
    have ev8W3 : W3.cell? ⟨w.heap.size + 1, 8, none⟩ = some (.int .i64 v.ol) := cell_of_block ZvW3.out 8 (by simp)
    have ev9W3 : W3.cell? ⟨w.heap.size + 1, 9, none⟩ = some (.int .i64 v.oh) := cell_of_block ZvW3.out 9 (by simp)
    have ev10W3 : W3.cell? ⟨w.heap.size + 1, 10, none⟩ = some (.int .i64 v.tl) := cell_of_block ZvW3.out 10 (by simp)
    have ev11W3 : W3.cell? ⟨w.heap.size + 1, 11, none⟩ = some (.int .i64 v.th) := cell_of_block ZvW3.out 11 (by simp)
    have ev12W3 : W3.cell? ⟨w.heap.size + 1, 12, none⟩ = some (.int .i64 v.c) := cell_of_block ZvW3.out 12 (by simp)
    have lvW3 := (Array.getElem?_eq_some_iff.1 ZvW3.out).1
    go_wp2_with fail
    refine (FER'.out _ S3.out).mono ?_
    rintro e u1 ⟨vl, rfl, own, hb1⟩
    have O1 := Lib.hid own
    obtain ⟨a10, c10, rfl⟩ := own_form own
    have HU1 := Lib.hid hb1; clear own hb1
    clear ey0W3 ey1W3 ey2W3 ey3W3 ey4W3 ey5W3 ey6W3 ey7W3 ev0W3 ev1W3 ev2W3 ev3W3 ev4W3 ev5W3 ev6W3 ev7W3 ev8W3 ev9W3 ev10W3 ev11W3 ev12W3
    have SBu1 := Lib.hid (HU1.out)
    have Zyu1 := Lib.hid ((SBu1.out.block _ (Array.getElem?_eq_some_iff.1 ZyW3.out).1).trans ZyW3.out)
    have Zvu1 := Lib.hid ((SBu1.out.block _ (Array.getElem?_eq_some_iff.1 ZvW3.out).1).trans ZvW3.out)
    have HBu1 := Lib.hid (thru SBu1.out HBW3.out)
    have Su1 := Lib.hid (S3.out.trans (SBu1.out.mono S3.out.size))
    have NS1 := Lib.hid (tups_news (show TupsAt (u1.alloc (.cells #[] 38)) a10 13 N (fun i q => (y.vs v F G (i + 1)).num q) from by obtain ⟨a, c, hv, hT⟩ := tups_of_own O1.out; cases hv; exact hT.below (below_alloc _ _)))
    have OW : Hid ((u1.alloc (.cells #[] 38)).ownsRow u1.heap.size 38 13 (.slice (some ⟨u1.heap.size, 0, none⟩) 0 0) 0 []) := Lib.hid ⟨rfl, .inr ⟨u1.heap.size, 0, #[], rfl, Nat.le_refl _, alloc_at rfl, Nat.le_refl _, Nat.zero_le _, rfl, rfl⟩⟩
    go_wp2_with (at_builtin; refine wpList_append_src (by rfl) _ _ 40 rfl u1.heap.size 38 v0 (.agg #[.int .i64 0, .int .i64 0, .int .i64 0, .int .i64 0, .int .i64 0, .int .i64 0, .int .i64 0, .int .i64 0, .int .i64 0, .int .i64 0, .int .i64 0, .int .i64 0, .int .i64 0]) 13 104 Try.underlying40 VI.out VZ0.out VZ1.out VZ2.out rfl (by decide) _ 0 [] rfl OW.out a10 N c10 (tupsV 13 N fun i q => (y.vs v F G (i + 1)).num q) rfl (tupsV_len _ _ _) NS1.out (tupsV_one _ _ _) (by unfold maxLen; omega) (by omega) (by simp) ?_; intro v12 u2 own2 grow2)
    rw [Nat.zero_add, List.nil_append] at own2
    obtain ⟨a12, c12, rfl⟩ := own_form own2
    have O12 := Lib.hid own2
    have B2 := Lib.hid ((below_alloc u1 (.cells #[] 38)).grown grow2 (by simp) (fun b hb => by cases hb; exact Nat.le_refl _))
    have O10 := Lib.hid (own_below O1.out B2.out)
    have B32 := Lib.hid (thru B2.out HU1.out)
    clear own2 grow2
    have SBu2 := Lib.hid (B2.out)
    have Zyu2 := Lib.hid ((SBu2.out.block _ (Array.getElem?_eq_some_iff.1 Zyu1.out).1).trans Zyu1.out)
    have Zvu2 := Lib.hid ((SBu2.out.block _ (Array.getElem?_eq_some_iff.1 Zvu1.out).1).trans Zvu1.out)
    have HBu2 := Lib.hid (thru SBu2.out HBu1.out)
    have Su2 := Lib.hid (Su1.out.trans (SBu2.out.mono Su1.out.size))
    go_loopw [55] (fun t wz => ∃ j : Nat, j ≤ N ∧ t = .int .i64 j ∧ ScrN 38 13 N a10 (Value.slice a10 N c10).ownBlock u2 wz) (fun t _ => N - (intOf t).toNat)
    case atStart => exact ⟨0, Nat.zero_le _, rfl, scrN_start O10.out⟩
    case round =>
      obtain ⟨j, hj, rfl, hscr⟩ := hrel
      by_cases hlt : j < N
      · obtain ⟨g, cur, rfl, hg, hcs⟩ := hscr.blk (by omega)
        have v0 := cell_of_block hg (j * 13) (by omega)
        have v1 := cell_of_block hg (j * 13 + 1) (by omega)
        have v2 := cell_of_block hg (j * 13 + 2) (by omega)
        have v3 := cell_of_block hg (j * 13 + 3) (by omega)
        have v4 := cell_of_block hg (j * 13 + 4) (by omega)
        have v5 := cell_of_block hg (j * 13 + 5) (by omega)
        have v6 := cell_of_block hg (j * 13 + 6) (by omega)
        have v7 := cell_of_block hg (j * 13 + 7) (by omega)
        have v8 := cell_of_block hg (j * 13 + 8) (by omega)
        have v9 := cell_of_block hg (j * 13 + 9) (by omega)
        have v10 := cell_of_block hg (j * 13 + 10) (by omega)
        have v11 := cell_of_block hg (j * 13 + 11) (by omega)
        have v12 := cell_of_block hg (j * 13 + 12) (by omega)
        have f0 := frozen_of_block hg (j * 13)
        have f1 := frozen_of_block hg (j * 13 + 1)
        have f2 := frozen_of_block hg (j * 13 + 2)
        have f3 := frozen_of_block hg (j * 13 + 3)
        have f4 := frozen_of_block hg (j * 13 + 4)
        have f5 := frozen_of_block hg (j * 13 + 5)
        have f6 := frozen_of_block hg (j * 13 + 6)
        have f7 := frozen_of_block hg (j * 13 + 7)
        have f8 := frozen_of_block hg (j * 13 + 8)
        have f9 := frozen_of_block hg (j * 13 + 9)
        have f10 := frozen_of_block hg (j * 13 + 10)
        have f11 := frozen_of_block hg (j * 13 + 11)
        have f12 := frozen_of_block hg (j * 13 + 12)
        have lg := (Array.getElem?_eq_some_iff.1 hg).1
        have SC := Lib.hid hscr; clear hscr
        have HG := Lib.hid hg; clear hg
        go_wp2_with fail
        go_roundw
        case rel => exact ⟨j + 1, by omega, by go_num, (((((((((((((SC.out.set rfl _ _).set rfl _ _).set rfl _ _).set rfl _ _).set rfl _ _).set rfl _ _).set rfl _ _).set rfl _ _).set rfl _ _).set rfl _ _).set rfl _ _).set rfl _ _).set rfl _ _)⟩
        case measure => simp [intOf]; omega
      obtain rfl : N = j := by omega
      have B3z := Lib.hid (B32.out.grown hscr.gr B32.out.size (fun g hg => (O10.out.lt g hg).1))
      have R12 := Lib.hid (O12.out.kept hscr.gr ((Classical.em ((Value.slice a12 N c12).ownBlock = none)).imp id (fun hne he => by
        obtain ⟨g, hg⟩ := Option.ne_none_iff_exists'.1 hne
        have q1 := (O12.out.lt g hg).1
        have q2 := (O1.out.lt g (by rw [← he]; exact hg)).2
        omega)))
      clear hscr
      have SBwr := Lib.hid (B3z.out)
      have Zywr := Lib.hid ((SBwr.out.block _ (Array.getElem?_eq_some_iff.1 ZyW3.out).1).trans ZyW3.out)
      have Zvwr := Lib.hid ((SBwr.out.block _ (Array.getElem?_eq_some_iff.1 ZvW3.out).1).trans ZvW3.out)
      have HBwr := Lib.hid (thru SBwr.out HBW3.out)
      have Swr := Lib.hid (S3.out.trans (SBwr.out.mono S3.out.size))
      have ey0wr : wr.cell? ⟨w.heap.size, 0, none⟩ = some (.slice y.aT y.nT y.cT) := cell_of_block Zywr.out 0 (by simp)
      have ey1wr : wr.cell? ⟨w.heap.size, 1, none⟩ = some (.slice y.aR y.nR y.cR) := cell_of_block Zywr.out 1 (by simp)
      have ey2wr : wr.cell? ⟨w.heap.size, 2, none⟩ = some (.int .i64 y.sl) := cell_of_block Zywr.out 2 (by simp)
      have ey3wr : wr.cell? ⟨w.heap.size, 3, none⟩ = some (.int .i64 y.sh) := cell_of_block Zywr.out 3 (by simp)
      have ey4wr : wr.cell? ⟨w.heap.size, 4, none⟩ = some (.int .i64 y.gl) := cell_of_block Zywr.out 4 (by simp)
      have ey5wr : wr.cell? ⟨w.heap.size, 5, none⟩ = some (.int .i64 y.gh) := cell_of_block Zywr.out 5 (by simp)
      have ey6wr : wr.cell? ⟨w.heap.size, 6, none⟩ = some (.int .i64 y.hl) := cell_of_block Zywr.out 6 (by simp)
      have ey7wr : wr.cell? ⟨w.heap.size, 7, none⟩ = some (.int .i64 y.hh) := cell_of_block Zywr.out 7 (by simp)
      have lywr := (Array.getElem?_eq_some_iff.1 Zywr.out).1
      have ev0wr : wr.cell? ⟨w.heap.size + 1, 0, none⟩ = some (.int .i64 v.sl) := cell_of_block Zvwr.out 0 (by simp)
      have ev1wr : wr.cell? ⟨w.heap.size + 1, 1, none⟩ = some (.int .i64 v.sh) := cell_of_block Zvwr.out 1 (by simp)
      have ev2wr : wr.cell? ⟨w.heap.size + 1, 2, none⟩ = some (.int .i64 v.el) := cell_of_block Zvwr.out 2 (by simp)
      have ev3wr : wr.cell? ⟨w.heap.size + 1, 3, none⟩ = some (.int .i64 v.eh) := cell_of_block Zvwr.out 3 (by simp)
      have ev4wr : wr.cell? ⟨w.heap.size + 1, 4, none⟩ = some (.int .i64 v.pl) := cell_of_block Zvwr.out 4 (by simp)
      have ev5wr : wr.cell? ⟨w.heap.size + 1, 5, none⟩ = some (.int .i64 v.ph) := cell_of_block Zvwr.out 5 (by simp)
      have ev6wr : wr.cell? ⟨w.heap.size + 1, 6, none⟩ = some (.int .i64 v.gl) := cell_of_block Zvwr.out 6 (by simp)
      have ev7wr : wr.cell? ⟨w.heap.size + 1, 7, none⟩ = some (.int .i64 v.gh) := cell_of_block Zvwr.out 7 (by simp)
      have ev8wr : wr.cell? ⟨w.heap.size + 1, 8, none⟩ = some (.int .i64 v.ol) := cell_of_block Zvwr.out 8 (by simp)
      have ev9wr : wr.cell? ⟨w.heap.size + 1, 9, none⟩ = some (.int .i64 v.oh) := cell_of_block Zvwr.out 9 (by simp)
      have ev10wr : wr.cell? ⟨w.heap.size + 1, 10, none⟩ = some (.int .i64 v.tl) := cell_of_block Zvwr.out 10 (by simp)
      have ev11wr : wr.cell? ⟨w.heap.size + 1, 11, none⟩ = some (.int .i64 v.th) := cell_of_block Zvwr.out 11 (by simp)
      have ev12wr : wr.cell? ⟨w.heap.size + 1, 12, none⟩ = some (.int .i64 v.c) := cell_of_block Zvwr.out 12 (by simp)
      have lvwr := (Array.getElem?_eq_some_iff.1 Zvwr.out).1
      go_wp2_with fail
      refine (FER'.out _ Swr.out).mono ?_
      rintro e u4 ⟨vm, rfl, own4, hb4⟩
      obtain ⟨a14, c14, rfl, l14⟩ := tups_of_own own4
      have L14 := Lib.hid l14
      have HU4 := Lib.hid hb4; clear own4 hb4 l14
      clear ey0wr ey1wr ey2wr ey3wr ey4wr ey5wr ey6wr ey7wr ev0wr ev1wr ev2wr ev3wr ev4wr ev5wr ev6wr ev7wr ev8wr ev9wr ev10wr ev11wr ev12wr
      have SBu4 := Lib.hid (HU4.out)
      have Zyu4 := Lib.hid ((SBu4.out.block _ (Array.getElem?_eq_some_iff.1 Zywr.out).1).trans Zywr.out)
      have Zvu4 := Lib.hid ((SBu4.out.block _ (Array.getElem?_eq_some_iff.1 Zvwr.out).1).trans Zvwr.out)
      have HBu4 := Lib.hid (thru SBu4.out HBwr.out)
      have Su4 := Lib.hid (Swr.out.trans (SBu4.out.mono Swr.out.size))
      have ey0u4 : u4.cell? ⟨w.heap.size, 0, none⟩ = some (.slice y.aT y.nT y.cT) := cell_of_block Zyu4.out 0 (by simp)
      have ey1u4 : u4.cell? ⟨w.heap.size, 1, none⟩ = some (.slice y.aR y.nR y.cR) := cell_of_block Zyu4.out 1 (by simp)
      have ey2u4 : u4.cell? ⟨w.heap.size, 2, none⟩ = some (.int .i64 y.sl) := cell_of_block Zyu4.out 2 (by simp)
      have ey3u4 : u4.cell? ⟨w.heap.size, 3, none⟩ = some (.int .i64 y.sh) := cell_of_block Zyu4.out 3 (by simp)
      have ey4u4 : u4.cell? ⟨w.heap.size, 4, none⟩ = some (.int .i64 y.gl) := cell_of_block Zyu4.out 4 (by simp)
      have ey5u4 : u4.cell? ⟨w.heap.size, 5, none⟩ = some (.int .i64 y.gh) := cell_of_block Zyu4.out 5 (by simp)
      have ey6u4 : u4.cell? ⟨w.heap.size, 6, none⟩ = some (.int .i64 y.hl) := cell_of_block Zyu4.out 6 (by simp)
      have ey7u4 : u4.cell? ⟨w.heap.size, 7, none⟩ = some (.int .i64 y.hh) := cell_of_block Zyu4.out 7 (by simp)
      have lyu4 := (Array.getElem?_eq_some_iff.1 Zyu4.out).1
      have ev0u4 : u4.cell? ⟨w.heap.size + 1, 0, none⟩ = some (.int .i64 v.sl) := cell_of_block Zvu4.out 0 (by simp)
      have ev1u4 : u4.cell? ⟨w.heap.size + 1, 1, none⟩ = some (.int .i64 v.sh) := cell_of_block Zvu4.out 1 (by simp)
      have ev2u4 : u4.cell? ⟨w.heap.size + 1, 2, none⟩ = some (.int .i64 v.el) := cell_of_block Zvu4.out 2 (by simp)
      have ev3u4 : u4.cell? ⟨w.heap.size + 1, 3, none⟩ = some (.int .i64 v.eh) := cell_of_block Zvu4.out 3 (by simp)
      have ev4u4 : u4.cell? ⟨w.heap.size + 1, 4, none⟩ = some (.int .i64 v.pl) := cell_of_block Zvu4.out 4 (by simp)
      have ev5u4 : u4.cell? ⟨w.heap.size + 1, 5, none⟩ = some (.int .i64 v.ph) := cell_of_block Zvu4.out 5 (by simp)
      have ev6u4 : u4.cell? ⟨w.heap.size + 1, 6, none⟩ = some (.int .i64 v.gl) := cell_of_block Zvu4.out 6 (by simp)
      have ev7u4 : u4.cell? ⟨w.heap.size + 1, 7, none⟩ = some (.int .i64 v.gh) := cell_of_block Zvu4.out 7 (by simp)
      have ev8u4 : u4.cell? ⟨w.heap.size + 1, 8, none⟩ = some (.int .i64 v.ol) := cell_of_block Zvu4.out 8 (by simp)
      have ev9u4 : u4.cell? ⟨w.heap.size + 1, 9, none⟩ = some (.int .i64 v.oh) := cell_of_block Zvu4.out 9 (by simp)
      have ev10u4 : u4.cell? ⟨w.heap.size + 1, 10, none⟩ = some (.int .i64 v.tl) := cell_of_block Zvu4.out 10 (by simp)
      have ev11u4 : u4.cell? ⟨w.heap.size + 1, 11, none⟩ = some (.int .i64 v.th) := cell_of_block Zvu4.out 11 (by simp)
      have ev12u4 : u4.cell? ⟨w.heap.size + 1, 12, none⟩ = some (.int .i64 v.c) := cell_of_block Zvu4.out 12 (by simp)
      have lvu4 := (Array.getElem?_eq_some_iff.1 Zvu4.out).1
      go_wp2_with fail
      refine (AI'.out _ (Su4.out)).mono ?_
      rintro e w1 ⟨⟨xv1, rfl⟩, hbz1⟩
      obtain ⟨z1, hxz1⟩ := gw_of_below hbz1
      subst hxz1
      clear hbz1
      go_wp2_with fail
      refine (CO'.out _ (Su4.out.trans ((below_gw u4 z1).mono Su4.out.size))).mono ?_
      rintro e w1 ⟨⟨xv2, rfl⟩, hbz2⟩
      obtain ⟨z2, hxz2⟩ := gw_of_below (thru hbz2 (below_gw u4 z1))
      subst hxz2
      clear hbz2
      go_wp2_with fail
      refine (Calls.gw_of (ints_t y.aT a7 y.nT y.cT q7 _ (gw u4 z2) hf.t (HI.out.t.below (Su4.out.trans ((below_gw u4 z2).mono Su4.out.size))) (L7.out.below (thru (below_gw u4 z2) (thru HU4.out B3z.out))))).mono ?_
      rintro e w1 ⟨rfl, z3, rfl⟩
      go_wp2_with fail
      refine (Calls.gw_of (sameSpans_t y.aR a8 y.nR y.cR q8 _ _ (gw u4 z3) hf.r (HI.out.r.below (Su4.out.trans ((below_gw u4 z3).mono Su4.out.size))) (L8.out.below (thru (below_gw u4 z3) (thru HU4.out B3z.out))))).mono ?_
      rintro e w1 ⟨rfl, z4, rfl⟩
      go_wp2_with fail
      refine (Calls.gw_of (sameSpans_t aS a9 k cS q9 _ _ (gw u4 z4) hk (HS.out.below (Su4.out.trans ((below_gw u4 z4).mono Su4.out.size))) (L9.out.below (thru (below_gw u4 z4) (thru HU4.out B3z.out))))).mono ?_
      rintro e w1 ⟨rfl, z5, rfl⟩
      go_wp2_with fail
      refine (Calls.gw_of (sameVats_t a14 a12 N c14 c12 _ (gw u4 z5) (by omega) (L14.out.below (below_gw u4 z5)) (show TupsAt (gw u4 z5) a12 13 N (fun i q => (y.vs v F G (i + 1)).num q) from by obtain ⟨a, c, hv, hT⟩ := tups_of_own R12.out; cases hv; exact hT.below (thru (below_gw u4 z5) HU4.out)))).mono ?_
      rintro e w1 ⟨rfl, z6, rfl⟩
      go_wp2_with fail
      refine (Calls.gw_of (alive_any _)).mono ?_
      rintro e w1 ⟨rfl, z7, rfl⟩
      go_wp2_with fail
      go_ret
      exact ⟨rfl, HBu4.out.gw z7⟩
end Go.Proofs.Ytecbacbecopbeaa
