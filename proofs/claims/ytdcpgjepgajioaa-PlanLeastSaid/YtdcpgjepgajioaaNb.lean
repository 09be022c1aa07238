/- Contract of PlanLeast: true. No conditions beyond each theorem's own. -/
import Derived.Test.YtdcpgjepgajioaaNa
import Derived.Test.YtdcpgjepgajioaaAe
set_option linter.unusedVariables false
set_option linter.unusedSimpArgs false
set_option linter.unusedSectionVars false
set_option linter.constructorNameAsVariable false
namespace Go.Proofs.Ytdcpgjepgajioaa
open Go.RowKit

attribute [local go_sem] gw_cell gw_frozen gw_size
attribute [local go_sem] keepW_cell

theorem keep3 {W w : World} {b c d : Nat} (h : w.heap[b]? = W.heap[b]?) (h2 : w.heap[c]? = W.heap[c]?) (h3 : w.heap[d]? = W.heap[d]?) : ∃ x : KeepW W [b, c, d], w = x.w := ⟨⟨w, fun b' hb => by simp only [List.mem_cons, List.not_mem_nil, or_false] at hb; rcases hb with hb | hb | hb <;> rw [hb] <;> assumption⟩, rfl⟩
theorem lotF_snoc {l : List Nat} {r t : Nat} {M : Nat → Int} (h : ∀ t, t < l.length → lotF l t ≤ M t) (hr : (r : Int) ≤ M l.length) (ht : t < (l ++ [r]).length) : lotF (l ++ [r]) t ≤ M t := by
  by_cases e : t = l.length
  · subst e; rw [lotF_end]; exact hr
  · have ht2 : t < l.length := by simp at ht; omega
    rw [lotF_app ht2]; exact h t ht2
theorem ints_of_nats {w : World} {base c : Nat} {a : Option Addr} {l : List Nat} (h : w.ownsRow base 3 1 (.slice a l.length c) l.length (natsV l)) : IntsAt w a l.length (lotF l) := by
  have := row_of_own (ob := none) h (fun b e => by cases e)
  exact this.ints
theorem lots_ok {y : Lyg} {p : List Nat} (hl : p.length = y.nM) (hv : ∀ t, t < y.nM → lotF p t ≤ y.M t) : lotsB y y.nM (lotF p) = true := by
  unfold lotsB
  rw [allB_t.2 (fun t ht => inB_t.2 ⟨lotF_pos _ _, hv t ht⟩)]
  simp
theorem keepsE_of {o : Otl} {y : Lyg} {p : List Nat} {n : Nat} (hl : p.length = n) (h : keepB o y p = true) : keepsE o y n (lotF p) = 0 := by
  unfold keepB at h
  rw [hl] at h
  exact of_decide_eq_true h
theorem before_b {b : Bool} (aA aB : Option Addr) (n m cA cB : Nat) (A B : Nat → Int) (w : World) (hA : IntsAt w aA n A) (hB : IntsAt w aB m B) (hn : n ≤ m) (hm : m ≤ 9223372036854775807) (h : befB A B n 0 = b) :
    Calls Try.prog 28 #[.slice aA n cA, .slice aB m cB] w fun e w' => e = .returned (.bool b) ∧ Below w.heap.size w w' := h ▸ before_any aA aB n m cA cB A B w hA hB hn hm

set_option maxRecDepth 100000 in
set_option maxHeartbeats 16000000 in
theorem planLeast_law (o : Otl) (y : Lyg) (aB : Option Addr) (nB cB : Nat) (B : Nat → Int) (w : World) (hO : o.In w) (hfo : o.Fits) (hY : y.In w) (hfy : y.Fits) (hB : NumsAt .u8 w aB nB B) (hnB : nB ≤ 9223372036854775807) (hBr : ∀ i, i < nB → 0 ≤ B i ∧ B i ≤ 255) :
    Calls Try.prog 7 #[o.val, y.val, .slice aB nB cB] w fun e w' => e = .returned (.bool true) ∧ Below w.heap.size w w' := by
  unfold Otl.val Lyg.val
  obtain ⟨W1, hW1⟩ : ∃ W1, (w.alloc (.cells #[.slice o.aS o.nS o.cS, .int .i64 o.kl, .int .i64 o.kh, .slice o.aA o.nA o.cA, .slice o.aP o.nP o.cP] 27)).alloc (.cells #[.slice y.aR y.nR y.cR, .slice y.aM y.nM y.cM, .int .i64 y.lot, .int .i64 y.room] 29) = W1 := ⟨_, rfl⟩
  have hBc : Below w.heap.size w W1 := by rw [← hW1]; exact (below_alloc _ _).alloc (by simp) _
  have zc0 : W1.heap[w.heap.size]? = some (.cells #[.slice o.aS o.nS o.cS, .int .i64 o.kl, .int .i64 o.kh, .slice o.aA o.nA o.cA, .slice o.aP o.nP o.cP] 27 (0, 0)) := by rw [← hW1]; exact alloc_keep (alloc_at rfl)
  have zc1 : W1.heap[w.heap.size + 1]? = some (.cells #[.slice y.aR y.nR y.cR, .slice y.aM y.nM y.cM, .int .i64 y.lot, .int .i64 y.room] 29 (0, 0)) := by rw [← hW1]; exact alloc_at (by simp)
  have c00 : W1.cell? ⟨w.heap.size, 0, none⟩ = some (.slice o.aS o.nS o.cS) := cell_of_block zc0 0 (by simp)
  have c01 : W1.cell? ⟨w.heap.size, 1, none⟩ = some (.int .i64 o.kl) := cell_of_block zc0 1 (by simp)
  have c02 : W1.cell? ⟨w.heap.size, 2, none⟩ = some (.int .i64 o.kh) := cell_of_block zc0 2 (by simp)
  have c03 : W1.cell? ⟨w.heap.size, 3, none⟩ = some (.slice o.aA o.nA o.cA) := cell_of_block zc0 3 (by simp)
  have c04 : W1.cell? ⟨w.heap.size, 4, none⟩ = some (.slice o.aP o.nP o.cP) := cell_of_block zc0 4 (by simp)
  have c10 : W1.cell? ⟨w.heap.size + 1, 0, none⟩ = some (.slice y.aR y.nR y.cR) := cell_of_block zc1 0 (by simp)
  have c11 : W1.cell? ⟨w.heap.size + 1, 1, none⟩ = some (.slice y.aM y.nM y.cM) := cell_of_block zc1 1 (by simp)
  have c12 : W1.cell? ⟨w.heap.size + 1, 2, none⟩ = some (.int .i64 y.lot) := cell_of_block zc1 2 (by simp)
  have c13 : W1.cell? ⟨w.heap.size + 1, 3, none⟩ = some (.int .i64 y.room) := cell_of_block zc1 3 (by simp)
  have lc0 := (Array.getElem?_eq_some_iff.1 zc0).1
  have lc1 := (Array.getElem?_eq_some_iff.1 zc1).1
  have Zc0 := Lib.hid zc0
  have Zc1 := Lib.hid zc1
  clear zc0 zc1
  have HBc := Lib.hid hBc; clear hBc
  have HWc := Lib.hid hW1; clear hW1
  have GR := great_any o y none 0 0 W1 (hO.below HBc.out) hfo hfy (by decide)
  have SL := fun z => slow_any y 3000 (gw W1 z) (hY.below (thru (below_gw W1 z) HBc.out)) hfy.nM (by decide) (by decide)
  have CH := fun W (hb : Below W1.heap.size W1 W) => Cheapest_any o y W (hO.below (thru hb HBc.out)) hfo (hY.below (thru hb HBc.out)) hfy
  have FW := fun W (hb : Below W1.heap.size W1 W) => Fewest_any o y W (hO.below (thru hb HBc.out)) hfo (hY.below (thru hb HBc.out)) hfy
  rw [← chE_both] at FW
  have KP := fun W (hb : Below W1.heap.size W1 W) (a : Option Addr) (m c : Nat) (p : List Nat) (hL : IntsAt W a m (lotF p)) (hm : m ≤ 9223372036854775807) => Keeps_any o y a m c (lotF p) W (hO.below (thru hb HBc.out)) hfo (hY.below (thru hb HBc.out)) hfy hL hm
  unfold KeepsEnd at KP
  have LT := fun W (hb : Below W1.heap.size W1 W) (a : Option Addr) (m c : Nat) (p : List Nat) (hL : IntsAt W a m (lotF p)) (hm : m ≤ 9223372036854775807) => rLots_any y a m c (lotF p) W (hY.below (thru hb HBc.out)) hfy hL hm
  have HY := Lib.hid (hY.below HBc.out); have HBY := Lib.hid (hB.below HBc.out); have HBR := Lib.hid hBr
  obtain ⟨sb, hsb⟩ : ∃ sb : Bool, decide ((3000 : Int) < slowN y.M 3000 y.nM) = sb := ⟨_, rfl⟩
  simp only [hsb] at SL
  unfold Otl.val Lyg.val at GR CH FW KP
  unfold Lyg.val at SL LT
  have GR := Lib.hid GR; have SL := Lib.hid SL; have KP := Lib.hid KP; have LT := Lib.hid LT
  clear hsb hO hY hfo hfy hB hBr
  by_cases hv : outB o = true ∧ layB o y = true
  rotate_left
  · obtain ⟨h1, h2, h3⟩ := ch_arg (wt := y.R) hv
    obtain ⟨g1, g2, g3⟩ := ch_arg (wt := fun _ => 1) hv
    rw [h1, h2, h3] at CH
    rw [h1, g2] at FW
    have CH := Lib.hid CH; have FW := Lib.hid FW
    clear h1 h2 h3 g1 g2 g3
    go_enter Try.func7, Try.ntmps7
    go_upto_region 1 with (fail)
    rw [HWc.out]
    go_wp2_with fail
    refine GR.out.mono ?_
    rintro e w1 ⟨g, rfl, hg, hb⟩
    obtain ⟨z1, rfl⟩ := gw_of_below hb
    clear hb hg
    cases g
    rotate_left
    · go_wp2_with fail
      refine (Calls.gw_of (awake_any (gw W1 z1))).mono ?_
      rintro e w9 ⟨rfl, z9, rfl⟩
      go_wp2_with fail
      go_ret
      exact ⟨rfl, HBc.out.gw z9⟩
    go_wp2_with fail
    refine (Calls.gw_of (SL.out z1)).mono ?_
    rintro e w1 ⟨rfl, z2, rfl⟩
    cases sb
    rotate_left
    · go_wp2_with fail
      refine (Calls.gw_of (awake_any (gw W1 z2))).mono ?_
      rintro e w9 ⟨rfl, z9, rfl⟩
      go_wp2_with fail
      go_ret
      exact ⟨rfl, HBc.out.gw z9⟩
    by_cases hb0 : nB = 0
    · have db : ((nB : Int) == 0) = true := by simp; omega
      go_wp2_with fail
      refine (Calls.gw_of (awake_any (gw W1 z2))).mono ?_
      rintro e w9 ⟨rfl, z9, rfl⟩
      go_wp2_with fail
      go_ret
      exact ⟨rfl, HBc.out.gw z9⟩
    have db : ((nB : Int) == 0) = false := by simp; omega
    go_wp2_with fail
    clear db
    refine (CH.out _ (below_gw W1 z2)).mono ?_
    rintro e w2 ⟨a1, q1, rfl, hr1, hb1⟩
    have I1 := Lib.hid hr1.ints
    obtain ⟨z3, rfl⟩ := gw_of_below (thru hb1 (below_gw W1 z2))
    clear hr1 hb1
    go_wp2_with fail
    refine (FW.out _ (below_gw W1 z3)).mono ?_
    rintro e w3 ⟨a2, q2, rfl, hr2, hb2⟩
    have I1 := Lib.hid (I1.out.below hb2)
    have I2 := Lib.hid hr2.ints
    obtain ⟨z4, rfl⟩ := gw_of_below (thru hb2 (below_gw W1 z3))
    clear hr2 hb2
    go_wp2_with fail
    refine (Calls.gw_of (awake_any (gw W1 z4))).mono ?_
    rintro e w9 ⟨rfl, z9, rfl⟩
    go_wp2_with fail
    go_ret
    exact ⟨rfl, HBc.out.gw z9⟩
  obtain ⟨e1, e2⟩ := hv
  have HV := Lib.hid (show outB o = true ∧ layB o y = true from ⟨e1, e2⟩)
  have M8 := Lib.hid (layB_t e2).2.2.2.1
  obtain ⟨j0, jh, jy0, jy1, jy2⟩ := info_parts infoInt
  have JI := Lib.hid jh; have Y0 := Lib.hid jy0; have Y1 := Lib.hid jy1; have Y2 := Lib.hid jy2
  clear jh jy0 jy1 jy2
  have nM10 : y.nM ≤ 10 := by have a := (outB_t e1).2.2.2.2.2.2.2.2; have := (a.2 0 (by omega)).2.1; have := (layB_t e2).2.1; omega
  have HRW := Lib.hid (show ∀ t, t < y.nM → 0 ≤ y.R t ∧ y.R t ≤ 1073741824 from fun t ht => (layB_t e2).2.2.1 t (by have a := layB_t e2; have := a.1; have := a.2.1; omega))
  have nRM := Lib.hid (show y.nR = y.nM by have a := layB_t e2; have := a.1; have := a.2.1; omega)
  cases hf : findF o y y.R with
  | none =>
    have hf2 := find_both (w2 := fun _ => 1) e1 e2 (fun t ht => (HRW.out t ht).1) (fun t _ => by decide) hf
    obtain ⟨h1, h2, h3⟩ := ch_none ⟨e1, e2⟩ hf
    obtain ⟨g1, g2, g3⟩ := ch_none ⟨e1, e2⟩ hf2
    rw [h1, h2, h3] at CH
    rw [h1, g2] at FW
    have CH := Lib.hid CH; have FW := Lib.hid FW
    have HNO := Lib.hid (fun (q : List Nat) (hq : q ∈ planL y.M y.nM []) => find_none e1 e2 (fun t ht => (HRW.out t ht).1) hf hq)
    clear h1 h2 h3 g1 g2 g3 e1 e2 hf hf2
    go_enter Try.func7, Try.ntmps7
    go_upto_region 1 with (fail)
    rw [HWc.out]
    go_wp2_with fail
    refine GR.out.mono ?_
    rintro e w1 ⟨g, rfl, hg, hb⟩
    obtain ⟨z1, rfl⟩ := gw_of_below hb
    clear hb hg
    cases g
    rotate_left
    · go_wp2_with fail
      refine (Calls.gw_of (awake_any (gw W1 z1))).mono ?_
      rintro e w9 ⟨rfl, z9, rfl⟩
      go_wp2_with fail
      go_ret
      exact ⟨rfl, HBc.out.gw z9⟩
    go_wp2_with fail
    refine (Calls.gw_of (SL.out z1)).mono ?_
    rintro e w1 ⟨rfl, z2, rfl⟩
    cases sb
    rotate_left
    · go_wp2_with fail
      refine (Calls.gw_of (awake_any (gw W1 z2))).mono ?_
      rintro e w9 ⟨rfl, z9, rfl⟩
      go_wp2_with fail
      go_ret
      exact ⟨rfl, HBc.out.gw z9⟩
    by_cases hb0 : nB = 0
    · have db : ((nB : Int) == 0) = true := by simp; omega
      go_wp2_with fail
      refine (Calls.gw_of (awake_any (gw W1 z2))).mono ?_
      rintro e w9 ⟨rfl, z9, rfl⟩
      go_wp2_with fail
      go_ret
      exact ⟨rfl, HBc.out.gw z9⟩
    have db : ((nB : Int) == 0) = false := by simp; omega
    go_wp2_with fail
    clear db
    refine (CH.out _ (below_gw W1 z2)).mono ?_
    rintro e w2 ⟨a1, q1, rfl, hr1, hb1⟩
    have I1 := Lib.hid hr1.ints
    obtain ⟨z3, rfl⟩ := gw_of_below (thru hb1 (below_gw W1 z2))
    clear hr1 hb1
    go_wp2_with fail
    refine (FW.out _ (below_gw W1 z3)).mono ?_
    rintro e w3 ⟨a2, q2, rfl, hr2, hb2⟩
    have I1 := Lib.hid (I1.out.below hb2)
    have I2 := Lib.hid hr2.ints
    obtain ⟨z4, rfl⟩ := gw_of_below (thru hb2 (below_gw W1 z3))
    clear hr2 hb2
    go_wp2_with fail
    obtain ⟨W2, hW2⟩ : ∃ W2, gw W1 z4 = W2 := ⟨_, rfl⟩
    have HB2 := Lib.hid (show Below W1.heap.size W1 W2 by rw [← hW2]; exact below_gw W1 z4)
    rw [hW2] at I1 I2 ⊢
    clear hW2 c00 c01 c02 c03 c04 c10 c11 c12 c13
    go_loopw [12, 13] (fun s12 s13 wr => ∃ (l : List Nat) (ab : Option Addr) (cb n : Nat), n ≤ y.nM ∧ s12 = .slice ab n cb ∧ s13 = .int .i64 (n : Int) ∧ Hid (l.length = n) ∧ Hid (∀ t, t < l.length → lotF l t ≤ y.M t) ∧ Hid (wr.ownsRow W2.heap.size 3 1 (.slice ab l.length cb) l.length (natsV l)) ∧ Hid (Below W2.heap.size W2 wr)) (fun _ s13 _ => y.nM - (intOf s13).toNat)
    case atStart => exact ⟨[], none, 0, 0, Nat.zero_le _, rfl, rfl, Lib.hid rfl, Lib.hid (fun t ht => by cases ht), Lib.hid (World.ownsRow_nil _ _ _ _), Lib.hid (Below.refl _ _)⟩
    case round =>
      obtain ⟨l, ab, cb, n, hn, rfl, rfl, HLN, HLV, HOW, HW⟩ := hrel
      have HBV := Lib.hid (thru HW.out HB2.out)
      have b0 := Lib.hid ((HBV.out.block _ lc0).trans Zc0.out)
      have b1 := Lib.hid ((HBV.out.block _ lc1).trans Zc1.out)
      have x00 : wr.cell? ⟨w.heap.size, 0, none⟩ = some (.slice o.aS o.nS o.cS) := cell_of_block b0.out 0 (by simp)
      have x01 : wr.cell? ⟨w.heap.size, 1, none⟩ = some (.int .i64 o.kl) := cell_of_block b0.out 1 (by simp)
      have x02 : wr.cell? ⟨w.heap.size, 2, none⟩ = some (.int .i64 o.kh) := cell_of_block b0.out 2 (by simp)
      have x03 : wr.cell? ⟨w.heap.size, 3, none⟩ = some (.slice o.aA o.nA o.cA) := cell_of_block b0.out 3 (by simp)
      have x04 : wr.cell? ⟨w.heap.size, 4, none⟩ = some (.slice o.aP o.nP o.cP) := cell_of_block b0.out 4 (by simp)
      have x10 : wr.cell? ⟨w.heap.size + 1, 0, none⟩ = some (.slice y.aR y.nR y.cR) := cell_of_block b1.out 0 (by simp)
      have x11 : wr.cell? ⟨w.heap.size + 1, 1, none⟩ = some (.slice y.aM y.nM y.cM) := cell_of_block b1.out 1 (by simp)
      have x12 : wr.cell? ⟨w.heap.size + 1, 2, none⟩ = some (.int .i64 y.lot) := cell_of_block b1.out 2 (by simp)
      have x13 : wr.cell? ⟨w.heap.size + 1, 3, none⟩ = some (.int .i64 y.room) := cell_of_block b1.out 3 (by simp)
      have lx0 := (Array.getElem?_eq_some_iff.1 b0.out).1
      have lx1 := (Array.getElem?_eq_some_iff.1 b1.out).1
      by_cases hlt : n < y.nM
      · rcases HY.out.iM with h0 | ⟨bM, oM, eM, lM, hcM⟩
        · omega
        rcases HBY.out with h0 | ⟨bB, oB, eB, lB, hcB⟩
        · omega
        have yM := (HBV.out.cell (p := ⟨bM, oM + n, none⟩) lM).trans (hcM n hlt)
        have mM : bM < wr.heap.size := Nat.lt_of_lt_of_le lM HBV.out.size
        have mB : bB < wr.heap.size := Nat.lt_of_lt_of_le lB HBV.out.size
        obtain ⟨mv, hmv⟩ : ∃ mv, y.M n = mv := ⟨_, rfl⟩
        have rM := M8.out n hlt
        rw [hmv] at yM rM
        rw [eM] at x11
        obtain ⟨g8, em, ml⟩ : ∃ g : Nat, (n : Int) % (nB : Int) = g ∧ g < nB := ⟨((n : Int) % (nB : Int)).toNat, by have := Int.emod_nonneg (n : Int) (show (nB : Int) ≠ 0 by omega); omega, by have := Int.emod_nonneg (n : Int) (show (nB : Int) ≠ 0 by omega); have := Int.emod_lt_of_pos (n : Int) (show 0 < (nB : Int) by omega); omega⟩
        have mli : (g8 : Int) < (nB : Int) := by omega
        obtain ⟨bv, hbv⟩ : ∃ v, B g8 = v := ⟨_, rfl⟩
        have xB := (HBV.out.cell (p := ⟨bB, oB + g8, none⟩) lB).trans (hcB g8 ml)
        rw [hbv] at xB
        have br := HBR.out g8 ml
        rw [hbv] at br
        obtain ⟨r, hrm⟩ : ∃ r : Nat, bv % (mv + 1) = r := ⟨(bv % (mv + 1)).toNat, by have := Int.emod_nonneg bv (show mv + 1 ≠ 0 by omega); omega⟩
        have rm1 : (r : Int) ≤ mv := by have := Int.emod_lt_of_pos bv (show 0 < mv + 1 by omega); omega
        have dn : ¬ (nB : Int) = 0 := by omega
        have dm : ¬ mv + 1 = 0 := by omega
        have dm2 : decide (mv < 0) = false := by simp; omega
        have hni : (n : Int) < (y.nM : Int) := by omega
        have HLT := Lib.hid hlt
        have HMV := Lib.hid hmv
        subst eB
        have EM := Lib.hid eM
        clear hcM hcB hbv hmv eM
        have HOA := Lib.hid (own_below HOW.out (below_alloc wr (.cells #[] 3)))
        clear HOA
        go_wp2_with fail
        haveI hne : Nonempty (KeepW wr [w.heap.size + 1, bM, bB]) := ⟨⟨wr, fun _ _ => rfl⟩⟩
        refine wp_region_steps (fun w' => ∃ x : KeepW wr [w.heap.size + 1, bM, bB], w' = x.w) [([0, 1, 2, 3, 9, 10, 11, 12, 13, 14], 4), ([5, 6, 7], 8), ([15], 16), ([], 17)] [18] [] (by kernel_rfl) (by kernel_rfl) ?_
        rintro _ ⟨x0, rfl⟩
        refine ⟨keep3 (gw_block wr x0 _ lx1) (gw_block wr x0 _ mM) (gw_block wr x0 _ mB), ?_⟩
        refine wpSeg_cons ?_
        simp only [pickL, List.getElem?_cons_zero, List.getElem?_cons_succ]
        repeat (go_big_quiet_step (fail))
        refine wpQuiet_nil ?_
        go_wp2_with fail
        refine contQ_now ⟨keep3 (gw_block wr x0 _ lx1) (gw_block wr x0 _ mM) (gw_block wr x0 _ mB), ?_⟩
        refine wpSeg_cons ?_
        simp only [pickL, List.getElem?_cons_zero, List.getElem?_cons_succ]
        repeat (go_big_quiet_step (fail))
        refine wpQuiet_nil ?_
        go_wp2_with fail
        refine contQ_now ⟨keep3 (gw_block wr x0 _ lx1) (gw_block wr x0 _ mM) (gw_block wr x0 _ mB), ?_⟩
        refine wpSeg_cons ?_
        simp only [pickL, List.getElem?_cons_zero, List.getElem?_cons_succ]
        repeat (go_big_quiet_step (fail))
        refine wpQuiet_nil ?_
        go_wp2_with fail
        obtain ⟨V4, hV4⟩ : ∃ V4, (gw wr x0).alloc (.cells #[.int .i64 (r : Int)] 3) = V4 := ⟨_, rfl⟩
        have HB4 := Lib.hid (show Below wr.heap.size wr V4 by rw [← hV4]; exact (below_gw wr x0).alloc (by rw [gw_size]; omega) _)
        have NN := Lib.hid (show ∀ (i : Nat) (u : Value), [Value.int .i64 (r : Int)][i]? = some u → V4.cell? ((⟨(gw wr x0).heap.size, 0, none⟩ : Addr).add i) = some u by rw [← hV4]; exact news_lit _ _ _)
        have hgz : (gw wr x0).heap.size = wr.heap.size + x0.bs.size := gw_size wr x0
        rw [hgz] at NN
        have HO4 := own_below HOW.out HB4.out
        rw [HLN.out] at HO4
        have HO4 := Lib.hid HO4
        rw [hV4]
        clear hV4 hgz
        refine contQ_now ⟨keep3 (HB4.out.block _ lx1) (HB4.out.block _ mM) (HB4.out.block _ mB), ?_⟩
        refine wpSeg_cons ?_
        simp only [pickL, List.getElem?_cons_zero, List.getElem?_cons_succ]
        refine wpQuiet_nil ?_
        have sz4 := HB4.out.size
        have sw := HW.out.size
        go_wp2_with (at_builtin; refine wpList_append_own _ rfl _ _ 22 rfl W2.heap.size 3 j0 (.int .i64 0) 1 8 Try.underlying22 JI.out Y0.out Y1.out Y2.out rfl (by decide) _ n (natsV l) rfl HO4.out ⟨wr.heap.size + x0.bs.size, 0, none⟩ 1 1 [.int .i64 (r : Int)] rfl rfl NN.out (by simp [Value.oneCell']) (by unfold maxLen; omega) (by omega) (by omega) ?_; intro v6 V6 hown6 hgrow6 _)
        have g6 : V4.grownBy V6 (Value.slice ab n cb).ownBlock := hgrow6
        have ol := fun b hb => HO4.out.lt b hb
        have HB6 := Lib.hid (((HW.out.trans (HB4.out.mono sw))).grown g6 (by omega) (fun b e => (ol b e).1))
        rw [natsV_push] at hown6
        obtain ⟨a6, c6, rfl⟩ := own_form hown6
        have HLN6 := Lib.hid (show (l ++ [r]).length = n + 1 by rw [List.length_append, HLN.out]; rfl)
        have HOW6 := Lib.hid (show V6.ownsRow W2.heap.size 3 1 (.slice a6 (l ++ [r]).length c6) (l ++ [r]).length (natsV (l ++ [r])) by rw [HLN6.out]; exact hown6)
        have own6 : ∀ b, b < W2.heap.size → some b ≠ (Value.slice ab n cb).ownBlock := fun b hb e => by have := (ol b e.symm).1; omega
        have kB : ∀ b, b < W2.heap.size → b < wr.heap.size → V6.heap[b]? = wr.heap[b]? := fun b h1 h2 => (g6.block b (by omega) (own6 b h1)).trans (HB4.out.block b h2)
        have q1 : w.heap.size + 1 < W2.heap.size := Nat.lt_of_lt_of_le lc1 HB2.out.size
        have q2 : bM < W2.heap.size := Nat.lt_of_lt_of_le lM HB2.out.size
        have q3 : bB < W2.heap.size := Nat.lt_of_lt_of_le lB HB2.out.size
        refine contQ_now ⟨keep3 (kB _ q1 lx1) (kB _ q2 mM) (kB _ q3 mB), ?_⟩
        clear kB own6 ol g6 hown6 hgrow6
        refine wpSeg_nil ?_
        simp only [pickL, List.getElem?_cons_zero, List.getElem?_cons_succ]
        repeat (go_big_quiet_step (fail))
        refine wpQuiet_nil ?_
        refine contN_nil ?_
        go_wp2_with fail
        go_roundw
        case rel => exact ⟨l ++ [r], a6, c6, n + 1, HLT.out, rfl, by have := HLT.out; go_num, HLN6, Lib.hid (fun t ht => lotF_snoc HLV.out (by rw [HLN.out, HMV.out]; exact rm1) ht), HOW6, HB6⟩
        case measure => have := HLT.out; simp only [intOf]; omega
      · have hnn : n = y.nM := by omega
        obtain ⟨V, rfl⟩ : ∃ V, V = wr := ⟨_, rfl⟩
        have HIO := ints_of_nats HOW.out
        have hll : l.length = y.nM := HLN.out.trans hnn
        rw [HLN.out] at HIO
        have HIO := Lib.hid HIO
        have HLL := Lib.hid hll
        have HPL := Lib.hid (show l ∈ planL y.M y.nM [] by have e := mem_plans HLV.out; rw [hll] at e; exact e)
        have I1 := Lib.hid (I1.out.below HW.out)
        have I2 := Lib.hid (I2.out.below HW.out)
        clear HOW HW
        have HKE := fun W (hb : Below V.heap.size V W) => KP.out W (thru hb HBV.out) ab n cb l (HIO.out.below hb) (by omega)
        obtain ⟨kp, hkp⟩ : ∃ k, keepsP o y n (lotF l) = k := ⟨_, rfl⟩
        obtain ⟨ky, hky⟩ : ∃ k, keepsY o y n (lotF l) = k := ⟨_, rfl⟩
        obtain ⟨ke, hke⟩ : ∃ k, keepsE o y n (lotF l) = k := ⟨_, rfl⟩
        simp only [hkp, hky, hke] at HKE
        have HKB := Lib.hid (show keepB o y l = decide (ke = 0) by unfold keepB; rw [HLN.out, hke])
        have HKE := Lib.hid HKE
        have HNN := Lib.hid hnn
        have n10 : n ≤ 10 := by omega
        clear hkp hky hke hnn hll
        go_wp2_with fail
        refine (Calls.grown (HKE.out V (Below.refl _ _))).mono ?_
        rintro e w4 ⟨rfl, z5, rfl⟩
        have hno := HNO.out l HPL.out
        rw [HKB.out] at hno
        have dk : (ke != 0) = true := by simpa using hno
        clear hno
        go_wp2_with fail
        refine (Calls.gw_of (awake_any (gw V z5))).mono ?_
        rintro e w9 ⟨rfl, z9, rfl⟩
        go_wp2_with fail
        go_ret
        exact ⟨rfl, HBc.out.trans ((HBV.out.gw z9).mono HBc.out.size)⟩
  | some x =>
    obtain ⟨z, hf2⟩ : ∃ z, findF o y (fun _ => 1) = some z := by cases h : findF o y (fun _ => 1) with | none => (rw [find_both e1 e2 (fun t _ => by decide) (fun t ht => (HRW.out t ht).1) h] at hf; cases hf) | some z => exact ⟨z, rfl⟩
    have FX := find_ok e1 e2 (fun t ht => (HRW.out t ht).1) hf
    have FZ := find_ok e1 e2 (fun t _ => by decide) hf2
    have LX := Lib.hid (fun (q : List Nat) (hq : q ∈ planL y.M y.nM []) => find_least e1 e2 (fun t ht => (HRW.out t ht).1) hf hq)
    have LZ := Lib.hid (fun (q : List Nat) (hq : q ∈ planL y.M y.nM []) => find_least e1 e2 (fun t _ => by decide) hf2 hq)
    obtain ⟨h1, h2, h3⟩ := ch_some ⟨e1, e2⟩ hf
    obtain ⟨g1, g2, g3⟩ := ch_some ⟨e1, e2⟩ hf2
    rw [h1, h2, h3] at CH
    rw [h1, g2] at FW
    simp only [FX.1] at CH
    simp only [FZ.1] at FW
    have CH := Lib.hid CH; have FW := Lib.hid FW
    clear h1 h2 h3 g1 g2 g3 e1 e2 hf hf2
    obtain ⟨lx, cx⟩ := x
    obtain ⟨lz, cz⟩ := z
    dsimp only at FX FZ LX LZ CH FW
    replace FX := Lib.hid FX
    replace FZ := Lib.hid FZ
    go_enter Try.func7, Try.ntmps7
    go_upto_region 1 with (fail)
    rw [HWc.out]
    go_wp2_with fail
    refine GR.out.mono ?_
    rintro e w1 ⟨g, rfl, hg, hb⟩
    obtain ⟨z1, rfl⟩ := gw_of_below hb
    clear hb hg
    cases g
    rotate_left
    · go_wp2_with fail
      refine (Calls.gw_of (awake_any (gw W1 z1))).mono ?_
      rintro e w9 ⟨rfl, z9, rfl⟩
      go_wp2_with fail
      go_ret
      exact ⟨rfl, HBc.out.gw z9⟩
    go_wp2_with fail
    refine (Calls.gw_of (SL.out z1)).mono ?_
    rintro e w1 ⟨rfl, z2, rfl⟩
    cases sb
    rotate_left
    · go_wp2_with fail
      refine (Calls.gw_of (awake_any (gw W1 z2))).mono ?_
      rintro e w9 ⟨rfl, z9, rfl⟩
      go_wp2_with fail
      go_ret
      exact ⟨rfl, HBc.out.gw z9⟩
    by_cases hb0 : nB = 0
    · have db : ((nB : Int) == 0) = true := by simp; omega
      go_wp2_with fail
      refine (Calls.gw_of (awake_any (gw W1 z2))).mono ?_
      rintro e w9 ⟨rfl, z9, rfl⟩
      go_wp2_with fail
      go_ret
      exact ⟨rfl, HBc.out.gw z9⟩
    have db : ((nB : Int) == 0) = false := by simp; omega
    go_wp2_with fail
    clear db
    refine (CH.out _ (below_gw W1 z2)).mono ?_
    rintro e w2 ⟨a1, q1, rfl, hr1, hb1⟩
    have I1 := hr1.ints
    rw [FX.out.1] at I1
    have I1 := Lib.hid (show IntsAt w2 a1 y.nM (lotF lx) from I1)
    obtain ⟨z3, rfl⟩ := gw_of_below (thru hb1 (below_gw W1 z2))
    clear hr1 hb1
    go_wp2_with fail
    refine (FW.out _ (below_gw W1 z3)).mono ?_
    rintro e w3 ⟨a2, q2, rfl, hr2, hb2⟩
    have I1 := Lib.hid (I1.out.below hb2)
    have I2 := hr2.ints
    rw [FZ.out.1] at I2
    have I2 := Lib.hid (show IntsAt w3 a2 y.nM (lotF lz) from I2)
    obtain ⟨z4, rfl⟩ := gw_of_below (thru hb2 (below_gw W1 z3))
    clear hr2 hb2
    go_wp2_with fail
    obtain ⟨W2, hW2⟩ : ∃ W2, gw W1 z4 = W2 := ⟨_, rfl⟩
    have HB2 := Lib.hid (show Below W1.heap.size W1 W2 by rw [← hW2]; exact below_gw W1 z4)
    rw [hW2] at I1 I2 ⊢
    clear hW2 c00 c01 c02 c03 c04 c10 c11 c12 c13
    go_loopw [12, 13] (fun s12 s13 wr => ∃ (l : List Nat) (ab : Option Addr) (cb n : Nat), n ≤ y.nM ∧ s12 = .slice ab n cb ∧ s13 = .int .i64 (n : Int) ∧ Hid (l.length = n) ∧ Hid (∀ t, t < l.length → lotF l t ≤ y.M t) ∧ Hid (wr.ownsRow W2.heap.size 3 1 (.slice ab l.length cb) l.length (natsV l)) ∧ Hid (Below W2.heap.size W2 wr)) (fun _ s13 _ => y.nM - (intOf s13).toNat)
    case atStart => exact ⟨[], none, 0, 0, Nat.zero_le _, rfl, rfl, Lib.hid rfl, Lib.hid (fun t ht => by cases ht), Lib.hid (World.ownsRow_nil _ _ _ _), Lib.hid (Below.refl _ _)⟩
    case round =>
      obtain ⟨l, ab, cb, n, hn, rfl, rfl, HLN, HLV, HOW, HW⟩ := hrel
      have HBV := Lib.hid (thru HW.out HB2.out)
      have b0 := Lib.hid ((HBV.out.block _ lc0).trans Zc0.out)
      have b1 := Lib.hid ((HBV.out.block _ lc1).trans Zc1.out)
      have x00 : wr.cell? ⟨w.heap.size, 0, none⟩ = some (.slice o.aS o.nS o.cS) := cell_of_block b0.out 0 (by simp)
      have x01 : wr.cell? ⟨w.heap.size, 1, none⟩ = some (.int .i64 o.kl) := cell_of_block b0.out 1 (by simp)
      have x02 : wr.cell? ⟨w.heap.size, 2, none⟩ = some (.int .i64 o.kh) := cell_of_block b0.out 2 (by simp)
      have x03 : wr.cell? ⟨w.heap.size, 3, none⟩ = some (.slice o.aA o.nA o.cA) := cell_of_block b0.out 3 (by simp)
      have x04 : wr.cell? ⟨w.heap.size, 4, none⟩ = some (.slice o.aP o.nP o.cP) := cell_of_block b0.out 4 (by simp)
      have x10 : wr.cell? ⟨w.heap.size + 1, 0, none⟩ = some (.slice y.aR y.nR y.cR) := cell_of_block b1.out 0 (by simp)
      have x11 : wr.cell? ⟨w.heap.size + 1, 1, none⟩ = some (.slice y.aM y.nM y.cM) := cell_of_block b1.out 1 (by simp)
      have x12 : wr.cell? ⟨w.heap.size + 1, 2, none⟩ = some (.int .i64 y.lot) := cell_of_block b1.out 2 (by simp)
      have x13 : wr.cell? ⟨w.heap.size + 1, 3, none⟩ = some (.int .i64 y.room) := cell_of_block b1.out 3 (by simp)
      have lx0 := (Array.getElem?_eq_some_iff.1 b0.out).1
      have lx1 := (Array.getElem?_eq_some_iff.1 b1.out).1
      by_cases hlt : n < y.nM
      · rcases HY.out.iM with h0 | ⟨bM, oM, eM, lM, hcM⟩
        · omega
        rcases HBY.out with h0 | ⟨bB, oB, eB, lB, hcB⟩
        · omega
        have yM := (HBV.out.cell (p := ⟨bM, oM + n, none⟩) lM).trans (hcM n hlt)
        have mM : bM < wr.heap.size := Nat.lt_of_lt_of_le lM HBV.out.size
        have mB : bB < wr.heap.size := Nat.lt_of_lt_of_le lB HBV.out.size
        obtain ⟨mv, hmv⟩ : ∃ mv, y.M n = mv := ⟨_, rfl⟩
        have rM := M8.out n hlt
        rw [hmv] at yM rM
        rw [eM] at x11
        obtain ⟨g8, em, ml⟩ : ∃ g : Nat, (n : Int) % (nB : Int) = g ∧ g < nB := ⟨((n : Int) % (nB : Int)).toNat, by have := Int.emod_nonneg (n : Int) (show (nB : Int) ≠ 0 by omega); omega, by have := Int.emod_nonneg (n : Int) (show (nB : Int) ≠ 0 by omega); have := Int.emod_lt_of_pos (n : Int) (show 0 < (nB : Int) by omega); omega⟩
        have mli : (g8 : Int) < (nB : Int) := by omega
        obtain ⟨bv, hbv⟩ : ∃ v, B g8 = v := ⟨_, rfl⟩
        have xB := (HBV.out.cell (p := ⟨bB, oB + g8, none⟩) lB).trans (hcB g8 ml)
        rw [hbv] at xB
        have br := HBR.out g8 ml
        rw [hbv] at br
        obtain ⟨r, hrm⟩ : ∃ r : Nat, bv % (mv + 1) = r := ⟨(bv % (mv + 1)).toNat, by have := Int.emod_nonneg bv (show mv + 1 ≠ 0 by omega); omega⟩
        have rm1 : (r : Int) ≤ mv := by have := Int.emod_lt_of_pos bv (show 0 < mv + 1 by omega); omega
        have dn : ¬ (nB : Int) = 0 := by omega
        have dm : ¬ mv + 1 = 0 := by omega
        have dm2 : decide (mv < 0) = false := by simp; omega
        have hni : (n : Int) < (y.nM : Int) := by omega
        have HLT := Lib.hid hlt
        have HMV := Lib.hid hmv
        subst eB
        have EM := Lib.hid eM
        clear hcM hcB hbv hmv eM
        have HOA := Lib.hid (own_below HOW.out (below_alloc wr (.cells #[] 3)))
        clear HOA
        go_wp2_with fail
        haveI hne : Nonempty (KeepW wr [w.heap.size + 1, bM, bB]) := ⟨⟨wr, fun _ _ => rfl⟩⟩
        refine wp_region_steps (fun w' => ∃ x : KeepW wr [w.heap.size + 1, bM, bB], w' = x.w) [([0, 1, 2, 3, 9, 10, 11, 12, 13, 14], 4), ([5, 6, 7], 8), ([15], 16), ([], 17)] [18] [] (by kernel_rfl) (by kernel_rfl) ?_
        rintro _ ⟨x0, rfl⟩
        refine ⟨keep3 (gw_block wr x0 _ lx1) (gw_block wr x0 _ mM) (gw_block wr x0 _ mB), ?_⟩
        refine wpSeg_cons ?_
        simp only [pickL, List.getElem?_cons_zero, List.getElem?_cons_succ]
        repeat (go_big_quiet_step (fail))
        refine wpQuiet_nil ?_
        go_wp2_with fail
        refine contQ_now ⟨keep3 (gw_block wr x0 _ lx1) (gw_block wr x0 _ mM) (gw_block wr x0 _ mB), ?_⟩
        refine wpSeg_cons ?_
        simp only [pickL, List.getElem?_cons_zero, List.getElem?_cons_succ]
        repeat (go_big_quiet_step (fail))
        refine wpQuiet_nil ?_
        go_wp2_with fail
        refine contQ_now ⟨keep3 (gw_block wr x0 _ lx1) (gw_block wr x0 _ mM) (gw_block wr x0 _ mB), ?_⟩
        refine wpSeg_cons ?_
        simp only [pickL, List.getElem?_cons_zero, List.getElem?_cons_succ]
        repeat (go_big_quiet_step (fail))
        refine wpQuiet_nil ?_
        go_wp2_with fail
        obtain ⟨V4, hV4⟩ : ∃ V4, (gw wr x0).alloc (.cells #[.int .i64 (r : Int)] 3) = V4 := ⟨_, rfl⟩
        have HB4 := Lib.hid (show Below wr.heap.size wr V4 by rw [← hV4]; exact (below_gw wr x0).alloc (by rw [gw_size]; omega) _)
        have NN := Lib.hid (show ∀ (i : Nat) (u : Value), [Value.int .i64 (r : Int)][i]? = some u → V4.cell? ((⟨(gw wr x0).heap.size, 0, none⟩ : Addr).add i) = some u by rw [← hV4]; exact news_lit _ _ _)
        have hgz : (gw wr x0).heap.size = wr.heap.size + x0.bs.size := gw_size wr x0
        rw [hgz] at NN
        have HO4 := own_below HOW.out HB4.out
        rw [HLN.out] at HO4
        have HO4 := Lib.hid HO4
        rw [hV4]
        clear hV4 hgz
        refine contQ_now ⟨keep3 (HB4.out.block _ lx1) (HB4.out.block _ mM) (HB4.out.block _ mB), ?_⟩
        refine wpSeg_cons ?_
        simp only [pickL, List.getElem?_cons_zero, List.getElem?_cons_succ]
        refine wpQuiet_nil ?_
        have sz4 := HB4.out.size
        have sw := HW.out.size
        go_wp2_with (at_builtin; refine wpList_append_own _ rfl _ _ 22 rfl W2.heap.size 3 j0 (.int .i64 0) 1 8 Try.underlying22 JI.out Y0.out Y1.out Y2.out rfl (by decide) _ n (natsV l) rfl HO4.out ⟨wr.heap.size + x0.bs.size, 0, none⟩ 1 1 [.int .i64 (r : Int)] rfl rfl NN.out (by simp [Value.oneCell']) (by unfold maxLen; omega) (by omega) (by omega) ?_; intro v6 V6 hown6 hgrow6 _)
        have g6 : V4.grownBy V6 (Value.slice ab n cb).ownBlock := hgrow6
        have ol := fun b hb => HO4.out.lt b hb
        have HB6 := Lib.hid (((HW.out.trans (HB4.out.mono sw))).grown g6 (by omega) (fun b e => (ol b e).1))
        rw [natsV_push] at hown6
        obtain ⟨a6, c6, rfl⟩ := own_form hown6
        have HLN6 := Lib.hid (show (l ++ [r]).length = n + 1 by rw [List.length_append, HLN.out]; rfl)
        have HOW6 := Lib.hid (show V6.ownsRow W2.heap.size 3 1 (.slice a6 (l ++ [r]).length c6) (l ++ [r]).length (natsV (l ++ [r])) by rw [HLN6.out]; exact hown6)
        have own6 : ∀ b, b < W2.heap.size → some b ≠ (Value.slice ab n cb).ownBlock := fun b hb e => by have := (ol b e.symm).1; omega
        have kB : ∀ b, b < W2.heap.size → b < wr.heap.size → V6.heap[b]? = wr.heap[b]? := fun b h1 h2 => (g6.block b (by omega) (own6 b h1)).trans (HB4.out.block b h2)
        have q1 : w.heap.size + 1 < W2.heap.size := Nat.lt_of_lt_of_le lc1 HB2.out.size
        have q2 : bM < W2.heap.size := Nat.lt_of_lt_of_le lM HB2.out.size
        have q3 : bB < W2.heap.size := Nat.lt_of_lt_of_le lB HB2.out.size
        refine contQ_now ⟨keep3 (kB _ q1 lx1) (kB _ q2 mM) (kB _ q3 mB), ?_⟩
        clear kB own6 ol g6 hown6 hgrow6
        refine wpSeg_nil ?_
        simp only [pickL, List.getElem?_cons_zero, List.getElem?_cons_succ]
        repeat (go_big_quiet_step (fail))
        refine wpQuiet_nil ?_
        refine contN_nil ?_
        go_wp2_with fail
        go_roundw
        case rel => exact ⟨l ++ [r], a6, c6, n + 1, HLT.out, rfl, by have := HLT.out; go_num, HLN6, Lib.hid (fun t ht => lotF_snoc HLV.out (by rw [HLN.out, HMV.out]; exact rm1) ht), HOW6, HB6⟩
        case measure => have := HLT.out; simp only [intOf]; omega
      · have hnn : n = y.nM := by omega
        obtain ⟨V, rfl⟩ : ∃ V, V = wr := ⟨_, rfl⟩
        have HIO := ints_of_nats HOW.out
        have hll : l.length = y.nM := HLN.out.trans hnn
        rw [HLN.out] at HIO
        have HIO := Lib.hid HIO
        have HLL := Lib.hid hll
        have HPL := Lib.hid (show l ∈ planL y.M y.nM [] by have e := mem_plans HLV.out; rw [hll] at e; exact e)
        have I1 := Lib.hid (I1.out.below HW.out)
        have I2 := Lib.hid (I2.out.below HW.out)
        clear HOW HW
        have HKE := fun W (hb : Below V.heap.size V W) => KP.out W (thru hb HBV.out) ab n cb l (HIO.out.below hb) (by omega)
        obtain ⟨kp, hkp⟩ : ∃ k, keepsP o y n (lotF l) = k := ⟨_, rfl⟩
        obtain ⟨ky, hky⟩ : ∃ k, keepsY o y n (lotF l) = k := ⟨_, rfl⟩
        obtain ⟨ke, hke⟩ : ∃ k, keepsE o y n (lotF l) = k := ⟨_, rfl⟩
        simp only [hkp, hky, hke] at HKE
        have HKB := Lib.hid (show keepB o y l = decide (ke = 0) by unfold keepB; rw [HLN.out, hke])
        have HKE := Lib.hid HKE
        have HNN := Lib.hid hnn
        have n10 : n ≤ 10 := by omega
        clear hkp hky hke hnn hll
        go_wp2_with fail
        refine (Calls.grown (HKE.out V (Below.refl _ _))).mono ?_
        rintro e w4 ⟨rfl, z5, rfl⟩
        obtain ⟨u1, hu1⟩ : ∃ u, costN (fun _ => 1) (lotF lx) y.nM = u := ⟨_, rfl⟩
        obtain ⟨co, hco⟩ : ∃ u, costN y.R (lotF l) n = u := ⟨_, rfl⟩
        obtain ⟨so, hso⟩ : ∃ u, costN (fun _ => 1) (lotF l) n = u := ⟨_, rfl⟩
        have hcx : costN y.R (lotF lx) y.nM = cx := by rw [FX.out.2.2.2.1]; unfold costW; rw [FX.out.1]
        have hcz : costN (fun _ => 1) (lotF lz) y.nM = cz := by rw [FZ.out.2.2.2.1]; unfold costW; rw [FZ.out.1]
        have hzx : cz ≤ u1 := by have e := (LZ.out lx FX.out.2.2.2.2 FX.out.2.2.1).1; unfold costW at e; rw [FX.out.1, hu1] at e; exact e
        have hlx := fun (hk : keepB o y l = true) => LX.out l HPL.out hk
        have hlz := fun (hk : keepB o y l = true) => LZ.out l HPL.out hk
        unfold costW befL at hlx hlz
        rw [HLN.out, hco] at hlx
        rw [HLN.out, hso] at hlz
        have HLX := Lib.hid hlx; have HLZ := Lib.hid hlz
        have K1 := fun W (hb : Below V.heap.size V W) => KP.out W (thru hb HBV.out) a1 y.nM q1 lx (I1.out.below hb) (by omega)
        have K2 := fun W (hb : Below V.heap.size V W) => KP.out W (thru hb HBV.out) a2 y.nM q2 lz (I2.out.below hb) (by omega)
        simp only [keepsE_of FX.out.1 FX.out.2.2.1] at K1
        simp only [keepsE_of FZ.out.1 FZ.out.2.2.1] at K2
        obtain ⟨kp1, h9⟩ : ∃ k, keepsP o y y.nM (lotF lx) = k := ⟨_, rfl⟩
        simp only [h9] at K1
        clear h9
        obtain ⟨ky1, h9⟩ : ∃ k, keepsY o y y.nM (lotF lx) = k := ⟨_, rfl⟩
        simp only [h9] at K1
        clear h9
        obtain ⟨kp2, h9⟩ : ∃ k, keepsP o y y.nM (lotF lz) = k := ⟨_, rfl⟩
        simp only [h9] at K2
        clear h9
        obtain ⟨ky2, h9⟩ : ∃ k, keepsY o y y.nM (lotF lz) = k := ⟨_, rfl⟩
        simp only [h9] at K2
        clear h9
        have T1 := fun W (hb : Below V.heap.size V W) => LT.out W (thru hb HBV.out) a1 y.nM q1 lx (I1.out.below hb) (by omega)
        have T2 := fun W (hb : Below V.heap.size V W) => LT.out W (thru hb HBV.out) a2 y.nM q2 lz (I2.out.below hb) (by omega)
        simp only [lots_ok FX.out.1 FX.out.2.1] at T1
        simp only [lots_ok FZ.out.1 FZ.out.2.1] at T2
        have C1 := fun W (hb : Below V.heap.size V W) => rcost_any y a1 y.nM q1 (lotF lx) W (HY.out.below (thru hb HBV.out)) (I1.out.below hb) (by have := nRM.out; have := HNN.out; omega) (by omega) HRW.out (fun i hi => ⟨lotF_pos _ _, Int.le_trans (FX.out.2.1 i hi) (M8.out i hi).2⟩)
        have CO := fun W (hb : Below V.heap.size V W) => rcost_any y ab n cb (lotF l) W (HY.out.below (thru hb HBV.out)) (HIO.out.below hb) (by have := nRM.out; have := HNN.out; omega) (by omega) (fun i hi => HRW.out i (by have := HNN.out; omega)) (fun i hi => ⟨lotF_pos _ _, Int.le_trans (HLV.out i (by rw [HLN.out]; exact hi)) (M8.out i (by have := HNN.out; omega)).2⟩)
        simp only [hcx] at C1
        simp only [hco] at CO
        have S1 := fun W (hb : Below V.heap.size V W) => rsumI_any a1 y.nM q1 (lotF lx) W (I1.out.below hb) (by omega) (fun i hi => ⟨lotF_pos _ _, Int.le_trans (FX.out.2.1 i hi) (M8.out i hi).2⟩)
        have S2 := fun W (hb : Below V.heap.size V W) => rsumI_any a2 y.nM q2 (lotF lz) W (I2.out.below hb) (by omega) (fun i hi => ⟨lotF_pos _ _, Int.le_trans (FZ.out.2.1 i hi) (M8.out i hi).2⟩)
        have SO := fun W (hb : Below V.heap.size V W) => rsumI_any ab n cb (lotF l) W (HIO.out.below hb) (by omega) (fun i hi => ⟨lotF_pos _ _, Int.le_trans (HLV.out i (by rw [HLN.out]; exact hi)) (M8.out i (by have := HNN.out; omega)).2⟩)
        simp only [hu1] at S1
        simp only [hcz] at S2
        simp only [hso] at SO
        unfold Lyg.val at C1 CO
        have K1 := Lib.hid K1
        have K2 := Lib.hid K2
        have T1 := Lib.hid T1
        have T2 := Lib.hid T2
        have C1 := Lib.hid C1
        have CO := Lib.hid CO
        have S1 := Lib.hid S1
        have S2 := Lib.hid S2
        have SO := Lib.hid SO
        have dg : decide (u1 < cz) = false := by simp; omega
        clear hu1 hco hso hcx hcz hlx hlz
        go_wp2_with fail
        refine (Calls.gw_of (K1.out _ (below_gw V z5))).mono ?_
        rintro e w5 ⟨rfl, z6, rfl⟩
        go_wp2_with fail
        refine (Calls.gw_of (K2.out _ (below_gw V z6))).mono ?_
        rintro e w5 ⟨rfl, z7, rfl⟩
        go_wp2_with fail
        refine (Calls.gw_of (T1.out _ (below_gw V z7))).mono ?_
        rintro e w5 ⟨rfl, z8, rfl⟩
        go_wp2_with fail
        refine (Calls.gw_of (T2.out _ (below_gw V z8))).mono ?_
        rintro e w5 ⟨rfl, z9, rfl⟩
        go_wp2_with fail
        refine (Calls.gw_of (C1.out _ (below_gw V z9))).mono ?_
        rintro e w5 ⟨rfl, z10, rfl⟩
        go_wp2_with fail
        refine (Calls.gw_of (S2.out _ (below_gw V z10))).mono ?_
        rintro e w5 ⟨rfl, z11, rfl⟩
        go_wp2_with fail
        refine (Calls.gw_of (S1.out _ (below_gw V z11))).mono ?_
        rintro e w5 ⟨rfl, z12, rfl⟩
        by_cases hk : ke = 0
        rotate_left
        · have dk : (ke != 0) = true := by simpa using hk
          go_wp2_with fail
          refine (Calls.gw_of (awake_any (gw V z12))).mono ?_
          rintro e w9 ⟨rfl, z9, rfl⟩
          go_wp2_with fail
          go_ret
          exact ⟨rfl, HBc.out.trans ((HBV.out.gw z9).mono HBc.out.size)⟩
        have dk : (ke != 0) = false := by simpa using hk
        have hkb : keepB o y l = true := by rw [HKB.out]; simpa using hk
        have lx1 := HLX.out hkb
        have lz1 := HLZ.out hkb
        have dc : decide (co < cx) = false := by simp; omega
        have ds : decide (so < cz) = false := by simp; omega
        have LX1 := Lib.hid lx1.2; have LZ1 := Lib.hid lz1.2
        clear hk hkb lx1 lz1
        go_wp2_with fail
        refine (Calls.gw_of (CO.out _ (below_gw V z12))).mono ?_
        rintro e w5 ⟨rfl, z13, rfl⟩
        go_wp2_with fail
        refine (Calls.gw_of (SO.out _ (below_gw V z13))).mono ?_
        rintro e w5 ⟨rfl, z14, rfl⟩
        go_wp2_with fail
        refine (Calls.gw_of (S2.out _ (below_gw V z14))).mono ?_
        rintro e w5 ⟨rfl, z15, rfl⟩
        go_wp2_with fail
        refine (Calls.gw_of (CO.out _ (below_gw V z15))).mono ?_
        rintro e w5 ⟨rfl, z16, rfl⟩
        by_cases hc : co = cx
        · have dp : (co == cx) = true := by simpa using hc
          have HBF := Lib.hid (LX1.out hc)
          clear hc
          go_wp2_with fail
          refine (Calls.gw_of (before_b ab a1 n y.nM cb q1 (lotF l) (lotF lx) _ (HIO.out.below (below_gw V z16)) (I1.out.below (below_gw V z16)) (by have := HNN.out; omega) (by omega) HBF.out)).mono ?_
          rintro e w5 ⟨rfl, z17, rfl⟩
          go_wp2_with fail
          refine (Calls.gw_of (SO.out _ (below_gw V z17))).mono ?_
          rintro e w5 ⟨rfl, z18, rfl⟩
          go_wp2_with fail
          refine (Calls.gw_of (S2.out _ (below_gw V z18))).mono ?_
          rintro e w5 ⟨rfl, z19, rfl⟩
          by_cases hs : so = cz
          · have dq : (so == cz) = true := by simpa using hs
            have HBF := Lib.hid (LZ1.out hs)
            clear hs
            go_wp2_with fail
            refine (Calls.gw_of (before_b ab a2 n y.nM cb q2 (lotF l) (lotF lz) _ (HIO.out.below (below_gw V z19)) (I2.out.below (below_gw V z19)) (by have := HNN.out; omega) (by omega) HBF.out)).mono ?_
            rintro e w5 ⟨rfl, z20, rfl⟩
            go_wp2_with fail
            refine (Calls.gw_of (awake_any (gw V z20))).mono ?_
            rintro e w9 ⟨rfl, z9, rfl⟩
            go_wp2_with fail
            go_ret
            exact ⟨rfl, HBc.out.trans ((HBV.out.gw z9).mono HBc.out.size)⟩
          · have dq : (so == cz) = false := by simpa using hs
            clear hs
            go_wp2_with fail
            refine (Calls.gw_of (awake_any (gw V z19))).mono ?_
            rintro e w9 ⟨rfl, z9, rfl⟩
            go_wp2_with fail
            go_ret
            exact ⟨rfl, HBc.out.trans ((HBV.out.gw z9).mono HBc.out.size)⟩
        · have dp : (co == cx) = false := by simpa using hc
          clear hc
          go_wp2_with fail
          refine (Calls.gw_of (SO.out _ (below_gw V z16))).mono ?_
          rintro e w5 ⟨rfl, z17, rfl⟩
          go_wp2_with fail
          refine (Calls.gw_of (S2.out _ (below_gw V z17))).mono ?_
          rintro e w5 ⟨rfl, z18, rfl⟩
          by_cases hs : so = cz
          · have dq : (so == cz) = true := by simpa using hs
            have HBF := Lib.hid (LZ1.out hs)
            clear hs
            go_wp2_with fail
            refine (Calls.gw_of (before_b ab a2 n y.nM cb q2 (lotF l) (lotF lz) _ (HIO.out.below (below_gw V z18)) (I2.out.below (below_gw V z18)) (by have := HNN.out; omega) (by omega) HBF.out)).mono ?_
            rintro e w5 ⟨rfl, z19, rfl⟩
            go_wp2_with fail
            refine (Calls.gw_of (awake_any (gw V z19))).mono ?_
            rintro e w9 ⟨rfl, z9, rfl⟩
            go_wp2_with fail
            go_ret
            exact ⟨rfl, HBc.out.trans ((HBV.out.gw z9).mono HBc.out.size)⟩
          · have dq : (so == cz) = false := by simpa using hs
            clear hs
            go_wp2_with fail
            refine (Calls.gw_of (awake_any (gw V z18))).mono ?_
            rintro e w9 ⟨rfl, z9, rfl⟩
            go_wp2_with fail
            go_ret
            exact ⟨rfl, HBc.out.trans ((HBV.out.gw z9).mono HBc.out.size)⟩
end Go.Proofs.Ytdcpgjepgajioaa
