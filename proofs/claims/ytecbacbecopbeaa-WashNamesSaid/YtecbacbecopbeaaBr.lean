/- The gas of a room, hour by hour. Contract of Air. No conditions beyond each theorem's own. -/
import Derived.Test.YtecbacbecopbeaaBp
set_option linter.unusedVariables false
set_option linter.unusedSimpArgs false
set_option linter.unusedSectionVars false
set_option linter.constructorNameAsVariable false
namespace Go.Proofs.Ytecbacbecopbeaa
open Go.RowKit

attribute [local go_sem] gw_cell gw_frozen gw_size

def airL (sl v : Int) (F : Nat → Int) : Nat → Int
  | 0 => sl
  | j + 1 => (airL sl v F j + F j) * (1000 - v) / 1000
def airH (sh v : Int) (G : Nat → Int) : Nat → Int
  | 0 => sh
  | j + 1 => upI ((airH sh v G j + G j) * (1000 - v)) 1000
def airOk (sh v : Int) (G : Nat → Int) (j : Nat) : Bool := decide (airH sh v G (j + 1) ≤ 1073741824)
def airB (sl sh : Int) (k : Nat) (F G : Nat → Int) : Bool := spanB sl sh 0 1073741824 && allB k (inSp 1073741824 F G)
def airE (sl sh : Int) (k : Nat) (F G : Nat → Int) (v : Int) : Int :=
  if 200 < k then 3 else if airB sl sh k F G = true then (if inB v 0 1000 = true then (if okN (airOk sh v G) k < k then 12 else 0) else 2) else 1
def airN (sl sh : Int) (k : Nat) (F G : Nat → Int) (v : Int) : Nat := if airE sl sh k F G v = 0 then k else 0
def airV (sl sh v : Int) (F G : Nat → Int) (n : Nat) : List Value := spansV n (fun i => airL sl v F (i + 1)) (fun i => airH sh v G (i + 1))
/-- what Air hands back -/
def AirR (sl sh : Int) (k : Nat) (F G : Nat → Int) (v : Int) (w : World) (e : Ending) (w' : World) : Prop :=
  ∃ vl, e = .returned (.tuple #[vl, .int .i64 (airE sl sh k F G v)]) ∧ w'.ownsRow w.heap.size 23 2 vl (airN sl sh k F G v) (airV sl sh v F G (airN sl sh k F G v)) ∧ Below w.heap.size w w'
theorem air_bad {sl sh v : Int} {k : Nat} {F G : Nat → Int} {w w' : World} {x : Int} {e : Ending} (h : airE sl sh k F G v = x) (hx : x ≠ 0) (he : e = .returned (.tuple #[.slice none 0 0, .int .i64 x])) (hb : Below w.heap.size w w') : AirR sl sh k F G v w e w' := by
  have hN : airN sl sh k F G v = 0 := by unfold airN; rw [h, if_neg hx]
  refine ⟨_, by rw [h]; exact he, ?_, hb⟩
  rw [hN]
  exact World.ownsRow_nil _ _ _ _
theorem air_range {sl sh v : Int} {k : Nat} {F G : Nat → Int} (hb : airB sl sh k F G = true) (hv : inB v 0 1000 = true) : ∀ j, j ≤ okN (airOk sh v G) k → 0 ≤ airL sl v F j ∧ airL sl v F j ≤ airH sh v G j ∧ airH sh v G j ≤ 1073741824 := by
  simp only [airB, Bool.and_eq_true] at hb
  have s := spanB_t.1 hb.1
  have v0 := inB_t.1 hv
  intro j
  induction j with
  | zero => exact fun _ => s
  | succ j ih =>
    intro hj
    have hl := okN_le (airOk sh v G) k
    obtain ⟨i1, i2, i3⟩ := ih (by omega)
    obtain ⟨f0, f1, f2⟩ := spanB_t.1 (allB_t.1 hb.2 j (by omega))
    have ok := of_decide_eq_true (okN_lt (airOk sh v G) k j (by omega))
    have m0 : 0 ≤ (airL sl v F j + F j) * (1000 - v) := Int.mul_nonneg (by omega) (by omega)
    have m1 : (airL sl v F j + F j) * (1000 - v) ≤ (airH sh v G j + G j) * (1000 - v) := Int.mul_le_mul_of_nonneg_right (by omega) (by omega)
    refine ⟨Int.ediv_nonneg m0 (by omega), ?_, ok⟩
    show (airL sl v F j + F j) * (1000 - v) / 1000 ≤ upI ((airH sh v G j + G j) * (1000 - v)) 1000
    unfold upI
    omega
theorem infoSpA : (Try.prog.info? 23).map (fun i => (i.zero, i.size, i.bytes)) = some (some (.agg #[.int .i64 0, .int .i64 0]), 2, 16) := by kernel_rfl

set_option maxRecDepth 100000 in
set_option maxHeartbeats 8000000 in
theorem Air_any (sl sh : Int) (aS : Option Addr) (k cS : Nat) (F G : Nat → Int) (v : Int) (w : World) (hS : SpansAt w aS k F G) (hk : k ≤ 9223372036854775807) :
    Calls Try.prog 40 #[.agg #[.int .i64 sl, .int .i64 sh], .slice aS k cS, .int .i64 v] w (AirR sl sh k F G v w) := by
  obtain ⟨W1, hW1⟩ : ∃ W1, w.alloc (.cells #[.int .i64 sl, .int .i64 sh] 23) = W1 := ⟨_, rfl⟩
  have hBc : Below w.heap.size w W1 := by rw [← hW1]; exact below_alloc _ _
  have zc0 : W1.heap[w.heap.size]? = some (.cells #[.int .i64 sl, .int .i64 sh] 23 (0, 0)) := by rw [← hW1]; exact alloc_at rfl
  have c00 : W1.cell? ⟨w.heap.size, 0, none⟩ = some (.int .i64 sl) := cell_of_block zc0 0 (by simp)
  have c01 : W1.cell? ⟨w.heap.size, 1, none⟩ = some (.int .i64 sh) := cell_of_block zc0 1 (by simp)
  have lc0 := (Array.getElem?_eq_some_iff.1 zc0).1
  have Zc0 := Lib.hid zc0
  clear zc0
  have HBc := Lib.hid hBc; clear hBc
  have HWc := Lib.hid hW1; clear hW1
  have HSw := Lib.hid hS
  have HS := Lib.hid (hS.below HBc.out); clear hS
  have sz := HBc.out.size
  by_cases h64 : 200 < k
  · have HE := Lib.hid (show airE sl sh k F G v = 3 by unfold airE; rw [if_pos h64])
    go_enter Try.func40, Try.ntmps40
    go_upto_region 1 with (fail)
    rw [HWc.out]
    go_wp2_with fail
    go_ret2
    exact air_bad HE.out (by decide) rfl (HBc.out)
  · have NG := fun w => notGas sl sh w
    have HG := fun W (hb : Below W1.heap.size W1 W) => hasGas aS k cS F G W hk (HS.out.below hb)
    cases h1 : spanB sl sh 0 1073741824 with
    | false =>
      rw [h1] at NG
      have NG' := Lib.hid NG
      have HE := Lib.hid (show airE sl sh k F G v = 1 by unfold airE airB; rw [if_neg h64, h1]; rfl)
      clear h1 NG HG
      go_enter Try.func40, Try.ntmps40
      go_upto_region 1 with (fail)
      rw [HWc.out]
      go_wp2_with fail
      refine (Calls.grown (NG'.out _)).mono ?_
      rintro e w1 ⟨rfl, z1, rfl⟩
      go_wp2_with fail
      go_ret2
      exact air_bad HE.out (by decide) rfl (HBc.out.gw z1)
    | true =>
      rw [h1] at NG
      have NG' := Lib.hid NG; clear NG
      cases h2 : allB k (inSp 1073741824 F G) with
      | false =>
        rw [h2] at HG
        have HG' := Lib.hid HG
        have HE := Lib.hid (show airE sl sh k F G v = 1 by unfold airE airB; rw [if_neg h64, h1, h2]; rfl)
        clear h1 h2 HG
        go_enter Try.func40, Try.ntmps40
        go_upto_region 1 with (fail)
        rw [HWc.out]
        go_wp2_with fail
        refine (Calls.grown (NG'.out _)).mono ?_
        rintro e w1 ⟨rfl, z1, rfl⟩
        go_wp2_with fail
        refine (Calls.gw_of (HG'.out _ (below_gw W1 _))).mono ?_
        rintro e w1 ⟨rfl, z2, rfl⟩
        go_wp2_with fail
        go_ret2
        exact air_bad HE.out (by decide) rfl (HBc.out.gw z2)
      | true =>
        rw [h2] at HG
        have HG' := Lib.hid HG; clear HG
        have hb : airB sl sh k F G = true := by unfold airB; rw [h1, h2]; rfl
        cases h3 : inB v 0 1000 with
        | false =>
          have T3 := Lib.hid h3
          have HE := Lib.hid (show airE sl sh k F G v = 2 by unfold airE; rw [if_neg h64, if_pos hb, h3]; rfl)
          clear h1 h2 h3 hb
          go_enter Try.func40, Try.ntmps40
          go_upto_region 1 with (fail)
          rw [HWc.out]
          go_wp2_with fail
          refine (Calls.grown (NG'.out _)).mono ?_
          rintro e w1 ⟨rfl, z1, rfl⟩
          go_wp2_with fail
          refine (Calls.gw_of (HG'.out _ (below_gw W1 _))).mono ?_
          rintro e w1 ⟨rfl, z2, rfl⟩
          go_wp2_with fail
          refine (within_b v 0 1000 _ T3.out).mono ?_
          rintro e w1 ⟨rfl, rfl⟩
          go_wp2_with fail
          go_ret2
          exact air_bad HE.out (by decide) rfl (HBc.out.gw z2)
        | true =>
          have T3 := Lib.hid h3
          have v0 := inB_t.1 h3
          have RG := Lib.hid (air_range hb h3)
          have CB := Lib.hid (fun i hi => spanB_t.1 (allB_t.1 h2 i hi))
          have hm := okN_le (airOk sh v G) k
          have SL := Lib.hid (okN_lt (airOk sh v G) k)
          have SB_ := Lib.hid (okN_bad (airOk sh v G) k)
          have HE1 := Lib.hid (show okN (airOk sh v G) k < k → airE sl sh k F G v = 12 from fun h => by unfold airE; rw [if_neg h64, if_pos hb, if_pos h3, if_pos h])
          have HE0 := Lib.hid (show ¬ okN (airOk sh v G) k < k → airE sl sh k F G v = 0 from fun h => by unfold airE; rw [if_neg h64, if_pos hb, if_pos h3, if_neg h])
          clear h1 h2 h3 hb
          obtain ⟨m, hmm⟩ : ∃ m, okN (airOk sh v G) k = m := ⟨_, rfl⟩
          rw [hmm] at RG hm SL SB_ HE1 HE0
          clear hmm
          obtain ⟨j0, hj, hy0, hy1, hy2⟩ := info_parts infoSpA
          have JI := Lib.hid hj; have Y0 := Lib.hid hy0; have Y1 := Lib.hid hy1; have Y2 := Lib.hid hy2
          clear hj hy0 hy1 hy2
          go_enter Try.func40, Try.ntmps40
          go_upto_region 1 with (fail)
          rw [HWc.out]
          go_wp2_with fail
          refine (Calls.grown (NG'.out _)).mono ?_
          rintro e w1 ⟨rfl, z1, rfl⟩
          go_wp2_with fail
          refine (Calls.gw_of (HG'.out _ (below_gw W1 _))).mono ?_
          rintro e w1 ⟨rfl, z2, rfl⟩
          go_wp2_with fail
          refine (within_b v 0 1000 _ T3.out).mono ?_
          rintro e w1 ⟨rfl, rfl⟩
          go_upto_region 10 with (fail)
          obtain ⟨W2, hW2⟩ : ∃ W2, ((gw W1 z2)).alloc (.cells #[.int .i64 (1000 - v), .int .i64 (1000 - v)] 83) = W2 := ⟨_, rfl⟩
          have hbW2 : Below W1.heap.size W1 W2 := by rw [← hW2]; exact (below_gw W1 z2).alloc (by simp [gw_size]) _
          have ZsW2 := Lib.hid ((hbW2.block _ (Array.getElem?_eq_some_iff.1 Zc0.out).1).trans Zc0.out)
          have zlW2 : W2.heap[W1.heap.size + z2.bs.size]? = some (.cells #[.int .i64 (1000 - v), .int .i64 (1000 - v)] 83 (0, 0)) := by rw [← hW2]; exact alloc_at (by simp [gw_size])
          have ZlW2 := Lib.hid zlW2; clear zlW2
          have HBW2 := Lib.hid (thru hbW2 HBc.out)
          have SBW2 := Lib.hid hbW2; clear hbW2
          have HWW2 := Lib.hid hW2; clear hW2
          rw [HWW2.out]
          clear c00 c01
          have zsW2 := SBW2.out.size
          have ls2 := (Array.getElem?_eq_some_iff.1 ZsW2.out).1
          have ll2 := (Array.getElem?_eq_some_iff.1 ZlW2.out).1
          go_wp2_with fail
          go_loopw [9, 37] (fun q t wr => ∃ j : Nat, j ≤ m ∧ t = .int .i64 j ∧ Hid (wr.ownsRow W2.heap.size 23 2 q j (airV sl sh v F G j)) ∧ Hid (wr.heap[w.heap.size]? = some (.cells #[.int .i64 (airL sl v F j), .int .i64 (airH sh v G j)] 23 (0, 0))) ∧ Hid (wr.heap[W1.heap.size + z2.bs.size]? = some (.cells #[.int .i64 (1000 - v), .int .i64 (1000 - v)] 83 (0, 0))) ∧ Hid (Below w.heap.size w wr) ∧ W2.heap.size ≤ wr.heap.size) (fun _ t _ => k - (intOf t).toNat)
          case atStart => exact ⟨0, Nat.zero_le _, rfl, Lib.hid (World.ownsRow_nil _ _ _ _), ZsW2, ZlW2, HBW2, Nat.le_refl _⟩
          case round =>
            obtain ⟨j, hj, rfl, HR, X0, X1, HBr, zr⟩ := hrel
            by_cases hlt : j < k
            · obtain ⟨al, hal⟩ : ∃ al, airL sl v F j = al := ⟨_, rfl⟩
              obtain ⟨ah, hah⟩ : ∃ ah, airH sh v G j = ah := ⟨_, rfl⟩
              have rg := RG.out j hj
              have cb := CB.out j hlt
              have nl := Lib.hid (show airL sl v F (j + 1) = (airL sl v F j + F j) * (1000 - v) / 1000 from rfl)
              have nh := Lib.hid (show airH sh v G (j + 1) = upI ((airH sh v G j + G j) * (1000 - v)) 1000 from rfl)
              have VS := Lib.hid (spansV_succ j (fun i => airL sl v F (i + 1)) (fun i => airH sh v G (i + 1)))
              rcases (HSw.out.below HBr.out) with hz | ⟨b, off, rfl, lb, hc⟩
              · omega
              · obtain ⟨q0, q1⟩ := hc j hlt
                clear hc
                obtain ⟨f, hf⟩ : ∃ f, F j = f := ⟨_, rfl⟩
                obtain ⟨g, hg⟩ : ∃ g, G j = g := ⟨_, rfl⟩
                rw [hal, hah] at rg X0
                rw [hf, hg] at cb
                rw [hf] at q0
                rw [hg] at q1
                rw [hal, hf] at nl
                rw [hah, hg] at nh
                clear hal hah hf hg
                have m0 : 0 ≤ (al + f) * (1000 - v) := Int.mul_nonneg (by omega) (by omega)
                have m1 : (al + f) * (1000 - v) ≤ (ah + g) * (1000 - v) := Int.mul_le_mul_of_nonneg_right (by omega) (by omega)
                have m2 : (ah + g) * (1000 - v) ≤ 2147483648 * 1000 := Int.mul_le_mul (by omega) (by omega) (by omega) (by omega)
                have C1 := Lib.hid (fun w => plus_any al ah f g w (by omega) (by omega) (by omega) (by omega))
                have C2 := fun w => part_any (al + f) (ah + g) (1000 - v) (1000 - v) w m0 (by omega) (by omega) (by omega)
                rw [← nl.out, ← nh.out] at C2
                obtain ⟨xl, hxl⟩ : ∃ xl, airL sl v F (j + 1) = xl := ⟨_, rfl⟩
                obtain ⟨xh, hxh⟩ : ∃ xh, airH sh v G (j + 1) = xh := ⟨_, rfl⟩
                rw [hxl, hxh] at C2
                have C2' := Lib.hid C2; clear C2 nl nh m0 m1 m2 rg cb
                have sz2 := (Array.getElem?_eq_some_iff.1 X0.out).1
                have sz3 := (Array.getElem?_eq_some_iff.1 X1.out).1
                by_cases hjm : j < m
                · have lim : xh ≤ 1073741824 := by rw [← hxh]; exact of_decide_eq_true (SL.out j hjm)
                  have HV := Lib.hid (show airV sl sh v F G (j + 1) = airV sl sh v F G j ++ [.int .i64 xl, .int .i64 xh] by rw [← hxl, ← hxh]; exact VS.out)
                  have EXL := Lib.hid hxl; have EXH := Lib.hid hxh; clear hxl hxh VS
                  have es0wr : wr.cell? ⟨w.heap.size, 0, none⟩ = some (.int .i64 al) := cell_of_block X0.out 0 (by simp)
                  have es1wr : wr.cell? ⟨w.heap.size, 1, none⟩ = some (.int .i64 ah) := cell_of_block X0.out 1 (by simp)
                  have lswr := (Array.getElem?_eq_some_iff.1 X0.out).1
                  have el0wr : wr.cell? ⟨W1.heap.size + z2.bs.size, 0, none⟩ = some (.int .i64 (1000 - v)) := cell_of_block X1.out 0 (by simp)
                  have el1wr : wr.cell? ⟨W1.heap.size + z2.bs.size, 1, none⟩ = some (.int .i64 (1000 - v)) := cell_of_block X1.out 1 (by simp)
                  have llwr := (Array.getElem?_eq_some_iff.1 X1.out).1
                  go_upto_region 13 with (fail)
                  obtain ⟨W3, hW3⟩ : ∃ W3, ((wr)).alloc (.cells #[.int .i64 f, .int .i64 g] 23) = W3 := ⟨_, rfl⟩
                  have hbW3 : Below wr.heap.size wr W3 := by rw [← hW3]; exact (Below.refl _ wr).alloc (by simp [gw_size]) _
                  have ZsW3 := Lib.hid ((hbW3.block _ (Array.getElem?_eq_some_iff.1 X0.out).1).trans X0.out)
                  have ZlW3 := Lib.hid ((hbW3.block _ (Array.getElem?_eq_some_iff.1 X1.out).1).trans X1.out)
                  have zfW3 : W3.heap[wr.heap.size]? = some (.cells #[.int .i64 f, .int .i64 g] 23 (0, 0)) := by rw [← hW3]; exact alloc_at (by simp [gw_size])
                  have ZfW3 := Lib.hid zfW3; clear zfW3
                  have HBW3 := Lib.hid (thru hbW3 HBr.out)
                  have SBW3 := Lib.hid hbW3; clear hbW3
                  have HWW3 := Lib.hid hW3; clear hW3
                  rw [HWW3.out]
                  clear q0 q1 es0wr es1wr el0wr el1wr
                  have zsW3 := SBW3.out.size
                  have es0W3 : W3.cell? ⟨w.heap.size, 0, none⟩ = some (.int .i64 al) := cell_of_block ZsW3.out 0 (by simp)
                  have fs0W3 := frozen_of_block ZsW3.out 0
                  have es1W3 : W3.cell? ⟨w.heap.size, 1, none⟩ = some (.int .i64 ah) := cell_of_block ZsW3.out 1 (by simp)
                  have fs1W3 := frozen_of_block ZsW3.out 1
                  have lsW3 := (Array.getElem?_eq_some_iff.1 ZsW3.out).1
                  have el0W3 : W3.cell? ⟨W1.heap.size + z2.bs.size, 0, none⟩ = some (.int .i64 (1000 - v)) := cell_of_block ZlW3.out 0 (by simp)
                  have el1W3 : W3.cell? ⟨W1.heap.size + z2.bs.size, 1, none⟩ = some (.int .i64 (1000 - v)) := cell_of_block ZlW3.out 1 (by simp)
                  have llW3 := (Array.getElem?_eq_some_iff.1 ZlW3.out).1
                  have ef0W3 : W3.cell? ⟨wr.heap.size, 0, none⟩ = some (.int .i64 f) := cell_of_block ZfW3.out 0 (by simp)
                  have ef1W3 : W3.cell? ⟨wr.heap.size, 1, none⟩ = some (.int .i64 g) := cell_of_block ZfW3.out 1 (by simp)
                  have lfW3 := (Array.getElem?_eq_some_iff.1 ZfW3.out).1
                  refine wp_region_gw_tail 5 (by kernel_rfl) (by kernel_rfl) ?_
                  simp only [List.take_succ_cons, List.take_zero]
                  repeat (go_big_quiet_step (first | (go_at_call 76; with_reducible exact Calls.gw_of (C1.out _)) | (go_at_call 52; with_reducible exact Calls.gw_of (C2'.out _))))
                  refine wpQuiet_nil ?_
                  rintro _ ⟨z7, rfl⟩
                  simp only [List.drop_succ_cons, List.drop_zero]
                  go_upto_region 14 with (fail)
                  obtain ⟨W4, hW4⟩ : ∃ W4, (((gw W3 z7)).setCell ⟨w.heap.size, 0, none⟩ (.int .i64 xl)).setCell ⟨w.heap.size, 1, none⟩ (.int .i64 xh) = W4 := ⟨_, rfl⟩
                  have hgW4 : W3.grownBy W4 (some (w.heap.size)) := by rw [← hW4]; exact grownBy_trans (grownBy_trans (grownBy_of_below (below_gw W3 z7) _) (grownBy_set _ _ _ _)) (grownBy_set _ _ _ _)
                  have ZsW4 := Lib.hid (show W4.heap[w.heap.size]? = some (.cells #[.int .i64 xl, .int .i64 xh] 23 (0, 0)) by rw [← hW4]; exact block_set 1 _ (block_set 0 _ (((below_gw W3 z7).block _ (Array.getElem?_eq_some_iff.1 ZsW3.out).1).trans ZsW3.out)))
                  have ZlW4 := Lib.hid ((hgW4.block _ (Array.getElem?_eq_some_iff.1 ZlW3.out).1 (by simp <;> omega)).trans ZlW3.out)
                  have ZfW4 := Lib.hid ((hgW4.block _ (Array.getElem?_eq_some_iff.1 ZfW3.out).1 (by simp <;> omega)).trans ZfW3.out)
                  have HBW4 := Lib.hid (HBW3.out.grown hgW4 HBW3.out.size (fun g hg => by cases hg; omega))
                  have zsW4 := hgW4.size
                  have GBW4 := Lib.hid hgW4; clear hgW4
                  have HWW4 := Lib.hid hW4; clear hW4
                  rw [HWW4.out]
                  clear es0W3 es1W3 fs0W3 fs1W3 el0W3 el1W3 ef0W3 ef1W3
                  have es0W4 : W4.cell? ⟨w.heap.size, 0, none⟩ = some (.int .i64 xl) := cell_of_block ZsW4.out 0 (by simp)
                  have es1W4 : W4.cell? ⟨w.heap.size, 1, none⟩ = some (.int .i64 xh) := cell_of_block ZsW4.out 1 (by simp)
                  have lsW4 := (Array.getElem?_eq_some_iff.1 ZsW4.out).1
                  have HRV := Lib.hid ((own_below HR.out SBW3.out).kept GBW4.out (.inr (Ne.symm (row_low HR.out (by omega)))))
                  have LV : W2.heap.size ≤ W4.heap.size := by omega
                  have BV := Lib.hid (below_alloc W4 (.cells #[.int .i64 xl, .int .i64 xh] 23))
                  go_wp2_with (at_builtin; go_loud (refine wpList_append_own _ rfl _ _ 34 rfl W2.heap.size 23 j0 (.agg #[.int .i64 0, .int .i64 0]) 2 16 Try.underlying34 JI.out Y0.out Y1.out Y2.out rfl (by decide) _ j (airV sl sh v F G j) rfl (HRV.out.alloc _) ⟨W4.heap.size, 0, none⟩ 1 1 [.int .i64 xl, .int .i64 xh] rfl rfl (news_lit _ _ _) (by simp [Value.oneCell']) (by unfold maxLen; omega) (by omega) (by simp; omega) ?_; intro v9 w9 hown9 hgrow9 _))
                  rw [← HV.out] at hown9
                  have HO9 := Lib.hid hown9
                  have B9 := Lib.hid ((HBW4.out.alloc HBW4.out.size (.cells #[.int .i64 xl, .int .i64 xh] 23)).grown hgrow9 (by have := HBW4.out.size; simp; omega) (fun g hg => by have := (HRV.out.lt g hg).1; omega))
                  have k0 := (hgrow9.block w.heap.size (by simp; omega) (by have := row_low HRV.out (B := w.heap.size) (by omega); first | exact this | exact Ne.symm this)).trans ((BV.out.block _ (by omega)).trans ZsW4.out)
                  have k1 := (hgrow9.block (W1.heap.size + z2.bs.size) (by simp; omega) (by have := row_low HRV.out (B := W1.heap.size + z2.bs.size) (by omega); first | exact this | exact Ne.symm this)).trans ((BV.out.block _ (by omega)).trans ZlW4.out)
                  have z9 : W2.heap.size ≤ w9.heap.size := by have := hgrow9.size; simp at this; omega
                  rw [← EXL.out, ← EXH.out] at k0
                  have K0 := Lib.hid k0; have K1 := Lib.hid k1; clear k0 k1 hown9 hgrow9
                  go_wp2_with fail
                  go_roundw
                  case rel => exact ⟨j + 1, by omega, by go_num, HO9, K0, K1, B9, z9⟩
                  case measure => simp [intOf]; omega
                · obtain rfl : j = m := by omega
                  have lim : 1073741824 < xh := by have := SB_.out hlt; unfold airOk at this; rw [hxh] at this; have := of_decide_eq_false this; omega
                  have HE := HE1.out hlt
                  have EXL := Lib.hid hxl; have EXH := Lib.hid hxh; clear hxl hxh VS
                  have es0wr : wr.cell? ⟨w.heap.size, 0, none⟩ = some (.int .i64 al) := cell_of_block X0.out 0 (by simp)
                  have es1wr : wr.cell? ⟨w.heap.size, 1, none⟩ = some (.int .i64 ah) := cell_of_block X0.out 1 (by simp)
                  have lswr := (Array.getElem?_eq_some_iff.1 X0.out).1
                  have el0wr : wr.cell? ⟨W1.heap.size + z2.bs.size, 0, none⟩ = some (.int .i64 (1000 - v)) := cell_of_block X1.out 0 (by simp)
                  have el1wr : wr.cell? ⟨W1.heap.size + z2.bs.size, 1, none⟩ = some (.int .i64 (1000 - v)) := cell_of_block X1.out 1 (by simp)
                  have llwr := (Array.getElem?_eq_some_iff.1 X1.out).1
                  go_upto_region 13 with (fail)
                  obtain ⟨W3, hW3⟩ : ∃ W3, ((wr)).alloc (.cells #[.int .i64 f, .int .i64 g] 23) = W3 := ⟨_, rfl⟩
                  have hbW3 : Below wr.heap.size wr W3 := by rw [← hW3]; exact (Below.refl _ wr).alloc (by simp [gw_size]) _
                  have ZsW3 := Lib.hid ((hbW3.block _ (Array.getElem?_eq_some_iff.1 X0.out).1).trans X0.out)
                  have ZlW3 := Lib.hid ((hbW3.block _ (Array.getElem?_eq_some_iff.1 X1.out).1).trans X1.out)
                  have zfW3 : W3.heap[wr.heap.size]? = some (.cells #[.int .i64 f, .int .i64 g] 23 (0, 0)) := by rw [← hW3]; exact alloc_at (by simp [gw_size])
                  have ZfW3 := Lib.hid zfW3; clear zfW3
                  have HBW3 := Lib.hid (thru hbW3 HBr.out)
                  have SBW3 := Lib.hid hbW3; clear hbW3
                  have HWW3 := Lib.hid hW3; clear hW3
                  rw [HWW3.out]
                  clear q0 q1 es0wr es1wr el0wr el1wr
                  have zsW3 := SBW3.out.size
                  have es0W3 : W3.cell? ⟨w.heap.size, 0, none⟩ = some (.int .i64 al) := cell_of_block ZsW3.out 0 (by simp)
                  have fs0W3 := frozen_of_block ZsW3.out 0
                  have es1W3 : W3.cell? ⟨w.heap.size, 1, none⟩ = some (.int .i64 ah) := cell_of_block ZsW3.out 1 (by simp)
                  have fs1W3 := frozen_of_block ZsW3.out 1
                  have lsW3 := (Array.getElem?_eq_some_iff.1 ZsW3.out).1
                  have el0W3 : W3.cell? ⟨W1.heap.size + z2.bs.size, 0, none⟩ = some (.int .i64 (1000 - v)) := cell_of_block ZlW3.out 0 (by simp)
                  have el1W3 : W3.cell? ⟨W1.heap.size + z2.bs.size, 1, none⟩ = some (.int .i64 (1000 - v)) := cell_of_block ZlW3.out 1 (by simp)
                  have llW3 := (Array.getElem?_eq_some_iff.1 ZlW3.out).1
                  have ef0W3 : W3.cell? ⟨wr.heap.size, 0, none⟩ = some (.int .i64 f) := cell_of_block ZfW3.out 0 (by simp)
                  have ef1W3 : W3.cell? ⟨wr.heap.size, 1, none⟩ = some (.int .i64 g) := cell_of_block ZfW3.out 1 (by simp)
                  have lfW3 := (Array.getElem?_eq_some_iff.1 ZfW3.out).1
                  refine wp_region_gw_tail 5 (by kernel_rfl) (by kernel_rfl) ?_
                  simp only [List.take_succ_cons, List.take_zero]
                  repeat (go_big_quiet_step (first | (go_at_call 76; with_reducible exact Calls.gw_of (C1.out _)) | (go_at_call 52; with_reducible exact Calls.gw_of (C2'.out _))))
                  refine wpQuiet_nil ?_
                  rintro _ ⟨z7, rfl⟩
                  simp only [List.drop_succ_cons, List.drop_zero]
                  go_upto_region 14 with (fail)
                  obtain ⟨W4, hW4⟩ : ∃ W4, (((gw W3 z7)).setCell ⟨w.heap.size, 0, none⟩ (.int .i64 xl)).setCell ⟨w.heap.size, 1, none⟩ (.int .i64 xh) = W4 := ⟨_, rfl⟩
                  have hgW4 : W3.grownBy W4 (some (w.heap.size)) := by rw [← hW4]; exact grownBy_trans (grownBy_trans (grownBy_of_below (below_gw W3 z7) _) (grownBy_set _ _ _ _)) (grownBy_set _ _ _ _)
                  have ZsW4 := Lib.hid (show W4.heap[w.heap.size]? = some (.cells #[.int .i64 xl, .int .i64 xh] 23 (0, 0)) by rw [← hW4]; exact block_set 1 _ (block_set 0 _ (((below_gw W3 z7).block _ (Array.getElem?_eq_some_iff.1 ZsW3.out).1).trans ZsW3.out)))
                  have ZlW4 := Lib.hid ((hgW4.block _ (Array.getElem?_eq_some_iff.1 ZlW3.out).1 (by simp <;> omega)).trans ZlW3.out)
                  have ZfW4 := Lib.hid ((hgW4.block _ (Array.getElem?_eq_some_iff.1 ZfW3.out).1 (by simp <;> omega)).trans ZfW3.out)
                  have HBW4 := Lib.hid (HBW3.out.grown hgW4 HBW3.out.size (fun g hg => by cases hg; omega))
                  have zsW4 := hgW4.size
                  have GBW4 := Lib.hid hgW4; clear hgW4
                  have HWW4 := Lib.hid hW4; clear hW4
                  rw [HWW4.out]
                  clear es0W3 es1W3 fs0W3 fs1W3 el0W3 el1W3 ef0W3 ef1W3
                  have es0W4 : W4.cell? ⟨w.heap.size, 0, none⟩ = some (.int .i64 xl) := cell_of_block ZsW4.out 0 (by simp)
                  have es1W4 : W4.cell? ⟨w.heap.size, 1, none⟩ = some (.int .i64 xh) := cell_of_block ZsW4.out 1 (by simp)
                  have lsW4 := (Array.getElem?_eq_some_iff.1 ZsW4.out).1
                  go_wp2_with fail
                  go_ret2
                  exact air_bad HE (by decide) rfl HBW4.out
            · obtain rfl : j = k := by omega
              obtain rfl : j = m := by omega
              have HE := HE0.out (by omega)
              have hN : airN sl sh j F G v = j := by unfold airN; rw [if_pos HE]
              have HEN := Lib.hid HE; have HNN := Lib.hid hN; clear HE hN
              go_wp2_with fail
              go_ret2
              exact ⟨_, by rw [HEN.out]; rfl, by rw [HNN.out]; exact HR.out.base (by omega), HBr.out⟩
end Go.Proofs.Ytecbacbecopbeaa
