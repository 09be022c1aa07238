/- Plain laws of the order of floors; HouseFloors walked: it returns true. No conditions beyond each theorem's own. -/
import Derived.Test.YtljofnmgddfljaaFu
import Derived.Test.YtljofnmgddfljaaFb
import Derived.Test.YtljofnmgddfljaaFf
set_option linter.unusedVariables false
set_option linter.unusedSimpArgs false
set_option linter.unusedSectionVars false
set_option linter.constructorNameAsVariable false
namespace Go.Proofs.Ytljofnmgddfljaa
open Go.Shelf Go.RowKit Go.Lib Go.Sort

attribute [local go_sem] gw_cell gw_frozen gw_size

section
variable (C : Clim) (x : Cont) (day : Int)
def flI (j : Nat) : Nat := ((sortPl (flA C x day C.nA))[j]!).f
variable {C x day}
theorem flI_mem {j : Nat} (hj : j < C.nA) : ∃ i, i < C.nA ∧ (sortPl (flA C x day C.nA))[j]! = flP C x day i := by
  have hs := (sortPl_size (flA C x day C.nA)).trans (flA_size C.nA)
  have hm : (sortPl (flA C x day C.nA))[j]! ∈ (sortPl (flA C x day C.nA)).toList := by
    rw [getElem!_pos _ j (by omega)]; simp
  have hm2 := (sortPl_perm (flA C x day C.nA)).mem_iff.1 hm
  simp only [flA, List.mem_map, List.mem_range] at hm2
  obtain ⟨i, hi, e⟩ := hm2
  exact ⟨i, hi, e.symm⟩
theorem flI_ok (h : flE C x day = 0) {j : Nat} (hj : j < C.nA) : flI C x day j < C.nA ∧ (sortPl (flA C x day C.nA))[j]! = flP C x day (flI C x day j) := by
  obtain ⟨i, hi, e⟩ := flI_mem (x := x) (day := day) hj
  have := (flP_eq h hi).1
  have e2 : flI C x day j = i := by unfold flI; rw [e]; omega
  rw [e2]
  exact ⟨hi, e⟩
theorem flI_inj (h : flE C x day = 0) {i j : Nat} (hi : i < C.nA) (hj : j < C.nA) (hij : i < j) : flI C x day i ≠ flI C x day j := by
  have hs := (sortPl_size (flA C x day C.nA)).trans (flA_size C.nA)
  have nd : (sortPl (flA C x day C.nA)).toList.Pairwise (fun a b => a.f ≠ b.f) := by
    have nd0 : (flA C x day C.nA).toList.Pairwise (fun a b => a.f ≠ b.f) := by
      simp only [flA]
      rw [List.pairwise_map]
      refine (List.nodup_range (n := C.nA)).imp_of_mem (fun {a b} ha hb hne => ?_)
      have e1 := (flP_eq h (List.mem_range.1 ha)).1
      have e2 := (flP_eq h (List.mem_range.1 hb)).1
      omega
    exact (sortPl_perm (flA C x day C.nA)).symm.pairwise nd0 (fun h => Ne.symm h)
  have := (List.pairwise_iff_getElem.1 nd) i j (by simp; omega) (by simp; omega) hij
  unfold flI
  rw [getElem!_pos _ i (by omega), getElem!_pos _ j (by omega)]
  simpa using this
theorem flI_sorted (h : flE C x day = 0) {j : Nat} (hj : j + 1 < C.nA) : (flX C x day (flI C x day (j + 1))).alo ≤ (flX C x day (flI C x day j)).alo ∧ ((flX C x day (flI C x day (j + 1))).alo = (flX C x day (flI C x day j)).alo → flI C x day j ≤ flI C x day (j + 1)) := by
  have hs := (sortPl_size (flA C x day C.nA)).trans (flA_size C.nA)
  have := (List.pairwise_iff_getElem.1 (sortPl_sorted (flA C x day C.nA))) j (j + 1) (by simp; omega) (by simp; omega) (by omega)
  have e1 := flI_ok h (show j < C.nA by omega)
  have e2 := flI_ok h hj
  rw [getElem!_pos _ j (by omega)] at e1
  rw [getElem!_pos _ (j + 1) (by omega)] at e2
  simp only [Array.getElem_toList] at this
  rw [e1.2, e2.2, ltP] at this
  have p1 := flP_eq h e1.1
  have p2 := flP_eq h e2.1
  simp at this
  omega
end
/-- sixteen marks -/
def Marks (cur : Array Value) (S : Nat → Bool) : Prop := cur.size = 16 ∧ ∀ k, k < 16 → cur[k]? = some (.bool (S k))
theorem Marks.start : Marks #[.bool false, .bool false, .bool false, .bool false, .bool false, .bool false, .bool false, .bool false, .bool false, .bool false, .bool false, .bool false, .bool false, .bool false, .bool false, .bool false] (fun _ => false) := by
  refine ⟨rfl, fun k hk => ?_⟩
  show (Array.replicate 16 (Value.bool false))[k]? = _
  simp [hk]
theorem Marks.set {cur : Array Value} {S : Nat → Bool} (h : Marks cur S) (f : Nat) (hf : f < 16) : Marks (cur.setIfInBounds f (.bool true)) (fun k => S k || k == f) := by
  refine ⟨by simpa using h.1, fun k hk => ?_⟩
  rw [Array.getElem?_setIfInBounds]
  by_cases e : f = k
  · subst e; simp [h.1, hf]
  · rw [if_neg e, h.2 k hk]; simp [Ne.symm e]
theorem mark_cell {W : World} {b k : Nat} {cur : Array Value} {S : Nat → Bool} {t : TypeId} (h : W.heap[b]? = some (.cells cur t (0, 0))) (hm : Marks cur S) (hk : k < 16) : W.cell? ⟨b, k, none⟩ = some (.bool (S k)) := by
  rw [cell_of_row W b k cur t (0, 0) h]; exact hm.2 k hk

set_option maxRecDepth 100000 in
set_option maxHeartbeats 2000000 in
theorem floors_law_any (C : Clim) (x : Cont) (day : Int) (w : World) (hC : C.In w) (hl : Lens C 0) :
    Calls Try.prog 11 #[.agg #[.int .i64 C.days, .slice C.aA C.nA C.cA, .slice C.aW C.nW C.cW], x.val, .int .i64 day] w (True1 w) := by
  unfold Cont.val
  obtain ⟨W1, hW1⟩ : ∃ W1, ((w.alloc (.cells #[.int .i64 C.days, .slice C.aA C.nA C.cA, .slice C.aW C.nW C.cW] 24)).alloc (.cells #[.int .i64 x.day, .int .i64 x.alo, .int .i64 x.ahi, .int .i64 x.wlo, .int .i64 x.whi] 28)).alloc (.cells #[.int .i64 day] 3) = W1 := ⟨_, rfl⟩
  have hBc : Below w.heap.size w W1 := by rw [← hW1]; exact ((below_alloc _ _).alloc (by simp) _).alloc (by simp <;> omega) _
  have zc0 : W1.heap[w.heap.size]? = some (.cells #[.int .i64 C.days, .slice C.aA C.nA C.cA, .slice C.aW C.nW C.cW] 24 (0, 0)) := by rw [← hW1]; exact alloc_keep (alloc_keep (alloc_at rfl))
  have zc1 : W1.heap[w.heap.size + 1]? = some (.cells #[.int .i64 x.day, .int .i64 x.alo, .int .i64 x.ahi, .int .i64 x.wlo, .int .i64 x.whi] 28 (0, 0)) := by rw [← hW1]; exact alloc_keep (alloc_at (by simp))
  have zc2 : W1.heap[w.heap.size + 1 + 1]? = some (.cells #[.int .i64 day] 3 (0, 0)) := by rw [← hW1]; exact alloc_at (by simp <;> omega)
  have c00 : W1.cell? ⟨w.heap.size, 0, none⟩ = some (.int .i64 C.days) := cell_of_block zc0 0 (by simp)
  have c01 : W1.cell? ⟨w.heap.size, 1, none⟩ = some (.slice C.aA C.nA C.cA) := cell_of_block zc0 1 (by simp)
  have c02 : W1.cell? ⟨w.heap.size, 2, none⟩ = some (.slice C.aW C.nW C.cW) := cell_of_block zc0 2 (by simp)
  have c10 : W1.cell? ⟨w.heap.size + 1, 0, none⟩ = some (.int .i64 x.day) := cell_of_block zc1 0 (by simp)
  have c11 : W1.cell? ⟨w.heap.size + 1, 1, none⟩ = some (.int .i64 x.alo) := cell_of_block zc1 1 (by simp)
  have c12 : W1.cell? ⟨w.heap.size + 1, 2, none⟩ = some (.int .i64 x.ahi) := cell_of_block zc1 2 (by simp)
  have c13 : W1.cell? ⟨w.heap.size + 1, 3, none⟩ = some (.int .i64 x.wlo) := cell_of_block zc1 3 (by simp)
  have c14 : W1.cell? ⟨w.heap.size + 1, 4, none⟩ = some (.int .i64 x.whi) := cell_of_block zc1 4 (by simp)
  have c20 : W1.cell? ⟨w.heap.size + 1 + 1, 0, none⟩ = some (.int .i64 day) := cell_of_block zc2 0 (by simp)
  have lc0 := (Array.getElem?_eq_some_iff.1 zc0).1
  have lc1 := (Array.getElem?_eq_some_iff.1 zc1).1
  have lc2 := (Array.getElem?_eq_some_iff.1 zc2).1
  have Zc0 := Lib.hid zc0
  have Zc1 := Lib.hid zc1
  clear zc0 zc1 zc2
  have HBc := Lib.hid hBc; clear hBc
  have HWc := Lib.hid hW1; clear hW1
  have hf : C.Fits := ⟨hl.na, hl.nw, hl.la, hl.lw⟩
  have HC := Lib.hid (hC.below HBc.out); clear hC
  have HF := Lib.hid hf; clear hf
  have GRX := Lib.hid (fun W b (hb : Below W1.heap.size W1 W) (hlt : b < W.heap.size) (hc : W.cell? ⟨b, 0, none⟩ = some (.int .i64 day)) => great_x C x none 0 0 (some ⟨b, 0, none⟩) 1 1 (fun _ => day) W (HC.out.below hb) hl (ints_one hlt hc) (by omega))
  have FLX := Lib.hid (fun W (hb : Below W1.heap.size W1 W) => Floors_any C x day W (HC.out.below hb) HF.out)
  go_enter Try.func11, Try.ntmps11
  go_wp2_with fail
  rw [HWc.out]
  go_wp2_with fail
  have GR := GRX.out _ _ (Below.refl _ _) lc2 c20
  clear c20
  obtain ⟨gb, hgb⟩ : ∃ gb, greatB C x 0 1 (fun _ => day) = gb := ⟨_, rfl⟩
  rw [hgb] at GR
  clear hgb
  unfold Cont.val at GR
  have GR' := Lib.hid GR; clear GR
  cases gb with
  | true =>
    refine (Calls.grown (GR'.out)).mono ?_
    rintro e w1 ⟨rfl, z1, rfl⟩
    go_wp2_with fail
    refine (Calls.gw_of (alive_any _)).mono ?_
    rintro e w1 ⟨rfl, z2, rfl⟩
    go_wp2_with fail
    go_ret
    exact ⟨rfl, HBc.out.gw z2⟩
  | false =>
    refine (Calls.grown (GR'.out)).mono ?_
    rintro e w1 ⟨rfl, z1, rfl⟩
    go_wp2_with fail
    have FL := Lib.hid (FLX.out _ (below_gw W1 z1))
    unfold Cont.val at FL
    refine FL.out.mono ?_
    rintro e w3 ⟨v, rfl, hown, hb3⟩
    obtain ⟨av, cv, rfl, hints⟩ := ints_of_own hown
    have HI := Lib.hid hints; clear hints hown
    have S3 := Lib.hid ((below_gw W1 z1).trans (hb3.mono (by rw [gw_size]; omega))); clear hb3
    have HB3 := Lib.hid (thru S3.out HBc.out)
    have X0 := Lib.hid ((S3.out.block _ lc0).trans Zc0.out)
    have X1 := Lib.hid ((S3.out.block _ lc1).trans Zc1.out)
    clear c00 c01 c02 c10 c11 c12 c13 c14
    have hN : C.nA ≤ 9223372036854775807 := hl.na
    by_cases h0 : flE C x day = 0
    · have hN2 : flN C x day = C.nA := if_pos h0
      rw [hN2, h0]
      rw [hN2] at HI
      clear hN2
      have HE := Lib.hid h0; clear h0
      have n8 := (flE_zero HE.out).2.2.1
      have ec0w3 : w3.cell? ⟨w.heap.size, 0, none⟩ = some (.int .i64 C.days) := cell_of_block X0.out 0 (by simp)
      have ec1w3 : w3.cell? ⟨w.heap.size, 1, none⟩ = some (.slice C.aA C.nA C.cA) := cell_of_block X0.out 1 (by simp)
      have ec2w3 : w3.cell? ⟨w.heap.size, 2, none⟩ = some (.slice C.aW C.nW C.cW) := cell_of_block X0.out 2 (by simp)
      have lcw3 := (Array.getElem?_eq_some_iff.1 X0.out).1
      go_upto_region 10 with (fail)
      obtain ⟨W4, hW4⟩ : ∃ W4, ((w3)).alloc (.cells #[.bool false, .bool false, .bool false, .bool false, .bool false, .bool false, .bool false, .bool false, .bool false, .bool false, .bool false, .bool false, .bool false, .bool false, .bool false, .bool false] 77) = W4 := ⟨_, rfl⟩
      have hbW4 : Below w3.heap.size w3 W4 := by rw [← hW4]; exact (Below.refl _ w3).alloc (by simp [gw_size]) _
      have ZcW4 := Lib.hid ((hbW4.block _ (Array.getElem?_eq_some_iff.1 X0.out).1).trans X0.out)
      have ZxW4 := Lib.hid ((hbW4.block _ (Array.getElem?_eq_some_iff.1 X1.out).1).trans X1.out)
      have zsW4 : W4.heap[w3.heap.size]? = some (.cells #[.bool false, .bool false, .bool false, .bool false, .bool false, .bool false, .bool false, .bool false, .bool false, .bool false, .bool false, .bool false, .bool false, .bool false, .bool false, .bool false] 77 (0, 0)) := by rw [← hW4]; exact alloc_at (by simp [gw_size])
      have ZsW4 := Lib.hid zsW4; clear zsW4
      have HBW4 := Lib.hid (thru hbW4 HB3.out)
      have SBW4 := Lib.hid hbW4; clear hbW4
      have HWW4 := Lib.hid hW4; clear hW4
      rw [HWW4.out]
      clear ec0w3 ec1w3 ec2w3
      have S4 := Lib.hid (S3.out.trans (SBW4.out.mono S3.out.size))
      rcases HI.out with hz | ⟨b, off, rfl, lb, hc⟩
      · omega
      have HCC := Lib.hid hc; clear hc
      go_wp2_with fail
      go_loopw [9, 44] (fun l t wr => ∃ (j : Nat) (S : Nat → Bool) (cur : Array Value) (last : Int), j ≤ C.nA ∧ t = .int .i64 j ∧ l = .int .i64 last ∧ Hid (∀ j', j = j' + 1 → last = (flX C x day (flI C x day j')).alo) ∧ wr.heap[w3.heap.size]? = some (.cells cur 77 (0, 0)) ∧ Hid (Marks cur S) ∧ Hid (∀ k, S k = true → ∃ i, i < j ∧ flI C x day i = k) ∧ Hid (Below w3.heap.size w3 wr)) (fun _ t _ => C.nA - (intOf t).toNat)
      case atStart => exact ⟨0, fun _ => false, _, 0, Nat.zero_le _, rfl, rfl, Lib.hid (fun j h => by omega), ZsW4.out, Lib.hid Marks.start, Lib.hid (fun k h => by cases h), SBW4⟩
      case round =>
        obtain ⟨j, S, cur, last, hj, rfl, rfl, HLA, hseen, HM, HSE, SB⟩ := hrel
        have HSN := Lib.hid hseen; clear hseen
        have SW := Lib.hid (S3.out.trans (SB.out.mono S3.out.size))
        have HBw := Lib.hid (thru SW.out HBc.out)
        have Y0 := Lib.hid ((SW.out.block _ lc0).trans Zc0.out)
        have Y1 := Lib.hid ((SW.out.block _ lc1).trans Zc1.out)
        by_cases hlt : j < C.nA
        · have lbr := Nat.lt_of_lt_of_le lb SB.out.size
          obtain ⟨fi, fp⟩ := flI_ok HE.out hlt
          have q0 := below_cell SB.out (HCC.out j hlt)
          rw [show flD C x day j = ((flI C x day j : Nat) : Int) from rfl] at q0
          have EA := flE_all HE.out fi
          have NS := fun i (hi : i < j) => flI_inj HE.out (show i < C.nA by omega) hlt hi
          have SRT := fun j' (h : j = j' + 1) => flI_sorted (j := j') HE.out (by omega)
          have HSRT := Lib.hid SRT; clear SRT
          obtain ⟨f, hff⟩ : ∃ f, flI C x day j = f := ⟨_, rfl⟩
          have HFF := Lib.hid hff
          rw [hff] at q0 fi EA NS
          clear hff fp
          have NSF : S f = false := by
            cases hS : S f with
            | false => rfl
            | true => obtain ⟨i, hi, e⟩ := HSE.out f hS; exact absurd e (NS i hi)
          clear NS
          have fc := mark_cell (k := f) HSN.out HM.out (by omega)
          rw [NSF] at fc
          have ff := frozen_of_block HSN.out f
          have ls := (Array.getElem?_eq_some_iff.1 HSN.out).1
          have f0 : (0 : Int) ≤ (f : Int) := by omega
          have f1 : (f : Int) < 16 := by omega
          have f2 : decide ((C.nA : Int) ≤ (f : Int)) = false := decide_eq_false (by omega)
          have f3 : decide (C.nA ≤ f) = false := decide_eq_false (by omega)
          have AT := fun W b (hb : Below W1.heap.size W1 W) (lb : b < W.heap.size) (h0 : W.cell? ⟨b, 0, none⟩ = some (.int .i64 0)) (h1 : W.cell? ⟨b, 1, none⟩ = some (.int .i64 (f : Int))) => At_any C x (some ⟨b, 0, none⟩) 1 1 (fun _ => 0) (fun _ => (f : Int)) day W (HC.out.below hb) HF.out (by omega) (spans_one lb h0 h1)
          rw [EA, show atV C x 1 (fun _ => 0) (fun _ => (f : Int)) day = flX C x day f from rfl] at AT
          obtain ⟨y, hy⟩ : ∃ y, flX C x day f = y := ⟨_, rfl⟩
          rw [hy] at AT
          have HY := Lib.hid hy
          unfold Cont.val at AT
          have AT' := Lib.hid AT; clear AT EA hy
          have M2 := Lib.hid (HM.out.set f (by omega))
          have SN2 := Lib.hid (block_set f (.bool true) HSN.out)
          have SE2 := Lib.hid (show ∀ k, (S k || k == f) = true → ∃ i, i < j + 1 ∧ flI C x day i = k from fun k hk => by
            rcases Bool.or_eq_true _ _ ▸ hk with h | h
            · obtain ⟨i, hi, e⟩ := HSE.out k h; exact ⟨i, by omega, e⟩
            · exact ⟨j, by omega, by rw [HFF.out]; exact (by simpa using h : k = f).symm⟩)
          have LA2 := Lib.hid (show ∀ j', j + 1 = j' + 1 → y.alo = (flX C x day (flI C x day j')).alo from fun j' h => by
            obtain rfl : j = j' := by omega
            rw [HFF.out, HY.out])
          have ec0wr : wr.cell? ⟨w.heap.size, 0, none⟩ = some (.int .i64 C.days) := cell_of_block Y0.out 0 (by simp)
          have ec1wr : wr.cell? ⟨w.heap.size, 1, none⟩ = some (.slice C.aA C.nA C.cA) := cell_of_block Y0.out 1 (by simp)
          have ec2wr : wr.cell? ⟨w.heap.size, 2, none⟩ = some (.slice C.aW C.nW C.cW) := cell_of_block Y0.out 2 (by simp)
          have lcwr := (Array.getElem?_eq_some_iff.1 Y0.out).1
          have ex0wr : wr.cell? ⟨w.heap.size + 1, 0, none⟩ = some (.int .i64 x.day) := cell_of_block Y1.out 0 (by simp)
          have ex1wr : wr.cell? ⟨w.heap.size + 1, 1, none⟩ = some (.int .i64 x.alo) := cell_of_block Y1.out 1 (by simp)
          have ex2wr : wr.cell? ⟨w.heap.size + 1, 2, none⟩ = some (.int .i64 x.ahi) := cell_of_block Y1.out 2 (by simp)
          have ex3wr : wr.cell? ⟨w.heap.size + 1, 3, none⟩ = some (.int .i64 x.wlo) := cell_of_block Y1.out 3 (by simp)
          have ex4wr : wr.cell? ⟨w.heap.size + 1, 4, none⟩ = some (.int .i64 x.whi) := cell_of_block Y1.out 4 (by simp)
          have lxwr := (Array.getElem?_eq_some_iff.1 Y1.out).1
          go_upto_region 16 with (fail)
          obtain ⟨V, hV⟩ : ∃ V, wr.setCell ⟨w3.heap.size, f, none⟩ (.bool true) = V := ⟨_, rfl⟩
          have GV := grownBy_set wr (w3.heap.size) f (.bool true)
          rw [hV] at GV SN2
          have BV := Lib.hid (SB.out.grown GV SB.out.size (fun k e => by cases e; omega))
          have SV := Lib.hid (S3.out.trans (BV.out.mono S3.out.size))
          have HBV := Lib.hid (thru SV.out HBc.out)
          have V0 := Lib.hid ((SV.out.block _ lc0).trans Zc0.out)
          have V1 := Lib.hid ((SV.out.block _ lc1).trans Zc1.out)
          have lsV := Nat.lt_of_lt_of_le ls GV.size
          have q0V := below_cell BV.out (HCC.out j hlt)
          rw [hV]
          clear GV hV q0 fc ff ec0wr ec1wr ec2wr ex0wr ex1wr ex2wr ex3wr ex4wr
          have ec0V : V.cell? ⟨w.heap.size, 0, none⟩ = some (.int .i64 C.days) := cell_of_block V0.out 0 (by simp)
          have ec1V : V.cell? ⟨w.heap.size, 1, none⟩ = some (.slice C.aA C.nA C.cA) := cell_of_block V0.out 1 (by simp)
          have ec2V : V.cell? ⟨w.heap.size, 2, none⟩ = some (.slice C.aW C.nW C.cW) := cell_of_block V0.out 2 (by simp)
          have lcV := (Array.getElem?_eq_some_iff.1 V0.out).1
          have ex0V : V.cell? ⟨w.heap.size + 1, 0, none⟩ = some (.int .i64 x.day) := cell_of_block V1.out 0 (by simp)
          have ex1V : V.cell? ⟨w.heap.size + 1, 1, none⟩ = some (.int .i64 x.alo) := cell_of_block V1.out 1 (by simp)
          have ex2V : V.cell? ⟨w.heap.size + 1, 2, none⟩ = some (.int .i64 x.ahi) := cell_of_block V1.out 2 (by simp)
          have ex3V : V.cell? ⟨w.heap.size + 1, 3, none⟩ = some (.int .i64 x.wlo) := cell_of_block V1.out 3 (by simp)
          have ex4V : V.cell? ⟨w.heap.size + 1, 4, none⟩ = some (.int .i64 x.whi) := cell_of_block V1.out 4 (by simp)
          have lxV := (Array.getElem?_eq_some_iff.1 V1.out).1
          go_wp2_with fail
          obtain ⟨W6, hW6⟩ : ∃ W6, ((V)).alloc (.cells #[.int .i64 0, .int .i64 f] 53) = W6 := ⟨_, rfl⟩
          have hbW6 : Below V.heap.size V W6 := by rw [← hW6]; exact (Below.refl _ V).alloc (by simp [gw_size]) _
          have ZcW6 := Lib.hid ((hbW6.block _ (Array.getElem?_eq_some_iff.1 V0.out).1).trans V0.out)
          have ZxW6 := Lib.hid ((hbW6.block _ (Array.getElem?_eq_some_iff.1 V1.out).1).trans V1.out)
          have ztW6 : W6.heap[V.heap.size]? = some (.cells #[.int .i64 0, .int .i64 f] 53 (0, 0)) := by rw [← hW6]; exact alloc_at (by simp [gw_size])
          have ZtW6 := Lib.hid ztW6; clear ztW6
          have HBW6 := Lib.hid (thru hbW6 HBV.out)
          have SBW6 := Lib.hid hbW6; clear hbW6
          have HWW6 := Lib.hid hW6; clear hW6
          rw [HWW6.out]
          clear ec0V ec1V ec2V ex0V ex1V ex2V ex3V ex4V
          have S6 := Lib.hid (SV.out.trans (SBW6.out.mono SV.out.size))
          have et0W6 : W6.cell? ⟨V.heap.size, 0, none⟩ = some (.int .i64 0) := cell_of_block ZtW6.out 0 (by simp)
          have et1W6 : W6.cell? ⟨V.heap.size, 1, none⟩ = some (.int .i64 f) := cell_of_block ZtW6.out 1 (by simp)
          have ltW6 := (Array.getElem?_eq_some_iff.1 ZtW6.out).1
          have ATW := Lib.hid (AT'.out _ _ S6.out ltW6 et0W6 et1W6)
          refine (Calls.grown (ATW.out)).mono ?_
          rintro e w1 ⟨rfl, z21, rfl⟩
          go_upto_region 17 with (fail)
          obtain ⟨W7, hW7⟩ : ∃ W7, ((gw W6 z21)).alloc (.cells #[.int .i64 y.day, .int .i64 y.alo, .int .i64 y.ahi, .int .i64 y.wlo, .int .i64 y.whi] 28) = W7 := ⟨_, rfl⟩
          have hbW7 : Below W6.heap.size W6 W7 := by rw [← hW7]; exact (below_gw W6 z21).alloc (by simp [gw_size]) _
          have ZcW7 := Lib.hid ((hbW7.block _ (Array.getElem?_eq_some_iff.1 ZcW6.out).1).trans ZcW6.out)
          have ZxW7 := Lib.hid ((hbW7.block _ (Array.getElem?_eq_some_iff.1 ZxW6.out).1).trans ZxW6.out)
          have ZtW7 := Lib.hid ((hbW7.block _ (Array.getElem?_eq_some_iff.1 ZtW6.out).1).trans ZtW6.out)
          have zyW7 : W7.heap[W6.heap.size + z21.bs.size]? = some (.cells #[.int .i64 y.day, .int .i64 y.alo, .int .i64 y.ahi, .int .i64 y.wlo, .int .i64 y.whi] 28 (0, 0)) := by rw [← hW7]; exact alloc_at (by simp [gw_size])
          have ZyW7 := Lib.hid zyW7; clear zyW7
          have HBW7 := Lib.hid (thru hbW7 HBW6.out)
          have SBW7 := Lib.hid hbW7; clear hbW7
          have HWW7 := Lib.hid hW7; clear hW7
          rw [HWW7.out]
          clear et0W6 et1W6
          have S7 := Lib.hid (S6.out.trans (SBW7.out.mono S6.out.size))
          have ey0W7 : W7.cell? ⟨W6.heap.size + z21.bs.size, 0, none⟩ = some (.int .i64 y.day) := cell_of_block ZyW7.out 0 (by simp)
          have ey1W7 : W7.cell? ⟨W6.heap.size + z21.bs.size, 1, none⟩ = some (.int .i64 y.alo) := cell_of_block ZyW7.out 1 (by simp)
          have ey2W7 : W7.cell? ⟨W6.heap.size + z21.bs.size, 2, none⟩ = some (.int .i64 y.ahi) := cell_of_block ZyW7.out 2 (by simp)
          have ey3W7 : W7.cell? ⟨W6.heap.size + z21.bs.size, 3, none⟩ = some (.int .i64 y.wlo) := cell_of_block ZyW7.out 3 (by simp)
          have ey4W7 : W7.cell? ⟨W6.heap.size + z21.bs.size, 4, none⟩ = some (.int .i64 y.whi) := cell_of_block ZyW7.out 4 (by simp)
          have lyW7 := (Array.getElem?_eq_some_iff.1 ZyW7.out).1
          have BX := Lib.hid (thru SBW7.out (thru SBW6.out BV.out))
          have SX := Lib.hid (((thru SBW7.out SBW6.out).block _ lsV).trans SN2.out)
          cases j with
          | zero =>
            go_wp2_with fail
            go_roundw
            case rel => exact ⟨_ + 1, _, _, y.alo, by omega, by go_num, rfl, LA2, SX.out, M2, SE2, BX⟩
            case measure => simp [intOf]; omega
          | succ i =>
            obtain ⟨s1, s2⟩ := HSRT.out i rfl
            have la := HLA.out i rfl
            rw [HFF.out, HY.out, ← la] at s1 s2
            have b1 : decide (last < y.alo) = false := decide_eq_false (by omega)
            have p0 := below_cell BX.out (HCC.out i (by omega))
            rw [show flD C x day i = ((flI C x day i : Nat) : Int) from rfl] at p0
            obtain ⟨g, hg⟩ : ∃ g, flI C x day i = g := ⟨_, rfl⟩
            rw [hg] at p0 s2
            clear hg la
            have lbx := Nat.lt_of_lt_of_le lb BX.out.size
            by_cases ey : y.alo = last
            · have b2 : (y.alo == last) = true := by simpa using ey
              have b3 : decide ((f : Int) < (g : Int)) = false := decide_eq_false (by have := s2 ey; omega)
              have b4 : decide (f < g) = false := decide_eq_false (by have := s2 ey; omega)
              clear ey s1 s2
              go_wp2_with fail
              go_roundw
              case rel => exact ⟨_ + 1, _, _, y.alo, by omega, by go_num, rfl, LA2, SX.out, M2, SE2, BX⟩
              case measure => simp [intOf]; omega
            · have b2 : (y.alo == last) = false := by simpa using ey
              clear ey s1 s2
              go_wp2_with fail
              go_roundw
              case rel => exact ⟨_ + 1, _, _, y.alo, by omega, by go_num, rfl, LA2, SX.out, M2, SE2, BX⟩
              case measure => simp [intOf]; omega
        · obtain rfl : j = C.nA := by omega
          go_wp2_with fail
          refine (Calls.grown (alive_any _)).mono ?_
          rintro e w1 ⟨rfl, z21, rfl⟩
          go_wp2_with fail
          go_ret
          exact ⟨rfl, HBw.out.gw z21⟩
    · have hN2 : flN C x day = 0 := if_neg h0
      rw [hN2]
      generalize flE C x day = E at *
      have ne : (E != 0) = true := by simpa using h0
      clear h0 hN2
      go_wp2_with fail
      refine (Calls.grown (alive_any _)).mono ?_
      rintro e w1 ⟨rfl, z11, rfl⟩
      go_wp2_with fail
      go_ret
      exact ⟨rfl, HB3.out.gw z11⟩
end Go.Proofs.Ytljofnmgddfljaa
