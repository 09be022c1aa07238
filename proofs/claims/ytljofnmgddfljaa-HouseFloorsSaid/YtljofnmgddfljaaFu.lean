/- Contract of Floors. No conditions beyond each theorem's own. -/
import Derived.Test.YtljofnmgddfljaaFt
import Derived.Test.YtljofnmgddfljaaCa
set_option linter.unusedVariables false
set_option linter.unusedSimpArgs false
set_option linter.unusedSectionVars false
set_option linter.constructorNameAsVariable false
namespace Go.Proofs.Ytljofnmgddfljaa
open Go.Shelf Go.RowKit Go.Lib Go.Sort

attribute [local go_sem] gw_cell gw_frozen gw_size
attribute [local go_sem ↓] run_minZ run_maxZ

theorem spans_one {W : World} {b : Nat} {x y : Int} (hb : b < W.heap.size) (h0 : W.cell? ⟨b, 0, none⟩ = some (.int .i64 x)) (h1 : W.cell? ⟨b, 1, none⟩ = some (.int .i64 y)) : SpansAt W (some ⟨b, 0, none⟩) 1 (fun _ => x) (fun _ => y) :=
  .inr ⟨b, 0, rfl, hb, fun i hi => by
    obtain rfl : i = 0 := by omega
    exact ⟨h0, h1⟩⟩
theorem news2 (w : World) (x y : Value) (t : TypeId) : ∀ (i : Nat) (u : Value), [x, y][i]? = some u → (w.alloc (.cells #[x, y] t)).cell? ((⟨w.heap.size, 0, none⟩ : Addr).add i) = some u := by
  intro i u h
  have hb := World.alloc_heap_new w (.cells #[x, y] t)
  match i, h with
  | 0, h => exact (cell_of_block hb 0 (by simp)).trans (by simpa using h)
  | 1, h => exact (cell_of_block hb 1 (by simp)).trans (by simpa using h)

section
variable (C : Clim) (x : Cont) (day : Int)
/-- the error of a day, when there is one stay from the first day on -/
def flE : Int := errH C x 1 (fun _ => 0) (fun _ => 0) day
def flX (i : Nat) : Cont := atV C x 1 (fun _ => 0) (fun _ => (i : Int)) day
def flP (i : Nat) : Plc := ⟨min i 1000, min (flX C x day i).alo.toNat 1000000000000, by omega, by omega⟩
def flA (n : Nat) : Array Plc := ((List.range n).map (flP C x day)).toArray
def flN : Nat := if flE C x day = 0 then C.nA else 0
def flD (j : Nat) : Int := ((sortPl (flA C x day C.nA))[j]!).f
def flC (j : Nat) : List Value := (List.range (j * 2)).map fun t => (encP (flP C x day (t / 2)))[t % 2]!
variable {C x day}
theorem stays_floor {i : Nat} (hi : i < C.nA) : staysB C.nA 1 (fun _ => 0) (fun _ => (i : Int)) = true := by
  unfold staysB
  rw [allB_t.2 (fun j hj => by
    obtain rfl : j = 0 := by omega
    unfold stayB
    rw [inB_t.2 (by show 0 ≤ (0 : Int) ∧ (0 : Int) ≤ 65536; omega), inB_t.2 (by show 0 ≤ (i : Int) ∧ (i : Int) ≤ (C.nA : Int) - 1; omega)]
    simp)]
  rw [inB_t.2 (by omega)]
  rfl
theorem flE_zero (h : flE C x day = 0) : climB C = true ∧ contB x = true ∧ (1 ≤ C.nA ∧ C.nA ≤ 8) ∧ x.day ≤ day ∧ day ≤ 65536 := by
  obtain ⟨g1, g2, g3, g4, g5, g6⟩ := errH_zero h
  exact ⟨g1, g2, (climB_t g1).2.1, g4, g5⟩
theorem flE_all (h : flE C x day = 0) {i : Nat} (hi : i < C.nA) : errH C x 1 (fun _ => 0) (fun _ => (i : Int)) day = 0 := by
  obtain ⟨g1, g2, g3, g4, g5⟩ := flE_zero h
  obtain ⟨⟨d0, d1⟩, -⟩ := contB_t g2
  unfold errH
  rw [if_pos ⟨g1, g2, stays_floor hi⟩, if_pos (inB_t.2 (by omega)), if_neg (by omega), if_neg (by show ¬ (x.day < (0 : Int) ∧ x.day < day); omega)]
theorem flX_ok (h : flE C x day = 0) {i : Nat} (hi : i < C.nA) : contB (flX C x day i) = true ∧ 0 ≤ (flX C x day i).alo ∧ (flX C x day i).alo ≤ 2147483648 := by
  have := (atV_cont (flE_all h hi)).1
  have h2 : contB (flX C x day i) = true := this
  obtain ⟨-, ⟨a0, a1, a2⟩, -⟩ := contB_t h2
  exact ⟨h2, a0, by omega⟩
theorem flP_eq (h : flE C x day = 0) {i : Nat} (hi : i < C.nA) : ((flP C x day i).f : Int) = i ∧ ((flP C x day i).l : Int) = (flX C x day i).alo := by
  have h1 := (flE_zero h).2.2.1
  have h2 := (flX_ok h hi).2
  unfold flP
  simp only
  omega
theorem flC_succ (j : Nat) : flC C x day (j + 1) = flC C x day j ++ [.int .i64 (flP C x day j).f, .int .i64 (flP C x day j).l] := by
  unfold flC
  rw [show (j + 1) * 2 = j * 2 + 1 + 1 by omega, List.range_succ, List.range_succ, List.map_append, List.map_append, List.append_assoc]
  congr 1
  simp only [List.map_cons, List.map_nil, List.cons_append, List.nil_append]
  rw [show j * 2 / 2 = j by omega, show j * 2 % 2 = 0 by omega, show (j * 2 + 1) / 2 = j by omega, show (j * 2 + 1) % 2 = 1 by omega]
  rfl
theorem flA_size (n : Nat) : (flA C x day n).size = n := by simp [flA]
theorem flA_get {n i : Nat} (hi : i < n) : (flA C x day n)[i]! = flP C x day i := by simp [flA, hi]
theorem fl_holds {w : World} {base g n cap : Nat} (h : w.ownsRow base 114 2 (.slice (some ⟨g, 0, none⟩) n cap) n (flC C x day n)) (hn : 0 < n) : HoldsK encP 2 w g 0 (flA C x day n) ∧ g < w.heap.size ∧ base ≤ g ∧ cap ≤ 9223372036854775807 := by
  have hc := h.cells (g := g) rfl
  rcases h.2 with ⟨h0, _⟩ | ⟨g', cap', cur, e, hb, hg, hnc, hcm, hcs, _⟩
  · cases h0
  · cases e
    refine ⟨fun t ht => ?_, (Array.getElem?_eq_some_iff.1 hg).1, hb, hcm⟩
    rw [size_flatK, flA_size] at ht
    refine ⟨?_, frozen_of_block hg _⟩
    rw [get_flatK _ _ _ _ (by rw [flA_size]; exact ht), flA_get (by omega)]
    have := hc t ((encP (flP C x day (t / 2)))[t % 2]!) (by unfold flC; simp [ht])
    have hadd : (⟨g, 0, none⟩ : Addr).add t = ⟨g, t, none⟩ := by unfold Addr.add; split <;> simp_all
    rw [hadd] at this
    simpa using this
theorem flrs_eq {d : Array Plc} {n : Nat} (h : d.size = n) : flrs d n = (List.range n).map fun j => Value.int .i64 ((d[j]!).f : Int) := by
  unfold flrs
  apply List.ext_getElem?
  intro j
  simp only [List.getElem?_map, List.getElem?_take, List.getElem?_range']
  by_cases hj : j < n
  · have hj' : j < d.size := by omega
    simp [hj, hj']
  · have : d.size ≤ j := by omega
    simp [hj]
end

set_option maxRecDepth 100000 in
set_option maxHeartbeats 4000000 in
theorem Floors_any (C : Clim) (x : Cont) (day : Int) (w : World) (hC : C.In w) (hf : C.Fits) :
    Calls Try.prog 41 #[.agg #[.int .i64 C.days, .slice C.aA C.nA C.cA, .slice C.aW C.nW C.cW], x.val, .int .i64 day] w fun e w' => ∃ v, e = .returned (.tuple #[v, .int .i64 (flE C x day)]) ∧ w'.ownsRow w.heap.size 3 1 v (flN C x day) ((List.range (flN C x day)).map fun j => .int .i64 (flD C x day j)) ∧ Below w.heap.size w w' := by
  unfold Cont.val
  obtain ⟨W1, hW1⟩ : ∃ W1, (w.alloc (.cells #[.int .i64 C.days, .slice C.aA C.nA C.cA, .slice C.aW C.nW C.cW] 24)).alloc (.cells #[.int .i64 x.day, .int .i64 x.alo, .int .i64 x.ahi, .int .i64 x.wlo, .int .i64 x.whi] 28) = W1 := ⟨_, rfl⟩
  have hBc : Below w.heap.size w W1 := by rw [← hW1]; exact (below_alloc _ _).alloc (by simp) _
  have zc0 : W1.heap[w.heap.size]? = some (.cells #[.int .i64 C.days, .slice C.aA C.nA C.cA, .slice C.aW C.nW C.cW] 24 (0, 0)) := by rw [← hW1]; exact alloc_keep (alloc_at rfl)
  have zc1 : W1.heap[w.heap.size + 1]? = some (.cells #[.int .i64 x.day, .int .i64 x.alo, .int .i64 x.ahi, .int .i64 x.wlo, .int .i64 x.whi] 28 (0, 0)) := by rw [← hW1]; exact alloc_at (by simp)
  have c00 : W1.cell? ⟨w.heap.size, 0, none⟩ = some (.int .i64 C.days) := cell_of_block zc0 0 (by simp)
  have c01 : W1.cell? ⟨w.heap.size, 1, none⟩ = some (.slice C.aA C.nA C.cA) := cell_of_block zc0 1 (by simp)
  have c02 : W1.cell? ⟨w.heap.size, 2, none⟩ = some (.slice C.aW C.nW C.cW) := cell_of_block zc0 2 (by simp)
  have c10 : W1.cell? ⟨w.heap.size + 1, 0, none⟩ = some (.int .i64 x.day) := cell_of_block zc1 0 (by simp)
  have c11 : W1.cell? ⟨w.heap.size + 1, 1, none⟩ = some (.int .i64 x.alo) := cell_of_block zc1 1 (by simp)
  have c12 : W1.cell? ⟨w.heap.size + 1, 2, none⟩ = some (.int .i64 x.ahi) := cell_of_block zc1 2 (by simp)
  have c13 : W1.cell? ⟨w.heap.size + 1, 3, none⟩ = some (.int .i64 x.wlo) := cell_of_block zc1 3 (by simp)
  have c14 : W1.cell? ⟨w.heap.size + 1, 4, none⟩ = some (.int .i64 x.whi) := cell_of_block zc1 4 (by simp)
  have lc0 := (Array.getElem?_eq_some_iff.1 zc0).1
  have lc1 := (Array.getElem?_eq_some_iff.1 zc1).1
  have Zc0 := Lib.hid zc0
  have Zc1 := Lib.hid zc1
  clear zc0 zc1
  have HBc := Lib.hid hBc; clear hBc
  have HWc := Lib.hid hW1; clear hW1
  obtain ⟨i0, hi, hz0, hz1, hz2⟩ := info_parts infoPlc
  have HI := Lib.hid hi
  have Z0 := Lib.hid hz0
  have Z1 := Lib.hid hz1
  have Z2 := Lib.hid hz2
  clear hi hz0 hz1 hz2
  have HC := Lib.hid (hC.below HBc.out); clear hC
  have AT := fun (i : Nat) W b (hb : Below W1.heap.size W1 W) (lb : b < W.heap.size) (h0 : W.cell? ⟨b, 0, none⟩ = some (.int .i64 0)) (h1 : W.cell? ⟨b, 1, none⟩ = some (.int .i64 (i : Int))) => At_any C x (some ⟨b, 0, none⟩) 1 1 (fun _ => 0) (fun _ => (i : Int)) day W (HC.out.below hb) hf (by omega) (spans_one lb h0 h1)
  unfold Cont.val at AT
  have AT' := Lib.hid AT; clear AT
  have Y0 := Lib.hid Zc0.out
  have Y1 := Lib.hid Zc1.out
  by_cases h0 : flE C x day = 0
  · have hN : flN C x day = C.nA := if_pos h0
    rw [hN, h0]
    clear hN
    have MX : maxZ 1 (C.nA : Int) = C.nA := by rw [maxZ_eq]; have := (flE_zero h0).2.2.1; omega
    have hna := (flE_zero h0).2.2.1
    have HMX := Lib.hid MX; clear MX
    have H0 := Lib.hid h0; clear h0
    go_enter Try.func41, Try.ntmps41
    go_wp2_with fail
    rw [HWc.out]
    go_wp2_with fail
    rw [HMX.out]
    go_loopw [8, 16] (fun v t wr => ∃ j : Nat, j ≤ C.nA ∧ t = .int .i64 j ∧ Hid (wr.ownsRow W1.heap.size 114 2 v j (flC C x day j)) ∧ Hid (Below W1.heap.size W1 wr)) (fun _ t _ => C.nA - (intOf t).toNat)
    case atStart => exact ⟨0, Nat.zero_le _, rfl, Lib.hid ⟨rfl, .inl ⟨rfl, rfl⟩⟩, Lib.hid (Below.refl _ _)⟩
    case round =>
      obtain ⟨j, hj, rfl, HR, SB⟩ := hrel
      have HBw := Lib.hid (thru SB.out HBc.out)
      have Y0 := Lib.hid ((SB.out.block _ lc0).trans Zc0.out)
      have Y1 := Lib.hid ((SB.out.block _ lc1).trans Zc1.out)
      clear c00 c01 c02 c10 c11 c12 c13 c14
      by_cases hlt : j < C.nA
      · have PE := flP_eq H0.out (i := j) (by omega)
        have EA := flE_all H0.out (i := j) (by omega)
        have FSC := flC_succ (C := C) (x := x) (day := day) j
        rw [PE.1, PE.2] at FSC
        have ATJ := AT'.out j
        rw [EA, show atV C x 1 (fun _ => 0) (fun _ => (j : Int)) day = flX C x day j from rfl] at ATJ
        obtain ⟨y, hy⟩ : ∃ y, flX C x day j = y := ⟨_, rfl⟩
        rw [hy] at FSC ATJ
        clear PE EA hy
        have FSC := Lib.hid FSC
        have ATJ := Lib.hid ATJ
        have ec0wr : wr.cell? ⟨w.heap.size, 0, none⟩ = some (.int .i64 C.days) := cell_of_block Y0.out 0 (by simp)
        have ec1wr : wr.cell? ⟨w.heap.size, 1, none⟩ = some (.slice C.aA C.nA C.cA) := cell_of_block Y0.out 1 (by simp)
        have ec2wr : wr.cell? ⟨w.heap.size, 2, none⟩ = some (.slice C.aW C.nW C.cW) := cell_of_block Y0.out 2 (by simp)
        have lcwr := (Array.getElem?_eq_some_iff.1 Y0.out).1
        have ex0wr : wr.cell? ⟨w.heap.size + 1, 0, none⟩ = some (.int .i64 x.day) := cell_of_block Y1.out 0 (by simp)
        have ex1wr : wr.cell? ⟨w.heap.size + 1, 1, none⟩ = some (.int .i64 x.alo) := cell_of_block Y1.out 1 (by simp)
        have ex2wr : wr.cell? ⟨w.heap.size + 1, 2, none⟩ = some (.int .i64 x.ahi) := cell_of_block Y1.out 2 (by simp)
        have ex3wr : wr.cell? ⟨w.heap.size + 1, 3, none⟩ = some (.int .i64 x.wlo) := cell_of_block Y1.out 3 (by simp)
        have ex4wr : wr.cell? ⟨w.heap.size + 1, 4, none⟩ = some (.int .i64 x.whi) := cell_of_block Y1.out 4 (by simp)
        have lxwr := (Array.getElem?_eq_some_iff.1 Y1.out).1
        go_wp2_with fail
        obtain ⟨W2, hW2⟩ : ∃ W2, ((wr)).alloc (.cells #[.int .i64 0, .int .i64 j] 53) = W2 := ⟨_, rfl⟩
        have hbW2 : Below wr.heap.size wr W2 := by rw [← hW2]; exact (Below.refl _ wr).alloc (by simp [gw_size]) _
        have ZcW2 := Lib.hid ((hbW2.block _ (Array.getElem?_eq_some_iff.1 Y0.out).1).trans Y0.out)
        have ZxW2 := Lib.hid ((hbW2.block _ (Array.getElem?_eq_some_iff.1 Y1.out).1).trans Y1.out)
        have zsW2 : W2.heap[wr.heap.size]? = some (.cells #[.int .i64 0, .int .i64 j] 53 (0, 0)) := by rw [← hW2]; exact alloc_at (by simp [gw_size])
        have ZsW2 := Lib.hid zsW2; clear zsW2
        have HBW2 := Lib.hid (thru hbW2 HBw.out)
        have SBW2 := Lib.hid hbW2; clear hbW2
        have HWW2 := Lib.hid hW2; clear hW2
        rw [HWW2.out]
        clear ec0wr ec1wr ec2wr ex0wr ex1wr ex2wr ex3wr ex4wr
        have S2 := Lib.hid (SB.out.trans (SBW2.out.mono SB.out.size))
        have es0W2 : W2.cell? ⟨wr.heap.size, 0, none⟩ = some (.int .i64 0) := cell_of_block ZsW2.out 0 (by simp)
        have es1W2 : W2.cell? ⟨wr.heap.size, 1, none⟩ = some (.int .i64 j) := cell_of_block ZsW2.out 1 (by simp)
        have lsW2 := (Array.getElem?_eq_some_iff.1 ZsW2.out).1
        have ATW := Lib.hid (ATJ.out _ _ S2.out lsW2 es0W2 es1W2)
        refine (Calls.grown (ATW.out)).mono ?_
        rintro e w1 ⟨rfl, z1, rfl⟩
        go_upto_region 6 with (fail)
        obtain ⟨W3, hW3⟩ : ∃ W3, ((gw W2 z1)).alloc (.cells #[.int .i64 y.day, .int .i64 y.alo, .int .i64 y.ahi, .int .i64 y.wlo, .int .i64 y.whi] 28) = W3 := ⟨_, rfl⟩
        have hbW3 : Below W2.heap.size W2 W3 := by rw [← hW3]; exact (below_gw W2 z1).alloc (by simp [gw_size]) _
        have ZcW3 := Lib.hid ((hbW3.block _ (Array.getElem?_eq_some_iff.1 ZcW2.out).1).trans ZcW2.out)
        have ZxW3 := Lib.hid ((hbW3.block _ (Array.getElem?_eq_some_iff.1 ZxW2.out).1).trans ZxW2.out)
        have ZsW3 := Lib.hid ((hbW3.block _ (Array.getElem?_eq_some_iff.1 ZsW2.out).1).trans ZsW2.out)
        have zyW3 : W3.heap[W2.heap.size + z1.bs.size]? = some (.cells #[.int .i64 y.day, .int .i64 y.alo, .int .i64 y.ahi, .int .i64 y.wlo, .int .i64 y.whi] 28 (0, 0)) := by rw [← hW3]; exact alloc_at (by simp [gw_size])
        have ZyW3 := Lib.hid zyW3; clear zyW3
        have HBW3 := Lib.hid (thru hbW3 HBW2.out)
        have SBW3 := Lib.hid hbW3; clear hbW3
        have HWW3 := Lib.hid hW3; clear hW3
        rw [HWW3.out]
        clear es0W2 es1W2
        have S3 := Lib.hid (S2.out.trans (SBW3.out.mono S2.out.size))
        have ey0W3 : W3.cell? ⟨W2.heap.size + z1.bs.size, 0, none⟩ = some (.int .i64 y.day) := cell_of_block ZyW3.out 0 (by simp)
        have ey1W3 : W3.cell? ⟨W2.heap.size + z1.bs.size, 1, none⟩ = some (.int .i64 y.alo) := cell_of_block ZyW3.out 1 (by simp)
        have ey2W3 : W3.cell? ⟨W2.heap.size + z1.bs.size, 2, none⟩ = some (.int .i64 y.ahi) := cell_of_block ZyW3.out 2 (by simp)
        have ey3W3 : W3.cell? ⟨W2.heap.size + z1.bs.size, 3, none⟩ = some (.int .i64 y.wlo) := cell_of_block ZyW3.out 3 (by simp)
        have ey4W3 : W3.cell? ⟨W2.heap.size + z1.bs.size, 4, none⟩ = some (.int .i64 y.whi) := cell_of_block ZyW3.out 4 (by simp)
        have lyW3 := (Array.getElem?_eq_some_iff.1 ZyW3.out).1
        have RW := Lib.hid (own_below HR.out (thru SBW3.out SBW2.out))
        have LW := Lib.hid (show W1.heap.size ≤ W3.heap.size from S3.out.size)
        go_wp2_with (at_builtin; refine wpList_append_own _ rfl _ _ 112 rfl W1.heap.size 114 i0 (.agg #[.int .i64 0, .int .i64 0]) 2 16 Try.underlying112 HI.out Z0.out Z1.out Z2.out rfl (by decide) _ j (flC C x day j) rfl (RW.out.alloc _) ⟨W3.heap.size, 0, none⟩ 1 1 [.int .i64 j, .int .i64 y.alo] rfl rfl (news2 _ _ _ _) (by simp [Value.oneCell']) (by unfold maxLen; omega) (by omega) (by have := LW.out; simp; omega) ?_; intro v' w' hown' hgrow _)
        have hrow' : w'.ownsRow W1.heap.size 114 2 v' (j + 1) (flC C x day (j + 1)) := by rw [FSC.out]; exact hown'
        have low' := (S3.out.alloc (by have := S3.out.size; omega) _).grown hgrow (by have := S3.out.size; simp; omega) (fun g hg => (RW.out.lt g hg).1)
        have HR' := Lib.hid hrow'
        have HL' := Lib.hid low'
        clear hrow' low' hown' hgrow
        go_wp2_with fail
        go_roundw
        case rel => exact ⟨j + 1, by omega, by go_num, HR', HL'⟩
        case measure => simp [intOf]; omega
      · obtain rfl : j = C.nA := by omega
        rcases HR.out.2 with ⟨rfl, h1⟩ | ⟨g, cap, cur, rfl, -⟩
        · omega
        · obtain ⟨hh, hg, hb, hcap⟩ := fl_holds HR.out (by omega)
          have OC := ordered_any g cap (flA C x day C.nA) wr hh hg (by rw [flA_size]; omega) hcap
          rw [flA_size] at OC
          have OC := Lib.hid OC; clear hh
          go_wp2_with fail
          refine OC.out.mono ?_
          rintro e w2 ⟨v2, rfl, hown, hgr⟩
          have HO := Lib.hid hown; clear hown
          have HL := Lib.hid (HBw.out.grown hgr HBw.out.size (fun k e => by cases e; have := HBc.out.size; omega)); clear hgr
          go_wp2_with fail
          go_ret2
          refine ⟨_, rfl, ?_, HL.out⟩
          have := HO.out.base (show w.heap.size ≤ wr.heap.size from HBw.out.size)
          rw [flrs_eq ((sortPl_size _).trans (flA_size C.nA))] at this
          exact this
  · have hN : flN C x day = 0 := if_neg h0
    rw [hN]
    clear hN
    have AT0 := AT'.out 0
    rw [show errH C x 1 (fun _ => 0) (fun _ => ((0 : Nat) : Int)) day = flE C x day from rfl, show atV C x 1 (fun _ => 0) (fun _ => ((0 : Nat) : Int)) day = zeroCont from atV_err h0] at AT0
    obtain ⟨E, hE⟩ : ∃ E, flE C x day = E := ⟨_, rfl⟩
    rw [hE] at AT0 h0 ⊢
    clear hE
    have AT0 := Lib.hid AT0
    have ne : (E != 0) = true := by simpa using h0
    clear h0
    have m1 : (0 : Int) < maxZ 1 (C.nA : Int) := by rw [maxZ_eq]; omega
    have m2 : decide ((0 : Int) < maxZ 1 (C.nA : Int)) = true := decide_eq_true m1
    go_enter Try.func41, Try.ntmps41
    go_wp2_with fail
    rw [HWc.out]
    go_wp2_with fail
    go_loopw [8, 16] (fun v t wr => t = .int .i64 0 ∧ v = .slice none 0 0 ∧ Hid (Below W1.heap.size W1 wr)) (fun _ _ _ => 0)
    case atStart => exact ⟨rfl, rfl, Lib.hid (Below.refl _ _)⟩
    case round =>
      obtain ⟨rfl, rfl, SB⟩ := hrel
      have HBw := Lib.hid (thru SB.out HBc.out)
      have Y0 := Lib.hid ((SB.out.block _ lc0).trans Zc0.out)
      have Y1 := Lib.hid ((SB.out.block _ lc1).trans Zc1.out)
      clear c00 c01 c02 c10 c11 c12 c13 c14
      have ec0wr : wr.cell? ⟨w.heap.size, 0, none⟩ = some (.int .i64 C.days) := cell_of_block Y0.out 0 (by simp)
      have ec1wr : wr.cell? ⟨w.heap.size, 1, none⟩ = some (.slice C.aA C.nA C.cA) := cell_of_block Y0.out 1 (by simp)
      have ec2wr : wr.cell? ⟨w.heap.size, 2, none⟩ = some (.slice C.aW C.nW C.cW) := cell_of_block Y0.out 2 (by simp)
      have lcwr := (Array.getElem?_eq_some_iff.1 Y0.out).1
      have ex0wr : wr.cell? ⟨w.heap.size + 1, 0, none⟩ = some (.int .i64 x.day) := cell_of_block Y1.out 0 (by simp)
      have ex1wr : wr.cell? ⟨w.heap.size + 1, 1, none⟩ = some (.int .i64 x.alo) := cell_of_block Y1.out 1 (by simp)
      have ex2wr : wr.cell? ⟨w.heap.size + 1, 2, none⟩ = some (.int .i64 x.ahi) := cell_of_block Y1.out 2 (by simp)
      have ex3wr : wr.cell? ⟨w.heap.size + 1, 3, none⟩ = some (.int .i64 x.wlo) := cell_of_block Y1.out 3 (by simp)
      have ex4wr : wr.cell? ⟨w.heap.size + 1, 4, none⟩ = some (.int .i64 x.whi) := cell_of_block Y1.out 4 (by simp)
      have lxwr := (Array.getElem?_eq_some_iff.1 Y1.out).1
      go_wp2_with fail
      obtain ⟨W2, hW2⟩ : ∃ W2, ((wr)).alloc (.cells #[.int .i64 0, .int .i64 0] 53) = W2 := ⟨_, rfl⟩
      have hbW2 : Below wr.heap.size wr W2 := by rw [← hW2]; exact (Below.refl _ wr).alloc (by simp [gw_size]) _
      have ZcW2 := Lib.hid ((hbW2.block _ (Array.getElem?_eq_some_iff.1 Y0.out).1).trans Y0.out)
      have ZxW2 := Lib.hid ((hbW2.block _ (Array.getElem?_eq_some_iff.1 Y1.out).1).trans Y1.out)
      have zsW2 : W2.heap[wr.heap.size]? = some (.cells #[.int .i64 0, .int .i64 0] 53 (0, 0)) := by rw [← hW2]; exact alloc_at (by simp [gw_size])
      have ZsW2 := Lib.hid zsW2; clear zsW2
      have HBW2 := Lib.hid (thru hbW2 HBw.out)
      have SBW2 := Lib.hid hbW2; clear hbW2
      have HWW2 := Lib.hid hW2; clear hW2
      rw [HWW2.out]
      clear ec0wr ec1wr ec2wr ex0wr ex1wr ex2wr ex3wr ex4wr
      have S2 := Lib.hid (SB.out.trans (SBW2.out.mono SB.out.size))
      have es0W2 : W2.cell? ⟨wr.heap.size, 0, none⟩ = some (.int .i64 0) := cell_of_block ZsW2.out 0 (by simp)
      have es1W2 : W2.cell? ⟨wr.heap.size, 1, none⟩ = some (.int .i64 0) := cell_of_block ZsW2.out 1 (by simp)
      have lsW2 := (Array.getElem?_eq_some_iff.1 ZsW2.out).1
      have ATW := Lib.hid (AT0.out _ _ S2.out lsW2 es0W2 es1W2)
      refine (Calls.grown (ATW.out)).mono ?_
      rintro e w1 ⟨rfl, z1, rfl⟩
      go_upto_region 6 with (fail)
      obtain ⟨W3, hW3⟩ : ∃ W3, ((gw W2 z1)).alloc (.cells #[.int .i64 zeroCont.day, .int .i64 zeroCont.alo, .int .i64 zeroCont.ahi, .int .i64 zeroCont.wlo, .int .i64 zeroCont.whi] 28) = W3 := ⟨_, rfl⟩
      have hbW3 : Below W2.heap.size W2 W3 := by rw [← hW3]; exact (below_gw W2 z1).alloc (by simp [gw_size]) _
      have ZcW3 := Lib.hid ((hbW3.block _ (Array.getElem?_eq_some_iff.1 ZcW2.out).1).trans ZcW2.out)
      have ZxW3 := Lib.hid ((hbW3.block _ (Array.getElem?_eq_some_iff.1 ZxW2.out).1).trans ZxW2.out)
      have ZsW3 := Lib.hid ((hbW3.block _ (Array.getElem?_eq_some_iff.1 ZsW2.out).1).trans ZsW2.out)
      have zyW3 : W3.heap[W2.heap.size + z1.bs.size]? = some (.cells #[.int .i64 zeroCont.day, .int .i64 zeroCont.alo, .int .i64 zeroCont.ahi, .int .i64 zeroCont.wlo, .int .i64 zeroCont.whi] 28 (0, 0)) := by rw [← hW3]; exact alloc_at (by simp [gw_size])
      have ZyW3 := Lib.hid zyW3; clear zyW3
      have HBW3 := Lib.hid (thru hbW3 HBW2.out)
      have SBW3 := Lib.hid hbW3; clear hbW3
      have HWW3 := Lib.hid hW3; clear hW3
      rw [HWW3.out]
      clear es0W2 es1W2
      have S3 := Lib.hid (S2.out.trans (SBW3.out.mono S2.out.size))
      have ey0W3 : W3.cell? ⟨W2.heap.size + z1.bs.size, 0, none⟩ = some (.int .i64 zeroCont.day) := cell_of_block ZyW3.out 0 (by simp)
      have ey1W3 : W3.cell? ⟨W2.heap.size + z1.bs.size, 1, none⟩ = some (.int .i64 zeroCont.alo) := cell_of_block ZyW3.out 1 (by simp)
      have ey2W3 : W3.cell? ⟨W2.heap.size + z1.bs.size, 2, none⟩ = some (.int .i64 zeroCont.ahi) := cell_of_block ZyW3.out 2 (by simp)
      have ey3W3 : W3.cell? ⟨W2.heap.size + z1.bs.size, 3, none⟩ = some (.int .i64 zeroCont.wlo) := cell_of_block ZyW3.out 3 (by simp)
      have ey4W3 : W3.cell? ⟨W2.heap.size + z1.bs.size, 4, none⟩ = some (.int .i64 zeroCont.whi) := cell_of_block ZyW3.out 4 (by simp)
      have lyW3 := (Array.getElem?_eq_some_iff.1 ZyW3.out).1
      go_wp2_with fail
      go_ret2
      exact ⟨_, rfl, ⟨rfl, .inl ⟨rfl, rfl⟩⟩, HBW3.out⟩
end Go.Proofs.Ytljofnmgddfljaa
