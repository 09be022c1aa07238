/- Contract of isClimate. No conditions beyond each theorem's own. -/
import Derived.Test.YtljofnmgddfljaaBb
set_option linter.unusedVariables false
set_option linter.unusedSimpArgs false
set_option linter.unusedSectionVars false
set_option linter.constructorNameAsVariable false
namespace Go.Proofs.Ytljofnmgddfljaa
open Go.RowKit

attribute [local go_sem] gw_cell gw_frozen gw_size

theorem RowsAt.get {w : World} {a : Option Addr} {n : Nat} {R : Nat → RowD} (h : RowsAt w a n R) (hn : 0 < n) : ∃ b off, a = some ⟨b, off, none⟩ ∧ b < w.heap.size ∧ ∀ i, i < n → w.cell? ⟨b, off + i, none⟩ = some (.slice (R i).a (R i).n (R i).c) ∧ SpansAt w (R i).a (R i).n (R i).A (R i).B := by
  rcases h with h | h
  · omega
  · exact h
/-- the head of a slice of rows -/
theorem RowsAt.first {w : World} {a : Option Addr} {n : Nat} {R : Nat → RowD} (h : RowsAt w a n R) (hn : 0 < n) : ∃ b off, a = some ⟨b, off, none⟩ ∧ b < w.heap.size ∧ w.cell? ⟨b, off, none⟩ = some (.slice (R 0).a (R 0).n (R 0).c) := by
  obtain ⟨b, off, e, lb, hc⟩ := h.get hn
  exact ⟨b, off, e, lb, by simpa using (hc 0 hn).1⟩

set_option maxHeartbeats 1000000 in
theorem badRow (C : Clim) (r : RowD) (bc : Nat) (w : World) (hC : C.At w bc) (h0 : 0 < C.nA) (hf : C.Fits) (hn : r.n ≤ 9223372036854775807) (hS : SpansAt w r.a r.n r.A r.B) :
    Calls Try.prog 86 #[.slice r.a r.n r.c, .pointer (some ⟨bc, 0, none⟩)] w fun e w' => e = .returned (.bool (!rowB (C.RA 0).n r)) ∧ Below w.heap.size w w' := by
  have c1 := hC.c1
  have lt := hC.lt
  obtain ⟨b, off, ea, lb, x0⟩ := hC.i.ra.first h0
  have l0 := hf.la 0 h0
  rw [ea] at c1
  have HS := Lib.hid (hasShare r.a r.n r.c r.A r.B w hn hS)
  clear hC hS hf ea
  by_cases hl : r.n = (C.RA 0).n
  · have e1 : ((r.n : Int) != ((C.RA 0).n : Int)) = false := by simp; omega
    have RB := Lib.hid (show rowB (C.RA 0).n r = allB r.n (shareB r.A r.B) by unfold rowB; rw [decide_eq_true hl]; rfl)
    have HL := Lib.hid hl; clear hl
    go_enter Try.func86, Try.ntmps86
    go_wp2_with fail
    refine HS.out.mono ?_
    rintro e w1 ⟨rfl, hb⟩
    have HB := Lib.hid hb; clear hb
    go_wp2_with fail
    go_ret
    exact ⟨by rw [RB.out]; rfl, HB.out⟩
  · have e1 : ((r.n : Int) != ((C.RA 0).n : Int)) = true := by simp; omega
    have RB := Lib.hid (show rowB (C.RA 0).n r = false by unfold rowB; rw [decide_eq_false hl]; rfl)
    have HL := Lib.hid hl; clear hl
    go_enter Try.func86, Try.ntmps86
    go_wp2_with fail
    go_ret
    exact ⟨by rw [RB.out]; rfl, Below.refl _ _⟩

set_option maxHeartbeats 1000000 in
theorem ixRow (C : Clim) (bc : Nat) (a : Option Addr) (n c : Nat) (R : Nat → RowD) (w : World) (hC : C.At w bc) (h0 : 0 < C.nA) (hf : C.Fits) (hn : n ≤ 9223372036854775807) (hl : ∀ i, i < n → (R i).n ≤ 9223372036854775807) (hS : RowsAt w a n R) :
    Calls Try.prog 96 #[.slice a n c, .func (.func 86) #[] #[.pointer (some ⟨bc, 0, none⟩)]] w fun e w' => IxEnd (fun i => rowB (C.RA 0).n (R i)) n e ∧ Below w.heap.size w w' := by
  have HS := Lib.hid hS; clear hS
  have HL := Lib.hid hl; clear hl
  have HC := Lib.hid hC; clear hC
  go_enter Try.func96, Try.ntmps96
  go_wp2_with fail
  go_loopw [8] (fun t wr => ∃ k : Nat, k ≤ n ∧ t = .int .i64 k ∧ Hid (∀ i, i < k → (fun i => rowB (C.RA 0).n (R i)) i = true) ∧ ∃ x, wr = gw w x) (fun t _ => n - (intOf t).toNat)
  case atStart => exact ⟨0, Nat.zero_le _, rfl, Lib.hid (fun i hi => by omega), ⟨#[], w.drawn⟩, by simp [gw]⟩
  case round =>
    obtain ⟨k, hk, rfl, hall, x, rfl⟩ := hrel
    by_cases hlt : k < n
    · obtain ⟨b, off, rfl, lb, hc⟩ := HS.out.get (by omega)
      obtain ⟨x1, x2⟩ := hc k hlt
      clear hc
      have NS := Lib.hid (badRow C (R k) bc (gw w x) (HC.out.below (below_gw w x)) h0 hf (HL.out k hlt) (x2.below (below_gw w x)))
      clear x2
      cases hp : rowB (C.RA 0).n (R k) with
      | true =>
        rw [hp] at NS
        have HP := Lib.hid hp; clear hp
        go_wp2_with fail
        refine (Calls.gw_of NS.out).mono ?_
        rintro e w1 ⟨rfl, y, rfl⟩
        go_wp2_with fail
        go_roundw
        case rel => exact ⟨k + 1, by omega, by go_num, Lib.hid (all_succ (P := fun i => rowB (C.RA 0).n (R i) = true) hall.out HP.out), y, rfl⟩
        case measure => simp [intOf]; omega
      | false =>
        rw [hp] at NS
        have HP := Lib.hid hp; clear hp
        go_wp2_with fail
        refine (Calls.gw_of NS.out).mono ?_
        rintro e w1 ⟨rfl, y, rfl⟩
        go_wp2_with fail
        go_ret
        exact ⟨.inr ⟨k, hlt, allB_f hlt HP.out, rfl⟩, below_gw w y⟩
    · obtain rfl : n = k := by omega
      go_wp2_with fail
      go_ret
      exact ⟨.inl ⟨allB_t.2 hall.out, rfl⟩, below_gw w x⟩

set_option maxHeartbeats 1000000 in
theorem hasRow (C : Clim) (bc : Nat) (a : Option Addr) (n c : Nat) (R : Nat → RowD) (w : World) (hC : C.At w bc) (h0 : 0 < C.nA) (hf : C.Fits) (hn : n ≤ 9223372036854775807) (hl : ∀ i, i < n → (R i).n ≤ 9223372036854775807) (hS : RowsAt w a n R) :
    Calls Try.prog 89 #[.slice a n c, .func (.func 86) #[] #[.pointer (some ⟨bc, 0, none⟩)]] w fun e w' => e = .returned (.bool (!allB n (fun i => rowB (C.RA 0).n (R i)))) ∧ Below w.heap.size w w' := by
  have IX := Lib.hid (ixRow C bc a n c R w hC h0 hf hn hl hS); clear hS hl hC
  go_enter Try.func89, Try.ntmps89
  go_wp2_with fail
  refine IX.out.mono ?_
  rintro e w1 ⟨he, hb⟩
  have HB := Lib.hid hb; clear hb
  rcases he with ⟨h, rfl⟩ | ⟨j, hj, h, rfl⟩
  · have H := Lib.hid h; clear h
    go_wp2_with fail
    go_ret
    exact ⟨by rw [H.out]; rfl, HB.out⟩
  · have H := Lib.hid h; clear h
    go_wp2_with fail
    go_ret
    exact ⟨by rw [H.out]; rfl, HB.out⟩

/-- a climate's box, just made -/
theorem clim_box (C : Clim) (w : World) (h : C.In w) : C.At (w.alloc (.cells #[.int .i64 C.days, .slice C.aA C.nA C.cA, .slice C.aW C.nW C.cW] 24)) w.heap.size :=
  ⟨World.alloc_heap_new w _, h.below (below_alloc w _)⟩

set_option maxRecDepth 100000 in
set_option maxHeartbeats 4000000 in
theorem isClimate_any (C : Clim) (w : World) (hC : C.In w) (hf : C.Fits) :
    Calls Try.prog 65 #[.agg #[.int .i64 C.days, .slice C.aA C.nA C.cA, .slice C.aW C.nW C.cW]] w fun e w' => e = .returned (.bool (climB C)) ∧ Below w.heap.size w w' := by
  obtain ⟨W1, hW1⟩ : ∃ W1, w.alloc (.cells #[.int .i64 C.days, .slice C.aA C.nA C.cA, .slice C.aW C.nW C.cW] 24) = W1 := ⟨_, rfl⟩
  have hB : Below w.heap.size w W1 := by rw [← hW1]; exact below_alloc _ _
  have hbox : C.At W1 w.heap.size := by rw [← hW1]; exact clim_box C w hC
  have c0 := hbox.c0
  have c1 := hbox.c1
  have c2 := hbox.c2
  have lt := hbox.lt
  have BOX := Lib.hid hbox; clear hbox
  have HB := Lib.hid hB; clear hB
  have HW1 := Lib.hid hW1; clear hW1
  have na := hf.na
  have nw := hf.nw
  cases h1 : inB C.days 1 366 with
  | false =>
    have RB := Lib.hid (show climB C = false by unfold climB climH; rw [h1]; rfl)
    have H1 := Lib.hid h1; clear h1
    go_enter Try.func65, Try.ntmps65
    go_wp2_with fail
    rw [HW1.out]
    go_wp2_with fail
    refine (within_b _ _ _ _ H1.out).mono ?_
    rintro e w1 ⟨rfl, rfl⟩
    go_wp2_with fail
    go_ret
    exact ⟨by rw [RB.out]; rfl, HB.out⟩
  | true =>
    cases h2 : inB C.nA 1 8 with
    | false =>
      have RB := Lib.hid (show climB C = false by unfold climB climH; rw [h1, h2]; rfl)
      have H1 := Lib.hid h1; clear h1
      have H2 := Lib.hid h2; clear h2
      go_enter Try.func65, Try.ntmps65
      go_wp2_with fail
      rw [HW1.out]
      go_wp2_with fail
      refine (within_b _ _ _ _ H1.out).mono ?_
      rintro e w1 ⟨rfl, rfl⟩
      go_wp2_with fail
      refine (within_b _ _ _ _ H2.out).mono ?_
      rintro e w1 ⟨rfl, rfl⟩
      go_wp2_with fail
      go_ret
      exact ⟨by rw [RB.out]; rfl, HB.out⟩
    | true =>
      have r2 := inB_t.1 h2
      by_cases h3 : C.nW = C.nA
      · have e3 : ((C.nW : Int) != (C.nA : Int)) = false := by simp; omega
        obtain ⟨b, off, ea, lb, x0⟩ := BOX.out.i.ra.first (by omega)
        have ea' := ea
        rw [ea] at c1
        have l0 := hf.la 0 (by omega)
        have HF := Lib.hid hf
        cases h4 : inB (C.RA 0).n 1 12 with
        | false =>
          have RB := Lib.hid (show climB C = false by unfold climB climH; rw [h1, h2, decide_eq_true h3, h4]; rfl)
          have H1 := Lib.hid h1; clear h1
          have H2 := Lib.hid h2; clear h2
          have H3 := Lib.hid h3; clear h3
          have H4 := Lib.hid h4; clear h4
          clear ea ea'
          go_enter Try.func65, Try.ntmps65
          go_wp2_with fail
          rw [HW1.out]
          go_wp2_with fail
          refine (within_b _ _ _ _ H1.out).mono ?_
          rintro e w1 ⟨rfl, rfl⟩
          go_wp2_with fail
          refine (within_b _ _ _ _ H2.out).mono ?_
          rintro e w1 ⟨rfl, rfl⟩
          go_wp2_with fail
          refine (within_b _ _ _ _ H4.out).mono ?_
          rintro e w1 ⟨rfl, rfl⟩
          go_wp2_with fail
          go_ret
          exact ⟨by rw [RB.out]; rfl, HB.out⟩
        | true =>
          have H1 := Lib.hid h1; clear h1
          have H2 := Lib.hid h2; clear h2
          have H3 := Lib.hid h3; clear h3
          have H4 := Lib.hid h4; clear h4
          clear ea
          have AA := Lib.hid (hasRow C w.heap.size C.aA C.nA C.cA C.RA W1 BOX.out (by omega) HF.out HF.out.na HF.out.la BOX.out.i.ra)
          rw [ea'] at AA
          have AW := Lib.hid (fun x => hasRow C w.heap.size C.aW C.nW C.cW C.RW (gw W1 x) (BOX.out.below (below_gw W1 x)) (by omega) HF.out HF.out.nw HF.out.lw (BOX.out.below (below_gw W1 x)).i.rw)
          have CB := Lib.hid (show climB C = (allB C.nA (fun i => rowB (C.RA 0).n (C.RA i)) && allB C.nW (fun i => rowB (C.RA 0).n (C.RW i))) by unfold climB climH; rw [H1.out, H2.out, decide_eq_true H3.out, H4.out]; rfl)
          clear ea'
          cases ha : allB C.nA (fun i => rowB (C.RA 0).n (C.RA i)) with
          | false =>
            have RB := Lib.hid (show climB C = false by rw [CB.out, ha]; rfl)
            rw [ha] at AA
            clear ha
            go_enter Try.func65, Try.ntmps65
            go_wp2_with fail
            rw [HW1.out]
            go_wp2_with fail
            refine (within_b _ _ _ _ H1.out).mono ?_
            rintro e w1 ⟨rfl, rfl⟩
            go_wp2_with fail
            refine (within_b _ _ _ _ H2.out).mono ?_
            rintro e w1 ⟨rfl, rfl⟩
            go_wp2_with fail
            refine (within_b _ _ _ _ H4.out).mono ?_
            rintro e w1 ⟨rfl, rfl⟩
            go_wp2_with fail
            refine (Calls.grown AA.out).mono ?_
            rintro e w1 ⟨rfl, y, rfl⟩
            go_wp2_with fail
            go_ret
            exact ⟨by rw [RB.out]; rfl, HB.out.gw y⟩
          | true =>
            rw [ha] at AA
            cases hw : allB C.nW (fun i => rowB (C.RA 0).n (C.RW i)) with
            | false =>
              have RB := Lib.hid (show climB C = false by rw [CB.out, ha, hw]; rfl)
              rw [hw] at AW
              clear ha hw
              go_enter Try.func65, Try.ntmps65
              go_wp2_with fail
              rw [HW1.out]
              go_wp2_with fail
              refine (within_b _ _ _ _ H1.out).mono ?_
              rintro e w1 ⟨rfl, rfl⟩
              go_wp2_with fail
              refine (within_b _ _ _ _ H2.out).mono ?_
              rintro e w1 ⟨rfl, rfl⟩
              go_wp2_with fail
              refine (within_b _ _ _ _ H4.out).mono ?_
              rintro e w1 ⟨rfl, rfl⟩
              go_wp2_with fail
              refine (Calls.grown AA.out).mono ?_
              rintro e w1 ⟨rfl, y, rfl⟩
              go_wp2_with fail
              refine (Calls.gw_of (AW.out y)).mono ?_
              rintro e w1 ⟨rfl, z, rfl⟩
              go_wp2_with fail
              go_ret
              exact ⟨by rw [RB.out]; rfl, HB.out.gw z⟩
            | true =>
              have RB := Lib.hid (show climB C = true by rw [CB.out, ha, hw]; rfl)
              rw [hw] at AW
              clear ha hw
              go_enter Try.func65, Try.ntmps65
              go_wp2_with fail
              rw [HW1.out]
              go_wp2_with fail
              refine (within_b _ _ _ _ H1.out).mono ?_
              rintro e w1 ⟨rfl, rfl⟩
              go_wp2_with fail
              refine (within_b _ _ _ _ H2.out).mono ?_
              rintro e w1 ⟨rfl, rfl⟩
              go_wp2_with fail
              refine (within_b _ _ _ _ H4.out).mono ?_
              rintro e w1 ⟨rfl, rfl⟩
              go_wp2_with fail
              refine (Calls.grown AA.out).mono ?_
              rintro e w1 ⟨rfl, y, rfl⟩
              go_wp2_with fail
              refine (Calls.gw_of (AW.out y)).mono ?_
              rintro e w1 ⟨rfl, z, rfl⟩
              go_wp2_with fail
              go_ret
              exact ⟨by rw [RB.out]; rfl, HB.out.gw z⟩
      · have e3 : ((C.nW : Int) != (C.nA : Int)) = true := by simp; omega
        have RB := Lib.hid (show climB C = false by unfold climB climH; rw [h1, h2, decide_eq_false h3]; rfl)
        have H1 := Lib.hid h1; clear h1
        have H2 := Lib.hid h2; clear h2
        have H3 := Lib.hid h3; clear h3
        go_enter Try.func65, Try.ntmps65
        go_wp2_with fail
        rw [HW1.out]
        go_wp2_with fail
        refine (within_b _ _ _ _ H1.out).mono ?_
        rintro e w1 ⟨rfl, rfl⟩
        go_wp2_with fail
        refine (within_b _ _ _ _ H2.out).mono ?_
        rintro e w1 ⟨rfl, rfl⟩
        go_wp2_with fail
        go_ret
        exact ⟨by rw [RB.out]; rfl, HB.out⟩
end Go.Proofs.Ytljofnmgddfljaa
