/- Contract of the flat list of HouseOwns: all spans of a climate's rows, one after the other. No conditions beyond each theorem's own. -/
import Derived.Test.YtljofnmgddfljaaAj
import Derived.Test.YtljofnmgddfljaaFm
import Derived.Test.YtljofnmgddfljaaFf
import Derived.Deep.DeepCutAuto
import Derived.Deep.RegionHeld3
set_option linter.unusedVariables false
set_option linter.unusedSimpArgs false
set_option linter.unusedSectionVars false
set_option linter.constructorNameAsVariable false
namespace Go.Proofs.Ytljofnmgddfljaa
open Go.RowKit

def rowsV (n : Nat) (R : Nat → RowD) : List Value := (List.range n).map fun j => .slice (R j).a (R j).n (R j).c
theorem rowsV_len (n : Nat) (R : Nat → RowD) : (rowsV n R).length = n * 1 := by simp [rowsV]
theorem rowsV_one (n : Nat) (R : Nat → RowD) : ∀ u ∈ rowsV n R, u.oneCell' = true := by
  intro u hu
  simp only [rowsV, List.mem_map] at hu
  obtain ⟨j, _, rfl⟩ := hu
  rfl
theorem rows_news {w : World} {a : Option Addr} {n : Nat} {R : Nat → RowD} (h : RowsAt w a n R) : n = 0 ∨ ∃ ad, a = some ad ∧ ∀ j u, (rowsV n R)[j]? = some u → w.cell? (ad.add j) = some u := by
  rcases h with h | ⟨b, off, rfl, _, hc⟩
  · exact .inl h
  · refine .inr ⟨_, rfl, fun j u hu => ?_⟩
    have hj : j < n := by have := (List.getElem?_eq_some_iff.1 hu).1; rw [rowsV_len] at this; omega
    simp only [rowsV, List.getElem?_map, List.getElem?_range hj, Option.map_some] at hu
    cases hu
    have hadd : (⟨b, off, none⟩ : Addr).add j = ⟨b, off + j, none⟩ := by unfold Addr.add; split <;> simp_all
    rw [hadd]; exact (hc j hj).1
/-- all rows of a climate, one after the other -/
def allR (C : Clim) (j : Nat) : RowD := if j < C.nA then C.RA j else C.RW (j - C.nA)
theorem rowsV_all (C : Clim) : ∀ m, rowsV C.nA C.RA ++ rowsV m C.RW = rowsV (C.nA + m) (allR C)
  | 0 => by
    rw [show rowsV 0 C.RW = [] from rfl, List.append_nil]
    unfold rowsV
    refine List.map_congr_left fun j hj => ?_
    have := List.mem_range.1 hj
    simp [allR, show j < C.nA by omega]
  | m + 1 => by
    have e : rowsV (m + 1) C.RW = rowsV m C.RW ++ [.slice (C.RW m).a (C.RW m).n (C.RW m).c] := by simp [rowsV, List.range_succ]
    have e2 : rowsV (C.nA + m + 1) (allR C) = rowsV (C.nA + m) (allR C) ++ [.slice (allR C (C.nA + m)).a (allR C (C.nA + m)).n (allR C (C.nA + m)).c] := by simp [rowsV, List.range_succ]
    rw [e, ← List.append_assoc, rowsV_all C m, ← Nat.add_assoc, e2]
    simp [allR, show ¬ C.nA + m < C.nA by omega]
theorem allR_at {C : Clim} {w : World} (h : C.In w) {j : Nat} (hj : j < C.nA + C.nW) : SpansAt w (allR C j).a (allR C j).n (allR C j).A (allR C j).B := by
  unfold allR
  split
  · rcases h.ra with h0 | ⟨b, off, _, _, hc⟩
    · omega
    · exact (hc j (by omega)).2
  · rcases h.rw with h0 | ⟨b, off, _, _, hc⟩
    · omega
    · exact (hc (j - C.nA) (by omega)).2
/-- how many spans the first rows have, and these -/
def flatN (R : Nat → RowD) : Nat → Nat
  | 0 => 0
  | j + 1 => flatN R j + (R j).n
def flatA (R : Nat → RowD) : Nat → Nat → Int
  | 0 => fun _ => 0
  | j + 1 => fun i => if i < flatN R j then flatA R j i else (R j).A (i - flatN R j)
def flatB (R : Nat → RowD) : Nat → Nat → Int
  | 0 => fun _ => 0
  | j + 1 => fun i => if i < flatN R j then flatB R j i else (R j).B (i - flatN R j)
def flatV (R : Nat → RowD) (j : Nat) : List Value := spansV (flatN R j) (flatA R j) (flatB R j)
theorem flatV_succ (R : Nat → RowD) (j : Nat) : flatV R j ++ spansV (R j).n (R j).A (R j).B = flatV R (j + 1) := by
  unfold flatV
  rw [spansV_append]
  rfl
theorem flatN_le {R : Nat → RowD} {K : Nat} (h : ∀ j, j < K → (R j).n ≤ 20) : ∀ j, j ≤ K → flatN R j ≤ 20 * j
  | 0, _ => by simp [flatN]
  | j + 1, hj => by
    have h1 := flatN_le h j (by omega)
    have h2 := h j (by omega)
    show flatN R j + (R j).n ≤ _
    omega
def Reg.num (m : Reg) (q : Nat) : Int := match q with | 0 => m.day | 1 => m.vlo | 2 => m.vhi | 3 => m.slo | _ => m.shi
theorem RegsAt.tups {w : World} {a : Option Addr} {n : Nat} {M : Nat → Reg} (h : RegsAt w a n M) : TupsAt w a 5 n fun i q => (M i).num q := by
  rcases h with h | ⟨b, off, rfl, lb, hc⟩
  · exact .inl h
  · refine .inr ⟨b, off, rfl, lb, fun i hi q hq => ?_⟩
    obtain ⟨c0, c1, c2, c3, c4⟩ := hc i hi
    match q, hq with
    | 0, _ => exact c0
    | 1, _ => exact c1
    | 2, _ => exact c2
    | 3, _ => exact c3
    | 4, _ => exact c4
theorem TupsAt.regs {w : World} {a : Option Addr} {n : Nat} {M : Nat → Reg} (h : TupsAt w a 5 n fun i q => (M i).num q) : RegsAt w a n M := by
  rcases h with h | ⟨b, off, rfl, lb, hc⟩
  · exact .inl h
  · exact .inr ⟨b, off, rfl, lb, fun i hi => ⟨hc i hi 0 (by omega), hc i hi 1 (by omega), hc i hi 2 (by omega), hc i hi 3 (by omega), hc i hi 4 (by omega)⟩⟩
/-- few rows, and short ones -/
structure Flat20 (C : Clim) : Prop where
  na : C.nA ≤ 10
  nw : C.nW ≤ 10
  la : ∀ j, j < C.nA + C.nW → (allR C j).n ≤ 20

theorem flat20 {C : Clim} {k : Nat} (h : GoodC C k) : Flat20 C := ⟨h.na, h.nw, fun j hj => by unfold allR; split; exact h.la _ (by omega); exact h.lw _ (by omega)⟩
theorem infoRows : (Try.prog.info? 81).map (fun i => (i.zero, i.size, i.bytes)) = some (some (.slice none 0 0), 1, 24) := by kernel_rfl
theorem infoSp16 : (Try.prog.info? 26).map (fun i => (i.zero, i.size, i.bytes)) = some (some (.agg #[.int .i64 0, .int .i64 0]), 2, 16) := by kernel_rfl

theorem infoStay : (Try.prog.info? 53).map (fun i => (i.zero, i.size, i.bytes)) = some (some (.agg #[.int .i64 0, .int .i64 0]), 2, 16) := by kernel_rfl
theorem infoReg : (Try.prog.info? 44).map (fun i => (i.zero, i.size, i.bytes)) = some (some (.agg #[.int .i64 0, .int .i64 0, .int .i64 0, .int .i64 0, .int .i64 0]), 5, 40) := by kernel_rfl

attribute [local go_sem] gw_cell gw_frozen gw_size

set_option maxRecDepth 100000 in
set_option maxHeartbeats 8000000 in
theorem flat_any (C : Clim) (bc : Nat) (w : World) (hC : C.At w bc) (hf : Flat20 C) :
    Calls Try.prog 45 #[.pointer (some ⟨bc, 0, none⟩)] w fun e w' => ∃ v, e = .returned v ∧ w'.ownsRow w.heap.size 26 2 v (flatN (allR C) (C.nA + C.nW)) (flatV (allR C) (C.nA + C.nW)) ∧ Below w.heap.size w w' := by
  obtain ⟨f1, f2, f3⟩ := hf
  obtain ⟨i0, hi, hz0, hz1, hz2⟩ := info_parts infoRows
  have HI := Lib.hid hi
  have Z0 := Lib.hid hz0
  have Z1 := Lib.hid hz1
  have Z2 := Lib.hid hz2
  clear hi hz0 hz1 hz2
  obtain ⟨j0, hj, hy0, hy1, hy2⟩ := info_parts infoSp16
  have JI := Lib.hid hj
  have Y0 := Lib.hid hy0
  have Y1 := Lib.hid hy1
  have Y2 := Lib.hid hy2
  clear hj hy0 hy1 hy2
  have c1 := hC.c1
  have c2 := hC.c2
  have lc := hC.lt
  have HC := Lib.hid hC; clear hC
  have FN := Lib.hid (flatN_le f3); clear f3
  go_enter Try.func45, Try.ntmps45
  go_upto_region 2 with (fail)
  have R0 := Lib.hid (show ((w.alloc (.cells #[] 81)).drew).ownsRow w.heap.size 81 1 (.slice (some ⟨w.heap.size, 0, none⟩) 0 0) 0 [] from World.ownsRow_lit w #[] 0 (Nat.le_refl _) (by unfold maxLen; omega) rfl)
  have B0 := Lib.hid (show Below w.heap.size w ((w.alloc (.cells #[] 81)).drew) from (below_alloc w _).drew)
  have N0 := Lib.hid (rows_news (HC.out.i.ra.below B0.out))
  go_cut [11, 12, 13] (fun s11 s12 s13 wx => ∃ cap a, s11 = .slice a (C.nA + C.nW) cap ∧ s12 = .int .i64 ((C.nA + C.nW : Nat) : Int) ∧ s13 = .int .i64 0 ∧ Hid (wx.ownsRow w.heap.size 81 1 s11 (C.nA + C.nW) (rowsV (C.nA + C.nW) (allR C))) ∧ Hid (Below w.heap.size w wx))
  case first =>
    go_region_held3 (fun w' => w'.cell? ⟨bc, 1, none⟩ = some (.slice C.aA C.nA C.cA) ∧ w'.cell? ⟨bc, 2, none⟩ = some (.slice C.aW C.nW C.cW))
      (first
        | go_keep
        | exact ⟨k1, k2⟩)
      (first
        | (refine step_append_src rfl (.tmp 5) (.tmp 7) 22 rfl w.heap.size 81 i0 (.slice none 0 0) 1 24 Try.underlying22 HI.out Z0.out Z1.out Z2.out rfl (by decide) (.slice (some ⟨w.heap.size, 0, none⟩) 0 0) 0 [] (by simp [Act.eval, Act.put]) R0.out C.aA C.nA C.cA (rowsV C.nA C.RA) (by simp [Act.eval, Act.put]) (rowsV_len _ _) N0.out (rowsV_one _ _) (by unfold maxLen; omega) (by omega) (by simp) ?_; intro v1 w1 h1 g1
           simp only [Nat.zero_add, List.nil_append] at h1
           have B1 := Lib.hid (B0.out.grown g1 (by simp) (fun g hg => (R0.out.lt g hg).1))
           have k1 := below_cell' (b := bc) B1.out c1
           have k2 := below_cell' (b := bc) B1.out c2
           have N1 := Lib.hid (rows_news (HC.out.i.rw.below B1.out))
           have R1 := Lib.hid h1
           clear h1 g1)
        | (refine step_append_src rfl (.tmp 8) (.tmp 10) 22 rfl w.heap.size 81 i0 (.slice none 0 0) 1 24 Try.underlying22 HI.out Z0.out Z1.out Z2.out rfl (by decide) v1 C.nA (rowsV C.nA C.RA) (by simp [Act.eval, Act.put]) R1.out C.aW C.nW C.cW (rowsV C.nW C.RW) (by simp [Act.eval, Act.put]) (rowsV_len _ _) N1.out (rowsV_one _ _) (by unfold maxLen; omega) (by omega) (by have := B1.out.size; omega) ?_; intro v2 w2 h2 g2
           have B2 := Lib.hid (B1.out.grown g2 B1.out.size (fun g hg => (R1.out.lt g hg).1))
           have k1 := below_cell' (b := bc) B2.out c1
           have k2 := below_cell' (b := bc) B2.out c2
           rw [rowsV_all] at h2
           have R2 := Lib.hid h2
           clear h2 g2
           obtain ⟨a2, cap2, e2⟩ := own_form R2.out
           subst e2))
    all_goals
      go_wp2_with fail
      go_meet
      exact ⟨cap2, a2, rfl, by simp, rfl, R2, B2⟩
  case rest =>
    obtain ⟨cap, a, rfl, rfl, rfl, HR, HB⟩ := hcut
    have RA : RowsAt wc a (C.nA + C.nW) (allR C) := by
      rcases HR.out.2 with ⟨e1, h0⟩ | ⟨g, cap', cur, e1, hb, hg, -⟩
      · exact .inl h0
      · cases e1
        refine .inr ⟨g, 0, rfl, (Array.getElem?_eq_some_iff.1 hg).1, fun i hi => ⟨?_, allR_at (HC.out.i.below HB.out) hi⟩⟩
        have := HR.out.cells (g := g) rfl i (.slice (allR C i).a (allR C i).n (allR C i).c) (by simp [rowsV, hi])
        have hadd : (⟨g, 0, none⟩ : Addr).add i = ⟨g, i, none⟩ := by unfold Addr.add; split <;> simp_all
        rw [hadd] at this; rw [Nat.zero_add]; exact this
    have HA := Lib.hid RA; clear RA
    have LB := Lib.hid HB.out.size
    clear c1 c2
    go_wp2_with fail
    go_loopw [2, 13] (fun v t wr => ∃ j : Nat, j ≤ C.nA + C.nW ∧ t = .int .i64 j ∧ Hid (wr.ownsRow wc.heap.size 26 2 v (flatN (allR C) j) (flatV (allR C) j)) ∧ Hid (Below wc.heap.size wc wr)) (fun _ t _ => C.nA + C.nW - (intOf t).toNat)
    case atStart => exact ⟨0, Nat.zero_le _, rfl, Lib.hid ⟨rfl, .inl ⟨rfl, rfl⟩⟩, Lib.hid (Below.refl _ _)⟩
    case round =>
      obtain ⟨j, hj, rfl, HV, SB⟩ := hrel
      by_cases hlt : j < C.nA + C.nW
      · rcases HA.out with hz | ⟨b, off, rfl, lb, hc⟩
        · omega
        · obtain ⟨q0, sp⟩ := hc j hlt
          clear hc
          have q1 := below_cell SB.out q0
          have lbr := Nat.lt_of_lt_of_le lb SB.out.size
          have NS := Lib.hid (spans_news (sp.below SB.out))
          have LE := FN.out (j + 1) (by omega)
          have FS := flatV_succ (allR C) j
          have FE : flatN (allR C) (j + 1) = flatN (allR C) j + (allR C j).n := rfl
          have HFS := Lib.hid FS; clear FS
          have HFE := Lib.hid FE; clear FE
          have LE2 := Lib.hid (show flatN (allR C) j + (allR C j).n ≤ 20 * (j + 1) from LE); clear LE
          clear q0 sp
          go_wp2_with (at_builtin; refine wpList_append_src (by rfl) _ _ 81 rfl wc.heap.size 26 j0 (.agg #[.int .i64 0, .int .i64 0]) 2 16 Try.underlying81 JI.out Y0.out Y1.out Y2.out rfl (by decide) _ (flatN (allR C) j) (flatV (allR C) j) rfl HV.out (allR C j).a (allR C j).n (allR C j).c _ rfl (spansV_len _ _ _) NS.out (spansV_one _ _ _) (by have := LE2.out; unfold maxLen; omega) (by have := LE2.out; omega) SB.out.size ?_; intro v' w' hown' hgrow)
          rw [HFS.out, ← HFE.out] at hown'
          have HV' := Lib.hid hown'
          have HB' := Lib.hid (SB.out.grown hgrow SB.out.size (fun g hg => (HV.out.lt g hg).1))
          clear hown' hgrow
          go_wp2_with fail
          go_roundw
          case rel => exact ⟨_, _, _, _, _, _, _, _, _, _, ⟨j + 1, by omega, by go_num, HV', HB'⟩, rfl⟩
          case measure => simp [intOf]; omega
      · obtain rfl : j = C.nA + C.nW := by omega
        have HE := Lib.hid (thru SB.out HB.out)
        go_wp2_with fail
        go_ret
        exact ⟨_, rfl, HV.out.base LB.out, HE.out⟩
end Go.Proofs.Ytljofnmgddfljaa
