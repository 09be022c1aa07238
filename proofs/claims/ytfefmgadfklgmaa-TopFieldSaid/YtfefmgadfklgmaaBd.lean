/- A mash, its wort and its loss. Contract of Mash. No conditions beyond each theorem's own. -/
import Derived.Test.YtfefmgadfklgmaaBz
import Derived.Test.YtfefmgadfklgmaaAl
set_option linter.unusedVariables false
set_option linter.unusedSimpArgs false
set_option linter.unusedSectionVars false
set_option linter.constructorNameAsVariable false
namespace Go.Proofs.Ytfefmgadfklgmaa
open Go.RowKit

attribute [local go_sem] gw_cell gw_frozen gw_size

structure Msh where
  g : Int
  w : Int
  xl : Int
  xh : Int
  hl : Int
  hh : Int
def Msh.val (m : Msh) : Value := .agg #[.int .i64 m.g, .int .i64 m.w, .int .i64 m.xl, .int .i64 m.xh, .int .i64 m.hl, .int .i64 m.hh]
def mashB (m : Msh) : Bool := inB m.g 1 16777216 && (inB m.w 1 16777216 && (spanB m.xl m.xh 0 1000 && spanB m.hl m.hh 0 10000))
theorem mashB_t {m : Msh} (h : mashB m = true) : (1 ≤ m.g ∧ m.g ≤ 16777216) ∧ (1 ≤ m.w ∧ m.w ≤ 16777216) ∧ (0 ≤ m.xl ∧ m.xl ≤ m.xh ∧ m.xh ≤ 1000) ∧ (0 ≤ m.hl ∧ m.hl ≤ m.hh ∧ m.hh ≤ 10000) := by
  simp only [mashB, Bool.and_eq_true] at h
  exact ⟨inB_t.1 h.1, inB_t.1 h.2.1, spanB_t.1 h.2.2.1, spanB_t.1 h.2.2.2⟩
/-- what is held back -/
def Msh.kl (m : Msh) : Int := m.g * m.hl / 1000
def Msh.kh (m : Msh) : Int := upI (m.g * m.hh) 1000
/-- the sugar in a volume -/
def Msh.sl (m : Msh) (v : Int) : Int := m.g * m.xl * v / (1000 * m.w)
def Msh.sh (m : Msh) (v : Int) : Int := upI (m.g * m.xh * v) (1000 * m.w)
def mashE (m : Msh) : Int := if mashB m = true then (if m.w - m.kh < 1 then 10 else 0) else 1
structure MOut where
  sl : Int
  sh : Int
  vl : Int
  vh : Int
  ll : Int
  lh : Int
def mashO (m : Msh) : MOut := if mashE m = 0 then ⟨m.sl (m.w - m.kh), m.sh (m.w - m.kl), m.w - m.kh, m.w - m.kl, m.sl m.kl, m.sh m.kh⟩ else ⟨0, 0, 0, 0, 0, 0⟩
theorem upI_one (a : Int) : upI a 1 = a := by unfold upI; omega
theorem mash_held {m : Msh} (h : mashB m = true) : (0 ≤ m.g * m.hl ∧ m.g * m.hl ≤ 167772160000) ∧ (0 ≤ m.g * m.hh ∧ m.g * m.hh ≤ 167772160000) ∧ 0 ≤ m.kl ∧ m.kl ≤ m.kh ∧ m.kh ≤ 167772160 := by
  obtain ⟨⟨g0, g1⟩, ⟨w0, w1⟩, ⟨x0, x1, x2⟩, h0, h1, h2⟩ := mashB_t h
  have p1 : 0 ≤ m.g * m.hl := Int.mul_nonneg (by omega) h0
  have p2 : m.g * m.hl ≤ m.g * m.hh := Int.mul_le_mul_of_nonneg_left h1 (by omega)
  have p3 : m.g * m.hh ≤ 16777216 * 10000 := Int.mul_le_mul g1 h2 (by omega) (by omega)
  unfold Msh.kl Msh.kh upI
  omega
theorem mash_sugar {m : Msh} (h : mashB m = true) : (0 ≤ m.g * m.xl ∧ m.g * m.xl ≤ 16777216000) ∧ (0 ≤ m.g * m.xh ∧ m.g * m.xh ≤ 16777216000) := by
  obtain ⟨⟨g0, g1⟩, ⟨w0, w1⟩, ⟨x0, x1, x2⟩, h0, h1, h2⟩ := mashB_t h
  have p1 : 0 ≤ m.g * m.xl := Int.mul_nonneg (by omega) x0
  have p2 : m.g * m.xl ≤ m.g * m.xh := Int.mul_le_mul_of_nonneg_left x1 (by omega)
  have p3 : m.g * m.xh ≤ 16777216 * 1000 := Int.mul_le_mul g1 x2 (by omega) (by omega)
  omega
theorem mash_times {a v : Int} (a0 : 0 ≤ a) (a1 : a ≤ 16777216000) (v0 : 0 ≤ v) (v1 : v ≤ 167772160) : 0 ≤ a * v ∧ a * v ≤ 4000000000000000000 := by
  refine ⟨Int.mul_nonneg a0 v0, ?_⟩
  have : a * v ≤ 16777216000 * 167772160 := Int.mul_le_mul a1 v1 v0 (by omega)
  omega

set_option maxRecDepth 100000 in
set_option maxHeartbeats 2000000 in
theorem sugar_any (b5 b1 : Nat) (m : Msh) (vl vh : Int) (w : World) (hm : mashB m = true) (h5 : w.heap[b5]? = some (.cells #[.int .i64 m.g, .int .i64 m.g] 86 (0, 0))) (h1 : w.heap[b1]? = some (.cells #[.int .i64 m.g, .int .i64 m.w, .int .i64 m.xl, .int .i64 m.xh, .int .i64 m.hl, .int .i64 m.hh] 28 (0, 0))) (v0 : 0 ≤ vl) (v1 : vl ≤ 167772160) (v2 : 0 ≤ vh) (v3 : vh ≤ 167772160) :
    Calls Try.prog 27 #[.agg #[.int .i64 vl, .int .i64 vh], .pointer (some ⟨b5, 0, none⟩), .pointer (some ⟨b1, 0, none⟩)] w fun e w' => e = .returned (.agg #[.int .i64 (m.sl vl), .int .i64 (m.sh vh)]) ∧ Below w.heap.size w w' := by
  obtain ⟨W1, hW1⟩ : ∃ W1, (w.alloc (.cells #[.int .i64 vl, .int .i64 vh] 86)).alloc (.cells #[.int .i64 0, .int .i64 0] 23) = W1 := ⟨_, rfl⟩
  have hBc : Below w.heap.size w W1 := by rw [← hW1]; exact (below_alloc _ _).alloc (by simp) _
  have zc0 : W1.heap[w.heap.size]? = some (.cells #[.int .i64 vl, .int .i64 vh] 86 (0, 0)) := by rw [← hW1]; exact alloc_keep (alloc_at rfl)
  have zc1 : W1.heap[w.heap.size + 1]? = some (.cells #[.int .i64 0, .int .i64 0] 23 (0, 0)) := by rw [← hW1]; exact alloc_at (by simp)
  have c00 : W1.cell? ⟨w.heap.size, 0, none⟩ = some (.int .i64 vl) := cell_of_block zc0 0 (by simp)
  have c01 : W1.cell? ⟨w.heap.size, 1, none⟩ = some (.int .i64 vh) := cell_of_block zc0 1 (by simp)
  have c10 : W1.cell? ⟨w.heap.size + 1, 0, none⟩ = some (.int .i64 0) := cell_of_block zc1 0 (by simp)
  have c11 : W1.cell? ⟨w.heap.size + 1, 1, none⟩ = some (.int .i64 0) := cell_of_block zc1 1 (by simp)
  have lc0 := (Array.getElem?_eq_some_iff.1 zc0).1
  have lc1 := (Array.getElem?_eq_some_iff.1 zc1).1
  have Zc0 := Lib.hid zc0
  have Zc1 := Lib.hid zc1
  clear zc0 zc1
  have HBc := Lib.hid hBc; clear hBc
  have HWc := Lib.hid hW1; clear hW1
  obtain ⟨⟨s0, s1⟩, s2, s3⟩ := mash_sugar hm
  obtain ⟨hg, ⟨hw0, hw1⟩, -, -⟩ := mashB_t hm
  have l5 := (Array.getElem?_eq_some_iff.1 h5).1
  have l1 := (Array.getElem?_eq_some_iff.1 h1).1
  have Z5 := Lib.hid ((HBc.out.block _ l5).trans h5)
  have Z1 := Lib.hid ((HBc.out.block _ l1).trans h1)
  have T1 := fun w => times_any m.g m.g m.xl m.xh 1 1 w s0 (by omega) (by omega) (by omega) s2 (by omega) (by omega) (by omega) (by omega)
  rw [Int.mul_one, Int.mul_one, upI_one, Int.ediv_one] at T1
  have TA := Lib.hid T1; clear T1
  obtain ⟨p0, p1⟩ := mash_times s0 s1 v0 v1
  obtain ⟨p2, p3⟩ := mash_times s2 s3 v2 v3
  have T2 := fun w => times_any (m.g * m.xl) (m.g * m.xh) vl vh 1 (1000 * m.w) w p0 p1 (by omega) (by omega) p2 p3 (by omega) (by omega) (by omega)
  rw [Int.mul_one, Int.mul_one] at T2
  have TB := Lib.hid (show ∀ w, Calls Try.prog 28 #[.agg #[.int .i64 (m.g * m.xl), .int .i64 (m.g * m.xh)], .agg #[.int .i64 vl, .int .i64 vh], .int .i64 1, .int .i64 (1000 * m.w)] w fun e w' => e = .returned (.agg #[.int .i64 (m.sl vl), .int .i64 (m.sh vh)]) ∧ Below w.heap.size w w' from T2); clear T2
  obtain ⟨sa, hsa⟩ : ∃ sa, m.sl vl = sa := ⟨_, rfl⟩
  obtain ⟨sb, hsb⟩ : ∃ sb, m.sh vh = sb := ⟨_, rfl⟩
  rw [hsa, hsb] at TB ⊢
  clear h5 h1 hsa hsb
  go_enter Try.func27, Try.ntmps27
  go_upto_region 1 with (fail)
  rw [HWc.out]
  have eg0W1 : W1.cell? ⟨b5, 0, none⟩ = some (.int .i64 m.g) := cell_of_block Z5.out 0 (by simp)
  have eg1W1 : W1.cell? ⟨b5, 1, none⟩ = some (.int .i64 m.g) := cell_of_block Z5.out 1 (by simp)
  have lgW1 := (Array.getElem?_eq_some_iff.1 Z5.out).1
  have em0W1 : W1.cell? ⟨b1, 0, none⟩ = some (.int .i64 m.g) := cell_of_block Z1.out 0 (by simp)
  have em1W1 : W1.cell? ⟨b1, 1, none⟩ = some (.int .i64 m.w) := cell_of_block Z1.out 1 (by simp)
  have em2W1 : W1.cell? ⟨b1, 2, none⟩ = some (.int .i64 m.xl) := cell_of_block Z1.out 2 (by simp)
  have em3W1 : W1.cell? ⟨b1, 3, none⟩ = some (.int .i64 m.xh) := cell_of_block Z1.out 3 (by simp)
  have em4W1 : W1.cell? ⟨b1, 4, none⟩ = some (.int .i64 m.hl) := cell_of_block Z1.out 4 (by simp)
  have em5W1 : W1.cell? ⟨b1, 5, none⟩ = some (.int .i64 m.hh) := cell_of_block Z1.out 5 (by simp)
  have lmW1 := (Array.getElem?_eq_some_iff.1 Z1.out).1
  have l5' := (Array.getElem?_eq_some_iff.1 Z5.out).1
  have l1' := (Array.getElem?_eq_some_iff.1 Z1.out).1
  go_wp2_with fail
  refine (Calls.grown (TA.out _)).mono ?_
  rintro e w1 ⟨rfl, z1, rfl⟩
  go_upto_region 2 with (fail)
  obtain ⟨W2, hW2⟩ : ∃ W2, ((gw W1 z1)).alloc (.cells #[.int .i64 (m.g * m.xl), .int .i64 (m.g * m.xh)] 86) = W2 := ⟨_, rfl⟩
  have hbW2 : Below W1.heap.size W1 W2 := by rw [← hW2]; exact (below_gw W1 z1).alloc (by simp [gw_size]) _
  have ZvW2 := Lib.hid ((hbW2.block _ (Array.getElem?_eq_some_iff.1 Zc0.out).1).trans Zc0.out)
  have ZrW2 := Lib.hid ((hbW2.block _ (Array.getElem?_eq_some_iff.1 Zc1.out).1).trans Zc1.out)
  have ZgW2 := Lib.hid ((hbW2.block _ (Array.getElem?_eq_some_iff.1 Z5.out).1).trans Z5.out)
  have ZmW2 := Lib.hid ((hbW2.block _ (Array.getElem?_eq_some_iff.1 Z1.out).1).trans Z1.out)
  have zoW2 : W2.heap[W1.heap.size + z1.bs.size]? = some (.cells #[.int .i64 (m.g * m.xl), .int .i64 (m.g * m.xh)] 86 (0, 0)) := by rw [← hW2]; exact alloc_at (by simp [gw_size])
  have ZoW2 := Lib.hid zoW2; clear zoW2
  have HBW2 := Lib.hid (thru hbW2 HBc.out)
  have SBW2 := Lib.hid hbW2; clear hbW2
  have HWW2 := Lib.hid hW2; clear hW2
  rw [HWW2.out]
  clear eg0W1 eg1W1 em0W1 em1W1 em2W1 em3W1 em4W1 em5W1
  have ev0W2 : W2.cell? ⟨w.heap.size, 0, none⟩ = some (.int .i64 vl) := cell_of_block ZvW2.out 0 (by simp)
  have ev1W2 : W2.cell? ⟨w.heap.size, 1, none⟩ = some (.int .i64 vh) := cell_of_block ZvW2.out 1 (by simp)
  have lvW2 := (Array.getElem?_eq_some_iff.1 ZvW2.out).1
  have em0W2 : W2.cell? ⟨b1, 0, none⟩ = some (.int .i64 m.g) := cell_of_block ZmW2.out 0 (by simp)
  have em1W2 : W2.cell? ⟨b1, 1, none⟩ = some (.int .i64 m.w) := cell_of_block ZmW2.out 1 (by simp)
  have em2W2 : W2.cell? ⟨b1, 2, none⟩ = some (.int .i64 m.xl) := cell_of_block ZmW2.out 2 (by simp)
  have em3W2 : W2.cell? ⟨b1, 3, none⟩ = some (.int .i64 m.xh) := cell_of_block ZmW2.out 3 (by simp)
  have em4W2 : W2.cell? ⟨b1, 4, none⟩ = some (.int .i64 m.hl) := cell_of_block ZmW2.out 4 (by simp)
  have em5W2 : W2.cell? ⟨b1, 5, none⟩ = some (.int .i64 m.hh) := cell_of_block ZmW2.out 5 (by simp)
  have lmW2 := (Array.getElem?_eq_some_iff.1 ZmW2.out).1
  have eo0W2 : W2.cell? ⟨W1.heap.size + z1.bs.size, 0, none⟩ = some (.int .i64 (m.g * m.xl)) := cell_of_block ZoW2.out 0 (by simp)
  have eo1W2 : W2.cell? ⟨W1.heap.size + z1.bs.size, 1, none⟩ = some (.int .i64 (m.g * m.xh)) := cell_of_block ZoW2.out 1 (by simp)
  have loW2 := (Array.getElem?_eq_some_iff.1 ZoW2.out).1
  have er0W2 : W2.cell? ⟨w.heap.size + 1, 0, none⟩ = some (.int .i64 0) := cell_of_block ZrW2.out 0 (by simp)
  have fr0W2 := frozen_of_block ZrW2.out 0
  have er1W2 : W2.cell? ⟨w.heap.size + 1, 1, none⟩ = some (.int .i64 0) := cell_of_block ZrW2.out 1 (by simp)
  have fr1W2 := frozen_of_block ZrW2.out 1
  have lrW2 := (Array.getElem?_eq_some_iff.1 ZrW2.out).1
  go_wp2_with fail
  refine (Calls.grown (TB.out _)).mono ?_
  rintro e w1 ⟨rfl, z2, rfl⟩
  go_wp2_with fail
  refine bodyPost_ret (v := .agg #[.int .i64 sa, .int .i64 sb]) (by simp [results, Try.results27, go_sem, *]) rfl ⟨rfl, ?_⟩
  exact ((HBW2.out.gw z2).setCell (by simp <;> omega) _).setCell (by simp <;> omega) _
end Go.Proofs.Ytfefmgadfklgmaa
