/- Contracts of rate and of its index. No conditions beyond each theorem's own. -/
import Derived.Test.YtfefmgadfklgmaaBh
set_option linter.unusedVariables false
set_option linter.unusedSimpArgs false
set_option linter.unusedSectionVars false
set_option linter.constructorNameAsVariable false
namespace Go.Proofs.Ytfefmgadfklgmaa
open Go.RowKit

attribute [local go_sem] gw_cell gw_frozen gw_size
attribute [local go_sem ↓] run_minZ run_maxZ

set_option maxRecDepth 100000 in
set_option maxHeartbeats 1000000 in
theorem search_none (a : Option Addr) (c : Nat) (x : Int) (w : World) :
    Calls Try.prog 77 #[.slice a 0 c, .int .i64 x] w fun e w' => e = .returned (.tuple #[.int .i64 0, .bool false]) ∧ w = w' := by
  go_enter Try.func77, Try.ntmps77
  go_wp2
  go_loop [7, 8] (fun p q => p = .int .i64 0 ∧ q = .int .i64 0) (fun _ _ => 0)
  case atStart => exact ⟨rfl, rfl⟩
  case round =>
    obtain ⟨rfl, rfl⟩ := hrel
    go_wp2
    go_ret2
    exact ⟨rfl, rfl⟩
/-- how many numbers of a list are not above one -/
def idx (T : Nat → Int) (n : Nat) (t : Int) : Nat := lb T (t + 1) n
theorem idx_le (T : Nat → Int) (n : Nat) (t : Int) : idx T n t ≤ n := lb_le T (t + 1) n
theorem idx_mono (T : Nat → Int) (n : Nat) {s t : Int} (h : s ≤ t) : idx T n s ≤ idx T n t := by
  unfold idx
  rcases Nat.lt_or_ge (lb T (t + 1) n) (lb T (s + 1) n) with h1 | h1
  · have a := lb_lt T (s + 1) n _ h1
    have b := lb_stop T (t + 1) n (by have := lb_le T (s + 1) n; omega)
    omega
  · exact h1
theorem idx_found {T : Nat → Int} {n : Nat} (hT : ∀ i, i + 1 < n → T i < T (i + 1)) (t : Int) : idx T n t = if foundB T t n = true then lb T t n + 1 else lb T t n := by
  have l0 := lb_le T t n
  have mono := mono_of (n := n) (L := T) (fun i hi => by have := hT i hi; omega)
  split
  · rename_i h
    simp only [foundB, Bool.and_eq_true, decide_eq_true_eq] at h
    refine (lb_unique (by omega) (fun s hs => ?_) (fun h1 => ?_)).symm
    · by_cases e : s = lb T t n
      · subst e; omega
      · have := lb_lt T t n s (by omega); omega
    · have := hT (lb T t n) h1; omega
  · rename_i h
    refine (lb_unique l0 (fun s hs => ?_) (fun h1 => ?_)).symm
    · have := lb_lt T t n s hs; omega
    · have := lb_stop T t n h1
      have ne : ¬ T (lb T t n) = t := fun e => h (by simp [foundB, h1, e])
      omega

set_option maxRecDepth 100000 in
set_option maxHeartbeats 1000000 in
theorem index_any (bp by_ : Nat) (y : Yst) (t : Int) (w : World) (hp : w.heap[bp]? = some (.cells #[.pointer (some ⟨by_, 0, none⟩)] 97 (0, 0))) (hy : y.At w by_) (hT : ∀ i, i + 1 < y.nT → y.T i < y.T (i + 1)) (hn : y.nT ≤ 16) :
    Calls Try.prog 76 #[.int .i64 t, .pointer (some ⟨bp, 0, none⟩)] w fun e w' => e = .returned (.int .i64 (idx y.T y.nT t)) ∧ w = w' := by
  have hc := box_cell hp
  have lp := (Array.getElem?_eq_some_iff.1 hp).1
  have ly := (Array.getElem?_eq_some_iff.1 hy.blk).1
  have c0 : w.cell? ⟨by_, 0, none⟩ = some (.slice y.aT y.nT y.cT) := cell_of_block hy.blk 0 (by simp)
  have E := Lib.hid (idx_found hT t)
  have l0 := Lib.hid (lb_le y.T t y.nT)
  clear hp
  by_cases h0 : y.nT = 0
  · have E0 : idx y.T y.nT t = 0 := by have := idx_le y.T y.nT t; omega
    rw [E0]
    rw [h0] at c0
    clear E E0 hT
    go_enter Try.func76, Try.ntmps76
    go_wp2_with fail
    refine (search_none _ _ _ _).mono ?_
    rintro e w1 ⟨rfl, rfl⟩
    go_wp2_with fail
    go_ret
    exact ⟨rfl, rfl⟩
  · obtain ⟨b, off, ea, lb_, hcc⟩ := hy.i.t.resolve_left h0
    rw [ea] at c0
    have S := Lib.hid (search_any b off y.nT y.cT t y.T w (by omega) hcc (mono_of (fun i hi => by have := hT i hi; omega)))
    clear hcc hT
    obtain ⟨q, hq⟩ : ∃ q, lb y.T t y.nT = q := ⟨_, rfl⟩
    rw [hq] at E S l0
    cases hfo : foundB y.T t y.nT with
    | true =>
      rw [hfo] at E S
      have E1 := Lib.hid (E.out.trans (if_pos rfl)); clear E
      have q16 := Nat.le_trans l0.out hn
      rw [E1.out]
      go_enter Try.func76, Try.ntmps76
      go_wp2_with fail
      refine S.out.mono ?_
      rintro e w1 ⟨rfl, rfl⟩
      go_wp2_with fail
      go_ret
      exact ⟨rfl, rfl⟩
    | false =>
      rw [hfo] at E S
      have E1 := Lib.hid (E.out.trans (if_neg (by simp))); clear E
      rw [E1.out]
      go_enter Try.func76, Try.ntmps76
      go_wp2_with fail
      refine S.out.mono ?_
      rintro e w1 ⟨rfl, rfl⟩
      go_wp2_with fail
      go_ret
      exact ⟨rfl, rfl⟩

/-- the least and the greatest of the rates from one on -/
def rLo (A : Nat → Int) (f : Nat) : Nat → Int
  | 0 => A f
  | k + 1 => minZ (rLo A f k) (A (f + k))
def rHi (B : Nat → Int) (f : Nat) : Nat → Int
  | 0 => B f
  | k + 1 => maxZ (rHi B f k) (B (f + k))
def Yst.fst (y : Yst) (tl : Int) : Nat := idx y.T y.nT tl
def Yst.many (y : Yst) (tl th : Int) : Nat := idx y.T y.nT th + 1 - idx y.T y.nT tl
def Yst.rl (y : Yst) (tl th : Int) : Int := rLo y.A (y.fst tl) (y.many tl th)
def Yst.rh (y : Yst) (tl th : Int) : Int := rHi y.B (y.fst tl) (y.many tl th)

set_option maxRecDepth 100000 in
set_option maxHeartbeats 4000000 in
theorem rate_any (by_ : Nat) (y : Yst) (tl th : Int) (w : World) (hy : y.At w by_) (hf : y.Fits) (hB : ystB y = true) (ht : tl ≤ th) :
    Calls Try.prog 68 #[.pointer (some ⟨by_, 0, none⟩), .agg #[.int .i64 tl, .int .i64 th]] w fun e w' => e = .returned (.agg #[.int .i64 (y.rl tl th), .int .i64 (y.rh tl th)]) ∧ Below w.heap.size w w' := by
  obtain ⟨W1, hW1⟩ : ∃ W1, ((w.alloc (.cells #[.pointer (some ⟨by_, 0, none⟩)] 97)).alloc (.cells #[.int .i64 tl, .int .i64 th] 23)).alloc (.cells #[.int .i64 0, .int .i64 0] 86) = W1 := ⟨_, rfl⟩
  have hBc : Below w.heap.size w W1 := by rw [← hW1]; exact ((below_alloc _ _).alloc (by simp) _).alloc (by simp <;> omega) _
  have zc0 : W1.heap[w.heap.size]? = some (.cells #[.pointer (some ⟨by_, 0, none⟩)] 97 (0, 0)) := by rw [← hW1]; exact alloc_keep (alloc_keep (alloc_at rfl))
  have zc1 : W1.heap[w.heap.size + 1]? = some (.cells #[.int .i64 tl, .int .i64 th] 23 (0, 0)) := by rw [← hW1]; exact alloc_keep (alloc_at (by simp))
  have zc2 : W1.heap[w.heap.size + 1 + 1]? = some (.cells #[.int .i64 0, .int .i64 0] 86 (0, 0)) := by rw [← hW1]; exact alloc_at (by simp <;> omega)
  have c00 : W1.cell? ⟨w.heap.size, 0, none⟩ = some (.pointer (some ⟨by_, 0, none⟩)) := cell_of_block zc0 0 (by simp)
  have c10 : W1.cell? ⟨w.heap.size + 1, 0, none⟩ = some (.int .i64 tl) := cell_of_block zc1 0 (by simp)
  have c11 : W1.cell? ⟨w.heap.size + 1, 1, none⟩ = some (.int .i64 th) := cell_of_block zc1 1 (by simp)
  have c20 : W1.cell? ⟨w.heap.size + 1 + 1, 0, none⟩ = some (.int .i64 0) := cell_of_block zc2 0 (by simp)
  have c21 : W1.cell? ⟨w.heap.size + 1 + 1, 1, none⟩ = some (.int .i64 0) := cell_of_block zc2 1 (by simp)
  have lc0 := (Array.getElem?_eq_some_iff.1 zc0).1
  have lc1 := (Array.getElem?_eq_some_iff.1 zc1).1
  have lc2 := (Array.getElem?_eq_some_iff.1 zc2).1
  have fc20 := frozen_of_block zc2 0
  have fc21 := frozen_of_block zc2 1
  have Zc0 := Lib.hid zc0
  have Zc1 := Lib.hid zc1
  have Zc2 := Lib.hid zc2
  clear zc0 zc1 zc2
  have HBc := Lib.hid hBc; clear hBc
  have HWc := Lib.hid hW1; clear hW1
  obtain ⟨⟨n16, nR⟩, -, hT, -, -, -, -⟩ := ystB_t hB
  obtain ⟨-, -, cap, capm⟩ := hf
  have hmf : ∀ (fn : Fn) (first cap : Array Value) (w : World), (Instr.makeFunc fn first cap).run Try.prog w = .ok (.func fn first cap) w := fun _ _ _ _ => rfl
  have IXL := Lib.hid (fun z => index_any w.heap.size by_ y tl (gw W1 z) (((below_gw W1 z).block _ lc0).trans Zc0.out) ((hy.below HBc.out).below (below_gw W1 z)) hT n16)
  have IXH := Lib.hid (fun z => index_any w.heap.size by_ y th (gw W1 z) (((below_gw W1 z).block _ lc0).trans Zc0.out) ((hy.below HBc.out).below (below_gw W1 z)) hT n16)
  have f0 := idx_le y.T y.nT tl
  have f1 := idx_le y.T y.nT th
  have f2 := idx_mono y.T y.nT ht
  have EL := Lib.hid (show y.rl tl th = rLo y.A (idx y.T y.nT tl) (idx y.T y.nT th + 1 - idx y.T y.nT tl) from rfl)
  have EH := Lib.hid (show y.rh tl th = rHi y.B (idx y.T y.nT tl) (idx y.T y.nT th + 1 - idx y.T y.nT tl) from rfl)
  obtain ⟨f, hf⟩ : ∃ f, idx y.T y.nT tl = f := ⟨_, rfl⟩
  obtain ⟨l, hl⟩ : ∃ l, idx y.T y.nT th = l := ⟨_, rfl⟩
  rw [hf] at IXL EL EH f0 f2
  rw [hl] at IXH EL EH f1 f2
  clear hf hl hT
  have HY := Lib.hid (hy.below HBc.out); clear hy
  obtain ⟨b, off, ea, lbb, hcc⟩ := HY.out.i.r.resolve_left (by omega)
  have HCC := Lib.hid hcc; clear hcc
  have ly := (Array.getElem?_eq_some_iff.1 HY.out.blk).1
  go_enter Try.func68, Try.ntmps68
  go_wp2_with fail
  rw [HWc.out]
  go_wp2_with fail
  refine wp_region_gw (by kernel_rfl) (by kernel_rfl) ?_
  repeat (go_big_quiet_step (first | (go_at_call 76; with_reducible exact Calls.gw_of_same (IXL.out _)) | (go_at_call 76; with_reducible exact Calls.gw_of_same (IXH.out _))))
  refine wpQuiet_nil ?_
  rintro _ ⟨z1, rfl⟩
  have ZY := Lib.hid (show W1.heap[by_]? = some (.cells #[.slice y.aT y.nT y.cT, .slice (some ⟨b, off, none⟩) y.nR y.cR, .int .i64 y.sl, .int .i64 y.sh, .int .i64 y.gl, .int .i64 y.gh, .int .i64 y.hl, .int .i64 y.hh] 32 (0, 0)) from ea ▸ HY.out.blk)
  go_upto_region 3 with (fail)
  obtain ⟨W2, hW2⟩ : ∃ W2, gw W1 z1 = W2 := ⟨_, rfl⟩
  have hbW2 : Below W1.heap.size W1 W2 := by rw [← hW2]; exact below_gw W1 z1
  have ZpW2 := Lib.hid ((hbW2.block _ (Array.getElem?_eq_some_iff.1 Zc0.out).1).trans Zc0.out)
  have ZrW2 := Lib.hid ((hbW2.block _ (Array.getElem?_eq_some_iff.1 Zc2.out).1).trans Zc2.out)
  have ZyW2 := Lib.hid ((hbW2.block _ (Array.getElem?_eq_some_iff.1 ZY.out).1).trans ZY.out)
  have HBW2 := Lib.hid (thru hbW2 HBc.out)
  have SBW2 := Lib.hid hbW2; clear hbW2
  have HWW2 := Lib.hid hW2; clear hW2
  rw [HWW2.out]
  clear c00 c10 c11 c20 c21 fc20 fc21
  have ep0W2 : W2.cell? ⟨w.heap.size, 0, none⟩ = some (.pointer (some ⟨by_, 0, none⟩)) := cell_of_block ZpW2.out 0 (by simp)
  have lpW2 := (Array.getElem?_eq_some_iff.1 ZpW2.out).1
  have ey0W2 : W2.cell? ⟨by_, 0, none⟩ = some (.slice y.aT y.nT y.cT) := cell_of_block ZyW2.out 0 (by simp)
  have ey1W2 : W2.cell? ⟨by_, 1, none⟩ = some (.slice (some ⟨b, off, none⟩) y.nR y.cR) := cell_of_block ZyW2.out 1 (by simp)
  have ey2W2 : W2.cell? ⟨by_, 2, none⟩ = some (.int .i64 y.sl) := cell_of_block ZyW2.out 2 (by simp)
  have ey3W2 : W2.cell? ⟨by_, 3, none⟩ = some (.int .i64 y.sh) := cell_of_block ZyW2.out 3 (by simp)
  have ey4W2 : W2.cell? ⟨by_, 4, none⟩ = some (.int .i64 y.gl) := cell_of_block ZyW2.out 4 (by simp)
  have ey5W2 : W2.cell? ⟨by_, 5, none⟩ = some (.int .i64 y.gh) := cell_of_block ZyW2.out 5 (by simp)
  have ey6W2 : W2.cell? ⟨by_, 6, none⟩ = some (.int .i64 y.hl) := cell_of_block ZyW2.out 6 (by simp)
  have ey7W2 : W2.cell? ⟨by_, 7, none⟩ = some (.int .i64 y.hh) := cell_of_block ZyW2.out 7 (by simp)
  have lyW2 := (Array.getElem?_eq_some_iff.1 ZyW2.out).1
  have q0 := below_cell SBW2.out (HCC.out f (by omega)).1
  have q1 := below_cell SBW2.out (HCC.out f (by omega)).2
  have lb2 := Nat.lt_of_lt_of_le lbb SBW2.out.size
  go_upto_region 4 with (fail)
  obtain ⟨W3, hW3⟩ : ∃ W3, ((W2)).alloc (.cells #[.int .i64 (y.A f), .int .i64 (y.B f)] 86) = W3 := ⟨_, rfl⟩
  have hbW3 : Below W2.heap.size W2 W3 := by rw [← hW3]; exact (Below.refl _ W2).alloc (by simp [gw_size]) _
  have ZpW3 := Lib.hid ((hbW3.block _ (Array.getElem?_eq_some_iff.1 ZpW2.out).1).trans ZpW2.out)
  have ZrW3 := Lib.hid ((hbW3.block _ (Array.getElem?_eq_some_iff.1 ZrW2.out).1).trans ZrW2.out)
  have ZyW3 := Lib.hid ((hbW3.block _ (Array.getElem?_eq_some_iff.1 ZyW2.out).1).trans ZyW2.out)
  have zoW3 : W3.heap[W2.heap.size]? = some (.cells #[.int .i64 (y.A f), .int .i64 (y.B f)] 86 (0, 0)) := by rw [← hW3]; exact alloc_at (by simp [gw_size])
  have ZoW3 := Lib.hid zoW3; clear zoW3
  have HBW3 := Lib.hid (thru hbW3 HBW2.out)
  have SBW3 := Lib.hid hbW3; clear hbW3
  have HWW3 := Lib.hid hW3; clear hW3
  rw [HWW3.out]
  clear ep0W2 ey0W2 ey1W2 ey2W2 ey3W2 ey4W2 ey5W2 ey6W2 ey7W2 q0 q1
  have ep0W3 : W3.cell? ⟨w.heap.size, 0, none⟩ = some (.pointer (some ⟨by_, 0, none⟩)) := cell_of_block ZpW3.out 0 (by simp)
  have lpW3 := (Array.getElem?_eq_some_iff.1 ZpW3.out).1
  have ey0W3 : W3.cell? ⟨by_, 0, none⟩ = some (.slice y.aT y.nT y.cT) := cell_of_block ZyW3.out 0 (by simp)
  have ey1W3 : W3.cell? ⟨by_, 1, none⟩ = some (.slice (some ⟨b, off, none⟩) y.nR y.cR) := cell_of_block ZyW3.out 1 (by simp)
  have ey2W3 : W3.cell? ⟨by_, 2, none⟩ = some (.int .i64 y.sl) := cell_of_block ZyW3.out 2 (by simp)
  have ey3W3 : W3.cell? ⟨by_, 3, none⟩ = some (.int .i64 y.sh) := cell_of_block ZyW3.out 3 (by simp)
  have ey4W3 : W3.cell? ⟨by_, 4, none⟩ = some (.int .i64 y.gl) := cell_of_block ZyW3.out 4 (by simp)
  have ey5W3 : W3.cell? ⟨by_, 5, none⟩ = some (.int .i64 y.gh) := cell_of_block ZyW3.out 5 (by simp)
  have ey6W3 : W3.cell? ⟨by_, 6, none⟩ = some (.int .i64 y.hl) := cell_of_block ZyW3.out 6 (by simp)
  have ey7W3 : W3.cell? ⟨by_, 7, none⟩ = some (.int .i64 y.hh) := cell_of_block ZyW3.out 7 (by simp)
  have lyW3 := (Array.getElem?_eq_some_iff.1 ZyW3.out).1
  have eo0W3 : W3.cell? ⟨W2.heap.size, 0, none⟩ = some (.int .i64 (y.A f)) := cell_of_block ZoW3.out 0 (by simp)
  have eo1W3 : W3.cell? ⟨W2.heap.size, 1, none⟩ = some (.int .i64 (y.B f)) := cell_of_block ZoW3.out 1 (by simp)
  have loW3 := (Array.getElem?_eq_some_iff.1 ZoW3.out).1
  have c3 : y.nR ≤ y.cR := cap
  go_wp2_with fail
  have HL3 := Lib.hid (ZoW3.out)
  have G13 := Lib.hid (SBW2.out.trans (SBW3.out.mono SBW2.out.size))
  have GR3 := Lib.hid (ZrW3.out)
  have lo3 := loW3
  clear ep0W3 ey0W3 ey1W3 ey2W3 ey3W3 ey4W3 ey5W3 ey6W3 ey7W3 eo0W3 eo1W3 loW3 lpW3 lyW3 c3
  obtain ⟨N, hN⟩ : ∃ N, l + 1 - f = N := ⟨_, rfl⟩
  rw [hN] at EL EH ⊢
  have hN2 : f + N ≤ y.nR := by omega
  have z12 := SBW2.out.size
  go_loopw [36] (fun t wr => ∃ j : Nat, j ≤ N ∧ t = .int .i64 j ∧ Hid (W3.grownBy wr (some W2.heap.size)) ∧ Hid (wr.heap[W2.heap.size]? = some (.cells #[.int .i64 (rLo y.A f j), .int .i64 (rHi y.B f j)] 86 (0, 0)))) (fun t _ => N - (intOf t).toNat)
  case atStart => exact ⟨0, Nat.zero_le _, rfl, Lib.hid ⟨rfl, rfl, rfl, Nat.le_refl _, fun _ _ _ => rfl⟩, HL3⟩
  case round =>
    obtain ⟨j, hj, rfl, GR, BX⟩ := hrel
    have lbx := (Array.getElem?_eq_some_iff.1 BX.out).1
    by_cases hlt : j < N
    · have cw := HCC.out (f + j) (by omega)
      have ad : off + (f + j) * 2 = off + f * 2 + j * 2 := by omega
      rw [ad] at cw
      clear ad
      have q0 : wr.cell? ⟨b, off + f * 2 + j * 2, none⟩ = some (.int .i64 (y.A (f + j))) := (World.cell?_of_block (w := W3) (GR.out.block b (Nat.lt_of_lt_of_le lbb G13.out.size) (by simp; omega))).trans (below_cell G13.out cw.1)
      have q1 : wr.cell? ⟨b, off + f * 2 + j * 2 + 1, none⟩ = some (.int .i64 (y.B (f + j))) := (World.cell?_of_block (w := W3) (GR.out.block b (Nat.lt_of_lt_of_le lbb G13.out.size) (by simp; omega))).trans (below_cell G13.out cw.2)
      clear cw
      have lbr : b < wr.heap.size := by have := GR.out.size; have := G13.out.size; omega
      have rl1 := Lib.hid (show rLo y.A f (j + 1) = minZ (rLo y.A f j) (y.A (f + j)) from rfl)
      have rh1 := Lib.hid (show rHi y.B f (j + 1) = maxZ (rHi y.B f j) (y.B (f + j)) from rfl)
      obtain ⟨ra, hra⟩ : ∃ ra, rLo y.A f j = ra := ⟨_, rfl⟩
      obtain ⟨rb, hrb⟩ : ∃ rb, rHi y.B f j = rb := ⟨_, rfl⟩
      obtain ⟨xa, hxa⟩ : ∃ xa, y.A (f + j) = xa := ⟨_, rfl⟩
      obtain ⟨xb, hxb⟩ : ∃ xb, y.B (f + j) = xb := ⟨_, rfl⟩
      rw [hra, hxa] at rl1
      rw [hrb, hxb] at rh1
      rw [hra, hrb] at BX
      rw [hxa] at q0
      rw [hxb] at q1
      clear hra hrb hxa hxb
      go_upto_region 7 with (fail)
      obtain ⟨W4, hW4⟩ : ∃ W4, wr.alloc (.cells #[.int .i64 xa, .int .i64 xb] 23) = W4 := ⟨_, rfl⟩
      have B4 := Lib.hid (show Below wr.heap.size wr W4 by rw [← hW4]; exact below_alloc wr _)
      have zn : W4.heap[wr.heap.size]? = some (.cells #[.int .i64 xa, .int .i64 xb] 23 (0, 0)) := by rw [← hW4]; exact alloc_at rfl
      have zo := (B4.out.block _ lbx).trans BX.out
      have e0 : W4.cell? ⟨W2.heap.size, 0, none⟩ = some (.int .i64 ra) := cell_of_block zo 0 (by simp)
      have e1 : W4.cell? ⟨W2.heap.size, 1, none⟩ = some (.int .i64 rb) := cell_of_block zo 1 (by simp)
      have g0 : W4.cell? ⟨wr.heap.size, 0, none⟩ = some (.int .i64 xa) := cell_of_block zn 0 (by simp)
      have g1 : W4.cell? ⟨wr.heap.size, 1, none⟩ = some (.int .i64 xb) := cell_of_block zn 1 (by simp)
      have h0 := frozen_of_block zo 0
      have h1 := frozen_of_block zo 1
      have l4 := (Array.getElem?_eq_some_iff.1 zo).1
      have l5 := (Array.getElem?_eq_some_iff.1 zn).1
      have ZO := Lib.hid zo; clear zo zn q0 q1
      rw [hW4]
      clear hW4
      go_wp2_with fail
      go_roundw
      case rel =>
        refine ⟨j + 1, by omega, by go_num, Lib.hid ?_, Lib.hid ?_⟩
        · exact grownBy_trans GR.out (grownBy_trans (grownBy_of_below B4.out _) (setAll_grown W2.heap.size [.int .i64 (minZ ra xa), .int .i64 (maxZ rb xb)] 0 W4))
        · rw [rl1.out, rh1.out]
          exact set_all [.int .i64 (minZ ra xa), .int .i64 (maxZ rb xb)] ZO.out rfl
      case measure => simp [intOf]; omega
    · obtain rfl : N = j := by omega
      rw [← EL.out, ← EH.out] at BX
      have e0 : wr.cell? ⟨W2.heap.size, 0, none⟩ = some (.int .i64 (y.rl tl th)) := cell_of_block BX.out 0 (by simp)
      have e1 : wr.cell? ⟨W2.heap.size, 1, none⟩ = some (.int .i64 (y.rh tl th)) := cell_of_block BX.out 1 (by simp)
      have zr := (GR.out.block _ (Array.getElem?_eq_some_iff.1 GR3.out).1 (by simp; omega)).trans GR3.out
      have r0 : wr.cell? ⟨w.heap.size + 1 + 1, 0, none⟩ = some (.int .i64 0) := cell_of_block zr 0 (by simp)
      have r1 : wr.cell? ⟨w.heap.size + 1 + 1, 1, none⟩ = some (.int .i64 0) := cell_of_block zr 1 (by simp)
      have s0 := frozen_of_block zr 0
      have s1 := frozen_of_block zr 1
      have l4 := (Array.getElem?_eq_some_iff.1 zr).1
      clear zr
      have LW := Lib.hid (HBW3.out.grown GR.out HBW3.out.size (fun g hg => by cases hg; have := HBW2.out.size; omega))
      go_wp2_with fail
      refine bodyPost_ret (v := .agg #[.int .i64 (y.rl tl th), .int .i64 (y.rh tl th)]) (by simp [results, Try.results68, go_sem, *]) rfl ⟨rfl, ?_⟩
      exact setAll_below LW.out LW.out.size (by omega) [.int .i64 (y.rl tl th), .int .i64 (y.rh tl th)] 0
end Go.Proofs.Ytfefmgadfklgmaa
