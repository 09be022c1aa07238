/- Contract of cools (reference). No conditions beyond each theorem's own. -/
import Derived.Test.YtecbacbecopbeaaCk
import Derived.Test.YtecbacbecopbeaaCa
import Derived.Test.YtecbacbecopbeaaBw
set_option linter.unusedVariables false
set_option linter.unusedSimpArgs false
set_option linter.unusedSectionVars false
set_option linter.constructorNameAsVariable false
namespace Go.Proofs.Ytecbacbecopbeaa
open Go.RowKit

attribute [local go_sem] gw_cell gw_frozen gw_size

theorem infoVat3 : (Try.prog.info? 38).map (fun i => (i.zero, i.size)) = some (some (.agg #[.int .i64 0, .int .i64 0, .int .i64 0, .int .i64 0, .int .i64 0, .int .i64 0, .int .i64 0, .int .i64 0, .int .i64 0, .int .i64 0, .int .i64 0, .int .i64 0, .int .i64 0]), 13) := by kernel_rfl
def RcR (o : Option (List Nat)) (w : World) (e : Ending) (w' : World) : Prop :=
  ∃ a cp, e = .returned (.tuple #[.slice a (o.getD []).length cp, .bool o.isSome]) ∧ RowN w' w.heap.size a (o.getD []) cp ∧ Below w.heap.size w w'
theorem rc_none {o : Option (List Nat)} {w w' : World} {e : Ending} (h : o = none) (he : e = .returned (.tuple #[.slice none 0 0, .bool false])) (hb : Below w.heap.size w w') : RcR o w e w' := by
  subst h
  exact ⟨none, 0, he, RowN.nil _ _, hb⟩

set_option maxRecDepth 100000 in
set_option maxHeartbeats 16000000 in
theorem rcools_any (c : Ctx) (aS : Option Addr) (cS : Nat) (hf : c.y.Fits) (hB : ystB c.y = true) (hC : ∀ i, i < c.k → spanB (c.F i) (c.G i) 0 150000 = true) (hk : c.k ≤ 1000) :
    ∀ (h : Nat) (v : Vat) (s : Nat) (w : World), c.y.In w → SpansAt w aS c.k c.F c.G → vatB v = true → h ≤ 1000 → s ≤ 100000 →
    Calls Try.prog 83 #[c.y.val, v.val, .slice aS c.k cS, .int .i64 (h : Int), .int .i64 (s : Int), .agg #[.int .i64 c.ll, .int .i64 c.lh]] w (RcR (c.cools h v s) w) := by
  intro h
  induction h with
  | zero =>
    intro v s w hI hS hv hh hs
    unfold Yst.val Vat.val
    obtain ⟨W1, hW1⟩ : ∃ W1, ((w.alloc (.cells #[.slice c.y.aT c.y.nT c.y.cT, .slice c.y.aR c.y.nR c.y.cR, .int .i64 c.y.sl, .int .i64 c.y.sh, .int .i64 c.y.gl, .int .i64 c.y.gh, .int .i64 c.y.hl, .int .i64 c.y.hh] 36)).alloc (.cells #[.int .i64 v.sl, .int .i64 v.sh, .int .i64 v.el, .int .i64 v.eh, .int .i64 v.pl, .int .i64 v.ph, .int .i64 v.gl, .int .i64 v.gh, .int .i64 v.ol, .int .i64 v.oh, .int .i64 v.tl, .int .i64 v.th, .int .i64 v.c] 38)).alloc (.cells #[.int .i64 c.ll, .int .i64 c.lh] 23) = W1 := ⟨_, rfl⟩
    have hBc : Below w.heap.size w W1 := by rw [← hW1]; exact ((below_alloc _ _).alloc (by simp) _).alloc (by simp <;> omega) _
    have zc0 : W1.heap[w.heap.size]? = some (.cells #[.slice c.y.aT c.y.nT c.y.cT, .slice c.y.aR c.y.nR c.y.cR, .int .i64 c.y.sl, .int .i64 c.y.sh, .int .i64 c.y.gl, .int .i64 c.y.gh, .int .i64 c.y.hl, .int .i64 c.y.hh] 36 (0, 0)) := by rw [← hW1]; exact alloc_keep (alloc_keep (alloc_at rfl))
    have zc1 : W1.heap[w.heap.size + 1]? = some (.cells #[.int .i64 v.sl, .int .i64 v.sh, .int .i64 v.el, .int .i64 v.eh, .int .i64 v.pl, .int .i64 v.ph, .int .i64 v.gl, .int .i64 v.gh, .int .i64 v.ol, .int .i64 v.oh, .int .i64 v.tl, .int .i64 v.th, .int .i64 v.c] 38 (0, 0)) := by rw [← hW1]; exact alloc_keep (alloc_at (by simp))
    have zc2 : W1.heap[w.heap.size + 1 + 1]? = some (.cells #[.int .i64 c.ll, .int .i64 c.lh] 23 (0, 0)) := by rw [← hW1]; exact alloc_at (by simp <;> omega)
    have c00 : W1.cell? ⟨w.heap.size, 0, none⟩ = some (.slice c.y.aT c.y.nT c.y.cT) := cell_of_block zc0 0 (by simp)
    have c01 : W1.cell? ⟨w.heap.size, 1, none⟩ = some (.slice c.y.aR c.y.nR c.y.cR) := cell_of_block zc0 1 (by simp)
    have c02 : W1.cell? ⟨w.heap.size, 2, none⟩ = some (.int .i64 c.y.sl) := cell_of_block zc0 2 (by simp)
    have c03 : W1.cell? ⟨w.heap.size, 3, none⟩ = some (.int .i64 c.y.sh) := cell_of_block zc0 3 (by simp)
    have c04 : W1.cell? ⟨w.heap.size, 4, none⟩ = some (.int .i64 c.y.gl) := cell_of_block zc0 4 (by simp)
    have c05 : W1.cell? ⟨w.heap.size, 5, none⟩ = some (.int .i64 c.y.gh) := cell_of_block zc0 5 (by simp)
    have c06 : W1.cell? ⟨w.heap.size, 6, none⟩ = some (.int .i64 c.y.hl) := cell_of_block zc0 6 (by simp)
    have c07 : W1.cell? ⟨w.heap.size, 7, none⟩ = some (.int .i64 c.y.hh) := cell_of_block zc0 7 (by simp)
    have c10 : W1.cell? ⟨w.heap.size + 1, 0, none⟩ = some (.int .i64 v.sl) := cell_of_block zc1 0 (by simp)
    have c11 : W1.cell? ⟨w.heap.size + 1, 1, none⟩ = some (.int .i64 v.sh) := cell_of_block zc1 1 (by simp)
    have c12 : W1.cell? ⟨w.heap.size + 1, 2, none⟩ = some (.int .i64 v.el) := cell_of_block zc1 2 (by simp)
    have c13 : W1.cell? ⟨w.heap.size + 1, 3, none⟩ = some (.int .i64 v.eh) := cell_of_block zc1 3 (by simp)
    have c14 : W1.cell? ⟨w.heap.size + 1, 4, none⟩ = some (.int .i64 v.pl) := cell_of_block zc1 4 (by simp)
    have c15 : W1.cell? ⟨w.heap.size + 1, 5, none⟩ = some (.int .i64 v.ph) := cell_of_block zc1 5 (by simp)
    have c16 : W1.cell? ⟨w.heap.size + 1, 6, none⟩ = some (.int .i64 v.gl) := cell_of_block zc1 6 (by simp)
    have c17 : W1.cell? ⟨w.heap.size + 1, 7, none⟩ = some (.int .i64 v.gh) := cell_of_block zc1 7 (by simp)
    have c18 : W1.cell? ⟨w.heap.size + 1, 8, none⟩ = some (.int .i64 v.ol) := cell_of_block zc1 8 (by simp)
    have c19 : W1.cell? ⟨w.heap.size + 1, 9, none⟩ = some (.int .i64 v.oh) := cell_of_block zc1 9 (by simp)
    have c110 : W1.cell? ⟨w.heap.size + 1, 10, none⟩ = some (.int .i64 v.tl) := cell_of_block zc1 10 (by simp)
    have c111 : W1.cell? ⟨w.heap.size + 1, 11, none⟩ = some (.int .i64 v.th) := cell_of_block zc1 11 (by simp)
    have c112 : W1.cell? ⟨w.heap.size + 1, 12, none⟩ = some (.int .i64 v.c) := cell_of_block zc1 12 (by simp)
    have c20 : W1.cell? ⟨w.heap.size + 1 + 1, 0, none⟩ = some (.int .i64 c.ll) := cell_of_block zc2 0 (by simp)
    have c21 : W1.cell? ⟨w.heap.size + 1 + 1, 1, none⟩ = some (.int .i64 c.lh) := cell_of_block zc2 1 (by simp)
    have lc0 := (Array.getElem?_eq_some_iff.1 zc0).1
    have lc1 := (Array.getElem?_eq_some_iff.1 zc1).1
    have lc2 := (Array.getElem?_eq_some_iff.1 zc2).1
    clear zc0 zc1 zc2
    have HBc := Lib.hid hBc; clear hBc
    have HWc := Lib.hid hW1; clear hW1
    rw [show ((0 : Nat) : Int) = 0 from rfl]
    by_cases h0 : s = 0
    · subst h0
      rw [show ((0 : Nat) : Int) = 0 from rfl]
      go_enter Try.func83, Try.ntmps83
      go_upto_region 1 with (fail)
      rw [HWc.out]
      go_wp2_with fail
      go_ret2
      exact ⟨none, 0, rfl, RowN.nil _ _, HBc.out⟩
    · have hz : ((s : Int) == 0) = false := by simp; omega
      have HE := Lib.hid (show c.cools 0 v s = none from if_neg h0)
      go_enter Try.func83, Try.ntmps83
      go_upto_region 1 with (fail)
      rw [HWc.out]
      go_wp2_with fail
      go_ret2
      exact rc_none HE.out rfl HBc.out
  | succ h ih =>
    intro v s w hI hS hv hh hs
    have IH := Lib.hid ih; clear ih
    rw [show ((h + 1 : Nat) : Int) = (h : Int) + 1 by omega]
    have HFE := Lib.hid (show c.cools (h + 1) v s = firstC (fun i => if i ≤ s ∧ c.ok v i = true then c.cools h (c.next v i) (s - i) else none) c.k from rfl)
    have hz : ((h : Int) + 1 == 0) = false := by simp; omega
    unfold Yst.val Vat.val
    obtain ⟨W1, hW1⟩ : ∃ W1, ((w.alloc (.cells #[.slice c.y.aT c.y.nT c.y.cT, .slice c.y.aR c.y.nR c.y.cR, .int .i64 c.y.sl, .int .i64 c.y.sh, .int .i64 c.y.gl, .int .i64 c.y.gh, .int .i64 c.y.hl, .int .i64 c.y.hh] 36)).alloc (.cells #[.int .i64 v.sl, .int .i64 v.sh, .int .i64 v.el, .int .i64 v.eh, .int .i64 v.pl, .int .i64 v.ph, .int .i64 v.gl, .int .i64 v.gh, .int .i64 v.ol, .int .i64 v.oh, .int .i64 v.tl, .int .i64 v.th, .int .i64 v.c] 38)).alloc (.cells #[.int .i64 c.ll, .int .i64 c.lh] 23) = W1 := ⟨_, rfl⟩
    have hBc : Below w.heap.size w W1 := by rw [← hW1]; exact ((below_alloc _ _).alloc (by simp) _).alloc (by simp <;> omega) _
    have zc0 : W1.heap[w.heap.size]? = some (.cells #[.slice c.y.aT c.y.nT c.y.cT, .slice c.y.aR c.y.nR c.y.cR, .int .i64 c.y.sl, .int .i64 c.y.sh, .int .i64 c.y.gl, .int .i64 c.y.gh, .int .i64 c.y.hl, .int .i64 c.y.hh] 36 (0, 0)) := by rw [← hW1]; exact alloc_keep (alloc_keep (alloc_at rfl))
    have zc1 : W1.heap[w.heap.size + 1]? = some (.cells #[.int .i64 v.sl, .int .i64 v.sh, .int .i64 v.el, .int .i64 v.eh, .int .i64 v.pl, .int .i64 v.ph, .int .i64 v.gl, .int .i64 v.gh, .int .i64 v.ol, .int .i64 v.oh, .int .i64 v.tl, .int .i64 v.th, .int .i64 v.c] 38 (0, 0)) := by rw [← hW1]; exact alloc_keep (alloc_at (by simp))
    have zc2 : W1.heap[w.heap.size + 1 + 1]? = some (.cells #[.int .i64 c.ll, .int .i64 c.lh] 23 (0, 0)) := by rw [← hW1]; exact alloc_at (by simp <;> omega)
    have c00 : W1.cell? ⟨w.heap.size, 0, none⟩ = some (.slice c.y.aT c.y.nT c.y.cT) := cell_of_block zc0 0 (by simp)
    have c01 : W1.cell? ⟨w.heap.size, 1, none⟩ = some (.slice c.y.aR c.y.nR c.y.cR) := cell_of_block zc0 1 (by simp)
    have c02 : W1.cell? ⟨w.heap.size, 2, none⟩ = some (.int .i64 c.y.sl) := cell_of_block zc0 2 (by simp)
    have c03 : W1.cell? ⟨w.heap.size, 3, none⟩ = some (.int .i64 c.y.sh) := cell_of_block zc0 3 (by simp)
    have c04 : W1.cell? ⟨w.heap.size, 4, none⟩ = some (.int .i64 c.y.gl) := cell_of_block zc0 4 (by simp)
    have c05 : W1.cell? ⟨w.heap.size, 5, none⟩ = some (.int .i64 c.y.gh) := cell_of_block zc0 5 (by simp)
    have c06 : W1.cell? ⟨w.heap.size, 6, none⟩ = some (.int .i64 c.y.hl) := cell_of_block zc0 6 (by simp)
    have c07 : W1.cell? ⟨w.heap.size, 7, none⟩ = some (.int .i64 c.y.hh) := cell_of_block zc0 7 (by simp)
    have c10 : W1.cell? ⟨w.heap.size + 1, 0, none⟩ = some (.int .i64 v.sl) := cell_of_block zc1 0 (by simp)
    have c11 : W1.cell? ⟨w.heap.size + 1, 1, none⟩ = some (.int .i64 v.sh) := cell_of_block zc1 1 (by simp)
    have c12 : W1.cell? ⟨w.heap.size + 1, 2, none⟩ = some (.int .i64 v.el) := cell_of_block zc1 2 (by simp)
    have c13 : W1.cell? ⟨w.heap.size + 1, 3, none⟩ = some (.int .i64 v.eh) := cell_of_block zc1 3 (by simp)
    have c14 : W1.cell? ⟨w.heap.size + 1, 4, none⟩ = some (.int .i64 v.pl) := cell_of_block zc1 4 (by simp)
    have c15 : W1.cell? ⟨w.heap.size + 1, 5, none⟩ = some (.int .i64 v.ph) := cell_of_block zc1 5 (by simp)
    have c16 : W1.cell? ⟨w.heap.size + 1, 6, none⟩ = some (.int .i64 v.gl) := cell_of_block zc1 6 (by simp)
    have c17 : W1.cell? ⟨w.heap.size + 1, 7, none⟩ = some (.int .i64 v.gh) := cell_of_block zc1 7 (by simp)
    have c18 : W1.cell? ⟨w.heap.size + 1, 8, none⟩ = some (.int .i64 v.ol) := cell_of_block zc1 8 (by simp)
    have c19 : W1.cell? ⟨w.heap.size + 1, 9, none⟩ = some (.int .i64 v.oh) := cell_of_block zc1 9 (by simp)
    have c110 : W1.cell? ⟨w.heap.size + 1, 10, none⟩ = some (.int .i64 v.tl) := cell_of_block zc1 10 (by simp)
    have c111 : W1.cell? ⟨w.heap.size + 1, 11, none⟩ = some (.int .i64 v.th) := cell_of_block zc1 11 (by simp)
    have c112 : W1.cell? ⟨w.heap.size + 1, 12, none⟩ = some (.int .i64 v.c) := cell_of_block zc1 12 (by simp)
    have c20 : W1.cell? ⟨w.heap.size + 1 + 1, 0, none⟩ = some (.int .i64 c.ll) := cell_of_block zc2 0 (by simp)
    have c21 : W1.cell? ⟨w.heap.size + 1 + 1, 1, none⟩ = some (.int .i64 c.lh) := cell_of_block zc2 1 (by simp)
    have lc0 := (Array.getElem?_eq_some_iff.1 zc0).1
    have lc1 := (Array.getElem?_eq_some_iff.1 zc1).1
    have lc2 := (Array.getElem?_eq_some_iff.1 zc2).1
    have Zc0 := Lib.hid zc0
    have Zc1 := Lib.hid zc1
    have Zc2 := Lib.hid zc2
    clear zc0 zc1 zc2
    have HBc := Lib.hid hBc; clear hBc
    have HWc := Lib.hid hW1; clear hW1
    have HI := Lib.hid hI; have HS := Lib.hid hS; have HV := Lib.hid hv; have HCC := Lib.hid hC; have HYB := Lib.hid hB; clear hI hS hv hC hB
    go_enter Try.func83, Try.ntmps83
    go_upto_region 1 with (fail)
    rw [HWc.out]
    go_wp2_with fail
    clear c00 c01 c02 c03 c04 c05 c06 c07 c10 c11 c12 c13 c14 c15 c16 c17 c18 c19 c110 c111 c112 c20 c21
    go_loopw [14] (fun i wr => ∃ j : Nat, j ≤ c.k ∧ i = .int .i64 j ∧ Hid (∀ t, t < j → (fun i => if i ≤ s ∧ c.ok v i = true then c.cools h (c.next v i) (s - i) else none) t = none) ∧ ∃ x, wr = gw W1 x) (fun i _ => c.k - (intOf i).toNat)
    case atStart => exact ⟨0, Nat.zero_le _, rfl, Lib.hid (fun t ht => absurd ht (Nat.not_lt_zero t)), ⟨#[], W1.drawn⟩, by simp [gw]⟩
    case round =>
      obtain ⟨j, hj, rfl, HP, x, rfl⟩ := hrel
      by_cases hlt : j < c.k
      rotate_left
      · have HE := Lib.hid (HFE.out.trans (firstC_of_none (fun t ht => HP.out t (by omega))))
        obtain rfl : j = c.k := by omega
        go_wp2_with fail
        go_ret2
        exact rc_none HE.out rfl (HBc.out.gw x)
      by_cases hjs : j ≤ s
      rotate_left
      · have HE := Lib.hid (HFE.out.trans (firstC_of_none (fun t ht => by by_cases h1 : t < j; (· exact HP.out t h1); (· exact if_neg (fun h2 => by omega)))))
        have hjd : decide ((j : Int) ≤ (s : Int)) = false := by simp; omega
        go_wp2_with fail
        go_ret2
        exact rc_none HE.out rfl (HBc.out.gw x)
      have hji : (j : Int) ≤ (s : Int) := by omega
      obtain ⟨f, hf0⟩ : ∃ f, c.F j = f := ⟨_, rfl⟩
      obtain ⟨g, hg0⟩ : ∃ g, c.G j = g := ⟨_, rfl⟩
      have cc := HCC.out j hlt
      rw [hf0, hg0] at cc
      obtain ⟨c1, c2, c3⟩ := spanB_t.1 cc
      obtain ⟨NX, hNX⟩ : ∃ x, c.next v j = x := ⟨_, rfl⟩
      have NXE := Lib.hid (show c.y.hour v f g = NX by rw [← hf0, ← hg0]; exact hNX)
      have OKE := Lib.hid (show c.ok v j = (vatB NX && insB NX.tl NX.th c.ll c.lh) by rw [← hNX]; rfl)
      have FJ := Lib.hid (show (fun i => if i ≤ s ∧ c.ok v i = true then c.cools h (c.next v i) (s - i) else none) j = if c.ok v j = true then c.cools h NX (s - j) else none by rw [← hNX]; simp [hjs])
      clear cc hNX
      obtain ⟨bc, oc, rfl, lbc, hcc⟩ := HS.out.resolve_left (by omega)
      obtain ⟨p0, p1⟩ := hcc j hlt
      rw [hf0] at p0
      rw [hg0] at p1
      clear hcc hf0 hg0
      go_upto_region 6 with (fail)
      obtain ⟨W2, hW2⟩ : ∃ W2, gw W1 x = W2 := ⟨_, rfl⟩
      have hbW2 : Below W1.heap.size W1 W2 := by rw [← hW2]; exact below_gw W1 x
      have ZyW2 := Lib.hid ((hbW2.block _ (Array.getElem?_eq_some_iff.1 Zc0.out).1).trans Zc0.out)
      have ZvW2 := Lib.hid ((hbW2.block _ (Array.getElem?_eq_some_iff.1 Zc1.out).1).trans Zc1.out)
      have ZmW2 := Lib.hid ((hbW2.block _ (Array.getElem?_eq_some_iff.1 Zc2.out).1).trans Zc2.out)
      have HBW2 := Lib.hid (thru hbW2 HBc.out)
      have SBW2 := Lib.hid hbW2; clear hbW2
      have HWW2 := Lib.hid hW2; clear hW2
      rw [HWW2.out]
      have zsW2 := SBW2.out.size
      have ey0W2 : W2.cell? ⟨w.heap.size, 0, none⟩ = some (.slice c.y.aT c.y.nT c.y.cT) := cell_of_block ZyW2.out 0 (by simp)
      have ey1W2 : W2.cell? ⟨w.heap.size, 1, none⟩ = some (.slice c.y.aR c.y.nR c.y.cR) := cell_of_block ZyW2.out 1 (by simp)
      have ey2W2 : W2.cell? ⟨w.heap.size, 2, none⟩ = some (.int .i64 c.y.sl) := cell_of_block ZyW2.out 2 (by simp)
      have ey3W2 : W2.cell? ⟨w.heap.size, 3, none⟩ = some (.int .i64 c.y.sh) := cell_of_block ZyW2.out 3 (by simp)
      have ey4W2 : W2.cell? ⟨w.heap.size, 4, none⟩ = some (.int .i64 c.y.gl) := cell_of_block ZyW2.out 4 (by simp)
      have ey5W2 : W2.cell? ⟨w.heap.size, 5, none⟩ = some (.int .i64 c.y.gh) := cell_of_block ZyW2.out 5 (by simp)
      have ey6W2 : W2.cell? ⟨w.heap.size, 6, none⟩ = some (.int .i64 c.y.hl) := cell_of_block ZyW2.out 6 (by simp)
      have ey7W2 : W2.cell? ⟨w.heap.size, 7, none⟩ = some (.int .i64 c.y.hh) := cell_of_block ZyW2.out 7 (by simp)
      have lyW2 := (Array.getElem?_eq_some_iff.1 ZyW2.out).1
      have ev0W2 : W2.cell? ⟨w.heap.size + 1, 0, none⟩ = some (.int .i64 v.sl) := cell_of_block ZvW2.out 0 (by simp)
      have ev1W2 : W2.cell? ⟨w.heap.size + 1, 1, none⟩ = some (.int .i64 v.sh) := cell_of_block ZvW2.out 1 (by simp)
      have ev2W2 : W2.cell? ⟨w.heap.size + 1, 2, none⟩ = some (.int .i64 v.el) := cell_of_block ZvW2.out 2 (by simp)
      have ev3W2 : W2.cell? ⟨w.heap.size + 1, 3, none⟩ = some (.int .i64 v.eh) := cell_of_block ZvW2.out 3 (by simp)
      have ev4W2 : W2.cell? ⟨w.heap.size + 1, 4, none⟩ = some (.int .i64 v.pl) := cell_of_block ZvW2.out 4 (by simp)
      have ev5W2 : W2.cell? ⟨w.heap.size + 1, 5, none⟩ = some (.int .i64 v.ph) := cell_of_block ZvW2.out 5 (by simp)
      have ev6W2 : W2.cell? ⟨w.heap.size + 1, 6, none⟩ = some (.int .i64 v.gl) := cell_of_block ZvW2.out 6 (by simp)
      have ev7W2 : W2.cell? ⟨w.heap.size + 1, 7, none⟩ = some (.int .i64 v.gh) := cell_of_block ZvW2.out 7 (by simp)
      have ev8W2 : W2.cell? ⟨w.heap.size + 1, 8, none⟩ = some (.int .i64 v.ol) := cell_of_block ZvW2.out 8 (by simp)
      have ev9W2 : W2.cell? ⟨w.heap.size + 1, 9, none⟩ = some (.int .i64 v.oh) := cell_of_block ZvW2.out 9 (by simp)
      have ev10W2 : W2.cell? ⟨w.heap.size + 1, 10, none⟩ = some (.int .i64 v.tl) := cell_of_block ZvW2.out 10 (by simp)
      have ev11W2 : W2.cell? ⟨w.heap.size + 1, 11, none⟩ = some (.int .i64 v.th) := cell_of_block ZvW2.out 11 (by simp)
      have ev12W2 : W2.cell? ⟨w.heap.size + 1, 12, none⟩ = some (.int .i64 v.c) := cell_of_block ZvW2.out 12 (by simp)
      have lvW2 := (Array.getElem?_eq_some_iff.1 ZvW2.out).1
      have q0 := (HBW2.out.cell (p := ⟨bc, oc + j * 2, none⟩) lbc).trans p0
      have q1 := (HBW2.out.cell (p := ⟨bc, oc + j * 2 + 1, none⟩) lbc).trans p1
      have lb2 : bc < W2.heap.size := Nat.lt_of_lt_of_le lbc HBW2.out.size
      clear p0 p1
      have HO := fun W (hb : Below w.heap.size w W) => rhour_any c.y v f g W (HI.out.below hb) hf HYB.out HV.out c1 c2 c3
      simp only [NXE.out] at HO
      unfold Yst.val Vat.val at HO
      have HO2 := Lib.hid HO; clear HO
      refine wp_region_box1 [true, true, true, true, true, true, true, false, false] 7 8 #[.int .i64 0, .int .i64 0, .int .i64 0, .int .i64 0, .int .i64 0, .int .i64 0, .int .i64 0, .int .i64 0, .int .i64 0, .int .i64 0, .int .i64 0, .int .i64 0, .int .i64 0] #[.int .i64 NX.sl, .int .i64 NX.sh, .int .i64 NX.el, .int .i64 NX.eh, .int .i64 NX.pl, .int .i64 NX.ph, .int .i64 NX.gl, .int .i64 NX.gh, .int .i64 NX.ol, .int .i64 NX.oh, .int .i64 NX.tl, .int .i64 NX.th, .int .i64 NX.c] (by kernel_rfl) rfl rfl rfl (by kernel_rfl) rfl (by kernel_rfl) infoVat3 rfl rfl (by simp [Value.oneCell']) ?_
      apply Exists.intro
      refine ⟨fun S hS hx => ?_, ?_, ?_⟩
      · obtain ⟨x0, hx0⟩ := hx
        haveI : Nonempty (GrewS W2 S) := ⟨⟨x0, hx0⟩⟩
        simp only [pickM]
        repeat (go_big_quiet_step ((go_at_call 69; with_reducible exact Calls.gwS hS (HO2.out _ (thru (below_gw W2 _) HBW2.out)))))
        exact wpQuiet_nil rfl
      · rfl
      · intro B10 w10 hBw hblk hb10
        have HK := Lib.hid hblk; clear hblk
        have SBw10 := Lib.hid (hb10)
        have Zyw10 := Lib.hid ((SBw10.out.block _ (Array.getElem?_eq_some_iff.1 ZyW2.out).1).trans ZyW2.out)
        have Zvw10 := Lib.hid ((SBw10.out.block _ (Array.getElem?_eq_some_iff.1 ZvW2.out).1).trans ZvW2.out)
        have Zmw10 := Lib.hid ((SBw10.out.block _ (Array.getElem?_eq_some_iff.1 ZmW2.out).1).trans ZmW2.out)
        have HBw10 := Lib.hid (thru SBw10.out HBW2.out)
        have zsw10 := SBw10.out.size
        clear hb10 q0 q1 ey0W2 ey1W2 ey2W2 ey3W2 ey4W2 ey5W2 ey6W2 ey7W2 ev0W2 ev1W2 ev2W2 ev3W2 ev4W2 ev5W2 ev6W2 ev7W2 ev8W2 ev9W2 ev10W2 ev11W2 ev12W2
        go_upto_region 7 with (fail)
        simp only [Act.put, List.setIfInBounds_toArray, List.set_cons_succ, List.set_cons_zero]
        have ex0w10 : w10.cell? ⟨B10, 0, none⟩ = some (.int .i64 NX.sl) := cell_of_block HK.out 0 (by simp)
        have ex1w10 : w10.cell? ⟨B10, 1, none⟩ = some (.int .i64 NX.sh) := cell_of_block HK.out 1 (by simp)
        have ex2w10 : w10.cell? ⟨B10, 2, none⟩ = some (.int .i64 NX.el) := cell_of_block HK.out 2 (by simp)
        have ex3w10 : w10.cell? ⟨B10, 3, none⟩ = some (.int .i64 NX.eh) := cell_of_block HK.out 3 (by simp)
        have ex4w10 : w10.cell? ⟨B10, 4, none⟩ = some (.int .i64 NX.pl) := cell_of_block HK.out 4 (by simp)
        have ex5w10 : w10.cell? ⟨B10, 5, none⟩ = some (.int .i64 NX.ph) := cell_of_block HK.out 5 (by simp)
        have ex6w10 : w10.cell? ⟨B10, 6, none⟩ = some (.int .i64 NX.gl) := cell_of_block HK.out 6 (by simp)
        have ex7w10 : w10.cell? ⟨B10, 7, none⟩ = some (.int .i64 NX.gh) := cell_of_block HK.out 7 (by simp)
        have ex8w10 : w10.cell? ⟨B10, 8, none⟩ = some (.int .i64 NX.ol) := cell_of_block HK.out 8 (by simp)
        have ex9w10 : w10.cell? ⟨B10, 9, none⟩ = some (.int .i64 NX.oh) := cell_of_block HK.out 9 (by simp)
        have ex10w10 : w10.cell? ⟨B10, 10, none⟩ = some (.int .i64 NX.tl) := cell_of_block HK.out 10 (by simp)
        have ex11w10 : w10.cell? ⟨B10, 11, none⟩ = some (.int .i64 NX.th) := cell_of_block HK.out 11 (by simp)
        have ex12w10 : w10.cell? ⟨B10, 12, none⟩ = some (.int .i64 NX.c) := cell_of_block HK.out 12 (by simp)
        have lxw10 := (Array.getElem?_eq_some_iff.1 HK.out).1
        have em0w10 : w10.cell? ⟨w.heap.size + 1 + 1, 0, none⟩ = some (.int .i64 c.ll) := cell_of_block Zmw10.out 0 (by simp)
        have em1w10 : w10.cell? ⟨w.heap.size + 1 + 1, 1, none⟩ = some (.int .i64 c.lh) := cell_of_block Zmw10.out 1 (by simp)
        have lmw10 := (Array.getElem?_eq_some_iff.1 Zmw10.out).1
        have H0 := Lib.hid (fun W (b : Bool) (h : vatB NX = b) => rVat_b NX W h)
        unfold Vat.val at H0
        cases h1 : vatB NX with
        | false =>
          have HPN := Lib.hid (all_succ (P := fun t => (fun i => if i ≤ s ∧ c.ok v i = true then c.cools h (c.next v i) (s - i) else none) t = none) HP.out (FJ.out.trans (if_neg (by rw [OKE.out]; simp [h1]))))
          have H1 := Lib.hid h1; clear h1
          go_wp2_with fail
          refine (Calls.grown (H0.out _ _ H1.out)).mono ?_
          rintro e w1 ⟨rfl, z1, rfl⟩
          go_wp2_with fail
          obtain ⟨x9, hx9⟩ := gw_of_below (thru (below_gw w10 z1) (thru SBw10.out SBW2.out))
          have HX9 := Lib.hid hx9; clear hx9
          go_roundw
          case rel => exact ⟨j + 1, by omega, by go_num, HPN, x9, HX9.out⟩
          case measure => simp [intOf]; omega
        | true =>
          cases h2 : insB NX.tl NX.th c.ll c.lh with
          | false =>
            have HPN := Lib.hid (all_succ (P := fun t => (fun i => if i ≤ s ∧ c.ok v i = true then c.cools h (c.next v i) (s - i) else none) t = none) HP.out (FJ.out.trans (if_neg (by rw [OKE.out]; simp [h1, h2]))))
            have H1 := Lib.hid h1; clear h1
            have H2 := Lib.hid (fun W => h2 ▸ rinside_any NX.tl NX.th c.ll c.lh W); clear h2
            go_wp2_with fail
            refine (Calls.grown (H0.out _ _ H1.out)).mono ?_
            rintro e w1 ⟨rfl, z1, rfl⟩
            go_wp2_with fail
            refine (Calls.gw_of (H2.out _)).mono ?_
            rintro e w1 ⟨rfl, z2, rfl⟩
            go_wp2_with fail
            obtain ⟨x9, hx9⟩ := gw_of_below (thru (below_gw w10 z2) (thru SBw10.out SBW2.out))
            have HX9 := Lib.hid hx9; clear hx9
            go_roundw
            case rel => exact ⟨j + 1, by omega, by go_num, HPN, x9, HX9.out⟩
            case measure => simp [intOf]; omega
          | true =>
            have FJ2 := Lib.hid (FJ.out.trans (if_pos (by rw [OKE.out, h1, h2]; rfl)))
            have H1 := Lib.hid h1; clear h1
            have H2 := Lib.hid (fun W => h2 ▸ rinside_any NX.tl NX.th c.ll c.lh W); clear h2
            go_wp2_with fail
            refine (Calls.grown (H0.out _ _ H1.out)).mono ?_
            rintro e w1 ⟨rfl, z1, rfl⟩
            go_wp2_with fail
            refine (Calls.gw_of (H2.out _)).mono ?_
            rintro e w1 ⟨rfl, z2, rfl⟩
            go_upto_region 8 with (fail)
            obtain ⟨W3, hW3⟩ : ∃ W3, gw w10 z2 = W3 := ⟨_, rfl⟩
            have hbW3 : Below w10.heap.size w10 W3 := by rw [← hW3]; exact below_gw w10 z2
            have ZyW3 := Lib.hid ((hbW3.block _ (Array.getElem?_eq_some_iff.1 Zyw10.out).1).trans Zyw10.out)
            have ZvW3 := Lib.hid ((hbW3.block _ (Array.getElem?_eq_some_iff.1 Zvw10.out).1).trans Zvw10.out)
            have ZmW3 := Lib.hid ((hbW3.block _ (Array.getElem?_eq_some_iff.1 Zmw10.out).1).trans Zmw10.out)
            have ZxW3 := Lib.hid ((hbW3.block _ (Array.getElem?_eq_some_iff.1 HK.out).1).trans HK.out)
            have HBW3 := Lib.hid (thru hbW3 HBw10.out)
            have SBW3 := Lib.hid hbW3; clear hbW3
            have HWW3 := Lib.hid hW3; clear hW3
            rw [HWW3.out]
            clear ex0w10 ex1w10 ex2w10 ex3w10 ex4w10 ex5w10 ex6w10 ex7w10 ex8w10 ex9w10 ex10w10 ex11w10 ex12w10 em0w10 em1w10
            have zsW3 := SBW3.out.size
            have ey0W3 : W3.cell? ⟨w.heap.size, 0, none⟩ = some (.slice c.y.aT c.y.nT c.y.cT) := cell_of_block ZyW3.out 0 (by simp)
            have ey1W3 : W3.cell? ⟨w.heap.size, 1, none⟩ = some (.slice c.y.aR c.y.nR c.y.cR) := cell_of_block ZyW3.out 1 (by simp)
            have ey2W3 : W3.cell? ⟨w.heap.size, 2, none⟩ = some (.int .i64 c.y.sl) := cell_of_block ZyW3.out 2 (by simp)
            have ey3W3 : W3.cell? ⟨w.heap.size, 3, none⟩ = some (.int .i64 c.y.sh) := cell_of_block ZyW3.out 3 (by simp)
            have ey4W3 : W3.cell? ⟨w.heap.size, 4, none⟩ = some (.int .i64 c.y.gl) := cell_of_block ZyW3.out 4 (by simp)
            have ey5W3 : W3.cell? ⟨w.heap.size, 5, none⟩ = some (.int .i64 c.y.gh) := cell_of_block ZyW3.out 5 (by simp)
            have ey6W3 : W3.cell? ⟨w.heap.size, 6, none⟩ = some (.int .i64 c.y.hl) := cell_of_block ZyW3.out 6 (by simp)
            have ey7W3 : W3.cell? ⟨w.heap.size, 7, none⟩ = some (.int .i64 c.y.hh) := cell_of_block ZyW3.out 7 (by simp)
            have lyW3 := (Array.getElem?_eq_some_iff.1 ZyW3.out).1
            have ex0W3 : W3.cell? ⟨B10, 0, none⟩ = some (.int .i64 NX.sl) := cell_of_block ZxW3.out 0 (by simp)
            have ex1W3 : W3.cell? ⟨B10, 1, none⟩ = some (.int .i64 NX.sh) := cell_of_block ZxW3.out 1 (by simp)
            have ex2W3 : W3.cell? ⟨B10, 2, none⟩ = some (.int .i64 NX.el) := cell_of_block ZxW3.out 2 (by simp)
            have ex3W3 : W3.cell? ⟨B10, 3, none⟩ = some (.int .i64 NX.eh) := cell_of_block ZxW3.out 3 (by simp)
            have ex4W3 : W3.cell? ⟨B10, 4, none⟩ = some (.int .i64 NX.pl) := cell_of_block ZxW3.out 4 (by simp)
            have ex5W3 : W3.cell? ⟨B10, 5, none⟩ = some (.int .i64 NX.ph) := cell_of_block ZxW3.out 5 (by simp)
            have ex6W3 : W3.cell? ⟨B10, 6, none⟩ = some (.int .i64 NX.gl) := cell_of_block ZxW3.out 6 (by simp)
            have ex7W3 : W3.cell? ⟨B10, 7, none⟩ = some (.int .i64 NX.gh) := cell_of_block ZxW3.out 7 (by simp)
            have ex8W3 : W3.cell? ⟨B10, 8, none⟩ = some (.int .i64 NX.ol) := cell_of_block ZxW3.out 8 (by simp)
            have ex9W3 : W3.cell? ⟨B10, 9, none⟩ = some (.int .i64 NX.oh) := cell_of_block ZxW3.out 9 (by simp)
            have ex10W3 : W3.cell? ⟨B10, 10, none⟩ = some (.int .i64 NX.tl) := cell_of_block ZxW3.out 10 (by simp)
            have ex11W3 : W3.cell? ⟨B10, 11, none⟩ = some (.int .i64 NX.th) := cell_of_block ZxW3.out 11 (by simp)
            have ex12W3 : W3.cell? ⟨B10, 12, none⟩ = some (.int .i64 NX.c) := cell_of_block ZxW3.out 12 (by simp)
            have lxW3 := (Array.getElem?_eq_some_iff.1 ZxW3.out).1
            have em0W3 : W3.cell? ⟨w.heap.size + 1 + 1, 0, none⟩ = some (.int .i64 c.ll) := cell_of_block ZmW3.out 0 (by simp)
            have em1W3 : W3.cell? ⟨w.heap.size + 1 + 1, 1, none⟩ = some (.int .i64 c.lh) := cell_of_block ZmW3.out 1 (by simp)
            have lmW3 := (Array.getElem?_eq_some_iff.1 ZmW3.out).1
            have HR := IH.out NX (s - j) W3 (HI.out.below HBW3.out) (HS.out.below HBW3.out) H1.out (by omega) (by omega)
            rw [show ((s - j : Nat) : Int) = (s : Int) - (j : Int) by omega] at HR
            unfold Yst.val Vat.val at HR
            obtain ⟨RO, hRO⟩ : ∃ r, c.cools h NX (s - j) = r := ⟨_, rfl⟩
            rw [hRO] at HR
            have FJ3 := Lib.hid (FJ2.out.trans hRO)
            have HR2 := Lib.hid HR; clear HR hRO
            go_wp2_with fail
            refine HR2.out.mono ?_
            rintro e w20 ⟨a2, c2_, rfl, hr2, hb2⟩
            have HR3 := Lib.hid hr2
            have SB20 := Lib.hid hb2
            have HB20 := Lib.hid (thru hb2 HBW3.out)
            clear hr2 hb2 ey0W3 ey1W3 ey2W3 ey3W3 ey4W3 ey5W3 ey6W3 ey7W3 ex0W3 ex1W3 ex2W3 ex3W3 ex4W3 ex5W3 ex6W3 ex7W3 ex8W3 ex9W3 ex10W3 ex11W3 ex12W3 em0W3 em1W3
            cases RO with
            | none =>
              have HPN := Lib.hid (all_succ (P := fun t => (fun i => if i ≤ s ∧ c.ok v i = true then c.cools h (c.next v i) (s - i) else none) t = none) HP.out FJ3.out)
              go_wp2_with fail
              obtain ⟨x9, hx9⟩ := gw_of_below (thru SB20.out (thru SBW3.out (thru SBw10.out SBW2.out)))
              have HX9 := Lib.hid hx9; clear hx9
              go_roundw
              case rel => exact ⟨j + 1, by omega, by go_num, HPN, x9, HX9.out⟩
              case measure => simp [intOf]; omega
            | some r =>
              have HE := Lib.hid (HFE.out.trans (firstC_at hlt FJ3.out HP.out))
              have HR4 := Lib.hid (show RowN w20 W3.heap.size a2 r c2_ from HR3.out)
              obtain ⟨j0, jh, jy0, jy1, jy2⟩ := info_parts infoInt
              have JI := Lib.hid jh; have Y0 := Lib.hid jy0; have Y1 := Lib.hid jy1; have Y2 := Lib.hid jy2
              clear jh jy0 jy1 jy2
              have RL := cools_some c h NX (s - j) r
              have rl : r.length ≤ 1000 := by have := FJ2.out.symm.trans FJ3.out; have := (RL this).1; omega
              clear RL
              have OW : Hid ((w20.alloc (.cells #[.int .i64 (j : Int)] 3)).ownsRow w20.heap.size 3 1 (.slice (some ⟨w20.heap.size, 0, none⟩) 1 1) 1 [.int .i64 (j : Int)]) := Lib.hid ⟨rfl, .inr ⟨w20.heap.size, 1, #[.int .i64 (j : Int)], rfl, Nat.le_refl _, alloc_at rfl, Nat.le_refl _, by unfold maxLen; omega, rfl, rfl⟩⟩
              have HA := Lib.hid (show RowN (w20.alloc (.cells #[.int .i64 (j : Int)] 3)) W3.heap.size a2 r c2_ from World.ownsRow.alloc HR4.out _)
              go_wp2_with (at_builtin; refine wpList_append_src (by rfl) _ _ 33 rfl w20.heap.size 3 j0 (.int .i64 0) 1 8 Try.underlying33 JI.out Y0.out Y1.out Y2.out rfl (by decide) _ 1 [.int .i64 (j : Int)] rfl OW.out a2 r.length c2_ (natsV r) rfl (natsV_len r) HA.out.news (natsV_one r) (by unfold maxLen; omega) (by omega) (by simp) ?_; intro v9 w9 hown9 hgrow9)
              have hl9 : (j :: r).length = 1 + r.length := by simp; omega
              have hown9 : w9.ownsRow w20.heap.size 3 1 v9 (j :: r).length (natsV (j :: r)) := by rw [hl9]; exact hown9
              obtain ⟨a9, c9, rfl⟩ := own_form hown9
              have HO9 := Lib.hid hown9
              have HB9 := Lib.hid ((HB20.out.alloc HB20.out.size (.cells #[.int .i64 (j : Int)] 3)).grown hgrow9 (by have := HB20.out.size; simp; omega) (fun b hb => by have := HB20.out.size; cases hb; omega))
              clear hown9 hgrow9 hl9
              go_wp2_with fail
              go_ret2
              rw [RcR, HE.out]
              exact ⟨a9, c9, rfl, World.ownsRow.base HO9.out (HB20.out.size), HB9.out⟩
end Go.Proofs.Ytecbacbecopbeaa
