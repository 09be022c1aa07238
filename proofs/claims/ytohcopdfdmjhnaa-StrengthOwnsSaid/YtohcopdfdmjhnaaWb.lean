/- The law StrengthOwns returns true. No conditions beyond each theorem's own. -/
import Derived.Test.YtohcopdfdmjhnaaWa
import Derived.Test.YtohcopdfdmjhnaaUq
import Derived.Test.YtohcopdfdmjhnaaTd
set_option linter.unusedVariables false
set_option linter.unusedSimpArgs false
set_option linter.unusedSectionVars false
set_option linter.constructorNameAsVariable false
namespace Go.Proofs.Ytohcopdfdmjhnaa.L1
open Go.RowKit
open Go.Proofs.Ytohcopdfdmjhnaa

attribute [local go_sem] gw_cell gw_frozen gw_size

theorem tups_of_parts {w : World} {a : Option Addr} {n : Nat} {T : Nat → Prt} (h : PartsAt w a n T) : TupsAt w a 4 n (fun i q => (T i).num q) := by
  rcases h with h | ⟨b, off, rfl, lb, hc⟩
  · exact .inl h
  · refine .inr ⟨b, off, rfl, lb, fun i hi q hq => ?_⟩
    obtain ⟨h1, h2, h3, h4⟩ := hc i hi
    match q, hq with
    | 0, _ => exact h1
    | 1, _ => exact h2
    | 2, _ => exact h3
    | 3, _ => exact h4

set_option maxRecDepth 100000 in
set_option maxHeartbeats 4000000 in
theorem owns_any (t : Tab) (slo shi tlo thi : Int) (a : Option Addr) (n c : Nat) (P : Nat → Prt) (w : World) (hI : t.In w) (hL : t.Lens) (hn : n ≤ 9223372036854775807) (hS : PartsAt w a n P) :
    Calls Try.prog 7 #[t.val, .agg #[.int .i64 slo, .int .i64 shi], .agg #[.int .i64 tlo, .int .i64 thi], .slice a n c] w fun e w' => e = .returned (.bool true) ∧ Below w.heap.size w w' := by
  have hmf : ∀ (fn : Fn) (first cap : Array Value) (w : World), (Instr.makeFunc fn first cap).run Try.prog w = .ok (.func fn first cap) w := fun _ _ _ _ => rfl
  obtain ⟨i0, hi0, hx0, hx1, hx2⟩ := info_parts infoPr5
  have II := Lib.hid hi0; have IZ0 := Lib.hid hx0; have IZ1 := Lib.hid hx1; have IZ2 := Lib.hid hx2
  clear hi0 hx0 hx1 hx2
  obtain ⟨W1, hW1⟩ : ∃ W1, ((w.alloc (.cells #[.slice t.aT t.nT t.cT, .slice t.aS t.nS t.cS, .slice t.H.a t.H.n t.H.c, .slice t.R.a t.R.n t.R.c] 25)).alloc (.cells #[.int .i64 slo, .int .i64 shi] 27)).alloc (.cells #[.int .i64 tlo, .int .i64 thi] 27) = W1 := ⟨_, rfl⟩
  have hBc : Below w.heap.size w W1 := by rw [← hW1]; exact ((below_alloc _ _).alloc (by simp) _).alloc (by simp <;> omega) _
  have zc0 : W1.heap[w.heap.size]? = some (.cells #[.slice t.aT t.nT t.cT, .slice t.aS t.nS t.cS, .slice t.H.a t.H.n t.H.c, .slice t.R.a t.R.n t.R.c] 25 (0, 0)) := by rw [← hW1]; exact alloc_keep (alloc_keep (alloc_at rfl))
  have zc1 : W1.heap[w.heap.size + 1]? = some (.cells #[.int .i64 slo, .int .i64 shi] 27 (0, 0)) := by rw [← hW1]; exact alloc_keep (alloc_at (by simp))
  have zc2 : W1.heap[w.heap.size + 1 + 1]? = some (.cells #[.int .i64 tlo, .int .i64 thi] 27 (0, 0)) := by rw [← hW1]; exact alloc_at (by simp <;> omega)
  have c00 : W1.cell? ⟨w.heap.size, 0, none⟩ = some (.slice t.aT t.nT t.cT) := cell_of_block zc0 0 (by simp)
  have c01 : W1.cell? ⟨w.heap.size, 1, none⟩ = some (.slice t.aS t.nS t.cS) := cell_of_block zc0 1 (by simp)
  have c02 : W1.cell? ⟨w.heap.size, 2, none⟩ = some (.slice t.H.a t.H.n t.H.c) := cell_of_block zc0 2 (by simp)
  have c03 : W1.cell? ⟨w.heap.size, 3, none⟩ = some (.slice t.R.a t.R.n t.R.c) := cell_of_block zc0 3 (by simp)
  have c10 : W1.cell? ⟨w.heap.size + 1, 0, none⟩ = some (.int .i64 slo) := cell_of_block zc1 0 (by simp)
  have c11 : W1.cell? ⟨w.heap.size + 1, 1, none⟩ = some (.int .i64 shi) := cell_of_block zc1 1 (by simp)
  have c20 : W1.cell? ⟨w.heap.size + 1 + 1, 0, none⟩ = some (.int .i64 tlo) := cell_of_block zc2 0 (by simp)
  have c21 : W1.cell? ⟨w.heap.size + 1 + 1, 1, none⟩ = some (.int .i64 thi) := cell_of_block zc2 1 (by simp)
  have lc0 := (Array.getElem?_eq_some_iff.1 zc0).1
  have lc1 := (Array.getElem?_eq_some_iff.1 zc1).1
  have lc2 := (Array.getElem?_eq_some_iff.1 zc2).1
  have Zc0 := Lib.hid zc0
  have Zc1 := Lib.hid zc1
  have Zc2 := Lib.hid zc2
  clear zc0 zc1 zc2
  have HBc := Lib.hid hBc; clear hBc
  have HWc := Lib.hid hW1; clear hW1
  have I1 := Lib.hid (hI.below HBc.out)
  have S1 := Lib.hid (hS.below HBc.out)
  have GR := Lib.hid (great_any t W1 I1.out hL)
  unfold Tab.val at GR ⊢
  clear hI hS
  go_enter Try.func7, Try.ntmps7
  go_upto_region 1 with (fail)
  rw [HWc.out]
  go_wp2_with fail
  refine GR.out.mono ?_
  rintro e w1 ⟨bg, rfl, hsm, hb⟩
  obtain ⟨z0, rfl⟩ := gw_of_below hb
  clear hb GR
  cases bg with
  | true =>
    go_wp2_with fail
    refine (Calls.gw_of (alive_any _)).mono ?_
    rintro e w1 ⟨rfl, z1, rfl⟩
    go_wp2_with fail
    go_ret
    exact ⟨rfl, HBc.out.gw z1⟩
  | false =>
    have sm := hsm rfl
    have hf := sm.fits
    clear hsm
    by_cases h40 : 40 < n
    · have g1 : decide ((40 : Int) < (n : Int)) = true := by simp; omega
      go_wp2_with fail
      refine (Calls.gw_of (alive_any _)).mono ?_
      rintro e w1 ⟨rfl, z1, rfl⟩
      go_wp2_with fail
      go_ret
      exact ⟨rfl, HBc.out.gw z1⟩
    have g1 : decide ((40 : Int) < (n : Int)) = false := by simp; omega
    have FL' := Lib.hid (fun W (hb : Below W1.heap.size W1 W) => flat_any t w.heap.size W (I1.out.below hb) sm (below_cell hb c00) (below_cell hb c01) (below_cell hb c02) (below_cell hb c03))
    have CK' := Lib.hid (fun W (hb : Below W1.heap.size W1 W) => Check_any t W (I1.out.below hb) hf)
    have SH' := Lib.hid (fun W (hb : Below W1.heap.size W1 W) => Shown_any t slo shi tlo thi W (I1.out.below hb) hf)
    have ST' := Lib.hid (fun W (hb : Below W1.heap.size W1 W) => Strength_any t slo shi tlo thi W (I1.out.below hb) hf)
    have VO' := Lib.hid (fun W (hb : Below W1.heap.size W1 W) => Volume_any t 5 5 slo shi tlo thi W (I1.out.below hb) hf)
    have MX' := Lib.hid (fun W (hb : Below W1.heap.size W1 W) => Mix_any a n c P 3 W hn (S1.out.below hb))
    have fll := Tab.flat_len sm (t.H.n + t.R.n) (Nat.le_refl _)
    have sm1 := sm.H
    have sm2 := sm.R
    clear hf hL sm
    generalize (if t.okB = true then (0 : Int) else 1) = ck at *
    generalize t.shLo slo shi tlo thi = a0 at *
    generalize t.shHi slo shi tlo thi = a1 at *
    generalize t.shE slo shi tlo thi = ae at *
    generalize t.strL slo shi tlo thi = b0 at *
    generalize t.strH slo shi tlo thi = b1 at *
    generalize t.strE slo shi tlo thi = be at *
    generalize t.voLo 5 5 slo shi tlo thi = d0 at *
    generalize t.voHi 5 5 slo shi tlo thi = d1 at *
    generalize t.voE 5 5 slo shi tlo thi = de at *
    generalize mixV n P 3 = mv at *
    generalize mixE n P 3 = me at *
    obtain ⟨fl, hfl⟩ : ∃ l, t.flatI (t.H.n + t.R.n) = l := ⟨_, rfl⟩
    simp only [hfl] at FL'
    rw [hfl] at fll
    have fl2 : fl.length ≤ 3280 := by omega
    clear hfl fll sm1 sm2
    unfold Tab.val at CK' SH' ST' VO'
    go_upto_region 4 with (fail)
    obtain ⟨W2, hW2⟩ : ∃ W2, gw W1 z0 = W2 := ⟨_, rfl⟩
    have hbW2 : Below W1.heap.size W1 W2 := by rw [← hW2]; exact below_gw W1 z0
    have ZtW2 := Lib.hid ((hbW2.block _ (Array.getElem?_eq_some_iff.1 Zc0.out).1).trans Zc0.out)
    have ZsW2 := Lib.hid ((hbW2.block _ (Array.getElem?_eq_some_iff.1 Zc1.out).1).trans Zc1.out)
    have ZmW2 := Lib.hid ((hbW2.block _ (Array.getElem?_eq_some_iff.1 Zc2.out).1).trans Zc2.out)
    have HBW2 := Lib.hid (thru hbW2 HBc.out)
    have SBW2 := Lib.hid hbW2; clear hbW2
    have HWW2 := Lib.hid hW2; clear hW2
    rw [HWW2.out]
    clear c00 c01 c02 c03 c10 c11 c20 c21
    have S2 := Lib.hid SBW2.out
    go_wp2_with fail
    refine (FL'.out _ (S2.out)).mono ?_
    rintro e w2 ⟨vb, rfl, ⟨aB, cB, rfl, hIB⟩, hb2⟩
    have HIB := Lib.hid hIB
    clear hIB
    have SBw2 := Lib.hid (hb2)
    have Ztw2 := Lib.hid ((SBw2.out.block _ (Array.getElem?_eq_some_iff.1 ZtW2.out).1).trans ZtW2.out)
    have Zsw2 := Lib.hid ((SBw2.out.block _ (Array.getElem?_eq_some_iff.1 ZsW2.out).1).trans ZsW2.out)
    have Zmw2 := Lib.hid ((SBw2.out.block _ (Array.getElem?_eq_some_iff.1 ZmW2.out).1).trans ZmW2.out)
    have HBw2 := Lib.hid (thru SBw2.out HBW2.out)
    have Sw2 := Lib.hid (S2.out.trans (SBw2.out.mono S2.out.size))
    have O := Lib.hid (show (w2.alloc (.cells #[] 43)).ownsRow w2.heap.size 43 4 (.slice (some ⟨w2.heap.size, 0, none⟩) 0 0) 0 [] from ⟨rfl, .inr ⟨w2.heap.size, 0, #[], rfl, Nat.le_refl _, alloc_at rfl, Nat.le_refl _, Nat.zero_le _, rfl, rfl⟩⟩)
    have NS := Lib.hid (tups_news (tups_of_parts (S1.out.below (Sw2.out.trans ((below_alloc w2 (.cells #[] 43)).mono Sw2.out.size)))))
    go_upto_region 5 with (at_builtin; refine wpList_append_src (by rfl) _ _ 40 rfl w2.heap.size 43 i0 (.agg #[.int .i64 0, .int .i64 0, .int .i64 0, .int .i64 0]) 4 32 Try.underlying40 II.out IZ0.out IZ1.out IZ2.out rfl (by decide) _ 0 [] rfl O.out a n c (tupsV 4 n (fun i q => (P i).num q)) rfl (tupsV_len _ _ _) NS.out (tupsV_one _ _ _) (by unfold maxLen; omega) (by omega) (by simp) ?_; intro v3 w3 own3 grow3)
    rw [Nat.zero_add, List.nil_append] at own3
    have B3 := Lib.hid ((below_alloc w2 (.cells #[] 43)).grown grow3 (by simp) (fun b hb => by cases hb; exact Nat.le_refl _))
    obtain ⟨aP, cP, rfl, HT⟩ := tups_of_own own3
    have HTP := Lib.hid (parts_of_tups HT)
    have HIB3 := Lib.hid (HIB.out.below B3.out)
    clear own3 grow3 HT NS O HIB
    have SBw3 := Lib.hid (B3.out)
    have Ztw3 := Lib.hid ((SBw3.out.block _ (Array.getElem?_eq_some_iff.1 Ztw2.out).1).trans Ztw2.out)
    have Zsw3 := Lib.hid ((SBw3.out.block _ (Array.getElem?_eq_some_iff.1 Zsw2.out).1).trans Zsw2.out)
    have Zmw3 := Lib.hid ((SBw3.out.block _ (Array.getElem?_eq_some_iff.1 Zmw2.out).1).trans Zmw2.out)
    have HBw3 := Lib.hid (thru SBw3.out HBw2.out)
    have Sw3 := Lib.hid (Sw2.out.trans (SBw3.out.mono Sw2.out.size))
    have et0w3 : w3.cell? ⟨w.heap.size, 0, none⟩ = some (.slice t.aT t.nT t.cT) := cell_of_block Ztw3.out 0 (by simp)
    have et1w3 : w3.cell? ⟨w.heap.size, 1, none⟩ = some (.slice t.aS t.nS t.cS) := cell_of_block Ztw3.out 1 (by simp)
    have et2w3 : w3.cell? ⟨w.heap.size, 2, none⟩ = some (.slice t.H.a t.H.n t.H.c) := cell_of_block Ztw3.out 2 (by simp)
    have et3w3 : w3.cell? ⟨w.heap.size, 3, none⟩ = some (.slice t.R.a t.R.n t.R.c) := cell_of_block Ztw3.out 3 (by simp)
    have ltw3 := (Array.getElem?_eq_some_iff.1 Ztw3.out).1
    have es0w3 : w3.cell? ⟨w.heap.size + 1, 0, none⟩ = some (.int .i64 slo) := cell_of_block Zsw3.out 0 (by simp)
    have es1w3 : w3.cell? ⟨w.heap.size + 1, 1, none⟩ = some (.int .i64 shi) := cell_of_block Zsw3.out 1 (by simp)
    have lsw3 := (Array.getElem?_eq_some_iff.1 Zsw3.out).1
    have em0w3 : w3.cell? ⟨w.heap.size + 1 + 1, 0, none⟩ = some (.int .i64 tlo) := cell_of_block Zmw3.out 0 (by simp)
    have em1w3 : w3.cell? ⟨w.heap.size + 1 + 1, 1, none⟩ = some (.int .i64 thi) := cell_of_block Zmw3.out 1 (by simp)
    have lmw3 := (Array.getElem?_eq_some_iff.1 Zmw3.out).1
    go_wp2_with fail
    refine (Calls.grown (CK'.out _ (Sw3.out))).mono ?_
    rintro e w1 ⟨rfl, z1, rfl⟩
    go_wp2_with fail
    refine (Calls.gw_of (SH'.out _ (Sw3.out.trans ((below_gw w3 z1).mono Sw3.out.size)))).mono ?_
    rintro e w1 ⟨rfl, z2, rfl⟩
    go_upto_region 7 with (fail)
    obtain ⟨W11, hW11⟩ : ∃ W11, ((gw w3 z2)).alloc (.cells #[.int .i64 a0, .int .i64 a1] 27) = W11 := ⟨_, rfl⟩
    have hbW11 : Below w3.heap.size w3 W11 := by rw [← hW11]; exact (below_gw w3 z2).alloc (by simp [gw_size]) _
    have ZtW11 := Lib.hid ((hbW11.block _ (Array.getElem?_eq_some_iff.1 Ztw3.out).1).trans Ztw3.out)
    have ZsW11 := Lib.hid ((hbW11.block _ (Array.getElem?_eq_some_iff.1 Zsw3.out).1).trans Zsw3.out)
    have ZmW11 := Lib.hid ((hbW11.block _ (Array.getElem?_eq_some_iff.1 Zmw3.out).1).trans Zmw3.out)
    have zaW11 : W11.heap[w3.heap.size + z2.bs.size]? = some (.cells #[.int .i64 a0, .int .i64 a1] 27 (0, 0)) := by rw [← hW11]; exact alloc_at (by simp [gw_size])
    have ZaW11 := Lib.hid zaW11; clear zaW11
    have HBW11 := Lib.hid (thru hbW11 HBw3.out)
    have SBW11 := Lib.hid hbW11; clear hbW11
    have HWW11 := Lib.hid hW11; clear hW11
    rw [HWW11.out]
    clear et0w3 et1w3 et2w3 et3w3 es0w3 es1w3 em0w3 em1w3
    have S11 := Lib.hid (Sw3.out.trans (SBW11.out.mono Sw3.out.size))
    have et0W11 : W11.cell? ⟨w.heap.size, 0, none⟩ = some (.slice t.aT t.nT t.cT) := cell_of_block ZtW11.out 0 (by simp)
    have et1W11 : W11.cell? ⟨w.heap.size, 1, none⟩ = some (.slice t.aS t.nS t.cS) := cell_of_block ZtW11.out 1 (by simp)
    have et2W11 : W11.cell? ⟨w.heap.size, 2, none⟩ = some (.slice t.H.a t.H.n t.H.c) := cell_of_block ZtW11.out 2 (by simp)
    have et3W11 : W11.cell? ⟨w.heap.size, 3, none⟩ = some (.slice t.R.a t.R.n t.R.c) := cell_of_block ZtW11.out 3 (by simp)
    have ltW11 := (Array.getElem?_eq_some_iff.1 ZtW11.out).1
    have es0W11 : W11.cell? ⟨w.heap.size + 1, 0, none⟩ = some (.int .i64 slo) := cell_of_block ZsW11.out 0 (by simp)
    have es1W11 : W11.cell? ⟨w.heap.size + 1, 1, none⟩ = some (.int .i64 shi) := cell_of_block ZsW11.out 1 (by simp)
    have lsW11 := (Array.getElem?_eq_some_iff.1 ZsW11.out).1
    have em0W11 : W11.cell? ⟨w.heap.size + 1 + 1, 0, none⟩ = some (.int .i64 tlo) := cell_of_block ZmW11.out 0 (by simp)
    have em1W11 : W11.cell? ⟨w.heap.size + 1 + 1, 1, none⟩ = some (.int .i64 thi) := cell_of_block ZmW11.out 1 (by simp)
    have lmW11 := (Array.getElem?_eq_some_iff.1 ZmW11.out).1
    go_wp2_with fail
    refine (Calls.grown (ST'.out _ (S11.out))).mono ?_
    rintro e w1 ⟨rfl, z3, rfl⟩
    go_upto_region 8 with (fail)
    obtain ⟨W12, hW12⟩ : ∃ W12, gw W11 z3 = W12 := ⟨_, rfl⟩
    have hbW12 : Below W11.heap.size W11 W12 := by rw [← hW12]; exact below_gw W11 z3
    have ZtW12 := Lib.hid ((hbW12.block _ (Array.getElem?_eq_some_iff.1 ZtW11.out).1).trans ZtW11.out)
    have ZsW12 := Lib.hid ((hbW12.block _ (Array.getElem?_eq_some_iff.1 ZsW11.out).1).trans ZsW11.out)
    have ZmW12 := Lib.hid ((hbW12.block _ (Array.getElem?_eq_some_iff.1 ZmW11.out).1).trans ZmW11.out)
    have ZaW12 := Lib.hid ((hbW12.block _ (Array.getElem?_eq_some_iff.1 ZaW11.out).1).trans ZaW11.out)
    have HBW12 := Lib.hid (thru hbW12 HBW11.out)
    have SBW12 := Lib.hid hbW12; clear hbW12
    have HWW12 := Lib.hid hW12; clear hW12
    rw [HWW12.out]
    clear et0W11 et1W11 et2W11 et3W11 es0W11 es1W11 em0W11 em1W11
    have S12 := Lib.hid (S11.out.trans (SBW12.out.mono S11.out.size))
    have et0W12 : W12.cell? ⟨w.heap.size, 0, none⟩ = some (.slice t.aT t.nT t.cT) := cell_of_block ZtW12.out 0 (by simp)
    have et1W12 : W12.cell? ⟨w.heap.size, 1, none⟩ = some (.slice t.aS t.nS t.cS) := cell_of_block ZtW12.out 1 (by simp)
    have et2W12 : W12.cell? ⟨w.heap.size, 2, none⟩ = some (.slice t.H.a t.H.n t.H.c) := cell_of_block ZtW12.out 2 (by simp)
    have et3W12 : W12.cell? ⟨w.heap.size, 3, none⟩ = some (.slice t.R.a t.R.n t.R.c) := cell_of_block ZtW12.out 3 (by simp)
    have ltW12 := (Array.getElem?_eq_some_iff.1 ZtW12.out).1
    have es0W12 : W12.cell? ⟨w.heap.size + 1, 0, none⟩ = some (.int .i64 slo) := cell_of_block ZsW12.out 0 (by simp)
    have es1W12 : W12.cell? ⟨w.heap.size + 1, 1, none⟩ = some (.int .i64 shi) := cell_of_block ZsW12.out 1 (by simp)
    have lsW12 := (Array.getElem?_eq_some_iff.1 ZsW12.out).1
    have em0W12 : W12.cell? ⟨w.heap.size + 1 + 1, 0, none⟩ = some (.int .i64 tlo) := cell_of_block ZmW12.out 0 (by simp)
    have em1W12 : W12.cell? ⟨w.heap.size + 1 + 1, 1, none⟩ = some (.int .i64 thi) := cell_of_block ZmW12.out 1 (by simp)
    have lmW12 := (Array.getElem?_eq_some_iff.1 ZmW12.out).1
    refine wp_region_gw (by kernel_rfl) (by kernel_rfl) ?_
    repeat (go_big_quiet_step (first | (go_at_call 33; with_reducible exact Calls.gw_of (one_any _ _)) | (go_at_call 35; with_reducible exact Calls.gw_of (VO'.out _ (S12.out.trans ((below_gw W12 _).mono S12.out.size))))))
    refine wpQuiet_nil ?_
    rintro _ ⟨z40, rfl⟩
    go_wp2_with fail
    refine (Calls.gw_of (MX'.out _ (S12.out.trans ((below_gw W12 z40).mono S12.out.size)))).mono ?_
    rintro e w1 ⟨rfl, z41, rfl⟩
    go_upto_region 10 with (fail)
    obtain ⟨W13, hW13⟩ : ∃ W13, gw W12 z41 = W13 := ⟨_, rfl⟩
    have hbW13 : Below W12.heap.size W12 W13 := by rw [← hW13]; exact below_gw W12 z41
    have ZtW13 := Lib.hid ((hbW13.block _ (Array.getElem?_eq_some_iff.1 ZtW12.out).1).trans ZtW12.out)
    have ZsW13 := Lib.hid ((hbW13.block _ (Array.getElem?_eq_some_iff.1 ZsW12.out).1).trans ZsW12.out)
    have ZmW13 := Lib.hid ((hbW13.block _ (Array.getElem?_eq_some_iff.1 ZmW12.out).1).trans ZmW12.out)
    have ZaW13 := Lib.hid ((hbW13.block _ (Array.getElem?_eq_some_iff.1 ZaW12.out).1).trans ZaW12.out)
    have HBW13 := Lib.hid (thru hbW13 HBW12.out)
    have SBW13 := Lib.hid hbW13; clear hbW13
    have HWW13 := Lib.hid hW13; clear hW13
    rw [HWW13.out]
    clear et0W12 et1W12 et2W12 et3W12 es0W12 es1W12 em0W12 em1W12
    have S13 := Lib.hid (S12.out.trans (SBW13.out.mono S12.out.size))
    have et0W13 : W13.cell? ⟨w.heap.size, 0, none⟩ = some (.slice t.aT t.nT t.cT) := cell_of_block ZtW13.out 0 (by simp)
    have et1W13 : W13.cell? ⟨w.heap.size, 1, none⟩ = some (.slice t.aS t.nS t.cS) := cell_of_block ZtW13.out 1 (by simp)
    have et2W13 : W13.cell? ⟨w.heap.size, 2, none⟩ = some (.slice t.H.a t.H.n t.H.c) := cell_of_block ZtW13.out 2 (by simp)
    have et3W13 : W13.cell? ⟨w.heap.size, 3, none⟩ = some (.slice t.R.a t.R.n t.R.c) := cell_of_block ZtW13.out 3 (by simp)
    have ltW13 := (Array.getElem?_eq_some_iff.1 ZtW13.out).1
    have es0W13 : W13.cell? ⟨w.heap.size + 1, 0, none⟩ = some (.int .i64 slo) := cell_of_block ZsW13.out 0 (by simp)
    have es1W13 : W13.cell? ⟨w.heap.size + 1, 1, none⟩ = some (.int .i64 shi) := cell_of_block ZsW13.out 1 (by simp)
    have lsW13 := (Array.getElem?_eq_some_iff.1 ZsW13.out).1
    have em0W13 : W13.cell? ⟨w.heap.size + 1 + 1, 0, none⟩ = some (.int .i64 tlo) := cell_of_block ZmW13.out 0 (by simp)
    have em1W13 : W13.cell? ⟨w.heap.size + 1 + 1, 1, none⟩ = some (.int .i64 thi) := cell_of_block ZmW13.out 1 (by simp)
    have lmW13 := (Array.getElem?_eq_some_iff.1 ZmW13.out).1
    go_wp2_with fail
    refine (Calls.grown (SH'.out _ (S13.out))).mono ?_
    rintro e w1 ⟨rfl, z42, rfl⟩
    go_upto_region 11 with (fail)
    obtain ⟨W14, hW14⟩ : ∃ W14, ((gw W13 z42)).alloc (.cells #[.int .i64 a0, .int .i64 a1] 27) = W14 := ⟨_, rfl⟩
    have hbW14 : Below W13.heap.size W13 W14 := by rw [← hW14]; exact (below_gw W13 z42).alloc (by simp [gw_size]) _
    have ZtW14 := Lib.hid ((hbW14.block _ (Array.getElem?_eq_some_iff.1 ZtW13.out).1).trans ZtW13.out)
    have ZsW14 := Lib.hid ((hbW14.block _ (Array.getElem?_eq_some_iff.1 ZsW13.out).1).trans ZsW13.out)
    have ZmW14 := Lib.hid ((hbW14.block _ (Array.getElem?_eq_some_iff.1 ZmW13.out).1).trans ZmW13.out)
    have ZaW14 := Lib.hid ((hbW14.block _ (Array.getElem?_eq_some_iff.1 ZaW13.out).1).trans ZaW13.out)
    have zbW14 : W14.heap[W13.heap.size + z42.bs.size]? = some (.cells #[.int .i64 a0, .int .i64 a1] 27 (0, 0)) := by rw [← hW14]; exact alloc_at (by simp [gw_size])
    have ZbW14 := Lib.hid zbW14; clear zbW14
    have HBW14 := Lib.hid (thru hbW14 HBW13.out)
    have SBW14 := Lib.hid hbW14; clear hbW14
    have HWW14 := Lib.hid hW14; clear hW14
    rw [HWW14.out]
    clear et0W13 et1W13 et2W13 et3W13 es0W13 es1W13 em0W13 em1W13
    have S14 := Lib.hid (S13.out.trans (SBW14.out.mono S13.out.size))
    go_wp2_with fail
    refine (FL'.out _ (S14.out)).mono ?_
    rintro e w4 ⟨va, rfl, ⟨aA, cA, rfl, hIA⟩, hb4⟩
    have HIA := Lib.hid hIA
    clear hIA
    have SBw4 := Lib.hid (hb4)
    have Ztw4 := Lib.hid ((SBw4.out.block _ (Array.getElem?_eq_some_iff.1 ZtW14.out).1).trans ZtW14.out)
    have Zsw4 := Lib.hid ((SBw4.out.block _ (Array.getElem?_eq_some_iff.1 ZsW14.out).1).trans ZsW14.out)
    have Zmw4 := Lib.hid ((SBw4.out.block _ (Array.getElem?_eq_some_iff.1 ZmW14.out).1).trans ZmW14.out)
    have Zaw4 := Lib.hid ((SBw4.out.block _ (Array.getElem?_eq_some_iff.1 ZaW14.out).1).trans ZaW14.out)
    have Zbw4 := Lib.hid ((SBw4.out.block _ (Array.getElem?_eq_some_iff.1 ZbW14.out).1).trans ZbW14.out)
    have HBw4 := Lib.hid (thru SBw4.out HBW14.out)
    have Sw4 := Lib.hid (S14.out.trans (SBw4.out.mono S14.out.size))
    have BL4 := Lib.hid Sw4.out
    have B34 := Lib.hid ((((SBW11.out.trans (SBW12.out.mono (SBW11.out).size)).trans (SBW13.out.mono ((SBW11.out.trans (SBW12.out.mono (SBW11.out).size))).size)).trans (SBW14.out.mono (((SBW11.out.trans (SBW12.out.mono (SBW11.out).size)).trans (SBW13.out.mono ((SBW11.out.trans (SBW12.out.mono (SBW11.out).size))).size))).size)).trans (SBw4.out.mono ((((SBW11.out.trans (SBW12.out.mono (SBW11.out).size)).trans (SBW13.out.mono ((SBW11.out.trans (SBW12.out.mono (SBW11.out).size))).size)).trans (SBW14.out.mono (((SBW11.out.trans (SBW12.out.mono (SBW11.out).size)).trans (SBW13.out.mono ((SBW11.out.trans (SBW12.out.mono (SBW11.out).size))).size))).size))).size))
    have HB4 := Lib.hid (HIB3.out.below B34.out)
    have HP4 := Lib.hid (HTP.out.below B34.out)
    have HL4 := Lib.hid (S1.out.below Sw4.out)
    clear HIB3 HTP B34 S1
    clear FL' CK' SH' ST' VO' MX'
    have ea0w4 : w4.cell? ⟨w3.heap.size + z2.bs.size, 0, none⟩ = some (.int .i64 a0) := cell_of_block Zaw4.out 0 (by simp)
    have ea1w4 : w4.cell? ⟨w3.heap.size + z2.bs.size, 1, none⟩ = some (.int .i64 a1) := cell_of_block Zaw4.out 1 (by simp)
    have law4 := (Array.getElem?_eq_some_iff.1 Zaw4.out).1
    have eb0w4 : w4.cell? ⟨W13.heap.size + z42.bs.size, 0, none⟩ = some (.int .i64 a0) := cell_of_block Zbw4.out 0 (by simp)
    have eb1w4 : w4.cell? ⟨W13.heap.size + z42.bs.size, 1, none⟩ = some (.int .i64 a1) := cell_of_block Zbw4.out 1 (by simp)
    have lbw4 := (Array.getElem?_eq_some_iff.1 Zbw4.out).1
    go_wp2_with fail
    go_loopw [69] (fun s wr => ∃ k : Nat, k ≤ fl.length ∧ s = .int .i64 k ∧ ∃ z, wr = gw w4 z) (fun s _ => fl.length - (intOf s).toNat)
    case atStart => exact ⟨0, Nat.zero_le _, rfl, ⟨#[], w4.drawn⟩, (gw_self w4).symm⟩
    case round =>
      obtain ⟨k, hk, rfl, z, rfl⟩ := hrel
      by_cases hlt : k < fl.length
      · have hi : (k : Int) < (fl.length : Int) := by omega
        obtain ⟨bb, ob, rfl, lb0, hcb⟩ := HB4.out.resolve_left (by omega)
        obtain ⟨ba, oa, rfl, la0, hca⟩ := HIA.out.resolve_left (by omega)
        have x1 := hcb k hlt
        have y1 := hca k hlt
        clear hcb hca
        obtain ⟨x, hx⟩ : ∃ x, fl.getD k 0 = x := ⟨_, rfl⟩
        dsimp only at x1 y1
        rw [hx] at x1 y1
        clear hx
        go_upto_region 17 with (fail)
        refine wp_region_gw2 (by kernel_rfl) (by kernel_rfl) ?_
        repeat (go_big_quiet_step (fail))
        refine wpQuiet_nil ?_
        rintro _ ⟨z2, rfl⟩
        go_wp2_with fail
        go_roundw
        case rel => exact ⟨k + 1, by omega, by go_num, z2, rfl⟩
        case measure => simp [intOf]; omega
      obtain ⟨L0, hL0⟩ : ∃ x, fl.length = x := ⟨_, rfl⟩
      have hi : ¬ (k : Int) < (fl.length : Int) := by omega
      clear hL0
      go_wp2_with fail
      go_loopw [84] (fun s wr => ∃ k : Nat, k ≤ n ∧ s = .int .i64 k ∧ ∃ z, wr = gw w4 z) (fun s _ => n - (intOf s).toNat)
      case atStart => exact ⟨0, Nat.zero_le _, rfl, z, rfl⟩
      case round =>
        obtain ⟨j, hj, rfl, z, rfl⟩ := hrel
        by_cases hlt2 : j < n
        · have hi2 : (j : Int) < (n : Int) := by omega
          obtain ⟨bb, ob, rfl, lb0, hcb⟩ := HP4.out.resolve_left (by omega)
          obtain ⟨ba, oa, rfl, la0, hca⟩ := HL4.out.resolve_left (by omega)
          obtain ⟨x1, x2, x3, x4⟩ := hcb j hlt2
          obtain ⟨y1, y2, y3, y4⟩ := hca j hlt2
          clear hcb hca
          generalize P j = p at *
          obtain ⟨p1, p2, p3, p4⟩ := p
          dsimp only at x1 x2 x3 x4 y1 y2 y3 y4
          go_upto_region 23 with (fail)
          refine wp_region_gw2 (by kernel_rfl) (by kernel_rfl) ?_
          repeat (go_big_quiet_step (fail))
          refine wpQuiet_nil ?_
          rintro _ ⟨z2, rfl⟩
          go_wp2_with fail
          go_roundw
          case rel => exact ⟨j + 1, by omega, by go_num, z2, rfl⟩
          case measure => simp [intOf]; omega
        have hi2 : ¬ (j : Int) < (n : Int) := by omega
        go_wp2_with fail
        refine (Calls.gw_of (alive_any _)).mono ?_
        rintro e w1 ⟨rfl, z9, rfl⟩
        go_wp2_with fail
        go_ret
        exact ⟨rfl, HBw4.out.gw z9⟩
end Go.Proofs.Ytohcopdfdmjhnaa.L1
