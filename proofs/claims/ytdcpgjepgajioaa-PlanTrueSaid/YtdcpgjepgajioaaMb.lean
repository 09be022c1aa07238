/- Contract of PlanTrue: true. No conditions beyond each theorem's own. -/
import Derived.Test.YtdcpgjepgajioaaCe
import Derived.Test.YtdcpgjepgajioaaMa
import Derived.Test.YtdcpgjepgajioaaAe
set_option linter.unusedVariables false
set_option linter.unusedSimpArgs false
set_option linter.unusedSectionVars false
set_option linter.constructorNameAsVariable false
namespace Go.Proofs.Ytdcpgjepgajioaa
open Go.RowKit

attribute [local go_sem] gw_cell gw_frozen gw_size
attribute [local go_sem ↓] run_minI

theorem intsV_succ (n : Nat) (L : Nat → Int) : intsV (n + 1) L = intsV n L ++ [.int .i64 (L n)] := by simp [intsV, List.range_succ]
theorem intsV_congr {n : Nat} {L L' : Nat → Int} (h : ∀ i, i < n → L i = L' i) : intsV n L = intsV n L' := by
  unfold intsV
  exact List.map_congr_left (fun j hj => by rw [h j (List.mem_range.1 hj)])
def padF (S : Nat → Int) (n t : Nat) : Int := if t < n then S t else 0
def sliceLen : Value → Nat
  | .slice _ n _ => n
  | _ => 0
theorem cel_of_own {w : World} {base c : Nat} {a : Option Addr} {S : Nat → Int} {n : Nat} (h : w.ownsRow base 3 1 (.slice a 32 c) 32 (intsV 32 (padF S n))) : ∃ g, a = some ⟨g, 0, none⟩ ∧ CelAt w g 0 (firstC S n) ∧ base ≤ g := by
  rcases h.2 with ⟨_, h0⟩ | ⟨g, cap, cur, hv, q1, q2, _⟩
  · cases h0
  · simp only [Value.slice.injEq] at hv
    obtain ⟨rfl, _, rfl⟩ := hv
    refine ⟨g, rfl, ⟨firstC_len _ _, fun j hj => ?_, fun k => frozen_of_block q2 k⟩, q1⟩
    have := h.cells (g := g) rfl j (.int .i64 (padF S n j)) (by simp [intsV, hj])
    rw [addr_add] at this
    rw [this, firstC_get S n j hj]
    rfl
/-- a year within the room, and in which all is sold -/
theorem year_hi {o : Otl} {y : Lyg} {i t : Nat} {L : Nat → Int} (h : o.errHi y i L t = 0) : tot ((o.celAt i L y.lot y.roomB (parHi o) t).set 0 ((o.celAt i L y.lot y.roomB (parHi o) t).getD 0 0 + L t * y.lot)) ≤ y.room ∧
    o.yrAt i L y.lot y.roomB (parHi o) t = sellAll o.A (o.V i t) o.nA 0 ((o.celAt i L y.lot y.roomB (parHi o) t).set 0 ((o.celAt i L y.lot y.roomB (parHi o) t).getD 0 0 + L t * y.lot)) := by
  unfold Otl.errHi Otl.yrAt yearF at h
  unfold Otl.yrAt yearF
  by_cases hr : y.roomB (tot ((o.celAt i L y.lot y.roomB (parHi o) t).set 0 ((o.celAt i L y.lot y.roomB (parHi o) t).getD 0 0 + L t * y.lot))) = true
  · rw [if_pos hr]
    exact ⟨by simpa [Lyg.roomB] using hr, rfl⟩
  · rw [if_neg hr] at h; cases h
theorem year_lo {o : Otl} {y : Lyg} {i t : Nat} {L : Nat → Int} : o.yrAt i L y.lot anyRoom (parLo o) t = sellAll o.A (o.V i t) o.nA 0 ((o.celAt i L y.lot anyRoom (parLo o) t).set 0 ((o.celAt i L y.lot anyRoom (parLo o) t).getD 0 0 + L t * y.lot)) := by
  unfold Otl.yrAt yearF
  exact if_pos rfl
/-- between what surely is there and what at most is there -/
structure Mid (lo cc hi : List Int) : Prop where
  l1 : LeL lo cc
  l2 : LeL cc hi
  nn : NonNeg lo
  tt : Go.Proofs.Ytdcpgjepgajioaa.tot hi ≤ 70368744177664
theorem Mid.ok {lo cc hi : List Int} (h : Mid lo cc hi) : NonNeg cc ∧ Go.Proofs.Ytdcpgjepgajioaa.tot cc ≤ 70368744177664 ∧ NonNeg hi ∧ Go.Proofs.Ytdcpgjepgajioaa.tot lo ≤ 70368744177664 :=
  ⟨h.l1.nonNeg h.nn, Int.le_trans h.l2.tot h.tt, h.l2.nonNeg (h.l1.nonNeg h.nn), Int.le_trans h.l1.tot (Int.le_trans h.l2.tot h.tt)⟩
theorem Mid.sell {lo cc hi : List Int} {a : Nat} {n : Int} (h : Mid lo cc hi) (hn : 0 ≤ n) (hz : (sellF lo a n).2 = 0) : (sellF cc a n).2 = 0 ∧ Mid (sellF lo a n).1 (sellF cc a n).1 (sellF hi a n).1 := by
  have k := h.ok
  have e := sellF_ok (a := a) k.2.2.1 hn
  exact ⟨sellF_still h.l1 k.1 hn (Int.le_refl _) hz, (sellF_mono a h.l1 (Int.le_refl _)).1, (sellF_mono a h.l2 (Int.le_refl _)).1, (sellF_ok h.nn hn).1, by have := h.tt; omega⟩
theorem sellAll_go {A V : Nat → Int} {k p : Nat} {c : List Int} {a : Nat} {n : Int} (hA : A p = (a : Int)) (hV : V p = n) (e : (sellF c a n).2 = 0) : sellAll A V (k + 1) p c = sellAll A V k (p + 1) (sellF c a n).1 := by
  show (if (sellF c (A p).toNat (V p)).2 = 0 then sellAll A V k (p + 1) (sellF c (A p).toNat (V p)).1 else ((sellF c (A p).toNat (V p)).1, 10)) = _
  rw [hA, hV, Int.toNat_natCast, if_pos e]
theorem sellAll_step {A V : Nat → Int} {k p : Nat} {c : List Int} {a : Nat} {n : Int} (hA : A p = (a : Int)) (hV : V p = n) (hz : (sellAll A V (k + 1) p c).2 = 0) : (sellF c a n).2 = 0 ∧ sellAll A V (k + 1) p c = sellAll A V k (p + 1) (sellF c a n).1 := by
  have e : (sellF c a n).2 = 0 := by
    unfold sellAll at hz
    rw [hA, hV, Int.toNat_natCast] at hz
    by_cases e : (sellF c a n).2 = 0
    · exact e
    · rw [if_neg e] at hz; cases hz
  exact ⟨e, sellAll_go hA hV e⟩
/-- what is there a year later lies between, too -/
theorem late_mid {o : Otl} {lo cc hi : List Int} {X : Nat → Int} (h : Mid lo cc hi) (k0 : 0 ≤ o.kl) (k1 : o.kl ≤ o.kh) (hX : ∀ j, j < 32 → parLo o (cc.getD j 0) ≤ X j ∧ X j ≤ parHi o (cc.getD j 0)) : LeL (lateF (parLo o) lo) (lateX X 32) ∧ LeL (lateX X 32) (lateF (parHi o) hi) := by
  have e1 : lateF (parLo o) lo = lateX (fun a => parLo o (lo.getD a 0)) 32 := lateN_X _ lo 32
  have e2 : lateF (parHi o) hi = lateX (fun a => parHi o (hi.getD a 0)) 32 := lateN_X _ hi 32
  rw [e1, e2]
  have g1 : ∀ j, j < 32 → (fun a => parLo o (lo.getD a 0)) j ≤ X j := fun j hj => Int.le_trans (parLo_mono k0 _ _ (h.l1.get j)) (hX j hj).1
  have g2 : ∀ j, j < 32 → X j ≤ (fun a => parHi o (hi.getD a 0)) j := fun j hj => Int.le_trans (hX j hj).2 (parHi_mono (by omega) _ _ (h.l2.get j))
  generalize (fun a => parLo o (lo.getD a 0)) = A at *
  generalize (fun a => parHi o (hi.getD a 0)) = B at *
  clear e1 e2 hX
  generalize 32 = k at *
  exact ⟨lateX_mono k g1, lateX_mono k g2⟩
theorem late_step {o : Otl} {lo cc hi D : List Int} {X : Nat → Int} {yl yh : List Int × Int} (h : Mid lo cc hi) (k0 : 0 ≤ o.kl) (k1 : o.kl ≤ o.kh) (hX : ∀ j, j < 32 → parLo o (cc.getD j 0) ≤ X j ∧ X j ≤ parHi o (cc.getD j 0)) (hD : lateX X 32 = D) (e1 : yl = (lo, 0)) (e2 : yh = (hi, 0)) : LeL (lateF (parLo o) yl.1) D ∧ LeL D (lateF (parHi o) yh.1) := by
  have := late_mid h k0 k1 hX
  rw [hD] at this
  rw [e1, e2]
  exact this
theorem lateX_succ {X : Nat → Int} {a : Nat} {x : Int} : lateX (fun j => if j = a then x else X j) (a + 1) = (lateX X a).set (min (a + 1) 31) ((lateX X a).getD (min (a + 1) 31) 0 + x) := by
  show (lateX _ a).set _ ((lateX _ a).getD _ 0 + (if a = a then x else X a)) = _
  rw [lateX_congr (X := fun j => if j = a then x else X j) (Y := X) a (fun j hj => if_neg (by omega)), if_pos rfl]

set_option maxRecDepth 100000 in
set_option maxHeartbeats 16000000 in
theorem planTrue_law (o : Otl) (y : Lyg) (aL : Option Addr) (m cL : Nat) (L : Nat → Int) (wh : Int) (aB : Option Addr) (nB cB : Nat) (B : Nat → Int) (w : World) (hO : o.In w) (hfo : o.Fits) (hY : y.In w) (hfy : y.Fits) (hL : IntsAt w aL m L) (hm : m ≤ 9223372036854775807) (hw0 : 0 ≤ wh ∧ wh ≤ 255) (hB : NumsAt .u32 w aB nB B) (hnB : nB ≤ 9223372036854775807) (hBr : ∀ i, i < nB → 0 ≤ B i ∧ B i ≤ 4294967295) :
    Calls Try.prog 5 #[o.val, y.val, .slice aL m cL, .int .u8 wh, .slice aB nB cB] w fun e w' => e = .returned (.bool true) ∧ Below w.heap.size w w' := by
  unfold Otl.val Lyg.val
  obtain ⟨W1, hW1⟩ : ∃ W1, (w.alloc (.cells #[.slice o.aS o.nS o.cS, .int .i64 o.kl, .int .i64 o.kh, .slice o.aA o.nA o.cA, .slice o.aP o.nP o.cP] 27)).alloc (.cells #[.slice y.aR y.nR y.cR, .slice y.aM y.nM y.cM, .int .i64 y.lot, .int .i64 y.room] 29) = W1 := ⟨_, rfl⟩
  have hBc : Below w.heap.size w W1 := by rw [← hW1]; exact (below_alloc _ _).alloc (by simp) _
  have zc0 : W1.heap[w.heap.size]? = some (.cells #[.slice o.aS o.nS o.cS, .int .i64 o.kl, .int .i64 o.kh, .slice o.aA o.nA o.cA, .slice o.aP o.nP o.cP] 27 (0, 0)) := by rw [← hW1]; exact alloc_keep (alloc_at rfl)
  have zc1 : W1.heap[w.heap.size + 1]? = some (.cells #[.slice y.aR y.nR y.cR, .slice y.aM y.nM y.cM, .int .i64 y.lot, .int .i64 y.room] 29 (0, 0)) := by rw [← hW1]; exact alloc_at (by simp)
  have c00 : W1.cell? ⟨w.heap.size, 0, none⟩ = some (.slice o.aS o.nS o.cS) := cell_of_block zc0 0 (by simp)
  have c01 : W1.cell? ⟨w.heap.size, 1, none⟩ = some (.int .i64 o.kl) := cell_of_block zc0 1 (by simp)
  have c02 : W1.cell? ⟨w.heap.size, 2, none⟩ = some (.int .i64 o.kh) := cell_of_block zc0 2 (by simp)
  have c03 : W1.cell? ⟨w.heap.size, 3, none⟩ = some (.slice o.aA o.nA o.cA) := cell_of_block zc0 3 (by simp)
  have c04 : W1.cell? ⟨w.heap.size, 4, none⟩ = some (.slice o.aP o.nP o.cP) := cell_of_block zc0 4 (by simp)
  have c10 : W1.cell? ⟨w.heap.size + 1, 0, none⟩ = some (.slice y.aR y.nR y.cR) := cell_of_block zc1 0 (by simp)
  have c11 : W1.cell? ⟨w.heap.size + 1, 1, none⟩ = some (.slice y.aM y.nM y.cM) := cell_of_block zc1 1 (by simp)
  have c12 : W1.cell? ⟨w.heap.size + 1, 2, none⟩ = some (.int .i64 y.lot) := cell_of_block zc1 2 (by simp)
  have c13 : W1.cell? ⟨w.heap.size + 1, 3, none⟩ = some (.int .i64 y.room) := cell_of_block zc1 3 (by simp)
  have lc0 := (Array.getElem?_eq_some_iff.1 zc0).1
  have lc1 := (Array.getElem?_eq_some_iff.1 zc1).1
  have Zc0 := Lib.hid zc0
  have Zc1 := Lib.hid zc1
  clear zc0 zc1
  have HBc := Lib.hid hBc; clear hBc
  have HWc := Lib.hid hW1; clear hW1
  have GR := great_any o y aL m cL W1 (hO.below HBc.out) hfo hfy hm
  have KP := fun W (hb : Below W1.heap.size W1 W) => Keeps_any o y aL m cL L W (hO.below (thru hb HBc.out)) hfo (hY.below (thru hb HBc.out)) hfy (hL.below (thru hb HBc.out)) hm
  unfold KeepsEnd at KP
  have RO := fun W (hb : Below W1.heap.size W1 W) => rOutlook_any o W (hO.below (thru hb HBc.out)) hfo
  have HF := Lib.hid hfo; have HFY := Lib.hid hfy; have HO := Lib.hid (hO.below HBc.out); have HY := Lib.hid (hY.below HBc.out); have HL := Lib.hid (hL.below HBc.out); have HBY := Lib.hid (hB.below HBc.out); have HBR := Lib.hid hBr
  obtain ⟨k1, hk1⟩ : ∃ k1, keepsP o y m L = k1 := ⟨_, rfl⟩
  obtain ⟨k2, hk2⟩ : ∃ k2, keepsY o y m L = k2 := ⟨_, rfl⟩
  obtain ⟨ke, hke⟩ : ∃ ke, keepsE o y m L = ke := ⟨_, rfl⟩
  simp only [hk1, hk2, hke] at KP
  unfold Otl.val Lyg.val at GR KP
  unfold Otl.val at RO
  have GR := Lib.hid GR; have KP := Lib.hid KP; have RO := Lib.hid RO
  have HK1 := Lib.hid hk1; have HK2 := Lib.hid hk2; have HKE := Lib.hid hke
  clear hO hY hL hfo hfy hB hBr hk1 hk2 hke
  go_enter Try.func5, Try.ntmps5
  go_upto_region 1 with (fail)
  rw [HWc.out]
  go_wp2_with fail
  refine GR.out.mono ?_
  rintro e w1 ⟨g, rfl, hg, hb⟩
  obtain ⟨z1, rfl⟩ := gw_of_below hb
  clear hb hg
  cases g
  rotate_left
  · go_wp2_with fail
    refine (Calls.gw_of (awake_any (gw W1 z1))).mono ?_
    rintro e w9 ⟨rfl, z9, rfl⟩
    go_wp2_with fail
    go_ret
    exact ⟨rfl, HBc.out.gw z9⟩
  by_cases hb0 : nB = 0
  · have db : ((nB : Int) == 0) = true := by simp; omega
    go_wp2_with fail
    refine (Calls.gw_of (awake_any (gw W1 z1))).mono ?_
    rintro e w9 ⟨rfl, z9, rfl⟩
    go_wp2_with fail
    go_ret
    exact ⟨rfl, HBc.out.gw z9⟩
  have db : ((nB : Int) == 0) = false := by simp; omega
  go_wp2_with fail
  clear db
  refine (Calls.gw_of (KP.out _ (below_gw W1 z1))).mono ?_
  rintro e w1 ⟨rfl, z2, rfl⟩
  by_cases hke : ke = 0
  rotate_left
  · have dk : (ke != 0) = true := by simpa using hke
    have dp : (0 : Int) ≤ (k1 : Int) := by omega
    have dq : (0 : Int) ≤ (k2 : Int) := by omega
    go_wp2_with fail
    refine (Calls.gw_of (awake_any (gw W1 z2))).mono ?_
    rintro e w9 ⟨rfl, z9, rfl⟩
    go_wp2_with fail
    go_ret
    exact ⟨rfl, HBc.out.gw z9⟩
  have KZ := keepsE_zero.1 (HKE.out.trans hke)
  obtain ⟨e1, e2, e3⟩ := argE_zero KZ.1
  have HK0 := Lib.hid (show k1 = o.nP ∧ k2 = m by have a1 := HK1.out; have a2 := HK2.out; have n1 : ¬ argE o y m L = 1 := (by have := KZ.1; omega); have kn : keepN o y m L = o.nP := upto_all.2 (fun i hi => pathE_zero.2 (KZ.2 i hi)); unfold keepsP at a1; unfold keepsY at a2; rw [if_neg n1] at a1 a2; rw [kn] at a1 a2; rw [if_pos rfl] at a2; exact ⟨a1.symm, a2.symm⟩)
  obtain ⟨hk1, hk2⟩ := HK0.out
  have hk1 := hk1.symm
  have hk2 := hk2.symm
  subst hk1 hk2
  subst hke
  clear HK0 HK1 HK2 KP
  have E1 := Lib.hid e1; have E2 := Lib.hid e2; have E3 := Lib.hid e3; have HZ := Lib.hid KZ.2; have HA0 := Lib.hid KZ.1
  have OB := outB_t e1
  have HOB := Lib.hid OB
  have nP1 := OB.2.2.2.2.2.2.2.2.1.1
  have nP8 := OB.2.2.2.2.2.2.2.2.1.2
  have nA4 := OB.2.2.2.2.2.2.1
  have nS32 := OB.1
  have nP0 : 0 < o.nP := by omega
  have RL := fun W (hb : Below W1.heap.size W1 W) => rLaying_any o y W (HO.out.below hb) nP1 (HF.out.pN 0 nP0) (HY.out.below hb) HFY.out
  have RT := fun W (hb : Below W1.heap.size W1 W) => rLots_any y aL m cL L W (HY.out.below hb) HFY.out (HL.out.below hb) hm
  have RO := RO.out
  rw [e1] at RO
  rw [e2] at RL
  rw [e3] at RT
  unfold Otl.val Lyg.val at RL
  unfold Lyg.val at RT
  obtain ⟨i, hi⟩ : ∃ i : Nat, wh % (o.nP : Int) = i := ⟨(wh % (o.nP : Int)).toNat, by have := Int.emod_nonneg wh (show (o.nP : Int) ≠ 0 by omega); omega⟩
  have hil : i < o.nP := by have := Int.emod_lt_of_pos wh (show 0 < (o.nP : Int) by omega); omega
  have LT := fun W (hb : Below W1.heap.size W1 W) => Left_any o y aL m cL L i W (HO.out.below hb) HF.out (HY.out.below hb) HFY.out (HL.out.below hb) hm
  have hib : inB (i : Int) 0 (o.nP - 1) = true := inB_t.2 (by omega)
  have lo := (left_ok KZ.1 hib (upto_all.2 (fun t ht => (KZ.2 i hil t ht).1))).1 rfl
  unfold LeftEnd at LT
  simp only [lo.1, lo.2, if_true, Int.toNat_natCast] at LT
  unfold Otl.val Lyg.val at LT
  have RO := Lib.hid RO; have RL := Lib.hid RL; have RT := Lib.hid RT; have LT := Lib.hid LT; have HRL := Lib.hid (run_ok e1 e2 e3 hil).1; have HRH := Lib.hid (run_ok e1 e2 e3 hil).2
  have m10 := HRL.out.m10
  clear OB KZ e1 e2 e3 lo hib
  go_wp2_with fail
  refine (Calls.gw_of (RO.out _ (below_gw W1 z2))).mono ?_
  rintro e w1 ⟨rfl, z3, rfl⟩
  go_wp2_with fail
  refine (Calls.gw_of (RL.out _ (below_gw W1 z3))).mono ?_
  rintro e w1 ⟨rfl, z4, rfl⟩
  go_wp2_with fail
  refine (Calls.gw_of (RT.out _ (below_gw W1 z4))).mono ?_
  rintro e w1 ⟨rfl, z5, rfl⟩
  have dm : ¬ (o.nP : Int) = 0 := by omega
  go_wp2_with fail
  rw [hi]
  refine (LT.out _ (below_gw W1 z5)).mono ?_
  rintro e W4 ⟨al, cl, rfl, hr, hb⟩
  have HB4 := Lib.hid (thru hb (below_gw W1 z5))
  have HR := Lib.hid hr
  clear hr hb RO RL RT LT GR hi dm c00 c01 c02 c03 c04 c10 c11 c12 c13
  have HO := Lib.hid (HO.out.below HB4.out)
  have HL := Lib.hid (HL.out.below HB4.out)
  have HBY := Lib.hid (HBY.out.below HB4.out)
  have Z0 := Lib.hid ((HB4.out.block _ lc0).trans Zc0.out)
  have Z1 := Lib.hid ((HB4.out.block _ lc1).trans Zc1.out)
  have HBW := Lib.hid (HBc.out.trans (HB4.out.mono HBc.out.size))
  have sz4 : w.heap.size + 1 < W4.heap.size := (Array.getElem?_eq_some_iff.1 Z1.out).1
  have sz40 : w.heap.size < W4.heap.size := by omega
  have x00 : W4.cell? ⟨w.heap.size, 0, none⟩ = some (.slice o.aS o.nS o.cS) := cell_of_block Z0.out 0 (by simp)
  obtain ⟨j0, jh, jy0, jy1, jy2⟩ := info_parts infoInt
  have JI := Lib.hid jh; have Y0 := Lib.hid jy0; have Y1 := Lib.hid jy1; have Y2 := Lib.hid jy2
  clear jh jy0 jy1 jy2 lc0 lc1 HB4 Zc0 Zc1 HBc HWc HA0 HY hnB
  have H := Lib.hid (ints_news (HO.out.iS.below (below_alloc W4 (.cells #[] 3))))
  have OW : Hid ((W4.alloc (.cells #[] 3)).ownsRow W4.heap.size 3 1 (.slice (some ⟨W4.heap.size, 0, none⟩) 0 0) 0 []) := Lib.hid ⟨rfl, .inr ⟨W4.heap.size, 0, #[], rfl, Nat.le_refl _, alloc_at rfl, Nat.le_refl _, Nat.zero_le _, rfl, rfl⟩⟩
  go_upto_region 13 with (at_builtin; refine wpList_append_src (by rfl) _ _ 22 rfl W4.heap.size 3 j0 (.int .i64 0) 1 8 Try.underlying22 JI.out Y0.out Y1.out Y2.out rfl (by decide) _ 0 [] rfl OW.out o.aS o.nS o.cS (intsV o.nS o.S) rfl (intsV_len _ _) H.out (intsV_one _ _) (by unfold maxLen; omega) (by omega) (by simp) ?_; intro v9 w9 hown9 hgrow9)
  rw [Nat.zero_add, List.nil_append, intsV_congr (L' := padF o.S o.nS) (fun i hi => (if_pos hi).symm)] at hown9
  have g9 : (W4.alloc (.cells #[] 3)).grownBy w9 (Value.slice (some ⟨W4.heap.size, 0, none⟩) 0 0).ownBlock := hgrow9
  have B9 := Lib.hid ((below_alloc W4 (.cells #[] 3)).grown g9 (by simp) (fun b e => (OW.out.lt b e).1))
  obtain ⟨a9, c9, rfl⟩ := own_form hown9
  have HW9 := Lib.hid hown9
  clear hown9 hgrow9 g9 OW H x00
  go_loopw [18] (fun s18 wr => ∃ (j : Nat) (ab : Option Addr) (cb : Nat), o.nS ≤ j ∧ j ≤ 32 ∧ s18 = .slice ab j cb ∧ Hid (wr.ownsRow W4.heap.size 3 1 (.slice ab j cb) j (intsV j (padF o.S o.nS))) ∧ Hid (Below W4.heap.size W4 wr)) (fun s18 _ => 32 - sliceLen s18)
  case atStart => exact ⟨o.nS, a9, c9, Nat.le_refl _, nS32, rfl, HW9, B9⟩
  case round =>
    obtain ⟨j, ab, cb, hj1, hj2, rfl, HOB1, HW⟩ := hrel
    have sw := HW.out.size
    by_cases hj : j < 32
    · have hji : (j : Int) < 32 := by omega
      have HOA := Lib.hid (own_below HOB1.out (below_alloc wr (.cells #[Value.int .i64 0] 3)))
      have HN4 := Lib.hid (news_lit wr [Value.int .i64 0] 3)
      go_wp2_with (at_builtin; refine wpList_append_own _ rfl _ _ 22 rfl W4.heap.size 3 j0 (.int .i64 0) 1 8 Try.underlying22 JI.out Y0.out Y1.out Y2.out rfl (by decide) _ j (intsV j (padF o.S o.nS)) rfl HOA.out ⟨wr.heap.size, 0, none⟩ 1 1 [.int .i64 0] rfl rfl HN4.out (by simp [Value.oneCell']) (by unfold maxLen; omega) (by omega) (by simp; omega) ?_; intro v8 w8 hown8 hgrow8 _)
      have g8 : (wr.alloc (.cells #[Value.int .i64 0] 3)).grownBy w8 (Value.slice ab j cb).ownBlock := hgrow8
      obtain ⟨a8, c8, rfl⟩ := own_form hown8
      go_roundw
      case rel => exact ⟨j + 1, a8, c8, by omega, by omega, rfl, Lib.hid (by rw [intsV_succ, show padF o.S o.nS j = 0 from if_neg (by omega)]; exact hown8), Lib.hid ((HW.out.trans ((below_alloc wr _).mono sw)).grown g8 (by simp; omega) (fun b e => (HOA.out.lt b e).1))⟩
      case measure => simp [sliceLen]; omega
    · obtain rfl : j = 32 := by omega
      obtain ⟨g0, rfl, hcel, hg0⟩ := cel_of_own HOB1.out
      have HC0 := Lib.hid hcel
      obtain ⟨V1, rfl⟩ : ∃ V1, V1 = wr := ⟨_, rfl⟩
      clear hcel HOB1 HW9 B9 sw hj1 hj2
      go_wp2_with fail
      clear hj
      go_loopw [18, 19, 20] (fun s18 s19 s20 wr => ∃ (t g zz c' : Nat) (cc : List Int), t ≤ m ∧ s18 = .slice (some ⟨g, 0, none⟩) 32 c' ∧ s19 = .int .i64 (zz : Int) ∧ s20 = .int .i64 (t : Int) ∧ zz ≤ 32 * t ∧ W4.heap.size ≤ g ∧ Hid (CelAt wr g 0 cc) ∧ Hid (LeL (o.celAt i L y.lot anyRoom (parLo o) t) cc ∧ LeL cc (o.celAt i L y.lot y.roomB (parHi o) t)) ∧ Hid (Below W4.heap.size W4 wr)) (fun _ _ s20 _ => m - (intOf s20).toNat)
      case atStart => exact ⟨0, g0, 0, cb, firstC o.S o.nS, Nat.zero_le _, rfl, rfl, rfl, Nat.zero_le _, hg0, HC0, Lib.hid ⟨LeL.refl _, LeL.refl _⟩, HW⟩
      case round =>
        obtain ⟨t, g, zz, c', cc, ht, rfl, rfl, rfl, hzz, hg, HC, HLE, HW⟩ := hrel
        by_cases htm : t < m
        · rcases HL.out with h0 | ⟨b, off, ea, lb, hc⟩
          · omega
          have x1 := (HW.out.cell (p := ⟨b, off + t, none⟩) lb).trans (hc t htm)
          have l1 : b < wr.heap.size := Nat.lt_of_lt_of_le lb HW.out.size
          have gb : b ≠ g := by omega
          subst ea
          clear hc
          have b1 := Lib.hid ((HW.out.block _ sz4).trans Z1.out)
          have y2 : wr.cell? ⟨w.heap.size + 1, 2, none⟩ = some (.int .i64 y.lot) := cell_of_block b1.out 2 (by simp)
          have ly := (Array.getElem?_eq_some_iff.1 b1.out).1
          have CH := celAt_ok (room := y.roomB) HRH.out t (by omega)
          have CL := celAt_ok (room := anyRoom) HRL.out t (by omega)
          have yh := year_hi (HZ.out i hil t htm).2
          have yl := year_lo (o := o) (y := y) (i := i) (t := t) (L := L)
          have el0 := (HZ.out i hil t htm).1
          unfold Otl.errLo at el0
          have lr := HRH.out.laid htm
          obtain ⟨v0, hv0⟩ : ∃ v0, cc.getD 0 0 = v0 := ⟨_, rfl⟩
          have v1 := (HLE.out.1).get 0
          have v2 := (HLE.out.2).get 0
          have v3 := CL.1.getD 0
          have v4 := CH.1.le_tot 0
          have v5 := CH.2.2
          rw [hv0] at v1 v2
          have cn := HC.out.cell 0 (by omega)
          rw [hv0, Nat.zero_add] at cn
          have cf := HC.out.free 0
          have l2 := HC.out.lt
          have hti : (t : Int) < (m : Int) := by omega
          have hw1 : IntKind.i64.wrap (L t * y.lot) = L t * y.lot := IntWalk.i64_in _ (by omega)
          have hw2 : IntKind.i64.wrap (v0 + L t * y.lot) = v0 + L t * y.lot := IntWalk.i64_in _ (by omega)
          obtain ⟨c1, hc1⟩ : ∃ c1, cc.set 0 (v0 + L t * y.lot) = c1 := ⟨_, rfl⟩
          obtain ⟨lo1, hlo1⟩ : ∃ c1, (o.celAt i L y.lot anyRoom (parLo o) t).set 0 ((o.celAt i L y.lot anyRoom (parLo o) t).getD 0 0 + L t * y.lot) = c1 := ⟨_, rfl⟩
          obtain ⟨hi1, hhi1⟩ : ∃ c1, (o.celAt i L y.lot y.roomB (parHi o) t).set 0 ((o.celAt i L y.lot y.roomB (parHi o) t).getD 0 0 + L t * y.lot) = c1 := ⟨_, rfl⟩
          have MID := Lib.hid (show Mid lo1 c1 hi1 from ⟨by rw [← hlo1, ← hc1]; exact HLE.out.1.set 0 (by omega), by rw [← hhi1, ← hc1]; exact HLE.out.2.set 0 (by omega), by rw [← hlo1]; exact CL.1.set 0 (by omega), by have e9 := tot_first CH.2.1 (L t * y.lot); rw [hhi1] at e9; rw [e9]; omega⟩)
          rw [hhi1] at yh
          rw [hlo1] at yl
          have YH := Lib.hid yh; have YL := Lib.hid yl; have EL0 := Lib.hid el0
          have NC1 := MID.out.ok
          have sle : tot c1 ≤ y.room := Int.le_trans MID.out.l2.tot yh.1
          have h1 := HC.out.set 0 (v0 + L t * y.lot) (by omega)
          rw [hc1, Nat.zero_add] at h1
          have g1 := grownBy_set wr g 0 (.int .i64 (v0 + L t * y.lot))
          clear CH CL yh yl el0 v3 v4 v5 hlo1 hhi1 hv0
          have HV12 := Lib.hid (And.intro v1 v2); clear v1 v2
          go_wp2_with fail
          go_region
          go_wp2_with fail
          obtain ⟨V0, hV0⟩ : ∃ V0, (wr.setCell ⟨g, 0, none⟩ (.int .i64 (v0 + L t * y.lot))).drew = V0 := ⟨_, rfl⟩
          have h0 := h1.drew
          have gD := grownBy_trans g1 (grownBy_of_below (below_drew _) _)
          rw [hV0] at h0 gD ⊢
          have C0 := Lib.hid h0
          have HW0 := Lib.hid (HW.out.grown gD HW.out.size (fun b hb => by cases hb; omega))
          have b2 := Lib.hid ((HW0.out.block _ sz4).trans Z1.out)
          have y3 : V0.cell? ⟨w.heap.size + 1, 3, none⟩ = some (.int .i64 y.room) := cell_of_block b2.out 3 (by simp)
          have ly3 := (Array.getElem?_eq_some_iff.1 b2.out).1
          have SU := Lib.hid (fun z => (rsum_any g c' c1 (gw V0 z) (C0.out.below (below_gw _ z)) NC1.1 (by omega)).mono (fun e w2 h => show e = .returned (.int .i64 (tot c1)) ∧ Below (gw V0 z).heap.size (gw V0 z) w2 from ⟨h.1, h.2 ▸ Below.refl _ _⟩))
          have d1 : decide (y.room < tot c1) = false := by simp; omega
          clear hV0 gD g1 h1 h0 hc1 y2 ly x1 l1 cn cf l2 b1 sle NC1
          refine wp_region_gw (by kernel_rfl) (by kernel_rfl) ?_
          repeat (go_big_quiet_step (exact Calls.gw_of (SU.out _)))
          refine wpQuiet_nil ?_
          rintro _ ⟨z, rfl⟩
          clear d1 y3 ly3
          obtain ⟨V2, hV2⟩ : ∃ V2, gw V0 z = V2 := ⟨_, rfl⟩
          have C1 := Lib.hid (show CelAt V2 g 0 c1 by rw [← hV2]; exact C0.out.below (below_gw V0 z))
          have HW2 := Lib.hid (show Below W4.heap.size W4 V2 by rw [← hV2]; exact HW0.out.gw z)
          rw [hV2]
          clear hV2 C0 HW0 SU b2
          obtain ⟨wo, rfl⟩ : ∃ wo, wo = wr := ⟨_, rfl⟩
          go_wp2_with fail
          go_loopw [18, 21] (fun s18 s21 wr => ∃ (p g2 c2 : Nat) (lo cc hi : List Int), p ≤ o.nA ∧ s18 = .slice (some ⟨g2, 0, none⟩) 32 c2 ∧ s21 = .int .i64 (p : Int) ∧ W4.heap.size ≤ g2 ∧ Hid (CelAt wr g2 0 cc) ∧ Hid (Mid lo cc hi) ∧ Hid (o.yrAt i L y.lot anyRoom (parLo o) t = sellAll o.A (o.V i t) (o.nA - p) p lo) ∧ Hid (o.yrAt i L y.lot y.roomB (parHi o) t = sellAll o.A (o.V i t) (o.nA - p) p hi) ∧ Hid (Below W4.heap.size W4 wr)) (fun _ s21 _ => o.nA - (intOf s21).toNat)
          case atStart => exact ⟨0, g, c', lo1, c1, hi1, Nat.zero_le _, rfl, rfl, hg, C1, MID, YL, Lib.hid YH.out.2, HW2⟩
          case round =>
            obtain ⟨p, g2, c2, lo, cc2, hi, hp, rfl, rfl, hg2, HC2, MI, HYL, HYH, HW3⟩ := hrel
            have B0 := Lib.hid ((HW3.out.block _ sz40).trans Z0.out)
            have u2 : wr.cell? ⟨w.heap.size, 3, none⟩ = some (.slice o.aA o.nA o.cA) := cell_of_block B0.out 3 (by simp)
            have u3 : wr.cell? ⟨w.heap.size, 4, none⟩ = some (.slice o.aP o.nP o.cP) := cell_of_block B0.out 4 (by simp)
            have l0 := (Array.getElem?_eq_some_iff.1 B0.out).1
            by_cases hpA : p < o.nA
            · have htm2 := HRL.out.hm
              have vv := HRL.out.vals htm
              rcases HO.out.iA with h0 | ⟨b1, o1, ea, lb1, hc1⟩
              · omega
              rcases HO.out.iP with h0 | ⟨b2, o2, eb, lb2, hc2⟩
              · omega
              rcases HO.out.iY i hil with h0 | ⟨b3, o3, ec, lb3, hc3⟩
              · omega
              rcases HO.out.iV i hil t (by omega) with h0 | ⟨b4, o4, ed, lb4, hc4⟩
              · omega
              have y1 := (HW3.out.cell (p := ⟨b1, o1 + p, none⟩) lb1).trans (hc1 p hpA)
              have y2 := (HW3.out.cell (p := ⟨b2, o2 + i, none⟩) lb2).trans (hc2 i hil)
              have y3 := (HW3.out.cell (p := ⟨b3, o3 + t, none⟩) lb3).trans (hc3 t (by omega))
              have y4 := (HW3.out.cell (p := ⟨b4, o4 + p, none⟩) lb4).trans (hc4 p (by omega))
              dsimp only at y2 y3
              have m1 : b1 < wr.heap.size := Nat.lt_of_lt_of_le lb1 HW3.out.size
              have m2 : b2 < wr.heap.size := Nat.lt_of_lt_of_le lb2 HW3.out.size
              have m3 : b3 < wr.heap.size := Nat.lt_of_lt_of_le lb3 HW3.out.size
              have m4 : b4 < wr.heap.size := Nat.lt_of_lt_of_le lb4 HW3.out.size
              rw [ea] at u2
              rw [eb] at u3
              rw [ec] at y2
              rw [ed, vv.1] at y3
              have vp := vv.2 p hpA
              have ap := HOB.out.2.2.2.2.2.2.2.1 p hpA
              obtain ⟨k, hk9⟩ : ∃ k : Nat, o.A p = k := ⟨(o.A p).toNat, by omega⟩
              obtain ⟨v, hv9⟩ : ∃ v, o.V i t p = v := ⟨_, rfl⟩
              have yl2 := HYL.out; have yh2 := HYH.out
              have el2 := EL0.out
              rw [yl2, show o.nA - p = (o.nA - (p + 1)) + 1 by omega] at el2
              rw [show o.nA - p = (o.nA - (p + 1)) + 1 by omega] at yl2 yh2
              have st1 := sellAll_step hk9 hv9 el2
              rw [hk9] at y1 ap
              rw [hv9] at y4 vp
              have ms := MI.out.sell (a := k) vp.1 st1.1
              have hh := sellF_still (a := k) MI.out.l2 MI.out.ok.2.2.1 vp.1 (Int.le_refl _) ms.1
              have HYL2 := Lib.hid (yl2.trans st1.2)
              have HYH2 := Lib.hid (yh2.trans (sellAll_go hk9 hv9 hh))
              have MI2 := Lib.hid ms.2
              have hti : (t : Int) < (m : Int) := by omega
              have hpi : (p : Int) < (o.nA : Int) := by omega
              have hii : (i : Int) < (o.nP : Int) := by omega
              have htp : (t : Int) < (o.pN i : Int) := by omega
              have HSL := fun z => rsell_any g2 c2 cc2 k v (gw wr z) (HC2.out.below (below_gw wr z)) MI.out.ok.1 (by have := MI.out.ok.2.1; omega) (by omega) (by omega) (by omega)
              rw [ms.1] at HSL
              have HSL := Lib.hid HSL
              have HPA := Lib.hid hpA
              clear yl2 yh2 el2 st1 ms hh hc1 hc2 hc3 hc4 hk9 hv9 ea eb ec ed htm2 vv
              go_wp2_with fail
              refine wp_region_steps (fun w' => ∃ x, w' = gw wr x) [([0, 1, 2, 3, 4, 5, 6, 7, 8, 9, 10, 11, 12, 13, 14, 15, 16], 17)] [18, 19, 20, 21, 22] [] (by kernel_rfl) (by kernel_rfl) ?_
              rintro _ ⟨x0, rfl⟩
              refine ⟨⟨_, rfl⟩, ?_⟩
              refine wpSeg_cons ?_
              simp only [pickL, List.getElem?_cons_zero, List.getElem?_cons_succ]
              repeat (go_big_quiet_step (fail))
              refine wpQuiet_nil ?_
              go_wp2_with fail
              rename_i KK hKK
              refine (HSL.out x0).mono ?_
              rintro e w2 ⟨b9, c9, rfl, hC9, hb9, hb⟩
              obtain ⟨x1, hx2⟩ := gw_of_below (thru hb (below_gw wr x0))
              clear hb
              subst hx2
              refine hKK _ _ (contQ_nil ⟨⟨_, rfl⟩, ?_⟩)
              clear hKK KK
              refine wpSeg_nil ?_
              simp only [pickL, List.getElem?_cons_zero, List.getElem?_cons_succ]
              repeat (go_big_quiet_step (fail))
              refine wpQuiet_nil ?_
              refine contN_nil ?_
              have hb9 : wr.heap.size ≤ b9 := by rw [gw_size] at hb9; omega
              have HC9 := Lib.hid hC9; clear hC9
              have sw := HW3.out.size
              go_wp2_with fail
              go_roundw
              case rel => exact ⟨p + 1, b9, c9, _, _, _, HPA.out, rfl, by have := HPA.out; go_num, by omega, HC9, MI2, HYL2, HYH2, Lib.hid (HW3.out.gw x1)⟩
              case measure => have := HPA.out; simp only [intOf]; omega
            · have hpn : p = o.nA := by omega
              have HLO := Lib.hid (show o.yrAt i L y.lot anyRoom (parLo o) t = (lo, 0) by rw [HYL.out, hpn, Nat.sub_self]; rfl)
              have HHI := Lib.hid (show o.yrAt i L y.lot y.roomB (parHi o) t = (hi, 0) by rw [HYH.out, hpn, Nat.sub_self]; rfl)
              have HPN := Lib.hid hpn
              clear hpn HYL HYH u3 B0
              obtain ⟨rA, rC, hr1, hr2⟩ := HR.out
              rcases hr1 with h0 | ⟨bR, oR, eR, lR, hcR⟩
              · omega
              rcases hr2 t htm with h0 | ⟨bS, oS, eS, lS, hcS⟩
              · omega
              obtain ⟨V4, MK, hz4, hb4⟩ := made_row wr
              obtain ⟨gn, hgn⟩ : ∃ gn, wr.heap.size = gn := ⟨_, rfl⟩
              rw [hgn] at MK hz4
              have z1 := (HW3.out.cell (p := ⟨bR, oR + t, none⟩) lR).trans (hcR t htm)
              try dsimp only at z1
              rw [eS] at z1
              have lR3 : bR < wr.heap.size := Nat.lt_of_lt_of_le lR HW3.out.size
              subst eR
              have hti : (t : Int) < (m : Int) := by omega
              have HRT := Lib.hid (And.intro hcR (And.intro hcS eS))
              clear hcR hcS eS hr2
              have HZ4 := Lib.hid (show CelAt V4 gn 0 (lateX (fun _ => 0) 0) from hz4)
              have HC4 := Lib.hid (HC2.out.below hb4)
              have sw := HW3.out.size
              have HW4 := Lib.hid (HW3.out.trans (hb4.mono sw))
              have gn2 : g2 < gn := by rw [← hgn]; exact HC2.out.lt
              have gn4 : W4.heap.size ≤ gn := by omega
              clear hz4 hb4 hgn
              obtain ⟨wp, rfl⟩ : ∃ wp, wp = wr := ⟨_, rfl⟩
              go_wp2_with fail
              clear MK z1 lR3 u2 l0
              go_loopw [19, 25] (fun s19 s25 wr => ∃ (a zz : Nat) (X : Nat → Int), a ≤ 32 ∧ s19 = .int .i64 (zz : Int) ∧ s25 = .int .i64 (a : Int) ∧ zz ≤ 32 * t + a ∧ Hid (CelAt wr gn 0 (lateX X a)) ∧ Hid (∀ j, j < a → parLo o (cc2.getD j 0) ≤ X j ∧ X j ≤ parHi o (cc2.getD j 0)) ∧ Hid (CelAt wr g2 0 cc2) ∧ Hid (Below W4.heap.size W4 wr)) (fun _ s25 _ => 32 - (intOf s25).toNat)
              case atStart => exact ⟨0, zz, fun _ => 0, Nat.zero_le _, rfl, rfl, hzz, HZ4, Lib.hid (fun j hj => absurd hj (Nat.not_lt_zero j)), HC4, HW4⟩
              case round =>
                obtain ⟨a, z2, X, ha, rfl, rfl, hz2, HN, HX, HC5, HW5⟩ := hrel
                by_cases ha2 : a < 32
                · obtain ⟨j, hj⟩ : ∃ j, min (a + 1) 31 = j := ⟨_, rfl⟩
                  have hj2 : j < 32 := by omega
                  have ej : min ((a : Int) + 1) 31 = (j : Int) := by omega
                  have hai : (a : Int) < 32 := by omega
                  obtain ⟨hcR, hcS, eS⟩ := HRT.out
                  obtain ⟨x, hx⟩ : ∃ x, cc2.getD a 0 = x := ⟨_, rfl⟩
                  obtain ⟨yy, hyy⟩ : ∃ y, (lateX X a).getD j 0 = y := ⟨_, rfl⟩
                  obtain ⟨lv, hlv⟩ : ∃ v, (o.leftRow y i L t).getD a 0 = v := ⟨_, rfl⟩
                  have ccn := HC5.out.cell a ha2
                  rw [hx, Nat.zero_add] at ccn
                  have cn := HN.out.cell j hj2
                  rw [hyy, Nat.zero_add] at cn
                  have cf := HN.out.free j
                  have l5 := HC5.out.lt
                  have ln := HN.out.lt
                  have z1 := (HW5.out.cell (p := ⟨bR, oR + t, none⟩) lR).trans (hcR t htm)
                  try dsimp only at z1
                  rw [eS] at z1
                  have lR5 : bR < wr.heap.size := Nat.lt_of_lt_of_le lR HW5.out.size
                  have z2c := (HW5.out.cell (p := ⟨bS, oS + a, none⟩) lS).trans (hcS a ha2)
                  rw [hlv] at z2c
                  have lS5 : bS < wr.heap.size := Nat.lt_of_lt_of_le lS HW5.out.size
                  have b5 := Lib.hid ((HW5.out.block _ sz40).trans Z0.out)
                  have w1 : wr.cell? ⟨w.heap.size, 1, none⟩ = some (.int .i64 o.kl) := cell_of_block b5.out 1 (by simp)
                  have w2 : wr.cell? ⟨w.heap.size, 2, none⟩ = some (.int .i64 o.kh) := cell_of_block b5.out 2 (by simp)
                  have l0 := (Array.getElem?_eq_some_iff.1 b5.out).1
                  have k0 := HOB.out.2.2.1
                  have k1 := HOB.out.2.2.2.1
                  have k2 := HOB.out.2.2.2.2.1
                  have mo := MI.out.ok
                  have xa := mo.1.getD a
                  have xb := mo.1.le_tot a
                  rw [hx] at xa xb
                  have xl := MI.out.l1.get a
                  rw [hx] at xl
                  have hlo : lo = o.leftRow y i L t := (congrArg Prod.fst HLO.out).symm
                  rw [hlo, hlv] at xl
                  have dl : decide (x < lv) = false := by simp; omega
                  have YB : 0 ≤ yy ∧ yy ≤ 140737488355328 := by have pr : ∀ q, 0 ≤ q → 0 ≤ parLo o q ∧ parHi o q ≤ q := (fun q hq => by have := par_rng (o := o) hq k0 k1 k2; omega); have e0 : LeL (lateX (fun _ => 0) a) (lateX X a) := lateX_mono a (fun q hq => Int.le_trans (pr _ (mo.1.getD q)).1 (HX.out q hq).1); have e1 : LeL (lateX X a) (lateN (fun q => q) cc2 a) := (by rw [lateN_X]; exact lateX_mono a (fun q hq => Int.le_trans (HX.out q hq).2 (pr _ (mo.1.getD q)).2)); have LN := lateN_ok (p := fun q => q) (c := cc2) (fun q => mo.1.getD q) a; have z0 := lateN_ok (p := fun _ => 0) (c := cc2) (fun q => Int.le_refl 0) a; rw [lateN_X] at z0; have f0 := e0.get j; have f1 := e1.get j; have f2 := z0.1.getD j; have f3 := LN.1.le_tot j; have f4 := partN_le (p := fun q => q) (e := 0) (c := cc2) (fun q => by omega) a (by have := HC5.out.len; omega); have f5 := tot_take_le mo.1 a; rw [LN.2] at f3; rw [hyy] at f0 f1; omega
                  obtain ⟨y0, y1⟩ := YB
                  obtain ⟨a0, a1⟩ := mul_rng xa (show x ≤ 140737488355328 by omega) k0 (show o.kl ≤ 10000 by omega)
                  obtain ⟨b0, b1⟩ := mul_rng xa (show x ≤ 140737488355328 by omega) (show 0 ≤ o.kh by omega) k2
                  have pr := par_rng (o := o) xa k0 k1 k2
                  have pll : parLo o x = x * o.kl / 10000 := rfl
                  have phh : parHi o x = (x * o.kh + 9999) / 10000 := rfl
                  obtain ⟨qa, hqa⟩ : ∃ q, x * o.kl = q := ⟨_, rfl⟩
                  obtain ⟨qb, hqb⟩ : ∃ q, x * o.kh = q := ⟨_, rfl⟩
                  rw [hqa] at a0 a1 pll
                  rw [hqb] at b0 b1 phh
                  rw [pll, phh] at pr
                  have hwa : IntKind.i64.wrap (x * o.kl) = qa := by rw [hqa]; exact IntWalk.i64_in _ (by omega)
                  have hwb : IntKind.i64.wrap (x * o.kh) = qb := by rw [hqb]; exact IntWalk.i64_in _ (by omega)
                  rcases HBY.out with h0 | ⟨bB, oB, eB, lB, hcB⟩
                  · omega
                  obtain ⟨g8, em, ml⟩ : ∃ g : Nat, (z2 : Int) % (nB : Int) = g ∧ g < nB := ⟨((z2 : Int) % (nB : Int)).toNat, by have := Int.emod_nonneg (z2 : Int) (show (nB : Int) ≠ 0 by omega); omega, by have := Int.emod_nonneg (z2 : Int) (show (nB : Int) ≠ 0 by omega); have := Int.emod_lt_of_pos (z2 : Int) (show 0 < (nB : Int) by omega); omega⟩
                  have mli : (g8 : Int) < (nB : Int) := by omega
                  obtain ⟨bv, hbv⟩ : ∃ v, B g8 = v := ⟨_, rfl⟩
                  have xB := (HW5.out.cell (p := ⟨bB, oB + g8, none⟩) lB).trans (hcB g8 ml)
                  rw [hbv] at xB
                  have lB5 : bB < wr.heap.size := Nat.lt_of_lt_of_le lB HW5.out.size
                  have br := HBR.out g8 ml
                  rw [hbv] at br
                  obtain ⟨rm, hrm⟩ : ∃ r, bv % ((qb + 9999) / 10000 - qa / 10000 + 1) = r := ⟨_, rfl⟩
                  have rm0 : 0 ≤ rm := by rw [← hrm]; exact Int.emod_nonneg _ (by omega)
                  have rm1 : rm ≤ (qb + 9999) / 10000 - qa / 10000 := by have := Int.emod_lt_of_pos bv (show 0 < (qb + 9999) / 10000 - qa / 10000 + 1 by omega); omega
                  have dn : ¬ (nB : Int) = 0 := by omega
                  have dd : ¬ (qb + 9999) / 10000 - qa / 10000 + 1 = 0 := by omega
                  have HPX := Lib.hid (show parLo o (cc2.getD a 0) ≤ qa / 10000 + rm ∧ qa / 10000 + rm ≤ parHi o (cc2.getD a 0) by rw [hx, pll, phh]; omega)
                  have HHX := Lib.hid hx; have HHY := Lib.hid hyy; have HHJ := Lib.hid hj
                  have zb : z2 ≤ 352 := by omega
                  subst eB
                  clear hcR hcS eS hcB hbv pll phh hqa hqb hlo hlv xl mo xb hx hyy hj
                  go_wp2_with fail
                  refine wp_region_gw (by kernel_rfl) (by kernel_rfl) ?_
                  repeat (go_big_quiet_step (fail))
                  refine wpQuiet_nil ?_
                  rintro _ ⟨zq, rfl⟩
                  go_wp2_with fail
                  refine wp_region_gw2 (by kernel_rfl) (by kernel_rfl) ?_
                  repeat (go_big_quiet_step (fail))
                  refine wpQuiet_nil ?_
                  rintro _ ⟨zr, rfl⟩
                  go_wp2_with fail
                  refine wp_region_gw2 (by kernel_rfl) (by kernel_rfl) ?_
                  repeat (go_big_quiet_step (fail))
                  refine wpQuiet_nil ?_
                  rintro _ ⟨zs, rfl⟩
                  go_wp2_with fail
                  go_roundw
                  case rel =>
                    have HN2 := (HN.out.below (below_gw wr zs)).set j (yy + (qa / 10000 + rm)) hj2
                    rw [Nat.zero_add] at HN2
                    have HN3 : CelAt ((gw wr zs).setCell ⟨gn, j, none⟩ (.int .i64 (yy + (qa / 10000 + rm)))) gn 0 (lateX (fun q => if q = a then qa / 10000 + rm else X q) (a + 1)) := by rw [lateX_succ, HHJ.out, HHY.out]; exact HN2
                    have HR2 := Rw.set (gw wr zs) gn 0 j (.int .i64 (yy + (qa / 10000 + rm))) hj2
                    rw [Nat.zero_add] at HR2
                    exact ⟨a + 1, z2 + 1, fun q => if q = a then qa / 10000 + rm else X q, by omega, by go_num, by go_num, by omega, Lib.hid HN3, Lib.hid (fun q hq => by by_cases e : q = a; subst e; simp only [if_true]; exact HPX.out; simp only [e, if_false]; exact HX.out q (by omega)), Lib.hid ((HC5.out.below (below_gw wr zs)).other HR2 (.inl (by omega))), Lib.hid ((HW5.out.gw zs).grown HR2.g (by have := HW5.out.size; rw [gw_size]; omega) (fun b e => by cases e; omega))⟩
                  case measure => simp only [intOf]; omega
                · obtain rfl : a = 32 := by omega
                  obtain ⟨D, hD⟩ : ∃ D, lateX X 32 = D := ⟨_, rfl⟩
                  have LM := late_step MI.out HOB.out.2.2.1 HOB.out.2.2.2.1 HX.out hD HLO.out HHI.out
                  rw [← celAt_succ, ← celAt_succ] at LM
                  have LM := Lib.hid LM
                  rw [hD] at HN
                  clear hD
                  go_wp2_with fail
                  go_roundw
                  case rel => exact ⟨t + 1, gn, z2, 32, D, by omega, rfl, rfl, by go_num, by omega, gn4, HN, LM, HW5⟩
                  case measure => simp only [intOf]; omega
        · have HTM := Lib.hid (show t = m by omega)
          go_wp2_with fail
          refine (awake_any wr).mono ?_
          rintro e w9 ⟨rfl, hb⟩
          have HB9 := Lib.hid hb; clear hb
          have sw := HW.out.size
          have sb := HBW.out.size
          go_wp2_with fail
          go_ret
          exact ⟨rfl, (HBW.out.trans (HW.out.mono sb)).trans (HB9.out.mono (by omega))⟩
end Go.Proofs.Ytdcpgjepgajioaa
