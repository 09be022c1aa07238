/- Contracts of the reference's Sum over lots, Cheapest, Fewest. No conditions beyond each theorem's own. -/
import Derived.Test.YtdcpgjepgajioaaCg
set_option linter.unusedVariables false
set_option linter.unusedSimpArgs false
set_option linter.unusedSectionVars false
set_option linter.constructorNameAsVariable false
namespace Go.Proofs.Ytdcpgjepgajioaa
open Go.RowKit

attribute [local go_sem] gw_cell gw_frozen gw_size

theorem planL_len {M : Nat → Int} {nM : Nat} (h8 : ∀ i, i < nM → M i ≤ 8) : ∀ (h : Nat) (now : List Nat), now.length + h = nM → (planL M h now).length ≤ 9 ^ h
  | 0, now, _ => Nat.le_refl _
  | h + 1, now, hn => by
    have step : ∀ n, (planN M h now n).length ≤ n * 9 ^ h := fun n => by
      induction n with
      | zero => exact Nat.zero_le _
      | succ n ih =>
        rw [planN_succ, List.length_append, Nat.succ_mul]
        have := planL_len h8 h (now ++ [n]) (by simp; omega)
        omega
    have := step (M now.length + 1).toNat
    have m8 := h8 now.length (by omega)
    show (planN M h now (M now.length + 1).toNat).length ≤ 9 ^ (h + 1)
    have : (M now.length + 1).toNat * 9 ^ h ≤ 9 * 9 ^ h := Nat.mul_le_mul_right _ (by omega)
    rw [Nat.pow_succ, Nat.mul_comm (9 ^ h) 9]
    omega
theorem planL_max {M : Nat → Int} {nM : Nat} (h8 : ∀ i, i < nM → M i ≤ 8) (h10 : nM ≤ 10) : (planL M nM []).length ≤ 3486784401 := by
  have a := planL_len h8 nM [] (by simp)
  have b : 9 ^ nM ≤ 9 ^ 10 := Nat.pow_le_pow_right (by decide) h10
  omega
theorem plan_get {M : Nat → Int} {nM k : Nat} (hk : k < (planL M nM []).length) : ((planL M nM []).getD k []).length = nM ∧ ∀ t, t < nM → lotF ((planL M nM []).getD k []) t ≤ M t := by
  have hm : (planL M nM []).getD k [] ∈ planL M nM [] := by rw [List.getD_eq_getElem?_getD, List.getElem?_eq_getElem hk]; exact List.getElem_mem hk
  obtain ⟨r, e, h1, h2⟩ := mem_plan nM hm
  rw [e] at h2 ⊢
  exact ⟨by simpa using h1, fun t ht => h2 t (Nat.zero_le _) (by simpa using ht)⟩
theorem costN_one {L : Nat → Int} {m : Nat} (hl : ∀ i, i < m → 0 ≤ L i ∧ L i ≤ 8) : ∀ k, k ≤ m → 0 ≤ costN (fun _ => 1) L k ∧ costN (fun _ => 1) L k ≤ k * 8
  | 0, _ => ⟨Int.le_refl _, Int.le_refl _⟩
  | k + 1, h => by
    obtain ⟨a, b⟩ := costN_one hl k (by omega)
    have d := hl k (by omega)
    show 0 ≤ costN (fun _ => 1) L k + 1 * L k ∧ costN (fun _ => 1) L k + 1 * L k ≤ _
    push_cast
    omega
theorem PList.out {V : World} {base c : Nat} {a : Option Addr} {P : List (List Nat)} (h : PList V base a c P) : ∃ (rA : Nat → Option Addr) (rC : Nat → Nat), CellsAt V a P.length (fun t => .slice (rA t) (P.getD t []).length (rC t)) ∧ ∀ t, t < P.length → IntsAt V (rA t) (P.getD t []).length (lotF (P.getD t [])) := by
  obtain ⟨rA, rC, h1, h2⟩ := h
  refine ⟨rA, rC, ?_, fun t ht => (h2 t ht).ints⟩
  rcases h1.2 with ⟨_, h0⟩ | ⟨g, cap, cur, hv, _, hg, _⟩
  · exact .inl h0
  · simp only [Value.slice.injEq] at hv
    obtain ⟨rfl, _, rfl⟩ := hv
    refine .inr ⟨g, 0, rfl, (Array.getElem?_eq_some_iff.1 hg).1, fun i hi => ?_⟩
    have := h1.cells (g := g) rfl i (.slice (rA i) (P.getD i []).length (rC i)) (by simp [plV, hi])
    rw [addr_add] at this
    exact this

set_option maxRecDepth 100000 in
set_option maxHeartbeats 4000000 in
theorem rsumI_any (aL : Option Addr) (m cL : Nat) (L : Nat → Int) (w : World) (hL : IntsAt w aL m L) (hm2 : m ≤ 16) (hl : ∀ i, i < m → 0 ≤ L i ∧ L i ≤ 8) :
    Calls Try.prog 25 #[.slice aL m cL] w fun e w' => e = .returned (.int .i64 (costN (fun _ => 1) L m)) ∧ Below w.heap.size w w' := by
  have HL := Lib.hid hL
  have HC := Lib.hid (costN_one hl)
  have HLL := Lib.hid hl
  clear hL hl
  go_enter Try.func25, Try.ntmps25
  go_wp2_with fail
  go_loopw [3, 4] (fun n i wr => ∃ k : Nat, k ≤ m ∧ n = .int .i64 (costN (fun _ => 1) L k) ∧ i = .int .i64 (k : Int) ∧ Hid (Below w.heap.size w wr)) (fun _ i _ => m - (intOf i).toNat)
  case atStart => exact ⟨0, Nat.zero_le _, rfl, rfl, Lib.hid (Below.refl _ _)⟩
  case round =>
    obtain ⟨k, hk, rfl, rfl, HB⟩ := hrel
    by_cases hlt : k < m
    · rcases HL.out with h0 | ⟨b, off, ea, lb, hc⟩
      · omega
      have x1 := (HB.out.cell (p := ⟨b, off + k, none⟩) lb).trans (hc k hlt)
      have l1 : b < wr.heap.size := Nat.lt_of_lt_of_le lb HB.out.size
      have r0 := HC.out k hk
      have r1 := HLL.out k hlt
      have e1 : costN (fun _ => 1) L (k + 1) = costN (fun _ => 1) L k + L k := by show costN (fun _ => 1) L k + 1 * L k = _; rw [Int.one_mul]
      have HE := Lib.hid e1
      have hk1 : (k : Int) < (m : Int) := by omega
      have hw2 : IntKind.i64.wrap (costN (fun _ => 1) L k + L k) = costN (fun _ => 1) L k + L k := IntWalk.i64_in _ (by omega)
      subst ea
      clear hc e1
      go_wp2_with fail
      go_roundw
      case rel => exact ⟨k + 1, by omega, by rw [HE.out], by go_num, HB⟩
      case measure => simp [intOf]; omega
    · obtain rfl : k = m := by omega
      go_wp2_with fail
      go_ret
      exact ⟨rfl, HB.out⟩

def lvF : St → Int
  | none => -1
  | some x => x.2

set_option maxRecDepth 100000 in
set_option maxHeartbeats 16000000 in
theorem rCheapest_any (o : Otl) (y : Lyg) (w : World) (hO : o.In w) (hfo : o.Fits) (hY : y.In w) (hfy : y.Fits) :
    Calls Try.prog 18 #[o.val, y.val] w fun e w' => ∃ a c, e = .returned (.tuple #[.slice a (chL o y y.R).length c, .int .i64 (chS o y y.R), .int .i64 (chE o y y.R)]) ∧ IntsAt w' a (chL o y y.R).length (lotF (chL o y y.R)) ∧ Below w.heap.size w w' := by
  unfold Otl.val Lyg.val
  obtain ⟨W1, hW1⟩ : ∃ W1, (w.alloc (.cells #[.slice o.aS o.nS o.cS, .int .i64 o.kl, .int .i64 o.kh, .slice o.aA o.nA o.cA, .slice o.aP o.nP o.cP] 27)).alloc (.cells #[.slice y.aR y.nR y.cR, .slice y.aM y.nM y.cM, .int .i64 y.lot, .int .i64 y.room] 29) = W1 := ⟨_, rfl⟩
  have hBc : Below w.heap.size w W1 := by rw [← hW1]; exact (below_alloc _ _).alloc (by simp) _
  have zc0 : W1.heap[w.heap.size]? = some (.cells #[.slice o.aS o.nS o.cS, .int .i64 o.kl, .int .i64 o.kh, .slice o.aA o.nA o.cA, .slice o.aP o.nP o.cP] 27 (0, 0)) := by rw [← hW1]; exact alloc_keep (alloc_at rfl)
  have zc1 : W1.heap[w.heap.size + 1]? = some (.cells #[.slice y.aR y.nR y.cR, .slice y.aM y.nM y.cM, .int .i64 y.lot, .int .i64 y.room] 29 (0, 0)) := by rw [← hW1]; exact alloc_at (by simp)
  have c00 : W1.cell? ⟨w.heap.size, 0, none⟩ = some (.slice o.aS o.nS o.cS) := cell_of_block zc0 0 (by simp)
  have c01 : W1.cell? ⟨w.heap.size, 1, none⟩ = some (.int .i64 o.kl) := cell_of_block zc0 1 (by simp)
  have c02 : W1.cell? ⟨w.heap.size, 2, none⟩ = some (.int .i64 o.kh) := cell_of_block zc0 2 (by simp)
  have c03 : W1.cell? ⟨w.heap.size, 3, none⟩ = some (.slice o.aA o.nA o.cA) := cell_of_block zc0 3 (by simp)
  have c04 : W1.cell? ⟨w.heap.size, 4, none⟩ = some (.slice o.aP o.nP o.cP) := cell_of_block zc0 4 (by simp)
  have c10 : W1.cell? ⟨w.heap.size + 1, 0, none⟩ = some (.slice y.aR y.nR y.cR) := cell_of_block zc1 0 (by simp)
  have c11 : W1.cell? ⟨w.heap.size + 1, 1, none⟩ = some (.slice y.aM y.nM y.cM) := cell_of_block zc1 1 (by simp)
  have c12 : W1.cell? ⟨w.heap.size + 1, 2, none⟩ = some (.int .i64 y.lot) := cell_of_block zc1 2 (by simp)
  have c13 : W1.cell? ⟨w.heap.size + 1, 3, none⟩ = some (.int .i64 y.room) := cell_of_block zc1 3 (by simp)
  have lc0 := (Array.getElem?_eq_some_iff.1 zc0).1
  have lc1 := (Array.getElem?_eq_some_iff.1 zc1).1
  have Zc0 := Lib.hid zc0
  have Zc1 := Lib.hid zc1
  clear zc0 zc1
  have HBc := Lib.hid hBc; clear hBc
  have HWc := Lib.hid hW1; clear hW1
  have HO := Lib.hid (hO.below HBc.out)
  have HY := Lib.hid (hY.below HBc.out)
  have OL' := Lib.hid (fun W (hb : Below W1.heap.size W1 W) => rOutlook_any o W (HO.out.below hb) hfo)
  have HF := Lib.hid hfo
  have HFY := Lib.hid hfy
  clear hO hY hfo hfy
  unfold Otl.val at OL'
  cases e1 : outB o
  · have E1 := Lib.hid e1; clear e1
    rw [E1.out] at OL'
    go_enter Try.func18, Try.ntmps18
    go_upto_region 1 with (fail)
    rw [HWc.out]
    go_wp2_with fail
    refine (Calls.grown (OL'.out W1 (Below.refl _ _))).mono ?_
    rintro e w1 ⟨rfl, z1, rfl⟩
    go_wp2_with fail
    obtain ⟨q1, q2, q3⟩ := ch_arg (o := o) (y := y) (wt := y.R) (by rw [E1.out]; simp)
    rw [q1, q2, q3]
    refine bodyPost_ret (v := .tuple #[.slice none 0 0, .int .i64 0, .int .i64 1]) (by simp [results, Try.results18, go_sem, *]) rfl ?_
    exact ⟨none, 0, rfl, .inl rfl, HBc.out.gw z1⟩
  have E1 := Lib.hid e1; clear e1
  rw [E1.out] at OL'
  have LY' := Lib.hid (fun W (hb : Below W1.heap.size W1 W) => rLaying_any o y W (HO.out.below hb) (by have := outB_t E1.out; omega) (HF.out.pN 0 (by have := outB_t E1.out; omega)) (HY.out.below hb) HFY.out)
  unfold Otl.val Lyg.val at LY'
  cases e2 : layB o y
  · have E2 := Lib.hid e2; clear e2
    rw [E2.out] at LY'
    go_enter Try.func18, Try.ntmps18
    go_upto_region 1 with (fail)
    rw [HWc.out]
    go_wp2_with fail
    refine (Calls.grown (OL'.out W1 (Below.refl _ _))).mono ?_
    rintro e w1 ⟨rfl, z1, rfl⟩
    go_wp2_with fail
    refine (Calls.gw_of (LY'.out _ (below_gw W1 z1))).mono ?_
    rintro e w1 ⟨rfl, z2, rfl⟩
    go_wp2_with fail
    obtain ⟨q1, q2, q3⟩ := ch_arg (o := o) (y := y) (wt := y.R) (by rw [E2.out]; simp)
    rw [q1, q2, q3]
    refine bodyPost_ret (v := .tuple #[.slice none 0 0, .int .i64 0, .int .i64 1]) (by simp [results, Try.results18, go_sem, *]) rfl ?_
    exact ⟨none, 0, rfl, .inl rfl, HBc.out.gw z2⟩
  have E2 := Lib.hid e2; clear e2
  rw [E2.out] at LY'
  have LB := layB_t E2.out
  have nM10 : y.nM ≤ 10 := by have a := (outB_t E1.out).2.2.2.2.2.2.2.2; have := (a.2 0 (by omega)).2.1; have := LB.2.1; omega
  have M8 := Lib.hid LB.2.2.2.1
  have R8 := Lib.hid LB.2.2.1
  have nRM := Lib.hid (show y.nR = y.nM by have := LB.1; have := LB.2.1; omega)
  clear LB
  have HFB := Lib.hid (show findF o y y.R = _ from find_best E1.out E2.out (fun t ht => (R8.out t (by rw [nRM.out]; exact ht)).1))
  have PM := planL_max (fun i hi => (M8.out i hi).2) nM10
  have PG := Lib.hid (fun k hk => plan_get (M := y.M) (nM := y.nM) (k := k) hk)
  obtain ⟨P, hPe⟩ : ∃ P, planL y.M y.nM [] = P := ⟨_, rfl⟩
  have PA := fun z => plans_any (gw W1 z) y (HY.out.below (below_gw W1 z)) nM10 (fun i hi => M8.out i hi) y.nM [] none 0 none 0 [] (gw W1 z) (by simp) (PList.nil _ _) (.inl rfl) (Below.refl _ _) (by simp; omega)
  rw [hPe] at HFB PM PG
  simp only [hPe, List.nil_append, List.length_nil] at PA
  obtain ⟨n, hn⟩ : ∃ n, P.length = n := ⟨_, rfl⟩
  rw [hn] at PM
  simp only [hn] at PA PG
  have HNL := Lib.hid hn
  have PA := Lib.hid PA
  clear hn hPe
  unfold Lyg.val at PA
  have AND := Lib.hid (show outB o = true ∧ layB o y = true from ⟨E1.out, E2.out⟩)
  go_enter Try.func18, Try.ntmps18
  go_upto_region 1 with (fail)
  rw [HWc.out]
  go_wp2_with fail
  refine (Calls.grown (OL'.out W1 (Below.refl _ _))).mono ?_
  rintro e w1 ⟨rfl, z1, rfl⟩
  go_wp2_with fail
  refine (Calls.gw_of (LY'.out _ (below_gw W1 z1))).mono ?_
  rintro e w1 ⟨rfl, z2, rfl⟩
  go_wp2_with fail
  refine (PA.out z2).mono ?_
  rintro e w2 ⟨aP, cP, rfl, hp, hg, -⟩
  have hb := thru (grownBy_below hg) (below_gw W1 z2)
  obtain ⟨z3, rfl⟩ := gw_of_below hb
  obtain ⟨rA, rC, hcl, hrw⟩ := hp.out
  rw [HNL.out] at hcl hrw
  have HCL := Lib.hid hcl; have HRW := Lib.hid hrw
  clear hp hg hb hcl hrw PA
  obtain ⟨W2, hW2⟩ : ∃ W2, gw W1 z3 = W2 := ⟨_, rfl⟩
  have HB2 := Lib.hid (show Below W1.heap.size W1 W2 by rw [← hW2]; exact below_gw W1 z3)
  rw [hW2] at HCL HRW ⊢
  clear hW2
  go_wp2_with fail
  clear c00 c01 c02 c03 c04 c10 c11 c12 c13
  go_loopw [8, 9, 10] (fun s8 s9 s10 wr => ∃ (k : Nat) (ab : Option Addr) (nb cb : Nat), k ≤ n ∧ s10 = .int .i64 (k : Int) ∧ s8 = .slice ab nb cb ∧ (∃ lv : Int, s9 = .int .i64 lv ∧ Hid (lv = lvF (bestN (keepB o y) (costW y.R) P k))) ∧ Hid (nb = (stL (bestN (keepB o y) (costW y.R) P k)).length) ∧ Hid (IntsAt wr ab nb (lotF (stL (bestN (keepB o y) (costW y.R) P k)))) ∧ Hid (Below W2.heap.size W2 wr)) (fun _ _ s10 _ => n - (intOf s10).toNat)
  case atStart => exact ⟨0, none, 0, 0, Nat.zero_le _, rfl, rfl, ⟨_, rfl, Lib.hid rfl⟩, Lib.hid rfl, Lib.hid (.inl rfl), Lib.hid (Below.refl _ _)⟩
  case round =>
    obtain ⟨k, ab, nb, cb, hk, rfl, rfl, ⟨lv, rfl, HV⟩, HNB, HAB, HW⟩ := hrel
    obtain ⟨V, rfl⟩ : ∃ V : World, V = wr := ⟨_, rfl⟩
    have HBV := Lib.hid (thru HW.out HB2.out)
    have b0 := Lib.hid ((HBV.out.block _ lc0).trans Zc0.out)
    have b1 := Lib.hid ((HBV.out.block _ lc1).trans Zc1.out)
    have x00 : V.cell? ⟨w.heap.size, 0, none⟩ = some (.slice o.aS o.nS o.cS) := cell_of_block b0.out 0 (by simp)
    have x01 : V.cell? ⟨w.heap.size, 1, none⟩ = some (.int .i64 o.kl) := cell_of_block b0.out 1 (by simp)
    have x02 : V.cell? ⟨w.heap.size, 2, none⟩ = some (.int .i64 o.kh) := cell_of_block b0.out 2 (by simp)
    have x03 : V.cell? ⟨w.heap.size, 3, none⟩ = some (.slice o.aA o.nA o.cA) := cell_of_block b0.out 3 (by simp)
    have x04 : V.cell? ⟨w.heap.size, 4, none⟩ = some (.slice o.aP o.nP o.cP) := cell_of_block b0.out 4 (by simp)
    have x10 : V.cell? ⟨w.heap.size + 1, 0, none⟩ = some (.slice y.aR y.nR y.cR) := cell_of_block b1.out 0 (by simp)
    have x11 : V.cell? ⟨w.heap.size + 1, 1, none⟩ = some (.slice y.aM y.nM y.cM) := cell_of_block b1.out 1 (by simp)
    have x12 : V.cell? ⟨w.heap.size + 1, 2, none⟩ = some (.int .i64 y.lot) := cell_of_block b1.out 2 (by simp)
    have x13 : V.cell? ⟨w.heap.size + 1, 3, none⟩ = some (.int .i64 y.room) := cell_of_block b1.out 3 (by simp)
    have lx0 := (Array.getElem?_eq_some_iff.1 b0.out).1
    have lx1 := (Array.getElem?_eq_some_iff.1 b1.out).1
    obtain ⟨st, hst⟩ : ∃ st, bestN (keepB o y) (costW y.R) P k = st := ⟨_, rfl⟩
    rw [hst] at HV HNB HAB
    have HST := Lib.hid hst; clear hst
    have HSP := Lib.hid (show ∀ x, st = some x → x.2 = costW y.R x.1 ∧ x.1 ∈ P from fun x hx => by have h := (bestF_spec (ok := keepB o y) (cost := costW y.R) (P.take k) none (fun x h => by cases h)).1 x (by rw [← hx]; exact HST.out); exact ⟨h.1, by rcases h.2.1 with h2 | h2; cases h2; exact List.mem_of_mem_take h2.1⟩)
    have HPX := Lib.hid (show ∀ x, st = some x → x.1.length = y.nM ∧ ∀ t, t < y.nM → lotF x.1 t ≤ y.M t from fun x hx => by obtain ⟨j, hj, he⟩ := List.getElem_of_mem (HSP.out x hx).2; have g := PG.out j (by rw [← HNL.out]; exact hj); rw [List.getD_eq_getElem?_getD, List.getElem?_eq_getElem hj, Option.getD_some, he] at g; exact g)
    by_cases hlt : k < n
    · have hk1 : (k : Int) < (n : Int) := by omega
      have HPL := PG.out k hlt
      obtain ⟨p, hp⟩ : ∃ p, P.getD k [] = p := ⟨_, rfl⟩
      rw [hp] at HPL
      have hpn := HPL.1
      rcases HCL.out with h0 | ⟨bP, oP, eP, lP, hcP⟩
      · omega
      have x2 := (HW.out.cell (p := ⟨bP, oP + k, none⟩) lP).trans (hcP k hlt)
      dsimp only at x2
      rw [hp, hpn] at x2
      have l2 : bP < V.heap.size := Nat.lt_of_lt_of_le lP HW.out.size
      have hIP := (HRW.out k hlt)
      rw [hp, hpn] at hIP
      have HIP := Lib.hid (hIP.below HW.out)
      have HLV := Lib.hid (show ∀ t, t < y.nM → 0 ≤ lotF p t ∧ lotF p t ≤ 8 from fun t ht => ⟨lotF_pos _ _, Int.le_trans (HPL.2 t ht) (M8.out t ht).2⟩)
      have HE3 := Lib.hid (show lotsB y y.nM (lotF p) = true from by unfold lotsB; rw [allB_t.2 (fun t ht => inB_t.2 ⟨lotF_pos _ _, HPL.2 t ht⟩)]; simp)
      obtain ⟨cp, hcp⟩ : ∃ cp, costW y.R p = cp := ⟨_, rfl⟩
      have hcp2 : costN y.R (lotF p) y.nM = cp := by rw [← hcp]; unfold costW; rw [hpn]
      have rg := costN_rng (R := y.R) (m := y.nM) (fun i hi => R8.out i (by have := nRM.out; omega)) HLV.out y.nM (Nat.le_refl _)
      rw [hcp2] at rg
      have RC := fun z => rcost_any y (rA k) y.nM (rC k) (lotF p) (gw V z) (HY.out.below (thru (below_gw V z) HBV.out)) (HIP.out.below (below_gw V z)) (by have := nRM.out; omega) (by omega) (fun i hi => R8.out i (by have := nRM.out; omega)) HLV.out
      simp only [hcp2] at RC
      have RK := fun z => rkeeps_any o y (rA k) y.nM (rC k) (lotF p) (gw V z) (HO.out.below (thru (below_gw V z) HBV.out)) (HY.out.below (thru (below_gw V z) HBV.out)) (HIP.out.below (below_gw V z)) E1.out E2.out HE3.out
      unfold KeepsEnd at RK
      obtain ⟨k1, hk1⟩ : ∃ k1, keepsP o y y.nM (lotF p) = k1 := ⟨_, rfl⟩
      obtain ⟨k2, hk2⟩ : ∃ k2, keepsY o y y.nM (lotF p) = k2 := ⟨_, rfl⟩
      obtain ⟨ev, hev⟩ : ∃ ev, keepsE o y y.nM (lotF p) = ev := ⟨_, rfl⟩
      simp only [hk1, hk2, hev] at RK
      have HKB := Lib.hid (show keepB o y p = decide (ev = 0) by unfold keepB; rw [hpn, hev])
      unfold Otl.val Lyg.val at RK
      unfold Lyg.val at RC
      have RC := Lib.hid RC; have RK := Lib.hid RK
      have HSU := Lib.hid (show bestN (keepB o y) (costW y.R) P (k + 1) = bestS (keepB o y) (costW y.R) st p by rw [bestN_succ (by rw [HNL.out]; exact hlt), HST.out, hp])
      have HCP := Lib.hid hcp
      have HPN := Lib.hid hpn
      have HLT := Lib.hid hlt
      subst eP
      clear hcP hIP HPL hp hcp hcp2 hk2 hev hpn hlt
      cases st with
      | none =>
        have hlv : lv = -1 := HV.out
        have HV2 := HV
        clear HV
        subst hlv
        have HV := HV2
        have HSK := Lib.hid (show stopB cp none = false from rfl)
        go_wp2_with fail
        refine wp_region_gw (by kernel_rfl) (by kernel_rfl) ?_
        repeat (go_big_quiet_step (fail))
        refine wpQuiet_nil ?_
        rintro _ ⟨z4, rfl⟩
        have HSK2 := Lib.hid (show bestN (keepB o y) (costW y.R) P (k + 1) = if keepB o y p = true then some (p, cp) else none by rw [HSU.out]; unfold bestS; rw [HCP.out, if_neg (by rw [HSK.out]; decide)])
        by_cases he : ev = 0
        · have d0 : (ev == 0) = true := by simp [he]
          have HN := Lib.hid (HSK2.out.trans (if_pos (by rw [HKB.out]; simp [he])))
          have HE := Lib.hid he; clear he
          go_wp2_with fail
          refine wp_region_gw2 (by kernel_rfl) (by kernel_rfl) ?_
          repeat (go_big_quiet_step (exact Calls.gw_of (RK.out _)))
          refine wpQuiet_nil ?_
          rintro _ ⟨z5, rfl⟩
          go_wp2_with fail
          refine wp_region_gw2 (by kernel_rfl) (by kernel_rfl) ?_
          repeat (go_big_quiet_step (exact Calls.gw_of (RC.out _)))
          refine wpQuiet_nil ?_
          rintro _ ⟨z6, rfl⟩
          go_wp2_with fail
          go_roundw
          case rel => exact ⟨k + 1, rA k, y.nM, rC k, HLT.out, by have := HLT.out; go_num, rfl, ⟨cp, rfl, Lib.hid (by rw [HN.out]; rfl)⟩, Lib.hid (by rw [HN.out]; exact HPN.out.symm), Lib.hid (by rw [HN.out]; exact HIP.out.below (below_gw V z6)), Lib.hid (HW.out.gw z6)⟩
          case measure => have := HLT.out; simp only [intOf]; omega
        · have d0 : (ev == 0) = false := by simp [he]
          have HN := Lib.hid (HSK2.out.trans (if_neg (by rw [HKB.out]; simp [he])))
          clear he
          go_wp2_with fail
          refine wp_region_gw2 (by kernel_rfl) (by kernel_rfl) ?_
          repeat (go_big_quiet_step (exact Calls.gw_of (RK.out _)))
          refine wpQuiet_nil ?_
          rintro _ ⟨z5, rfl⟩
          go_wp2_with fail
          go_roundw
          case rel => exact ⟨k + 1, ab, nb, cb, HLT.out, by have := HLT.out; go_num, rfl, ⟨(-1), rfl, Lib.hid (by rw [HN.out]; exact HV.out)⟩, Lib.hid (by rw [HN.out]; exact HNB.out), Lib.hid (by rw [HN.out]; exact HAB.out.below (below_gw V z5)), Lib.hid (HW.out.gw z5)⟩
          case measure => have := HLT.out; simp only [intOf]; omega
      | some x =>
        have hlv : lv = x.2 := HV.out
        have hx0 : 0 ≤ lv := by rw [hlv, (HSP.out x rfl).1]; exact (costN_rng (R := y.R) (m := x.1.length) (fun i hi => R8.out i (by have := (HPX.out x rfl).1; have := nRM.out; omega)) (fun i hi => ⟨lotF_pos _ _, Int.le_trans ((HPX.out x rfl).2 i (by have := (HPX.out x rfl).1; omega)) (M8.out i (by have := (HPX.out x rfl).1; omega)).2⟩) x.1.length (Nat.le_refl _)).1
        have d9 : decide (0 ≤ lv) = true := by simpa using hx0
        by_cases hs : lv ≤ cp
        · have d8 : decide (lv ≤ cp) = true := by simpa using hs
          have HN := Lib.hid (show bestN (keepB o y) (costW y.R) P (k + 1) = some x by rw [HSU.out]; unfold bestS; rw [HCP.out, if_pos (by simp only [stopB, decide_eq_true_eq]; omega)])
          have HLX := Lib.hid hlv; clear hlv hs hx0
          go_wp2_with fail
          refine wp_region_gw (by kernel_rfl) (by kernel_rfl) ?_
          repeat (go_big_quiet_step (exact Calls.gw_of (RC.out _)))
          refine wpQuiet_nil ?_
          rintro _ ⟨z4, rfl⟩
          go_wp2_with fail
          go_roundw
          case rel => exact ⟨k + 1, ab, nb, cb, HLT.out, by have := HLT.out; go_num, rfl, ⟨lv, rfl, Lib.hid (by rw [HN.out]; exact HV.out)⟩, Lib.hid (by rw [HN.out]; exact HNB.out), Lib.hid (by rw [HN.out]; exact HAB.out.below (below_gw V z4)), Lib.hid (HW.out.gw z4)⟩
          case measure => have := HLT.out; simp only [intOf]; omega
        · have d8 : decide (lv ≤ cp) = false := by simpa using hs
          have HSK := Lib.hid (show stopB cp (some x) = false by simp only [stopB, decide_eq_false_iff_not]; omega)
          clear hlv hs hx0
          go_wp2_with fail
          refine wp_region_gw (by kernel_rfl) (by kernel_rfl) ?_
          repeat (go_big_quiet_step (exact Calls.gw_of (RC.out _)))
          refine wpQuiet_nil ?_
          rintro _ ⟨z4, rfl⟩
          have HSK2 := Lib.hid (show bestN (keepB o y) (costW y.R) P (k + 1) = if keepB o y p = true then some (p, cp) else (some x) by rw [HSU.out]; unfold bestS; rw [HCP.out, if_neg (by rw [HSK.out]; decide)])
          by_cases he : ev = 0
          · have d0 : (ev == 0) = true := by simp [he]
            have HN := Lib.hid (HSK2.out.trans (if_pos (by rw [HKB.out]; simp [he])))
            have HE := Lib.hid he; clear he
            go_wp2_with fail
            refine wp_region_gw2 (by kernel_rfl) (by kernel_rfl) ?_
            repeat (go_big_quiet_step (exact Calls.gw_of (RK.out _)))
            refine wpQuiet_nil ?_
            rintro _ ⟨z5, rfl⟩
            go_wp2_with fail
            refine wp_region_gw2 (by kernel_rfl) (by kernel_rfl) ?_
            repeat (go_big_quiet_step (exact Calls.gw_of (RC.out _)))
            refine wpQuiet_nil ?_
            rintro _ ⟨z6, rfl⟩
            go_wp2_with fail
            go_roundw
            case rel => exact ⟨k + 1, rA k, y.nM, rC k, HLT.out, by have := HLT.out; go_num, rfl, ⟨cp, rfl, Lib.hid (by rw [HN.out]; rfl)⟩, Lib.hid (by rw [HN.out]; exact HPN.out.symm), Lib.hid (by rw [HN.out]; exact HIP.out.below (below_gw V z6)), Lib.hid (HW.out.gw z6)⟩
            case measure => have := HLT.out; simp only [intOf]; omega
          · have d0 : (ev == 0) = false := by simp [he]
            have HN := Lib.hid (HSK2.out.trans (if_neg (by rw [HKB.out]; simp [he])))
            clear he
            go_wp2_with fail
            refine wp_region_gw2 (by kernel_rfl) (by kernel_rfl) ?_
            repeat (go_big_quiet_step (exact Calls.gw_of (RK.out _)))
            refine wpQuiet_nil ?_
            rintro _ ⟨z5, rfl⟩
            go_wp2_with fail
            go_roundw
            case rel => exact ⟨k + 1, ab, nb, cb, HLT.out, by have := HLT.out; go_num, rfl, ⟨lv, rfl, Lib.hid (by rw [HN.out]; exact HV.out)⟩, Lib.hid (by rw [HN.out]; exact HNB.out), Lib.hid (by rw [HN.out]; exact HAB.out.below (below_gw V z5)), Lib.hid (HW.out.gw z5)⟩
            case measure => have := HLT.out; simp only [intOf]; omega
    · have hkn : k = n := by omega
      have HKN := Lib.hid (show findF o y y.R = st by rw [HFB.out, ← bestN_all, HNL.out, ← hkn]; exact HST.out); clear hkn
      cases st with
      | none =>
        have hlv : lv = -1 := HV.out
        subst hlv
        go_wp2_with fail
        obtain ⟨q1, q2, q3⟩ := ch_none AND.out HKN.out
        rw [q1, q2, q3]
        refine bodyPost_ret (v := .tuple #[.slice none 0 0, .int .i64 0, .int .i64 4]) (by simp [results, Try.results18, go_sem, *]) rfl ?_
        exact ⟨none, 0, rfl, .inl rfl, HBc.out.trans (HBV.out.mono HBc.out.size)⟩
      | some x =>
        have hlv : lv = x.2 := HV.out
        have hx0 : 0 ≤ lv := by rw [hlv, (HSP.out x rfl).1]; exact (costN_rng (R := y.R) (m := x.1.length) (fun i hi => R8.out i (by have := (HPX.out x rfl).1; have := nRM.out; omega)) (fun i hi => ⟨lotF_pos _ _, Int.le_trans ((HPX.out x rfl).2 i (by have := (HPX.out x rfl).1; omega)) (M8.out i (by have := (HPX.out x rfl).1; omega)).2⟩) x.1.length (Nat.le_refl _)).1
        have d9 : decide (lv < 0) = false := by simpa using hx0
        have HLX := Lib.hid hlv; clear hlv hx0
        go_wp2_with fail
        obtain ⟨q1, q2, q3⟩ := ch_some AND.out HKN.out
        rw [q1, q2, q3]
        have hnb : nb = x.1.length := HNB.out
        have hab : IntsAt V ab nb (lotF x.1) := HAB.out
        rw [← HLX.out]
        rw [← hnb]
        refine bodyPost_ret (v := .tuple #[.slice ab nb cb, .int .i64 lv, .int .i64 0]) (by simp [results, Try.results18, go_sem, *]) rfl ?_
        exact ⟨ab, cb, rfl, hab, HBc.out.trans (HBV.out.mono HBc.out.size)⟩

set_option maxRecDepth 100000 in
set_option maxHeartbeats 16000000 in
theorem rFewest_any (o : Otl) (y : Lyg) (w : World) (hO : o.In w) (hfo : o.Fits) (hY : y.In w) (hfy : y.Fits) :
    Calls Try.prog 20 #[o.val, y.val] w fun e w' => ∃ a c, e = .returned (.tuple #[.slice a (chL o y (fun _ => 1)).length c, .int .i64 (chE o y (fun _ => 1))]) ∧ IntsAt w' a (chL o y (fun _ => 1)).length (lotF (chL o y (fun _ => 1))) ∧ Below w.heap.size w w' := by
  unfold Otl.val Lyg.val
  obtain ⟨W1, hW1⟩ : ∃ W1, (w.alloc (.cells #[.slice o.aS o.nS o.cS, .int .i64 o.kl, .int .i64 o.kh, .slice o.aA o.nA o.cA, .slice o.aP o.nP o.cP] 27)).alloc (.cells #[.slice y.aR y.nR y.cR, .slice y.aM y.nM y.cM, .int .i64 y.lot, .int .i64 y.room] 29) = W1 := ⟨_, rfl⟩
  have hBc : Below w.heap.size w W1 := by rw [← hW1]; exact (below_alloc _ _).alloc (by simp) _
  have zc0 : W1.heap[w.heap.size]? = some (.cells #[.slice o.aS o.nS o.cS, .int .i64 o.kl, .int .i64 o.kh, .slice o.aA o.nA o.cA, .slice o.aP o.nP o.cP] 27 (0, 0)) := by rw [← hW1]; exact alloc_keep (alloc_at rfl)
  have zc1 : W1.heap[w.heap.size + 1]? = some (.cells #[.slice y.aR y.nR y.cR, .slice y.aM y.nM y.cM, .int .i64 y.lot, .int .i64 y.room] 29 (0, 0)) := by rw [← hW1]; exact alloc_at (by simp)
  have c00 : W1.cell? ⟨w.heap.size, 0, none⟩ = some (.slice o.aS o.nS o.cS) := cell_of_block zc0 0 (by simp)
  have c01 : W1.cell? ⟨w.heap.size, 1, none⟩ = some (.int .i64 o.kl) := cell_of_block zc0 1 (by simp)
  have c02 : W1.cell? ⟨w.heap.size, 2, none⟩ = some (.int .i64 o.kh) := cell_of_block zc0 2 (by simp)
  have c03 : W1.cell? ⟨w.heap.size, 3, none⟩ = some (.slice o.aA o.nA o.cA) := cell_of_block zc0 3 (by simp)
  have c04 : W1.cell? ⟨w.heap.size, 4, none⟩ = some (.slice o.aP o.nP o.cP) := cell_of_block zc0 4 (by simp)
  have c10 : W1.cell? ⟨w.heap.size + 1, 0, none⟩ = some (.slice y.aR y.nR y.cR) := cell_of_block zc1 0 (by simp)
  have c11 : W1.cell? ⟨w.heap.size + 1, 1, none⟩ = some (.slice y.aM y.nM y.cM) := cell_of_block zc1 1 (by simp)
  have c12 : W1.cell? ⟨w.heap.size + 1, 2, none⟩ = some (.int .i64 y.lot) := cell_of_block zc1 2 (by simp)
  have c13 : W1.cell? ⟨w.heap.size + 1, 3, none⟩ = some (.int .i64 y.room) := cell_of_block zc1 3 (by simp)
  have lc0 := (Array.getElem?_eq_some_iff.1 zc0).1
  have lc1 := (Array.getElem?_eq_some_iff.1 zc1).1
  have Zc0 := Lib.hid zc0
  have Zc1 := Lib.hid zc1
  clear zc0 zc1
  have HBc := Lib.hid hBc; clear hBc
  have HWc := Lib.hid hW1; clear hW1
  have HO := Lib.hid (hO.below HBc.out)
  have HY := Lib.hid (hY.below HBc.out)
  have OL' := Lib.hid (fun W (hb : Below W1.heap.size W1 W) => rOutlook_any o W (HO.out.below hb) hfo)
  have HF := Lib.hid hfo
  have HFY := Lib.hid hfy
  clear hO hY hfo hfy
  unfold Otl.val at OL'
  cases e1 : outB o
  · have E1 := Lib.hid e1; clear e1
    rw [E1.out] at OL'
    go_enter Try.func20, Try.ntmps20
    go_upto_region 1 with (fail)
    rw [HWc.out]
    go_wp2_with fail
    refine (Calls.grown (OL'.out W1 (Below.refl _ _))).mono ?_
    rintro e w1 ⟨rfl, z1, rfl⟩
    go_wp2_with fail
    obtain ⟨q1, q2, q3⟩ := ch_arg (o := o) (y := y) (wt := (fun _ => 1)) (by rw [E1.out]; simp)
    rw [q1, q2]
    refine bodyPost_ret (v := .tuple #[.slice none 0 0, .int .i64 1]) (by simp [results, Try.results20, go_sem, *]) rfl ?_
    exact ⟨none, 0, rfl, .inl rfl, HBc.out.gw z1⟩
  have E1 := Lib.hid e1; clear e1
  rw [E1.out] at OL'
  have LY' := Lib.hid (fun W (hb : Below W1.heap.size W1 W) => rLaying_any o y W (HO.out.below hb) (by have := outB_t E1.out; omega) (HF.out.pN 0 (by have := outB_t E1.out; omega)) (HY.out.below hb) HFY.out)
  unfold Otl.val Lyg.val at LY'
  cases e2 : layB o y
  · have E2 := Lib.hid e2; clear e2
    rw [E2.out] at LY'
    go_enter Try.func20, Try.ntmps20
    go_upto_region 1 with (fail)
    rw [HWc.out]
    go_wp2_with fail
    refine (Calls.grown (OL'.out W1 (Below.refl _ _))).mono ?_
    rintro e w1 ⟨rfl, z1, rfl⟩
    go_wp2_with fail
    refine (Calls.gw_of (LY'.out _ (below_gw W1 z1))).mono ?_
    rintro e w1 ⟨rfl, z2, rfl⟩
    go_wp2_with fail
    obtain ⟨q1, q2, q3⟩ := ch_arg (o := o) (y := y) (wt := (fun _ => 1)) (by rw [E2.out]; simp)
    rw [q1, q2]
    refine bodyPost_ret (v := .tuple #[.slice none 0 0, .int .i64 1]) (by simp [results, Try.results20, go_sem, *]) rfl ?_
    exact ⟨none, 0, rfl, .inl rfl, HBc.out.gw z2⟩
  have E2 := Lib.hid e2; clear e2
  rw [E2.out] at LY'
  have LB := layB_t E2.out
  have nM10 : y.nM ≤ 10 := by have a := (outB_t E1.out).2.2.2.2.2.2.2.2; have := (a.2 0 (by omega)).2.1; have := LB.2.1; omega
  have M8 := Lib.hid LB.2.2.2.1
  have R8 := Lib.hid LB.2.2.1
  have nRM := Lib.hid (show y.nR = y.nM by have := LB.1; have := LB.2.1; omega)
  clear LB
  have HFB := Lib.hid (show findF o y (fun _ => 1) = _ from find_best E1.out E2.out (fun t ht => by decide))
  have PM := planL_max (fun i hi => (M8.out i hi).2) nM10
  have PG := Lib.hid (fun k hk => plan_get (M := y.M) (nM := y.nM) (k := k) hk)
  obtain ⟨P, hPe⟩ : ∃ P, planL y.M y.nM [] = P := ⟨_, rfl⟩
  have PA := fun z => plans_any (gw W1 z) y (HY.out.below (below_gw W1 z)) nM10 (fun i hi => M8.out i hi) y.nM [] none 0 none 0 [] (gw W1 z) (by simp) (PList.nil _ _) (.inl rfl) (Below.refl _ _) (by simp; omega)
  rw [hPe] at HFB PM PG
  simp only [hPe, List.nil_append, List.length_nil] at PA
  obtain ⟨n, hn⟩ : ∃ n, P.length = n := ⟨_, rfl⟩
  rw [hn] at PM
  simp only [hn] at PA PG
  have HNL := Lib.hid hn
  have PA := Lib.hid PA
  clear hn hPe
  unfold Lyg.val at PA
  have AND := Lib.hid (show outB o = true ∧ layB o y = true from ⟨E1.out, E2.out⟩)
  go_enter Try.func20, Try.ntmps20
  go_upto_region 1 with (fail)
  rw [HWc.out]
  go_wp2_with fail
  refine (Calls.grown (OL'.out W1 (Below.refl _ _))).mono ?_
  rintro e w1 ⟨rfl, z1, rfl⟩
  go_wp2_with fail
  refine (Calls.gw_of (LY'.out _ (below_gw W1 z1))).mono ?_
  rintro e w1 ⟨rfl, z2, rfl⟩
  go_wp2_with fail
  refine (PA.out z2).mono ?_
  rintro e w2 ⟨aP, cP, rfl, hp, hg, -⟩
  have hb := thru (grownBy_below hg) (below_gw W1 z2)
  obtain ⟨z3, rfl⟩ := gw_of_below hb
  obtain ⟨rA, rC, hcl, hrw⟩ := hp.out
  rw [HNL.out] at hcl hrw
  have HCL := Lib.hid hcl; have HRW := Lib.hid hrw
  clear hp hg hb hcl hrw PA
  obtain ⟨W2, hW2⟩ : ∃ W2, gw W1 z3 = W2 := ⟨_, rfl⟩
  have HB2 := Lib.hid (show Below W1.heap.size W1 W2 by rw [← hW2]; exact below_gw W1 z3)
  rw [hW2] at HCL HRW ⊢
  clear hW2
  go_wp2_with fail
  clear c00 c01 c02 c03 c04 c10 c11 c12 c13
  go_loopw [7, 8, 9] (fun s8 s9 s10 wr => ∃ (k : Nat) (ab : Option Addr) (nb cb : Nat), k ≤ n ∧ s10 = .int .i64 (k : Int) ∧ s8 = .slice ab nb cb ∧ (∃ fb : Bool, s9 = .bool fb ∧ Hid (fb = (bestN (keepB o y) (costW (fun _ => 1)) P k).isSome)) ∧ Hid (nb = (stL (bestN (keepB o y) (costW (fun _ => 1)) P k)).length) ∧ Hid (IntsAt wr ab nb (lotF (stL (bestN (keepB o y) (costW (fun _ => 1)) P k)))) ∧ Hid (Below W2.heap.size W2 wr)) (fun _ _ s10 _ => n - (intOf s10).toNat)
  case atStart => exact ⟨0, none, 0, 0, Nat.zero_le _, rfl, rfl, ⟨_, rfl, Lib.hid rfl⟩, Lib.hid rfl, Lib.hid (.inl rfl), Lib.hid (Below.refl _ _)⟩
  case round =>
    obtain ⟨k, ab, nb, cb, hk, rfl, rfl, ⟨lv, rfl, HV⟩, HNB, HAB, HW⟩ := hrel
    obtain ⟨V, rfl⟩ : ∃ V : World, V = wr := ⟨_, rfl⟩
    have HBV := Lib.hid (thru HW.out HB2.out)
    have b0 := Lib.hid ((HBV.out.block _ lc0).trans Zc0.out)
    have b1 := Lib.hid ((HBV.out.block _ lc1).trans Zc1.out)
    have x00 : V.cell? ⟨w.heap.size, 0, none⟩ = some (.slice o.aS o.nS o.cS) := cell_of_block b0.out 0 (by simp)
    have x01 : V.cell? ⟨w.heap.size, 1, none⟩ = some (.int .i64 o.kl) := cell_of_block b0.out 1 (by simp)
    have x02 : V.cell? ⟨w.heap.size, 2, none⟩ = some (.int .i64 o.kh) := cell_of_block b0.out 2 (by simp)
    have x03 : V.cell? ⟨w.heap.size, 3, none⟩ = some (.slice o.aA o.nA o.cA) := cell_of_block b0.out 3 (by simp)
    have x04 : V.cell? ⟨w.heap.size, 4, none⟩ = some (.slice o.aP o.nP o.cP) := cell_of_block b0.out 4 (by simp)
    have x10 : V.cell? ⟨w.heap.size + 1, 0, none⟩ = some (.slice y.aR y.nR y.cR) := cell_of_block b1.out 0 (by simp)
    have x11 : V.cell? ⟨w.heap.size + 1, 1, none⟩ = some (.slice y.aM y.nM y.cM) := cell_of_block b1.out 1 (by simp)
    have x12 : V.cell? ⟨w.heap.size + 1, 2, none⟩ = some (.int .i64 y.lot) := cell_of_block b1.out 2 (by simp)
    have x13 : V.cell? ⟨w.heap.size + 1, 3, none⟩ = some (.int .i64 y.room) := cell_of_block b1.out 3 (by simp)
    have lx0 := (Array.getElem?_eq_some_iff.1 b0.out).1
    have lx1 := (Array.getElem?_eq_some_iff.1 b1.out).1
    obtain ⟨st, hst⟩ : ∃ st, bestN (keepB o y) (costW (fun _ => 1)) P k = st := ⟨_, rfl⟩
    rw [hst] at HV HNB HAB
    have HST := Lib.hid hst; clear hst
    have HSP := Lib.hid (show ∀ x, st = some x → x.2 = costW (fun _ => 1) x.1 ∧ x.1 ∈ P from fun x hx => by have h := (bestF_spec (ok := keepB o y) (cost := costW (fun _ => 1)) (P.take k) none (fun x h => by cases h)).1 x (by rw [← hx]; exact HST.out); exact ⟨h.1, by rcases h.2.1 with h2 | h2; cases h2; exact List.mem_of_mem_take h2.1⟩)
    have HPX := Lib.hid (show ∀ x, st = some x → x.1.length = y.nM ∧ ∀ t, t < y.nM → lotF x.1 t ≤ y.M t from fun x hx => by obtain ⟨j, hj, he⟩ := List.getElem_of_mem (HSP.out x hx).2; have g := PG.out j (by rw [← HNL.out]; exact hj); rw [List.getD_eq_getElem?_getD, List.getElem?_eq_getElem hj, Option.getD_some, he] at g; exact g)
    by_cases hlt : k < n
    · have hk1 : (k : Int) < (n : Int) := by omega
      have HPL := PG.out k hlt
      obtain ⟨p, hp⟩ : ∃ p, P.getD k [] = p := ⟨_, rfl⟩
      rw [hp] at HPL
      have hpn := HPL.1
      rcases HCL.out with h0 | ⟨bP, oP, eP, lP, hcP⟩
      · omega
      have x2 := (HW.out.cell (p := ⟨bP, oP + k, none⟩) lP).trans (hcP k hlt)
      dsimp only at x2
      rw [hp, hpn] at x2
      have l2 : bP < V.heap.size := Nat.lt_of_lt_of_le lP HW.out.size
      have hIP := (HRW.out k hlt)
      rw [hp, hpn] at hIP
      have HIP := Lib.hid (hIP.below HW.out)
      have HLV := Lib.hid (show ∀ t, t < y.nM → 0 ≤ lotF p t ∧ lotF p t ≤ 8 from fun t ht => ⟨lotF_pos _ _, Int.le_trans (HPL.2 t ht) (M8.out t ht).2⟩)
      have HE3 := Lib.hid (show lotsB y y.nM (lotF p) = true from by unfold lotsB; rw [allB_t.2 (fun t ht => inB_t.2 ⟨lotF_pos _ _, HPL.2 t ht⟩)]; simp)
      obtain ⟨cp, hcp⟩ : ∃ cp, costW (fun _ => 1) p = cp := ⟨_, rfl⟩
      have hcp2 : costN (fun _ => 1) (lotF p) y.nM = cp := by rw [← hcp]; unfold costW; rw [hpn]
      have rg := costN_one HLV.out y.nM (Nat.le_refl _)
      rw [hcp2] at rg
      have RC := fun W (hb : Below V.heap.size V W) => rsumI_any (rA k) y.nM (rC k) (lotF p) W (HIP.out.below hb) (by omega) HLV.out
      simp only [hcp2] at RC
      have RK := fun z => rkeeps_any o y (rA k) y.nM (rC k) (lotF p) (gw V z) (HO.out.below (thru (below_gw V z) HBV.out)) (HY.out.below (thru (below_gw V z) HBV.out)) (HIP.out.below (below_gw V z)) E1.out E2.out HE3.out
      unfold KeepsEnd at RK
      obtain ⟨k1, hk1⟩ : ∃ k1, keepsP o y y.nM (lotF p) = k1 := ⟨_, rfl⟩
      obtain ⟨k2, hk2⟩ : ∃ k2, keepsY o y y.nM (lotF p) = k2 := ⟨_, rfl⟩
      obtain ⟨ev, hev⟩ : ∃ ev, keepsE o y y.nM (lotF p) = ev := ⟨_, rfl⟩
      simp only [hk1, hk2, hev] at RK
      have HKB := Lib.hid (show keepB o y p = decide (ev = 0) by unfold keepB; rw [hpn, hev])
      unfold Otl.val Lyg.val at RK
      have RC := Lib.hid RC; have RK := Lib.hid RK
      have HSU := Lib.hid (show bestN (keepB o y) (costW (fun _ => 1)) P (k + 1) = bestS (keepB o y) (costW (fun _ => 1)) st p by rw [bestN_succ (by rw [HNL.out]; exact hlt), HST.out, hp])
      have HCP := Lib.hid hcp
      have HPN := Lib.hid hpn
      have HLT := Lib.hid hlt
      subst eP
      clear hcP hIP HPL hp hcp hcp2 hk2 hev hpn hlt
      cases st with
      | none =>
        have hlv : lv = false := HV.out
        have HV2 := HV
        clear HV
        subst hlv
        have HV := HV2
        have HSK := Lib.hid (show stopB cp none = false from rfl)
        have HSK2 := Lib.hid (show bestN (keepB o y) (costW (fun _ => 1)) P (k + 1) = if keepB o y p = true then some (p, cp) else none by rw [HSU.out]; unfold bestS; rw [HCP.out, if_neg (by rw [HSK.out]; decide)])
        by_cases he : ev = 0
        · have d0 : (ev == 0) = true := by simp [he]
          have HN := Lib.hid (HSK2.out.trans (if_pos (by rw [HKB.out]; simp [he])))
          have HE := Lib.hid he; clear he
          go_wp2_with fail
          refine wp_region_gw (by kernel_rfl) (by kernel_rfl) ?_
          repeat (go_big_quiet_step (exact Calls.gw_of (RK.out _)))
          refine wpQuiet_nil ?_
          rintro _ ⟨z5, rfl⟩
          go_wp2_with fail
          go_roundw
          case rel => exact ⟨k + 1, rA k, y.nM, rC k, HLT.out, by have := HLT.out; go_num, rfl, ⟨true, rfl, Lib.hid (by rw [HN.out]; rfl)⟩, Lib.hid (by rw [HN.out]; exact HPN.out.symm), Lib.hid (by rw [HN.out]; exact HIP.out.below (below_gw V z5)), Lib.hid (HW.out.gw z5)⟩
          case measure => have := HLT.out; simp only [intOf]; omega
        · have d0 : (ev == 0) = false := by simp [he]
          have HN := Lib.hid (HSK2.out.trans (if_neg (by rw [HKB.out]; simp [he])))
          clear he
          go_wp2_with fail
          refine wp_region_gw (by kernel_rfl) (by kernel_rfl) ?_
          repeat (go_big_quiet_step (exact Calls.gw_of (RK.out _)))
          refine wpQuiet_nil ?_
          rintro _ ⟨z5, rfl⟩
          go_wp2_with fail
          go_roundw
          case rel => exact ⟨k + 1, ab, nb, cb, HLT.out, by have := HLT.out; go_num, rfl, ⟨false, rfl, Lib.hid (by rw [HN.out]; exact HV.out)⟩, Lib.hid (by rw [HN.out]; exact HNB.out), Lib.hid (by rw [HN.out]; exact HAB.out.below (below_gw V z5)), Lib.hid (HW.out.gw z5)⟩
          case measure => have := HLT.out; simp only [intOf]; omega
      | some x =>
        have hlv : lv = true := HV.out
        have HV2 := HV
        clear HV
        subst hlv
        have HV := HV2
        have hnb : nb = x.1.length := HNB.out
        have hxl := (HPX.out x rfl).1
        have rb := costN_one (L := lotF x.1) (m := x.1.length) (fun i hi => ⟨lotF_pos _ _, Int.le_trans ((HPX.out x rfl).2 i (by omega)) (M8.out i (by omega)).2⟩) x.1.length (Nat.le_refl _)
        obtain ⟨sx, hsx⟩ : ∃ sx, x.2 = sx := ⟨_, rfl⟩
        have hsx2 : costN (fun _ => 1) (lotF x.1) nb = sx := by rw [← hsx, (HSP.out x rfl).1, hnb]; rfl
        have RB := fun W (hb : Below V.heap.size V W) => rsumI_any ab nb cb (lotF x.1) W (HAB.out.below hb) (by omega) (fun i hi => ⟨lotF_pos _ _, Int.le_trans ((HPX.out x rfl).2 i (by omega)) (M8.out i (by omega)).2⟩)
        simp only [hsx2] at RB
        have RB := Lib.hid RB
        clear hsx2 rb hxl
        by_cases hs : sx ≤ cp
        · have d8 : decide (sx ≤ cp) = true := by simpa using hs
          have HN := Lib.hid (show bestN (keepB o y) (costW (fun _ => 1)) P (k + 1) = some x by rw [HSU.out]; unfold bestS; rw [HCP.out, if_pos (by simp only [stopB, decide_eq_true_eq]; omega)])
          clear hs hsx hnb
          go_wp2_with fail
          refine (Calls.grown (RC.out V (Below.refl _ _))).mono ?_
          rintro e w4 ⟨rfl, z3b, rfl⟩
          go_wp2_with fail
          refine (Calls.gw_of (RB.out _ (below_gw V z3b))).mono ?_
          rintro e w4 ⟨rfl, z4, rfl⟩
          go_wp2_with fail
          go_roundw
          case rel => exact ⟨k + 1, ab, nb, cb, HLT.out, by have := HLT.out; go_num, rfl, ⟨true, rfl, Lib.hid (by rw [HN.out]; rfl)⟩, Lib.hid (by rw [HN.out]; exact HNB.out), Lib.hid (by rw [HN.out]; exact HAB.out.below (below_gw V z4)), Lib.hid (HW.out.gw z4)⟩
          case measure => have := HLT.out; simp only [intOf]; omega
        · have d8 : decide (sx ≤ cp) = false := by simpa using hs
          have HSK := Lib.hid (show stopB cp (some x) = false by simp only [stopB, decide_eq_false_iff_not]; omega)
          clear hs hsx hnb
          go_wp2_with fail
          refine (Calls.grown (RC.out V (Below.refl _ _))).mono ?_
          rintro e w4 ⟨rfl, z3b, rfl⟩
          go_wp2_with fail
          refine (Calls.gw_of (RB.out _ (below_gw V z3b))).mono ?_
          rintro e w4 ⟨rfl, z4, rfl⟩
          have HSK2 := Lib.hid (show bestN (keepB o y) (costW (fun _ => 1)) P (k + 1) = if keepB o y p = true then some (p, cp) else (some x) by rw [HSU.out]; unfold bestS; rw [HCP.out, if_neg (by rw [HSK.out]; decide)])
          by_cases he : ev = 0
          · have d0 : (ev == 0) = true := by simp [he]
            have HN := Lib.hid (HSK2.out.trans (if_pos (by rw [HKB.out]; simp [he])))
            have HE := Lib.hid he; clear he
            go_wp2_with fail
            refine wp_region_gw2 (by kernel_rfl) (by kernel_rfl) ?_
            repeat (go_big_quiet_step (exact Calls.gw_of (RK.out _)))
            refine wpQuiet_nil ?_
            rintro _ ⟨z5, rfl⟩
            go_wp2_with fail
            go_roundw
            case rel => exact ⟨k + 1, rA k, y.nM, rC k, HLT.out, by have := HLT.out; go_num, rfl, ⟨true, rfl, Lib.hid (by rw [HN.out]; rfl)⟩, Lib.hid (by rw [HN.out]; exact HPN.out.symm), Lib.hid (by rw [HN.out]; exact HIP.out.below (below_gw V z5)), Lib.hid (HW.out.gw z5)⟩
            case measure => have := HLT.out; simp only [intOf]; omega
          · have d0 : (ev == 0) = false := by simp [he]
            have HN := Lib.hid (HSK2.out.trans (if_neg (by rw [HKB.out]; simp [he])))
            clear he
            go_wp2_with fail
            refine wp_region_gw2 (by kernel_rfl) (by kernel_rfl) ?_
            repeat (go_big_quiet_step (exact Calls.gw_of (RK.out _)))
            refine wpQuiet_nil ?_
            rintro _ ⟨z5, rfl⟩
            go_wp2_with fail
            go_roundw
            case rel => exact ⟨k + 1, ab, nb, cb, HLT.out, by have := HLT.out; go_num, rfl, ⟨true, rfl, Lib.hid (by rw [HN.out]; exact HV.out)⟩, Lib.hid (by rw [HN.out]; exact HNB.out), Lib.hid (by rw [HN.out]; exact HAB.out.below (below_gw V z5)), Lib.hid (HW.out.gw z5)⟩
            case measure => have := HLT.out; simp only [intOf]; omega
    · have hkn : k = n := by omega
      have HKN := Lib.hid (show findF o y (fun _ => 1) = st by rw [HFB.out, ← bestN_all, HNL.out, ← hkn]; exact HST.out); clear hkn
      cases st with
      | none =>
        have hlv : lv = false := HV.out
        subst hlv
        go_wp2_with fail
        obtain ⟨q1, q2, q3⟩ := ch_none AND.out HKN.out
        rw [q1, q2]
        refine bodyPost_ret (v := .tuple #[.slice none 0 0, .int .i64 4]) (by simp [results, Try.results20, go_sem, *]) rfl ?_
        exact ⟨none, 0, rfl, .inl rfl, HBc.out.trans (HBV.out.mono HBc.out.size)⟩
      | some x =>
        have hlv : lv = true := HV.out
        subst hlv
        go_wp2_with fail
        obtain ⟨q1, q2, q3⟩ := ch_some AND.out HKN.out
        rw [q1, q2]
        have hnb : nb = x.1.length := HNB.out
        have hab : IntsAt V ab nb (lotF x.1) := HAB.out
        rw [← hnb]
        refine bodyPost_ret (v := .tuple #[.slice ab nb cb, .int .i64 0]) (by simp [results, Try.results20, go_sem, *]) rfl ?_
        exact ⟨ab, cb, rfl, hab, HBc.out.trans (HBV.out.mono HBc.out.size)⟩
end Go.Proofs.Ytdcpgjepgajioaa
