/- Contract of year. No conditions beyond each theorem's own. -/
import Derived.Test.YtdcpgjepgajioaaBg
set_option linter.unusedVariables false
set_option linter.unusedSimpArgs false
set_option linter.unusedSectionVars false
set_option linter.constructorNameAsVariable false
namespace Go.Proofs.Ytdcpgjepgajioaa
open Go.RowKit

attribute [local go_sem] gw_cell gw_frozen gw_size


theorem tot_first {c : List Int} (hl : c.length = 32) (n : Int) : tot (c.set 0 (c.getD 0 0 + n)) = tot c + n := by
  rw [tot_set 0 _ (by omega)]; omega
set_option maxRecDepth 100000 in
set_option maxHeartbeats 4000000 in
theorem year_any (o : Otl) (c : List Int) (b off : Nat) (aV : Option Addr) (cV' : Nat) (V : Nat → Int) (laid : Int) (g : Nat) (lb : Array Value) (eg : ∀ args w, (callFunc g args).run Try.prog w = .ok (.enter g args) w) (room : Int → Bool) (w0 w : World)
    (hC : CelAt w b off c) (hn : NonNeg c) (ht : tot c ≤ 70368744177664) (hl0 : 0 ≤ laid) (hl1 : laid ≤ 70368744177664) (hO : o.In w0) (hlow : Below w0.heap.size w0 w) (hb0 : w0.heap.size ≤ b) (hA : ∀ i, i < o.nA → 0 ≤ o.A i ∧ o.A i ≤ 31) (hnA : o.nA ≤ 4)
    (hV : IntsAt w0 aV o.nA V) (hv : ∀ i, i < o.nA → 0 ≤ V i ∧ V i ≤ 1099511627776)
    (hR : ∀ W x, w.grownBy W (some b) → Calls Try.prog g (#[.int .i64 x] ++ lb) W fun e w' => e = .returned (.bool (room x)) ∧ W = w') :
    Calls Try.prog 57 #[.pointer (some ⟨b, off, none⟩), o.val, .slice aV o.nA cV', .int .i64 laid, .func (.func g) #[] lb] w fun e w' => e = .returned (.int .i64 (yearF o.A V o.nA laid room c).2) ∧ CelAt w' b off (yearF o.A V o.nA laid room c).1 ∧ Rw w w' b off := by
  unfold Otl.val
  obtain ⟨W1, hW1⟩ : ∃ W1, w.alloc (.cells #[.slice o.aS o.nS o.cS, .int .i64 o.kl, .int .i64 o.kh, .slice o.aA o.nA o.cA, .slice o.aP o.nP o.cP] 27) = W1 := ⟨_, rfl⟩
  have z0 : W1.heap[w.heap.size]? = some (.cells #[.slice o.aS o.nS o.cS, .int .i64 o.kl, .int .i64 o.kh, .slice o.aA o.nA o.cA, .slice o.aP o.nP o.cP] 27 (0, 0)) := by rw [← hW1]; exact alloc_at rfl
  have HB := Lib.hid (show Below w.heap.size w W1 by rw [← hW1]; exact below_alloc _ _)
  have HC1 := Lib.hid (hC.below HB.out)
  have HW := Lib.hid hW1
  have HZ := Lib.hid z0
  clear z0 hW1
  have lC := hC.lt
  have hlen := hC.len
  obtain ⟨x0, hx0⟩ : ∃ x0, c.getD 0 0 = x0 := ⟨_, rfl⟩
  have xa := hn.getD 0
  have xb := hn.le_tot 0
  rw [hx0] at xa xb
  obtain ⟨c1, hc1⟩ : ∃ c1, c.set 0 (x0 + laid) = c1 := ⟨_, rfl⟩
  have HN1 := Lib.hid (show NonNeg c1 by rw [← hc1]; exact hn.set 0 (by omega))
  have HT1 := Lib.hid (show tot c1 = tot c + laid by rw [← hc1, ← hx0]; exact tot_first hlen laid)
  obtain ⟨t1, ht1⟩ : ∃ t1, tot c1 = t1 := ⟨_, rfl⟩
  have HE := Lib.hid (show yearF o.A V o.nA laid room c = if room t1 = true then sellAll o.A V o.nA 0 c1 else (c1, 9) by unfold yearF; rw [hx0, hc1, ht1])
  have e0 := HC1.out.cell 0 (by omega)
  rw [hx0, Nat.add_zero] at e0
  have f0 := HC1.out.free off
  have l1 := HC1.out.lt
  have HS1 := Lib.hid (show CelAt (W1.setCell ⟨b, off, none⟩ (.int .i64 (x0 + laid))) b off c1 by have := HC1.out.set 0 (x0 + laid) (by omega); rw [hc1] at this; exact this)
  have HR1 := Lib.hid (show Rw W1 (W1.setCell ⟨b, off, none⟩ (.int .i64 (x0 + laid))) b off from Rw.set W1 b off 0 (.int .i64 (x0 + laid)) (by omega))
  have HO := Lib.hid hO
  have HLOW := Lib.hid hlow
  have HRR := Lib.hid hR
  have HA := Lib.hid hA
  have HV := Lib.hid hV
  have Hv := Lib.hid hv
  have HRW := Lib.hid (Rw.of_below (o := off) HB.out lC)
  have HX := Lib.hid hx0
  have HT2 := Lib.hid ht1
  clear hx0 hc1 ht1 hO hlow hR hA hV hv hn hC
  go_enter Try.func57, Try.ntmps57
  go_upto_region 1 with (fail)
  rw [HW.out]
  go_wp2_with fail
  go_region
  go_upto_region 2 with (fail)
  have HS2 := Lib.hid HS1.out.drew
  have HR2 := Lib.hid (HRW.out.trans HR1.out.drew)
  obtain ⟨W2, hW2⟩ : ∃ W2, (W1.setCell ⟨b, off, none⟩ (.int .i64 (x0 + laid))).drew = W2 := ⟨_, rfl⟩
  rw [hW2] at HS2 HR2 ⊢
  have HZ2 := Lib.hid (show W2.heap[w.heap.size]? = some (.cells #[.slice o.aS o.nS o.cS, .int .i64 o.kl, .int .i64 o.kh, .slice o.aA o.nA o.cA, .slice o.aP o.nP o.cP] 27 (0, 0)) by rw [← hW2]; exact (HR1.out.drew.g.block _ (Array.getElem?_eq_some_iff.1 HZ.out).1 (by simp; omega)).trans HZ.out)
  clear hW2 HS1 HR1 HC1 HW
  have u0 := HX.out
  go_wp2_with (refine wpList_load_cel rfl _ rfl _ _ rfl HS2.out ?_)
  refine (total_any c1 W2 HS2.out.len HN1.out (by have := HT1.out; omega)).mono ?_
  rintro e W3 ⟨rfl, hb3⟩
  have q := HT2.out
  rw [q]
  have HS3 := Lib.hid (HS2.out.below hb3)
  have HR3 := Lib.hid (HR2.out.trans (Rw.of_below hb3 HS2.out.lt))
  have HZ3 := Lib.hid ((hb3.block _ (Array.getElem?_eq_some_iff.1 HZ2.out).1).trans HZ2.out)
  have HT3 := Lib.hid q
  clear q hb3 HS2 HR2 HZ2
  have HRm := Lib.hid (HRR.out W3 t1 HR3.out.g)
  cases hrm : room t1 with
  | false =>
    rw [hrm] at HRm HE
    have HQ := Lib.hid hrm; clear hrm
    go_wp2_with (go_at_fn g; refine HRm.out.mono ?_; rintro e w' ⟨rfl, rfl⟩)
    go_ret
    exact ⟨by rw [HE.out]; rfl, by rw [HE.out]; exact HS3.out, HR3.out⟩
  | true =>
    rw [hrm] at HRm HE
    have HQ := Lib.hid hrm; clear hrm
    have he : yearF o.A V o.nA laid room c = sellAll o.A V o.nA 0 c1 := by rw [HE.out]; rfl
    have HE2 := Lib.hid he; clear he HE
    go_wp2_with (go_at_fn g; refine HRm.out.mono ?_; rintro e w' ⟨rfl, rfl⟩)
    obtain ⟨F1, F2, hF⟩ : ∃ F1 F2, yearF o.A V o.nA laid room c = (F1, F2) := ⟨_, _, rfl⟩
    rw [hF] at HE2
    have HFF := Lib.hid hF; clear hF
    go_loopw [30] (fun i wr => ∃ (k : Nat) (cc : List Int), k ≤ o.nA ∧ i = .int .i64 k ∧ Hid (CelAt wr b off cc) ∧ Hid (NonNeg cc ∧ tot cc ≤ t1) ∧ Hid (Rw w wr b off) ∧ Hid (wr.heap[w.heap.size]? = some (.cells #[.slice o.aS o.nS o.cS, .int .i64 o.kl, .int .i64 o.kh, .slice o.aA o.nA o.cA, .slice o.aP o.nP o.cP] 27 (0, 0))) ∧ Hid ((F1, F2) = sellAll o.A V (o.nA - k) k cc)) (fun i _ => o.nA - (intOf i).toNat)
    case atStart => exact ⟨0, c1, Nat.zero_le _, rfl, HS3, Lib.hid ⟨HN1.out, by rw [HT3.out]; exact Int.le_refl _⟩, HR3, HZ3, Lib.hid HE2.out⟩
    case round =>
      obtain ⟨k, cc, hk, rfl, HCk, HNk, HRk, HZk, HFk⟩ := hrel
      by_cases hlt : k < o.nA
      · have HLk := Lib.hid (HLOW.out.grown HRk.out.g HLOW.out.size (fun j e => by cases e; exact hb0))
        have c02 : wr.cell? ⟨w.heap.size, 3, none⟩ = some (.slice o.aA o.nA o.cA) := cell_of_block HZk.out 3 (by simp)
        have lz := (Array.getElem?_eq_some_iff.1 HZk.out).1
        rcases (HO.out.iA.below HLk.out) with h0 | ⟨b1, o1, ea, lb1, hc1⟩
        · omega
        rcases (HV.out.below HLk.out) with h0 | ⟨b2, o2, eb, lb2, hc2⟩
        · omega
        have y1 := hc1 k hlt
        have y2 := hc2 k hlt
        rw [ea] at c02
        subst eb
        have ar := HA.out k hlt
        have vr := Hv.out k hlt
        obtain ⟨ag, hag⟩ : ∃ ag : Nat, o.A k = (ag : Int) := ⟨(o.A k).toNat, by omega⟩
        rw [hag] at y1 ar
        have at1 : (o.A k).toNat = ag := by omega
        have HSE := Lib.hid (sell_any cc b off ag (V k) wr HCk.out HNk.out.1 (by have := HNk.out.2; have := HT1.out; have := HT3.out; omega) (by omega) vr.1 vr.2)
        have hst : (F1, F2) = if (sellF cc ag (V k)).2 = 0 then sellAll o.A V (o.nA - (k + 1)) (k + 1) (sellF cc ag (V k)).1 else ((sellF cc ag (V k)).1, 10) := by
          rw [HFk.out, show o.nA - k = (o.nA - (k + 1)) + 1 by omega]
          show (if (sellF cc (o.A k).toNat (V k)).2 = 0 then _ else _) = _
          rw [at1]
        have SOK := Lib.hid (sellF_ok (a := ag) HNk.out.1 vr.1)
        obtain ⟨G1, G2, hG⟩ : ∃ G1 G2, sellF cc ag (V k) = (G1, G2) := ⟨_, _, rfl⟩
        rw [hG] at HSE hst SOK
        dsimp only at hst
        clear hc1 hc2 hG hag at1 ea ar vr
        by_cases hz : G2 = 0
        · have hd : decide (G2 = 0) = true := by simpa using hz
          rw [if_pos hz] at hst
          have HST := Lib.hid hst; clear hst
          have HSE2 : Hid (Calls Try.prog 72 #[.pointer (some ⟨b, off, none⟩), .int .i64 (ag : Int), .int .i64 (V k)] wr fun e w' => e = .returned (.bool true) ∧ CelAt w' b off G1 ∧ Rw wr w' b off) := Lib.hid (by have := HSE.out; rw [hd] at this; exact this)
          have HGZ := Lib.hid hz
          clear hd hz HSE
          go_wp2_with (go_at_call 72; refine HSE2.out.mono ?_; rintro e w4 ⟨rfl, hc4, hr4⟩)
          go_roundw
          case rel => exact ⟨k + 1, G1, by omega, by go_num, Lib.hid hc4, Lib.hid ⟨SOK.out.1, by have := SOK.out.2.1; have := HNk.out.2; have := HGZ.out; have := SOK.out.2.2; omega⟩, Lib.hid (HRk.out.trans hr4), Lib.hid ((hr4.g.block _ lz (by simp; omega)).trans HZk.out), HST⟩
          case measure => simp [intOf]; omega
        · have hd : decide (G2 = 0) = false := by simpa using hz
          rw [if_neg hz] at hst
          have HST := Lib.hid hst; clear hst
          have HSE2 : Hid (Calls Try.prog 72 #[.pointer (some ⟨b, off, none⟩), .int .i64 (ag : Int), .int .i64 (V k)] wr fun e w' => e = .returned (.bool false) ∧ CelAt w' b off G1 ∧ Rw wr w' b off) := Lib.hid (by have := HSE.out; rw [hd] at this; exact this)
          clear hd hz HSE
          go_wp2_with (go_at_call 72; refine HSE2.out.mono ?_; rintro e w4 ⟨rfl, hc4, hr4⟩)
          have HC4 := Lib.hid hc4
          have HR4 := Lib.hid hr4
          clear hc4 hr4
          go_ret
          have := HST.out
          simp only [Prod.mk.injEq] at this
          exact ⟨by rw [HFF.out, this.2]; rfl, by rw [HFF.out, this.1]; exact HC4.out, HRk.out.trans HR4.out⟩
      · have hf := HFk.out
        rw [show o.nA - k = 0 by omega] at hf
        have hf2 : F1 = cc ∧ F2 = 0 := by simpa [sellAll] using hf
        have HF2 := Lib.hid hf2
        clear hf hf2
        go_wp2_with fail
        go_ret
        exact ⟨by rw [HFF.out, HF2.out.2]; rfl, by rw [HFF.out, HF2.out.1]; exact HCk.out, HRk.out⟩
end Go.Proofs.Ytdcpgjepgajioaa
