/- StillColumn: the walk of the law: case 0. No conditions beyond each theorem's own. -/
import Derived.Test.YtnmldophadanbaaLo
import Derived.Test.YtnmldophadanbaaLb
set_option linter.unusedVariables false
set_option linter.unusedSimpArgs false
set_option linter.unusedSectionVars false
set_option linter.constructorNameAsVariable false
namespace Go.Proofs.Ytnmldophadanbaa
open Go.RowKit

attribute [local go_sem] gw_cell gw_frozen gw_size


set_option maxRecDepth 100000 in
set_option maxHeartbeats 16000000 in
theorem column_ok0 (aL aV aY : Option Addr) (n cL cV ny cY : Nat) (L A B Y : Nat → Int) (s t mo : Int) (w : World) (hny : ny ≤ 9223372036854775807) (h : longB n n 0 = false) (h0 : 0 < ny) (hL : IntsAt w aL n L) (hV : SpansAt w aV n A B) (hY : NumsAt .u32 w aY ny Y) (hr : ∀ i, i < ny → 0 ≤ Y i ∧ Y i ≤ 4294967295)
    (hm : In64 mo) (hE : platesErr n n L A B s t = 0) (cl : Int) (hh : CountIs (seqI (fun x => vapHi L B n x) s) t (-1)) (nh : Never (seqI (fun x => vapHi L B n x) s) t) (hl : CountIs (seqI (fun x => vapLo L A n x) s) t cl) :
    Calls Try.prog 10 #[.agg #[.slice aL n cL, .slice aV n cV], .int .i64 s, .int .i64 t, .int .i64 mo, .slice aY ny cY] w (True1 w) := by
  obtain ⟨e1, e2, e3⟩ := plates_valid hE
  obtain ⟨_, g⟩ := good_of e1
  have r2 := inB_t.1 e2
  have r3 := inB_t.1 e3
  obtain ⟨hm1, hm2⟩ := hm
  obtain ⟨k1, _, _⟩ := longB_f h
  have n2 : ((ny : Int) == 0) = false := by simp; omega
  have H := Lib.hid h; clear h
  have HR := Lib.hid hr; clear hr
  obtain ⟨by0, off0, rfl, _, _⟩ := nums_get hY h0
  obtain ⟨W2, hW2⟩ : ∃ W2, w.alloc (.cells #[.slice aL n cL, .slice aV n cV] 25) = W2 := ⟨_, rfl⟩
  have low : Below w.heap.size w W2 := by rw [← hW2]; exact below_alloc _ _
  have st2 : StW w W2 aL aV (some ⟨by0, off0, none⟩) n cL cV ny L A B Y := ⟨by rw [← hW2]; simp [go_sem], by rw [← hW2]; simp [go_sem], by rw [← hW2]; simp, hL.below low, hV.below low, hY.below low, low⟩
  have PLT := Lib.hid (fun y => plates_ok aL aV n n cL cV L A B s t (gw W2 y) (by omega) (by omega) (gw_stw st2 y).ls (gw_stw st2 y).vs hE (-1) cl hh hl)
  have NH := Lib.hid nh.lt; clear nh
  have G := Lib.hid g; clear g
  have CB := Lib.hid e1; clear e1
  have IT := Lib.hid e3; clear e3 e2
  have HW2 := Lib.hid hW2; clear hW2 low hL hV hY hE hh hl
  have ST2 := Lib.hid st2
  obtain ⟨c0, c1, s0, _, _, _, _⟩ := st2
  go_enter Try.func10, Try.ntmps10
  go_wp2_with fail
  rw [HW2.out]
  refine (long_b aL aV none n n 0 cL cV 0 _ (by omega) (by omega) (by omega) H.out).mono ?_
  rintro e w1 ⟨rfl, y, rfl⟩
  go_wp2_with fail
  refine (PLT.out y).mono ?_
  clear PLT
  rintro e u0 ⟨he, hb0⟩
  obtain rfl : e = .returned (.tuple #[.int .i64 0, .int .i64 0, .int .i64 12]) := he
  have STu := Lib.hid ((gw_stw ST2.out y).below hb0)
  clear hb0 c0 c1 s0
  try clear he
  go_wp2_with fail
  go_loopw [14, 15, 16, 17] (fun vl vh vx i wr => ∃ (k : Nat) (l h x : Int), k ≤ 101 ∧ i = .int .i64 k ∧ vl = .int .i64 l ∧ vh = .int .i64 h ∧ vx = .int .i64 x ∧ Col (seqI (fun x => vapLo L A n x) s) (seqI (fun x => vapHi L B n x) s) k l h x ∧ StW w wr aL aV (some ⟨by0, off0, none⟩) n cL cV ny L A B Y) (fun _ _ _ i _ => 101 - (intOf i).toNat)
  case atStart => exact ⟨0, s, s, s, by omega, rfl, rfl, rfl, rfl, ⟨rfl, rfl, r2.1, Int.le_refl _, Int.le_refl _, r2.2⟩, STu.out⟩
  case round =>
    obtain ⟨k, l, h, x, hk1, rfl, rfl, rfl, rfl, hk, hst⟩ := hrel
    have ST := Lib.hid hst; clear hst
    by_cases hk2 : k ≤ 100
    · obtain ⟨q, em, ml, HQ⟩ : ∃ q : Nat, ((k : Int) % (ny : Int)) = q ∧ q < ny ∧ Hid (k % ny = q) := ⟨k % ny, emod_nat k ny, Nat.mod_lt _ h0, Lib.hid rfl⟩
      have ym := HR.out q ml
      have a1 := hk.l0
      have a2 := hk.lx
      have a3 := hk.xh
      have a4 := hk.h1
      obtain ⟨l', HL'⟩ : ∃ l', Hid (vapLo L A n l = l') := ⟨_, Lib.hid rfl⟩
      obtain ⟨l2, HL2⟩ : ∃ l2, Hid (vapHi L B n l = l2) := ⟨_, Lib.hid rfl⟩
      obtain ⟨h2, HH2⟩ : ∃ h2, Hid (vapLo L A n h = h2) := ⟨_, Lib.hid rfl⟩
      obtain ⟨h', HH'⟩ : ∃ h', Hid (vapHi L B n h = h') := ⟨_, Lib.hid rfl⟩
      obtain ⟨x1, HX1a⟩ : ∃ x1, Hid (vapLo L A n x = x1) := ⟨_, Lib.hid rfl⟩
      obtain ⟨x2, HX2a⟩ : ∃ x2, Hid (vapHi L B n x = x2) := ⟨_, Lib.hid rfl⟩
      have xx : x1 ≤ x2 := by rw [← HX1a.out, ← HX2a.out]; exact G.out.lo_le_hi (by omega) (by omega)
      have xr : 0 ≤ x1 ∧ x2 ≤ 10000 := by rw [← HX1a.out, ← HX2a.out]; exact ⟨(G.out.vapLo_range (by omega) (by omega)).1, (G.out.vapHi_range (by omega) (by omega)).2⟩
      have NEXT := Lib.hid (show Col (seqI (fun x => vapLo L A n x) s) (seqI (fun x => vapHi L B n x) s) (k + 1) l' h' (innerI x1 x2 (Y q)) by
        have ir := innerI_range (b := Y q) xx
        have i1 : l' ≤ x1 := by rw [← HL'.out, ← HX1a.out]; exact G.out.vapLo_mono a1 a2 (by omega)
        have i2 : x2 ≤ h' := by rw [← HH'.out, ← HX2a.out]; exact G.out.vapHi_mono (by omega) a3 a4
        have i3 : 0 ≤ l' := by rw [← HL'.out]; exact (G.out.vapLo_range a1 (by omega)).1
        have i4 : h' ≤ 10000 := by rw [← HH'.out]; exact (G.out.vapHi_range (by omega) a4).2
        exact ⟨by show vapLo L A n ((seqI (fun x => vapLo L A n x) s) k) = _; rw [hk.lo]; exact HL'.out, by show vapHi L B n ((seqI (fun x => vapHi L B n x) s) k) = _; rw [hk.hi]; exact HH'.out, i3, by omega, by omega, i4⟩)
      have SL := Lib.hid (show spanB l l 0 10000 = true from spanB_t.2 ⟨by omega, by omega, by omega⟩)
      have SH := Lib.hid (show spanB h h 0 10000 = true from spanB_t.2 ⟨by omega, by omega, by omega⟩)
      have SX := Lib.hid (show spanB x x 0 10000 = true from spanB_t.2 ⟨by omega, by omega, by omega⟩)
      have V1 := Lib.hid (vapourP_ok aL aV n cL cV L A B l l wr (by omega) ST.out.ls ST.out.vs CB.out SL.out l' l2 HL' HL2)
      obtain ⟨c0, c1, s0, _, _, _, _⟩ := ST.out
      have th : h < t := by rw [← hk.hi]; exact NH.out k (by omega)
      clear hk
      go_wp2_with fail
      refine V1.out.mono ?_
      clear V1
      rintro e u1 ⟨rfl, hb1⟩
      have S1 := Lib.hid (ST.out.below hb1)
      obtain ⟨X1, hX1⟩ : ∃ X1, u1.alloc (.cells #[.int .i64 l', .int .i64 l2] 27) = X1 := ⟨_, rfl⟩
      have B1 := Lib.hid (show Below u1.heap.size u1 X1 by rw [← hX1]; exact below_alloc _ _)
      have bx1 := Lib.hid (show Box2 X1 u1.heap.size l' l2 by rw [← hX1]; exact box2_of _ _ _ _)
      have HX1 := Lib.hid hX1; clear hX1 hb1 c0 c1 s0
      have T1 := Lib.hid (S1.out.below B1.out)
      have V2 := Lib.hid (vapourP_ok aL aV n cL cV L A B h h X1 (by omega) T1.out.ls T1.out.vs CB.out SH.out h2 h' HH2 HH')
      obtain ⟨c0, c1, s0, _, _, _, _⟩ := S1.out
      go_wp2_with fail
      rw [HX1.out]
      refine V2.out.mono ?_
      clear V2
      rintro e u2 ⟨rfl, hb2⟩
      have S2 := Lib.hid (T1.out.below hb2)
      have bx1' := Lib.hid (bx1.out.below hb2)
      obtain ⟨X2, hX2⟩ : ∃ X2, u2.alloc (.cells #[.int .i64 h2, .int .i64 h'] 27) = X2 := ⟨_, rfl⟩
      have B2 := Lib.hid (show Below u2.heap.size u2 X2 by rw [← hX2]; exact below_alloc _ _)
      have bx2 := Lib.hid (show Box2 X2 u2.heap.size h2 h' by rw [← hX2]; exact box2_of _ _ _ _)
      have HX2 := Lib.hid hX2; clear hX2 hb2 c0 c1 s0
      have T2 := Lib.hid (S2.out.below B2.out)
      have V3 := Lib.hid (vapourP_ok aL aV n cL cV L A B x x X2 (by omega) T2.out.ls T2.out.vs CB.out SX.out x1 x2 HX1a HX2a)
      obtain ⟨c0, c1, s0, _, _, _, _⟩ := S2.out
      go_wp2_with fail
      rw [HX2.out]
      refine V3.out.mono ?_
      clear V3
      rintro e u3 ⟨rfl, hb3⟩
      have S3 := Lib.hid (T2.out.below hb3)
      obtain ⟨X3, hX3⟩ : ∃ X3, u3.alloc (.cells #[.int .i64 x1, .int .i64 x2] 27) = X3 := ⟨_, rfl⟩
      have B3 := Lib.hid (show Below u3.heap.size u3 X3 by rw [← hX3]; exact below_alloc _ _)
      have bx3 : Box2 X3 u3.heap.size x1 x2 := by rw [← hX3]; exact box2_of _ _ _ _
      have HX3 := Lib.hid hX3; clear hX3 c0 c1 s0
      have T3 := Lib.hid (S3.out.below B3.out)
      have e1 := ((bx1'.out.below B2.out).below hb3).below B3.out
      have e2 := (bx2.out.below hb3).below B3.out
      clear hb3
      obtain ⟨lby, dy⟩ := nums_cell T3.out.ys q ml
      obtain ⟨f0, f1, f2⟩ := e1
      obtain ⟨g0, g1, g2⟩ := e2
      obtain ⟨k0, k1', k2⟩ := bx3
      go_wp2_with fail
      rw [HX3.out]
      refine wp_region_gw (by kernel_rfl) (by kernel_rfl) ?_
      repeat (go_big_quiet_step ((go_at_call 19; exact Calls.gw_of (inner_any _ _ _ _ (by omega) (by omega) (by omega) (by omega) (by omega)))))
      refine wpQuiet_nil ?_
      rintro _ ⟨z9, rfl⟩
      go_wp2_with fail
      go_roundw
      case rel => exact ⟨k + 1, l', h', innerI x1 x2 (Y q), by omega, by go_num, rfl, rfl, rfl, NEXT.out, gw_stw T3.out z9⟩
      case measure => simp [intOf]; omega
    · obtain rfl : k = 101 := by omega
      clear hk
      obtain ⟨c0, c1, s0, _, _, _, _⟩ := ST.out
      by_cases m1 : mo < s
      · go_wp2_with fail
        refine (alive_any _).mono ?_
        rintro e w1 ⟨rfl, hb⟩
        have HB := Lib.hid (thru hb (ST.out.low)); clear hb
        go_wp2_with fail
        go_ret
        exact ⟨rfl, HB.out⟩
      · by_cases m2 : 10000 < mo
        · go_wp2_with fail
          refine (alive_any _).mono ?_
          rintro e w1 ⟨rfl, hb⟩
          have HB := Lib.hid (thru hb (ST.out.low)); clear hb
          go_wp2_with fail
          go_ret
          exact ⟨rfl, HB.out⟩
        · skip
          have HE2 := Lib.hid (show platesErr n n L A B mo t = 0 by unfold platesErr; rw [CB.out, inB_t.2 ⟨by omega, by omega⟩, IT.out]; rfl)
          have HI2 := Lib.hid (reach_or (q := (seqI (fun x => vapHi L B n x) mo)) (t := t) (fun i d => seq_rise (fun x hx => G.out.vapHi_range hx.1 hx.2) (fun x hx => Int.le_trans (G.out.vapLo_ge hx.1 hx.2) (G.out.lo_le_hi hx.1 hx.2)) (by omega) (by omega) i d))
          have LO2 := Lib.hid (reach_or (q := (seqI (fun x => vapLo L A n x) mo)) (t := t) (fun i d => seq_rise (fun x hx => G.out.vapLo_range hx.1 hx.2) (fun x hx => G.out.vapLo_ge hx.1 hx.2) (by omega) (by omega) i d))
          obtain ⟨cl', hcl'⟩ : ∃ c', CountIs (seqI (fun x => vapLo L A n x) mo) t c' := ⟨_, ⟨rfl⟩⟩
          rcases HI2.out with ⟨P', h1', r1'⟩ | ⟨h1', r1'⟩
          · skip
            have PL := Lib.hid (plates_ok aL aV n n cL cV L A B mo t wr (by omega) (by omega) ST.out.ls ST.out.vs HE2.out _ _ h1' hcl')
            clear HI2 LO2 h1' hcl' r1'
            go_wp2_with fail
            refine PL.out.mono ?_
            clear PL
            rintro e u1 ⟨he, hb1⟩
            obtain rfl : e = .returned (.tuple #[.int .i64 P', .int .i64 cl', .int .i64 0]) := by unfold PlatesEnd at he; rw [if_neg (by omega)] at he; exact he
            have LOW1 := Lib.hid (thru hb1 ST.out.low); clear hb1
            try clear he
            go_wp2_with fail
            refine (alive_any _).mono ?_
            rintro e w1 ⟨rfl, hb⟩
            have HB := Lib.hid (thru hb (LOW1.out)); clear hb
            go_wp2_with fail
            go_ret
            exact ⟨rfl, HB.out⟩
          · skip
            have PL := Lib.hid (plates_ok aL aV n n cL cV L A B mo t wr (by omega) (by omega) ST.out.ls ST.out.vs HE2.out _ _ h1' hcl')
            clear HI2 LO2 h1' hcl' r1'
            go_wp2_with fail
            refine PL.out.mono ?_
            clear PL
            rintro e u1 ⟨he, hb1⟩
            obtain rfl : e = .returned (.tuple #[.int .i64 0, .int .i64 0, .int .i64 12]) := he
            have LOW1 := Lib.hid (thru hb1 ST.out.low); clear hb1
            try clear he
            go_wp2_with fail
            refine (alive_any _).mono ?_
            rintro e w1 ⟨rfl, hb⟩
            have HB := Lib.hid (thru hb (LOW1.out)); clear hb
            go_wp2_with fail
            go_ret
            exact ⟨rfl, HB.out⟩
end Go.Proofs.Ytnmldophadanbaa
