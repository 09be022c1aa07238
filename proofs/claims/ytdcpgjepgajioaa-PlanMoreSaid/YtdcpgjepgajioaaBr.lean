/- The closure of the search while years are left. No conditions beyond each theorem's own. -/
import Derived.Test.YtdcpgjepgajioaaBq
import Derived.Deep.LoopGhost
import Derived.Deep.DeepCutAuto
import Derived.Maps.AppendAt
import Derived.Test.YtdcpgjepgajioaaAn
set_option linter.unusedVariables false
set_option linter.unusedSimpArgs false
set_option linter.unusedSectionVars false
set_option linter.constructorNameAsVariable false
namespace Go.Proofs.Ytdcpgjepgajioaa
open Go.RowKit Go.Shelf

attribute [local go_sem] gw_cell gw_frozen gw_size keepW_cell

theorem quiet_load_cel {C : World → Prop} {op : Oper} {a : Act} {K : Act → Prop} (x : Operand) (ho : op.op = .load 74 x) (g off : Nat) (hx : a.eval x = .pointer (some ⟨g, off, none⟩)) {c : List Int} (h : ∀ w, C w → CelAt w g off c) (hk : K (a.put op.dst (cellV c))) : op.quiet Try.prog a C K := by
  refine ⟨_, fun w hw => ?_, hk⟩
  unfold Oper.quietAt
  simp only [execOp, ho, hx, Instr.loadAt, Instr.sureAddr, Sem.run_bind, Sem.run_pure, Result.andThen_ok, run_loadVar_cel (h w hw)]
  exact ⟨rfl, rfl⟩
theorem keep4 {W w : World} {a b c d : Nat} (h1 : w.heap[a]? = W.heap[a]?) (h2 : w.heap[b]? = W.heap[b]?) (h3 : w.heap[c]? = W.heap[c]?) (h4 : w.heap[d]? = W.heap[d]?) : ∃ x : KeepW W [a, b, c, d], w = x.w :=
  ⟨⟨w, fun b' hb => by simp only [List.mem_cons, List.not_mem_nil, or_false] at hb; rcases hb with rfl | rfl | rfl | rfl <;> assumption⟩, rfl⟩
theorem row_next {A V : Nat → Int} {n t : Nat} {laid : Int} {room : Int → Bool} {part : Int → Int} {c : List Int} (h : RowOk t c) (hl : c.length = 32) (hv : ∀ i, i < n → 0 ≤ V i) (h0 : 0 ≤ laid) (h1 : laid ≤ 1099511627776) (hp : ∀ x, 0 ≤ x → 0 ≤ part x ∧ part x ≤ x) :
    RowOk (t + 1) (lateF part (yearF A V n laid room c).1) ∧ NonNeg (yearF A V n laid room c).1 ∧ tot (yearF A V n laid room c).1 ≤ 35184372088832 + (t + 1) * 1099511627776 ∧ (yearF A V n laid room c).1.length = 32 := by
  obtain ⟨p, q, r⟩ := yearF_ok (A := A) (V := V) (n := n) (laid := laid) (room := room) h.1 hl hv h0
  obtain ⟨x, z⟩ := lateF_ok (p := part) (e := 0) r (fun j => (hp _ (p.getD j)).1) (fun j => by have := (hp _ (p.getD j)).2; omega)
  have := h.2
  exact ⟨⟨x, by push_cast; omega⟩, p, by omega, r⟩
/-- the closure with h years left -/
def TryAt (w0 : World) (o : Otl) (y : Lyg) (fw : Nat) (lw : Array Value) (wt : Nat → Int) (q : Bx) (D : Nat) (h : Nat) : Prop :=
  ∀ (low high : Nat → List Int) (gl gh cl ch : Nat) (cost : Int) (now : List Nat) (st : St) (r : Option Nat) (w : World), TS w0 o y fw lw q D r now st w → now.length + h = y.nM → CelsAt w gl o.nP low → CelsAt w gh o.nP high → (D ≤ gl ∧ some gl ≠ r) → (D ≤ gh ∧ some gh ≠ r) →
    (∀ i, i < o.nP → RowOk now.length (low i) ∧ RowOk now.length (high i)) → 0 ≤ cost → cost ≤ now.length * 8589934592 →
    Calls Try.prog 61 #[.slice (some ⟨gl, 0, none⟩) o.nP cl, .slice (some ⟨gh, 0, none⟩) o.nP ch, .int .i64 cost, .pointer (some ⟨q.gn, 0, none⟩), .pointer (some ⟨q.gy, 0, none⟩), .pointer (some ⟨q.gb, 0, none⟩), .pointer (some ⟨q.gs, 0, none⟩), .pointer (some ⟨q.gf, 0, none⟩), .pointer (some ⟨q.gw, 0, none⟩), .pointer (some ⟨q.go, 0, none⟩), .pointer (some ⟨q.gr, 0, none⟩), .pointer (some ⟨q.gl, 0, none⟩), .pointer (some ⟨q.gg, 0, none⟩), .pointer (some ⟨q.gt, 0, none⟩)] w fun e w' => (∃ x, e = .returned x) ∧ ∃ r', TS w0 o y fw lw q D r' now (tryF o y wt h low high cost now st) w' ∧ TK q r w w' r'

set_option maxRecDepth 100000 in
set_option maxHeartbeats 16000000 in
theorem try_succ (w0 : World) (o : Otl) (y : Lyg) (fw : Nat) (lw : Array Value) (wt : Nat → Int) (q : Bx) (D : Nat) (efw : ∀ args w, (callFunc fw args).run Try.prog w = .ok (.enter fw args) w) (hq : q.Ok w0.heap.size D) (hO : o.In w0) (hY : y.In w0) (hB : outB o = true) (hLB : layB o y = true)
    (hW : ∀ W t, Below w0.heap.size w0 W → t < y.nM → Calls Try.prog fw (#[.int .i64 (t : Int)] ++ lw) W fun e w' => e = .returned (.int .i64 (wt t)) ∧ W = w') (hwt : ∀ t, t < y.nM → 0 ≤ wt t ∧ wt t ≤ 1073741824) (h : Nat) (IH : TryAt w0 o y fw lw wt q D h) : TryAt w0 o y fw lw wt q D (h + 1) := by
  intro low high gl gh cl ch cost now st r w T0 hn hL hH hgl hgh hR hc0 hc1
  have hq0 := hq
  obtain ⟨o1, o2, o3, o4, o5, o6, o7, o8, o9, o10, o11, o12, o13⟩ := hq
  have OB := outB_t hB
  obtain ⟨ly1, ly2, ly3, ly4, ly5, ly6, ly7⟩ := layB_t hLB
  have hP1 : 1 ≤ o.nP ∧ o.nP ≤ 8 := OB.2.2.2.2.2.2.2.2.1
  have hM10 : y.nM ≤ 10 := by have := (OB.2.2.2.2.2.2.2.2.2 0 (by omega)).2.1; omega
  have ht : now.length < y.nM := by omega
  obtain ⟨mN, hmN⟩ : ∃ mN : Nat, y.M now.length = (mN : Int) := ⟨(y.M now.length).toNat, by have := (ly4 now.length ht).1; omega⟩
  have hm8 : mN ≤ 8 := by have := (ly4 now.length ht).2; omega
  rcases hY.iM with h0 | ⟨bM, oM, eM, lM, hM⟩
  · omega
  have cM := (T0.low.cell (p := ⟨bM, oM + now.length, none⟩) lM).trans (hM now.length ht)
  rw [hmN] at cM
  have lbM := Nat.lt_of_lt_of_le lM T0.low.size
  have HT0 := Lib.hid T0
  obtain ⟨tlow, ⟨aN, cN, t3, t4, t5⟩, -, -, -, xy, -, -, -, -, -, -, -⟩ := T0
  have egn0 := cell_of_block t3 0 (by simp)
  have lgn := (Array.getElem?_eq_some_iff.1 t3).1
  have egy1 : w.cell? ⟨q.gy, 1, none⟩ = some (.slice (some ⟨bM, oM, none⟩) y.nM y.cM) := by rw [← eM]; exact cell_of_block xy 1 (by simp [Lyg.cells])
  have lgy := (Array.getElem?_eq_some_iff.1 xy).1
  have hne : ((now.length : Int) == (y.nM : Int)) = false := by simp; omega
  have htI : (now.length : Int) < (y.nM : Int) := by omega
  have HPN := Lib.hid (show ∀ i, i < o.nP → o.pN i = y.nM from fun i hi => by have := (OB.2.2.2.2.2.2.2.2.2 i hi).1; omega); have HN := Lib.hid hn; have HM := Lib.hid hmN; have HOB := Lib.hid OB; have HLY := Lib.hid (And.intro ly4 (And.intro ly5 (And.intro ly6 ly7)))
  have HL := Lib.hid hL; have HH := Lib.hid hH; have HGL := Lib.hid hgl; have HGH := Lib.hid hgh; have HR := Lib.hid hR; have HO := Lib.hid hO; have HW := Lib.hid hW; have HWT := Lib.hid (hwt now.length ht); have HIH := Lib.hid IH; have HB := Lib.hid hB; have HLO := Lib.hid tlow
  have EQ := Lib.hid (show tryF o y wt (h + 1) low high cost now st = layN (fun (n : Nat) st => stopB (cost + (n : Int) * wt now.length) st) (fun (n : Nat) st => if allB o.nP (stepB o y now.length ((n : Int) * y.lot) low high) = true then tryF o y wt h (lowN o now.length ((n : Int) * y.lot) low) (highN o y now.length ((n : Int) * y.lot) high) (cost + (n : Int) * wt now.length) (now ++ [n]) st else st) (mN + 1) 0 st by rw [tryF, hmN]; rfl)
  have HBY := Lib.hid hY
  obtain ⟨stp, hstp⟩ : ∃ stp : Nat → St → Bool, stp = fun (n : Nat) st => stopB (cost + (n : Int) * wt now.length) st := ⟨_, rfl⟩
  obtain ⟨fst, hfst⟩ : ∃ fst : Nat → St → St, fst = fun (n : Nat) st => if allB o.nP (stepB o y now.length ((n : Int) * y.lot) low high) = true then tryF o y wt h (lowN o now.length ((n : Int) * y.lot) low) (highN o y now.length ((n : Int) * y.lot) high) (cost + (n : Int) * wt now.length) (now ++ [n]) st else st := ⟨_, rfl⟩
  rw [← hstp, ← hfst] at EQ
  have HSTP := Lib.hid hstp; have HFST := Lib.hid hfst
  clear hstp hfst hn hmN OB ly1 ly2 ly3 ly4 ly5 ly6 ly7 hL hH hgl hgh hR hO hW hwt IH hB hLB tlow hY eM hM t3 t4 t5 xy
  rw [EQ.out]
  go_enter Try.func61, Try.ntmps61
  go_wp2_with fail
  go_step3
  go_wp2_with fail
  go_step3
  go_wp2_with fail
  clear egn0 cM egy1 hne
  go_loopg [40] (mN + 1) (fun g s40 wr => ∃ (n : Nat) (st2 : St) (r2 : Option Nat), n + g = mN + 1 ∧ s40 = .int .i64 (n : Int) ∧ Hid (TS w0 o y fw lw q D r2 now st2 wr) ∧ Hid (TK q r w wr r2) ∧ Hid (layN stp fst (mN + 1) 0 st = layN stp fst g n st2))
  case atStart => exact ⟨0, st, r, by omega, rfl, HT0, Lib.hid (TK.refl _ _ _), Lib.hid rfl⟩
  case round =>
    obtain ⟨n, st2, r2, hng, rfl, HT2, HK2, HE2⟩ := hrel
    obtain ⟨wo, rfl⟩ : ∃ wo : World, wo = wr := ⟨_, rfl⟩
    cases gk with
    | zero =>
      have hnz : ¬ ((n : Int) < ((mN : Int) + 1)) := by omega
      go_wp2_with fail
      have HTF : TS w0 o y fw lw q D r2 now (layN stp fst (mN + 1) 0 st) wo := by rw [HE2.out]; exact HT2.out
      go_end0
      exact ⟨⟨_, rfl⟩, r2, HTF, HK2.out⟩
    | succ g =>
      have hnl : (n : Int) < ((mN : Int) + 1) := by omega
      obtain ⟨-, -, ⟨aB, cB, b1, -, -⟩, x1, x2, x3, x4, x5, x6, x7, x8, x9, x10⟩ := HT2.out
      have eW := cell_of_block x6 0 (by simp)
      have lW := (Array.getElem?_eq_some_iff.1 x6).1
      have eF := cell_of_block x2 0 (by simp)
      have lF := (Array.getElem?_eq_some_iff.1 x2).1
      have eS := cell_of_block x1 0 (by simp)
      have lS := (Array.getElem?_eq_some_iff.1 x1).1
      have eO4 : wo.cell? ⟨q.go, 4, none⟩ = some (.slice o.aP o.nP o.cP) := cell_of_block x4 4 (by simp [Otl.cells])
      have lO := (Array.getElem?_eq_some_iff.1 x4).1
      clear b1 x1 x2 x3 x4 x5 x6 x7 x8 x9 x10
      have WC := Lib.hid (HW.out wo now.length HT2.out.low ht)
      have wp0 : 0 ≤ (n : Int) * wt now.length := Int.mul_nonneg (by omega) HWT.out.1
      have wp1 : (n : Int) * wt now.length ≤ 8589934592 := by have := Int.mul_le_mul_of_nonneg_left HWT.out.2 (show (0 : Int) ≤ n by omega); omega
      have hw1 : IntKind.i64.wrap ((n : Int) * wt now.length) = (n : Int) * wt now.length := IntWalk.i64_in _ (by omega)
      have hw3 : IntKind.i64.wrap (cost + (n : Int) * wt now.length) = cost + (n : Int) * wt now.length := IntWalk.i64_in _ (by omega)
      go_upto_region 7 with (refine WC.out.mono ?_; rintro e w1 ⟨rfl, rfl⟩)
      obtain ⟨p, hp⟩ : ∃ p, cost + (n : Int) * wt now.length = p := ⟨_, rfl⟩
      rw [hp]
      have hp0 : 0 ≤ p := by omega
      have hp1 : p ≤ (now.length + 1) * 8589934592 := by omega
      have HP := Lib.hid hp
      clear hp hw1 hw3 eW lW WC
      go_cut [55] (fun s55 wx => s55 = .bool (stopB p st2) ∧ wo = wx)
      case first =>
        cases st2 with
        | none =>
          go_wp2_with fail
          go_meet
          exact ⟨rfl, rfl⟩
        | some x =>
          go_wp2_with fail
          go_meet
          exact ⟨rfl, rfl⟩
      case rest =>
        obtain ⟨rfl, hwc⟩ := hcut
        subst hwc
        clear eF lF eS lS
        cases hs : stopB p st2 with
        | true =>
          have hst : stp n st2 = true := by rw [HSTP.out]; show stopB (cost + (n : Int) * wt now.length) st2 = true; rw [HP.out]; exact hs
          have HTF : TS w0 o y fw lw q D r2 now (layN stp fst (mN + 1) 0 st) wo := by rw [HE2.out]; show TS w0 o y fw lw q D r2 now (if stp n st2 = true then st2 else layN stp fst g (n + 1) (fst n st2)) wo; rw [if_pos hst]; exact HT2.out
          clear hst hs
          have HTF2 := Lib.hid HTF; clear HTF
          go_wp2_with fail
          rw [Exit.noGoto_normal]
          go_end0
          exact ⟨⟨_, rfl⟩, r2, HTF2.out, HK2.out⟩
        | false =>
          have hst : ¬ stp n st2 = true := by rw [HSTP.out]; show ¬ stopB (cost + (n : Int) * wt now.length) st2 = true; rw [HP.out, hs]; exact Bool.false_ne_true
          have HE3 := Lib.hid (show layN stp fst (mN + 1) 0 st = layN stp fst g (n + 1) (fst n st2) by rw [HE2.out]; show (if stp n st2 = true then st2 else layN stp fst g (n + 1) (fst n st2)) = _; rw [if_neg hst])
          have HF2 := Lib.hid (show fst n st2 = if allB o.nP (stepB o y now.length ((n : Int) * y.lot) low high) = true then tryF o y wt h (lowN o now.length ((n : Int) * y.lot) low) (highN o y now.length ((n : Int) * y.lot) high) p (now ++ [n]) st2 else st2 by rw [HFST.out]; dsimp only; rw [HP.out])
          clear hst hs
          have glt : gl < w.heap.size := (HL.out 0 (by omega)).lt
          have ght : gh < w.heap.size := (HH.out 0 (by omega)).lt
          have HLr := Lib.hid (HL.out.keep (HK2.out.kept gl glt (by have := HGL.out.1; omega) (by have := HGL.out.1; omega) (by have := HGL.out.1; omega) (by have := HGL.out.1; omega) HGL.out.2))
          have HHr := Lib.hid (HH.out.keep (HK2.out.kept gh ght (by have := HGH.out.1; omega) (by have := HGH.out.1; omega) (by have := HGH.out.1; omega) (by have := HGH.out.1; omega) HGH.out.2))
          have Dw : D ≤ wo.heap.size := by have := (Array.getElem?_eq_some_iff.1 HT2.out.xt).1; omega
          have CL1 := Lib.hid (cloneC_any gl o.nP cl low wo HLr.out (by omega) (by omega))
          clear eO4 lO glt ght
          rcases HO.out.iP with h0 | ⟨bP, oP, eP, lP, hP⟩
          · omega
          have HP2 := Lib.hid hP; have HEP := Lib.hid eP
          clear hP eP
          go_upto_region 8 with (fail)
          go_wp2_with fail
          refine CL1.out.mono ?_
          rintro e W2 ⟨ga, ca, rfl, ha2, ga0, ga1, hb2⟩
          have HA2 := Lib.hid ha2; have HB2 := Lib.hid hb2
          clear ha2 hb2 CL1
          have CL2 := Lib.hid (cloneC_any gh o.nP ch high W2 (HHr.out.below HB2.out) (by omega) (by omega))
          go_wp2_with fail
          refine CL2.out.mono ?_
          rintro e W3 ⟨gb, cb, rfl, hb3c, gb0, gb1, hb3⟩
          have HA3 := Lib.hid (HA2.out.below hb3); have HB3 := Lib.hid hb3c; have HBW := Lib.hid (HB2.out.trans (hb3.mono HB2.out.size))
          have sz2 := HB2.out.size
          have sz3 := hb3.size
          have gne : ga ≠ gb := by omega
          have gne2 : gb ≠ ga := by omega
          clear hb3c hb3 CL2 HA2 HB2
          have x4 := (HT2.out.below HBW.out).xo
          have eO4 : W3.cell? ⟨q.go, 4, none⟩ = some (.slice (some ⟨bP, oP, none⟩) o.nP o.cP) := by rw [← HEP.out]; exact cell_of_block x4 4 (by simp [Otl.cells])
          have lO := (Array.getElem?_eq_some_iff.1 x4).1
          clear x4
          obtain ⟨ld, hld⟩ : ∃ ld, (n : Int) * y.lot = ld := ⟨_, rfl⟩
          have ld0 : 0 ≤ ld := by rw [← hld]; exact Int.mul_nonneg (by omega) (by have := HLY.out.2.1.1; omega)
          have ld1 : ld ≤ 1099511627776 := by rw [← hld]; exact Int.le_trans (Int.mul_le_mul_of_nonneg_right (show (n : Int) ≤ 8 by omega) (by have := HLY.out.2.1.1; omega)) (by have := HLY.out.2.1.2; omega)
          rw [hld] at HF2
          have HLD := Lib.hid hld
          clear hld
          go_wp2_with fail
          clear eO4 lO
          go_loopg [63] o.nP (fun g2 s63 wx => ∃ j : Nat, j + g2 = o.nP ∧ s63 = .int .i64 (j : Int) ∧ Hid (Below wo.heap.size wo wx) ∧ Hid (CelsAt wx ga o.nP (fun i => if i < j then lowN o now.length ld low i else low i)) ∧ Hid (CelsAt wx gb o.nP (fun i => if i < j then highN o y now.length ld high i else high i)) ∧ Hid (∀ i, i < j → stepB o y now.length ld low high i = true))
          case atStart => exact ⟨0, by omega, rfl, HBW, Lib.hid (HA3.out.congr fun i _ => by simp), Lib.hid (HB3.out.congr fun i _ => by simp), Lib.hid (fun i hi => absurd hi (Nat.not_lt_zero i))⟩
          case round =>
            obtain ⟨j, hjg, rfl, HBJ, HAJ, HBJ2, HSJ⟩ := hrel
            have TJ := Lib.hid (HT2.out.below HBJ.out)
            cases gk with
            | zero =>
              have hjn : j = o.nP := by omega
              have hjz : ¬ ((j : Int) < (o.nP : Int)) := by omega
              have HALL := Lib.hid (show allB o.nP (stepB o y now.length ld low high) = true from allB_t.2 fun i hi => HSJ.out i (by omega))
              have HAF := Lib.hid (HAJ.out.congr (L' := lowN o now.length ld low) fun i hi => if_pos (by omega))
              have HBF := Lib.hid (HBJ2.out.congr (L' := highN o y now.length ld high) fun i hi => if_pos (by omega))
              have HFW := Lib.hid (show fst n st2 = tryF o y wt h (lowN o now.length ld low) (highN o y now.length ld high) p (now ++ [n]) st2 by rw [HF2.out, if_pos HALL.out])
              have RN := Lib.hid (show ∀ i, i < o.nP → RowOk (now.length + 1) (lowN o now.length ld low i) ∧ RowOk (now.length + 1) (highN o y now.length ld high i) from fun i hi => by
                have vv := (HOB.out.2.2.2.2.2.2.2.2.2 i hi).2.2 now.length (by rw [HPN.out i hi]; exact ht)
                have hv : ∀ p, p < o.nA → 0 ≤ o.V i now.length p := fun p hp => (vv.2 p (by rw [vv.1]; exact hp)).1
                have hpl := fun x (hx : 0 ≤ x) => show 0 ≤ parLo o x ∧ parLo o x ≤ x by have := par_rng (o := o) hx HOB.out.2.2.1 HOB.out.2.2.2.1 HOB.out.2.2.2.2.1; omega
                have hph := fun x (hx : 0 ≤ x) => show 0 ≤ parHi o x ∧ parHi o x ≤ x by have := par_rng (o := o) hx HOB.out.2.2.1 HOB.out.2.2.2.1 HOB.out.2.2.2.2.1; omega
                exact ⟨(row_next (HR.out i hi).1 (HL.out i hi).len hv ld0 ld1 hpl).1, (row_next (HR.out i hi).2 (HH.out i hi).len hv ld0 ld1 hph).1⟩)
              clear hjn HAJ HBJ2 HSJ
              have aLT := (HAF.out 0 (by omega)).lt
              have bLT := (HBF.out 0 (by omega)).lt
              have OLr := Lib.hid (show ∀ b, r2 = some b → b < wo.heap.size from fun b hb => by obtain ⟨a, c, -, z1, z2⟩ := HT2.out.xn; exact (own_lt z1 z2 b hb).2)
              obtain ⟨an, cn, n3, n4, n5⟩ := TJ.out.xn
              have en0 := cell_of_block n3 0 (by simp)
              have ln := (Array.getElem?_eq_some_iff.1 n3).1
              have N3 := Lib.hid n3; have N4 := Lib.hid n4; have N5 := Lib.hid n5
              clear n3 n4 n5
              have nl : now.length ≤ 1000 := by omega
              obtain ⟨j0, jh, jy0, jy1, jy2⟩ := info_parts infoInt
              have JI := Lib.hid jh; have Y0 := Lib.hid jy0; have Y1 := Lib.hid jy1; have Y2 := Lib.hid jy2
              clear jh jy0 jy1 jy2
              have ba := below_alloc wr (.cells #[.int .i64 (n : Int)] 3)
              have TA := Lib.hid (TJ.out.below ba)
              have KA := Lib.hid (((HK2.out.trans (TK.below HBJ.out)).trans (TK.below ba)))
              have NA := Lib.hid ((ba.block q.gn (Array.getElem?_eq_some_iff.1 N3.out).1).trans N3.out)
              have sa := ba.size
              have szr := HBJ.out.size
              have BAA := Lib.hid (ba.block ga aLT); have BAB := Lib.hid (ba.block gb bLT)
              clear ba
              go_upto_region 16 with (at_builtin; go_loud (refine wpList_append_own_at _ rfl _ _ 22 rfl D 3 j0 (.int .i64 0) 1 8 Try.underlying22 JI.out Y0.out Y1.out Y2.out rfl (by decide) _ now.length (natsV now) rfl (World.ownsRow.alloc N4.out _) ⟨wr.heap.size, 0, none⟩ 1 1 [.int .i64 (n : Int)] rfl rfl (news_lit _ _ _) (by simp [Value.oneCell']) (by unfold maxLen; omega) (by omega) (by simp; omega) ?_; intro v9 w9 hown9 hgrow9 _ hat9; obtain ⟨a9, c9, rfl⟩ := own_form hown9; have z9 := (hgrow9.block q.gn (Array.getElem?_eq_some_iff.1 NA.out).1 (own_ne N4.out rfl (g := q.gn) (by omega))).trans NA.out; have e9 := cell_of_block z9 0 (by simp); have f9 := frozen_of_block z9 0; have l9 := (Array.getElem?_eq_some_iff.1 z9).1))
              rw [natsV_push] at hown9
              have hl9 : (now ++ [n]).length = now.length + 1 := by simp
              rw [← hl9] at hown9 hat9
              have hgr : (wr.alloc (.cells #[.int .i64 (n : Int)] 3)).grownBy w9 r2 := by rw [← N5.out]; exact hgrow9
              have hat : (Value.slice a9 (now ++ [n]).length c9).ownBlock = r2 ∨ (Value.slice a9 (now ++ [n]).length c9).ownBlock = some (wr.alloc (.cells #[.int .i64 (n : Int)] 3)).heap.size := by rw [← N5.out]; exact hat9
              obtain ⟨W5, hW5⟩ : ∃ z, w9.setCell ⟨q.gn, 0, none⟩ (.slice a9 (now ++ [n]).length c9) = z := ⟨_, rfl⟩
              obtain ⟨t5, k5⟩ := TS.push hq0 TA.out hown9 hgr hat hW5
              rw [hl9] at hW5
              rw [hW5]
              obtain ⟨o5, ho5⟩ : ∃ z, (Value.slice a9 (now ++ [n]).length c9).ownBlock = z := ⟨_, rfl⟩
              rw [ho5] at t5 k5
              have T5 := Lib.hid t5; have K5 := Lib.hid (KA.out.trans k5); have k5h := Lib.hid k5
              clear t5 k5 hown9 hgrow9 hat9 hgr hat hW5 ho5 z9 e9 f9 l9 en0 ln
              have neA : some ga ≠ r2 := fun e => by have := OLr.out ga e.symm; omega
              have neB : some gb ≠ r2 := fun e => by have := OLr.out gb e.symm; omega
              have HA5 := HAF.out.keep ((k5h.out.kept ga (by omega) (by omega) (by omega) (by omega) (by omega) neA).trans BAA.out)
              have HB5 := HBF.out.keep ((k5h.out.kept gb (by omega) (by omega) (by omega) (by omega) (by omega) neB).trans BAB.out)
              have ne5 : ∀ g, g < wr.heap.size → some g ≠ r2 → some g ≠ o5 := fun g hg h1 e => by rcases k5h.out.own with e1 | e1; exact h1 (e.trans e1); have := e1 g e.symm; omega
              have tt5 := T5.out.xt
              have et5 := cell_of_block tt5 0 (by simp)
              have lt5 := (Array.getElem?_eq_some_iff.1 tt5).1
              clear tt5
              have HI := HIH.out (lowN o now.length ld low) (highN o y now.length ld high) ga gb ca cb p (now ++ [n]) st2 o5 W5 T5.out (by rw [hl9]; have := HN.out; omega) HA5 HB5 ⟨by omega, ne5 ga aLT neA⟩ ⟨by omega, ne5 gb bLT neB⟩ (fun i hi => by rw [hl9]; exact RN.out i hi) hp0 (by rw [hl9]; push_cast; exact hp1)
              have HI2 := Lib.hid HI
              clear HI HA5 HB5 neA neB ne5
              go_wp2_with fail
              refine HI2.out.mono ?_
              rintro e W6 ⟨⟨x6, rfl⟩, o6, t6, k6⟩
              obtain ⟨a6, c6, m3, m4, m5⟩ := t6.xn
              rcases m4.form with ⟨-, e6, -⟩ | ⟨g6, rfl, -, -⟩
              · exact absurd e6 (by simp)
              have hc6 := m4.cap
              rw [hl9] at hc6
              have m3b := m3
              rw [hl9] at m3b
              have en6 := cell_of_block m3b 0 (by simp)
              have fn6 := frozen_of_block m3b 0
              have ln6 := (Array.getElem?_eq_some_iff.1 m3b).1
              have hsl := row_first (g := g6) (n := now.length) (c := c6) (by omega) (by omega) (now.length + 1) (by omega)
              have T6 := Lib.hid t6; have K6 := Lib.hid k6; have M3 := Lib.hid m3
              clear t6 k6 m3 m4 m5 m3b et5 lt5
              go_wp2_with fail
              obtain ⟨W7, hW7⟩ : ∃ z, W6.setCell ⟨q.gn, 0, none⟩ (.slice (some ⟨g6, 0, none⟩) now.length c6) = z := ⟨_, rfl⟩
              obtain ⟨t7, k7⟩ := TS.pop hq0 T6.out M3.out hW7
              rw [hW7]
              have T7 := Lib.hid t7; have K7 := Lib.hid k7
              clear t7 k7 hW7 hsl en6 fn6
              go_roundg g
              case measure => omega
              case rel => exact ⟨n + 1, _, o6, by omega, by go_num, T7, Lib.hid (K5.out.trans (K6.out.trans K7.out)), Lib.hid (by rw [HE3.out, HFW.out])⟩
            | succ g2 =>
              have hjl : j < o.nP := by omega
              have hjI : (j : Int) < (o.nP : Int) := by omega
              obtain ⟨tl, -, -, -, -, xy, xo, -, -, xr, -, -, -⟩ := TJ.out
              have pn : o.pN j = y.nM := HPN.out j hjl
              rcases HO.out.iY j hjl with h0 | ⟨b2, f2, e2q, l2, h2⟩
              · omega
              have yP := (tl.cell (p := ⟨bP, oP + j, none⟩) lP).trans (HP2.out j hjl)
              have y2 := (tl.cell (p := ⟨b2, f2 + now.length, none⟩) l2).trans (h2 now.length (by omega))
              dsimp only at yP y2
              rw [e2q, pn] at yP
              have vv := (HOB.out.2.2.2.2.2.2.2.2.2 j hjl).2.2 now.length (by omega)
              rw [vv.1] at y2
              have u0 : wr.cell? ⟨q.go, 0, none⟩ = some (.slice o.aS o.nS o.cS) := cell_of_block xo 0 (by simp [Otl.cells])
              have u1 : wr.cell? ⟨q.go, 1, none⟩ = some (.int .i64 o.kl) := cell_of_block xo 1 (by simp [Otl.cells])
              have u2 : wr.cell? ⟨q.go, 2, none⟩ = some (.int .i64 o.kh) := cell_of_block xo 2 (by simp [Otl.cells])
              have u3 : wr.cell? ⟨q.go, 3, none⟩ = some (.slice o.aA o.nA o.cA) := cell_of_block xo 3 (by simp [Otl.cells])
              have u4 : wr.cell? ⟨q.go, 4, none⟩ = some (.slice o.aP o.nP o.cP) := cell_of_block xo 4 (by simp [Otl.cells])
              have v2 : wr.cell? ⟨q.gy, 2, none⟩ = some (.int .i64 y.lot) := cell_of_block xy 2 (by simp [Lyg.cells])
              have v4 : wr.cell? ⟨q.gr, 0, none⟩ = some (.func (.func 60) #[] #[.pointer (some ⟨q.gy, 0, none⟩)]) := cell_of_block xr 0 (by simp)
              have k0 := (Array.getElem?_eq_some_iff.1 xo).1
              have k1 := (Array.getElem?_eq_some_iff.1 xy).1
              have k2 := (Array.getElem?_eq_some_iff.1 xr).1
              have lbP : bP < wr.heap.size := Nat.lt_of_lt_of_le lP tl.size
              have lb2 : b2 < wr.heap.size := Nat.lt_of_lt_of_le l2 tl.size
              have zj := HBJ.out.size
              have zw := tl.size
              have RJ := HR.out j hjl
              have cA0 : CelAt wr ga (j * 32) (low j) := by have := HAJ.out j hjl; simpa using this
              have cB0 : CelAt wr gb (j * 32) (high j) := by have := HBJ2.out j hjl; simpa using this
              have hV := HO.out.iV j hjl now.length (by omega)
              rw [vv.1] at hV
              have hv : ∀ p, p < o.nA → 0 ≤ o.V j now.length p ∧ o.V j now.length p ≤ 1099511627776 := fun p hp => vv.2 p (by rw [vv.1]; exact hp)
              have YE := Lib.hid (fun z => year_any o (low j) ga (j * 32) (o.yA j now.length) (o.yC j now.length) (o.V j now.length) ld 36 #[] (enters_of Try.func36 (by kernel_rfl) rfl) anyRoom w0 (gw wr z) (cA0.below (below_gw wr z)) RJ.1.1 (by have := RJ.1.2; omega) ld0 (by omega) HO.out (tl.gw z) (by omega) HOB.out.2.2.2.2.2.2.2.1 HOB.out.2.2.2.2.2.2.1 hV hv (fun W x _ => anything_any x W))
              have NX := Lib.hid (row_next (part := parLo o) (room := anyRoom) (A := o.A) RJ.1 cA0.len (fun p hp => (hv p hp).1) ld0 ld1 (fun x hx => by have := par_rng (o := o) hx HOB.out.2.2.1 HOB.out.2.2.2.1 HOB.out.2.2.2.2.1; omega))
              have NY := Lib.hid (row_next (part := parHi o) (room := y.roomB) (A := o.A) RJ.2 cB0.len (fun p hp => (hv p hp).1) ld0 ld1 (fun x hx => by have := par_rng (o := o) hx HOB.out.2.2.1 HOB.out.2.2.2.1 HOB.out.2.2.2.2.1; omega))
              have CA0 := Lib.hid cA0; have CB0 := Lib.hid cB0; have HV := Lib.hid hV; have Hv := Lib.hid hv; have RJ2 := Lib.hid RJ; have XY := Lib.hid xy
              obtain ⟨c1, e1, hE1⟩ : ∃ c1 e1, yearF o.A (o.V j now.length) o.nA ld anyRoom (low j) = (c1, e1) := ⟨_, _, rfl⟩
              obtain ⟨c2, e2, hE2⟩ : ∃ c2 e2, yearF o.A (o.V j now.length) o.nA ld y.roomB (high j) = (c2, e2) := ⟨_, _, rfl⟩
              rw [hE1] at YE NX
              rw [hE2] at NY
              dsimp only at YE NX NY
              have HE1 := Lib.hid hE1; have HEE2 := Lib.hid hE2
              clear hE1 hE2
              have YE2 := Lib.hid YE.out
              unfold Otl.val at YE2
              have hw1 : IntKind.i64.wrap ((n : Int) * y.lot) = ld := by rw [HLD.out]; exact IntWalk.i64_in _ (by omega)
              have hsz : (j : Int) < (o.nP : Int) := hjI
              have n1 : q.go ≠ ga := by omega
              have n2 : q.gy ≠ ga := by omega
              have n3 : q.gr ≠ ga := by omega
              have n4 : b2 ≠ ga := by omega
              have htM : (now.length : Int) < (y.nM : Int) := htI
              clear h2 e2q vv RJ cA0 cB0 hV hv YE xo xy xr pn
              go_upto_region 12 with (fail)
              haveI hne : Nonempty (KeepW wr [q.go, q.gy, q.gr, b2]) := ⟨⟨wr, fun _ _ => rfl⟩⟩
              refine wp_region_steps (fun w' => ∃ x : KeepW wr [q.go, q.gy, q.gr, b2], w' = x.w) [([0, 1, 2, 3, 4, 5, 6, 7, 8, 9, 10, 11], 12), ([13, 14, 15, 16, 17, 18, 19, 20, 21, 22, 23, 24, 25, 26, 27], 28)] [29, 30] [] (by kernel_rfl) (by kernel_rfl) ?_
              rintro _ ⟨x0, rfl⟩
              refine ⟨keep4 (gw_block wr x0 _ k0) (gw_block wr x0 _ k1) (gw_block wr x0 _ k2) (gw_block wr x0 _ lb2), ?_⟩
              refine wpSeg_cons ?_
              simp only [pickL, List.getElem?_cons_zero, List.getElem?_cons_succ]
              repeat (go_big_quiet_step (fail))
              refine wpQuiet_nil ?_
              go_wp2_with fail
              rename_i KK hKK
              (with_reducible refine (YE2.out x0).mono ?_)
              rintro e w4 ⟨rfl, hc4, hr4⟩
              have g4 := hr4.g
              have HC4 := Lib.hid hc4; have HR4 := Lib.hid hr4
              clear hc4 hr4
              have sz4 : (gw wr x0).heap.size ≤ w4.heap.size := g4.size
              have kp : ∀ b, b < wr.heap.size → b ≠ ga → w4.heap[b]? = wr.heap[b]? := fun b h1 h2 => (g4.block b (by rw [gw_size]; omega) (fun e => h2 (by cases e; rfl))).trans (gw_block wr x0 b h1)
              have gg := grownBy_trans (grownBy_of_below (below_gw wr x0) (some ga)) g4
              have AJ4 := Lib.hid ((HAJ.out.below (below_gw wr x0)).rw HR4.out HC4.out)
              have BJ4 := Lib.hid (HBJ2.out.grown gg gne2)
              have HB4 := Lib.hid (HBJ.out.grown gg HBJ.out.size (fun k e => by cases e; exact ga0))
              have KP := Lib.hid kp; have GG := Lib.hid gg
              clear g4 gg kp
              refine hKK _ _ (contQ_nil ⟨keep4 (KP.out _ k0 n1) (KP.out _ k1 n2) (KP.out _ k2 n3) (KP.out _ lb2 n4), ?_⟩)
              clear hKK KK
              by_cases h1 : e1 = 0
              · have d0 : (e1 != 0) = false := by simp [h1]
                have T4 := Lib.hid (HT2.out.below HB4.out)
                have lgy4 := (Array.getElem?_eq_some_iff.1 T4.out.xy).1
                have YF := Lib.hid (year_any o (high j) gb (j * 32) (o.yA j now.length) (o.yC j now.length) (o.V j now.length) ld 60 #[.pointer (some ⟨q.gy, 0, none⟩)] (enters_of Try.func60 (by kernel_rfl) rfl) y.roomB w0 w4 (by have := BJ4.out j hjl; simpa using this) RJ2.out.2.1 (by have := RJ2.out.2.2; omega) ld0 (by omega) HO.out T4.out.low (by omega) HOB.out.2.2.2.2.2.2.2.1 HOB.out.2.2.2.2.2.2.1 HV.out Hv.out (fun W x hg => room2_any x y.room q.gy W (cell_of_block ((hg.block q.gy lgy4 (fun e => by cases e; omega)).trans T4.out.xy) 3 (by simp [Lyg.cells]))))
                rw [HEE2.out] at YF
                dsimp only at YF
                have YF2 := Lib.hid YF.out
                unfold Otl.val at YF2
                have H1 := Lib.hid h1
                clear YF lgy4 h1
                refine wpSeg_cons ?_
                simp only [pickL, List.getElem?_cons_zero, List.getElem?_cons_succ]
                repeat (go_big_quiet_step (fail))
                refine wpQuiet_nil ?_
                go_wp2_with fail
                rename_i KK hKK
                (with_reducible refine YF2.out.mono ?_)
                rintro e w5 ⟨rfl, hc5, hr5⟩
                have HC5 := Lib.hid hc5; have HR5 := Lib.hid hr5
                clear hc5 hr5
                have HB5 := Lib.hid (HB4.out.grown HR5.out.g HB4.out.size (fun k e => by cases e; omega))
                have AJ5 := Lib.hid (AJ4.out.grown HR5.out.g gne)
                have BJ5 := Lib.hid (BJ4.out.rw HR5.out HC5.out)
                have kp : ∀ b, b < wr.heap.size → b ≠ ga → b ≠ gb → w5.heap[b]? = wr.heap[b]? := fun b h1 h2 h3 => (HR5.out.g.block b (by have := KP.out; have := sz4; rw [gw_size] at this; omega) (fun e => h3 (by cases e; rfl))).trans (KP.out b h1 h2)
                have kq : ∃ x : KeepW wr [q.go, q.gy, q.gr, b2], w5 = x.w := keep4 (kp _ k0 n1 (by omega)) (kp _ k1 n2 (by omega)) (kp _ k2 n3 (by omega)) (kp _ lb2 n4 (by omega))
                refine hKK _ _ (contQ_nil ⟨kq, ?_⟩)
                clear hKK KK kp kq YF2 YE2
                by_cases h2 : e2 = 0
                · have d1 : (e2 != 0) = false := by simp [h2]
                  have H2 := Lib.hid h2
                  clear h2
                  refine wpSeg_nil ?_
                  simp only [pickL, List.getElem?_cons_zero, List.getElem?_cons_succ]
                  repeat (go_big_quiet_step (fail))
                  refine wpQuiet_nil ?_
                  refine contN_nil ?_
                  have T5 := Lib.hid (HT2.out.below HB5.out)
                  have lgp := (Array.getElem?_eq_some_iff.1 T5.out.xp).1
                  have vl : w5.cell? ⟨q.gl, 0, none⟩ = some (.func (.func 53) #[] #[.pointer (some ⟨q.gp, 0, none⟩)]) := cell_of_block T5.out.xl 0 (by simp)
                  have vg : w5.cell? ⟨q.gg, 0, none⟩ = some (.func (.func 54) #[] #[.pointer (some ⟨q.gp, 0, none⟩)]) := cell_of_block T5.out.xg 0 (by simp)
                  have m0 := (Array.getElem?_eq_some_iff.1 T5.out.xl).1
                  have m1 := (Array.getElem?_eq_some_iff.1 T5.out.xg).1
                  have cA5 : CelAt w5 ga (j * 32) c1 := by have := AJ5.out j hjl; simpa using this
                  have cB5 : CelAt w5 gb (j * 32) c2 := by have := BJ5.out j hjl; simpa using this
                  have m2 := cA5.lt
                  have m3 := cB5.lt
                  have CA5 := Lib.hid cA5; have CB5 := Lib.hid cB5
                  clear cA5 cB5
                  have HPANX := Lib.hid (fun x (hx : 0 ≤ x) => show 0 ≤ parLo o x ∧ parLo o x ≤ x by have := par_rng (o := o) hx HOB.out.2.2.1 HOB.out.2.2.2.1 HOB.out.2.2.2.2.1; omega)
                  have LTNX := Lib.hid (fun V (hV : Below w5.heap.size w5 V) => later_any c1 (parLo o) 53 #[.pointer (some ⟨q.gp, 0, none⟩)] (enters_of Try.func53 (by kernel_rfl) rfl) V NX.out.2.2.2 (fun t _ => (HPANX.out _ (NX.out.2.1.getD t)).1) (HPANX.out 0 (Int.le_refl 0)).1 (fun t ht => by
                    have a1 := partN_le (p := parLo o) (e := 0) (c := c1) (fun t => by have := (HPANX.out _ (NX.out.2.1.getD t)).2; omega) t (by have := NX.out.2.2.2; omega)
                    have a2 := tot_take_le NX.out.2.1 t
                    have a3 := NX.out.2.2.1
                    omega) (fun V2 t hb ht => parLo_any o _ q.gp V2 (cell_of_block ((hb.block q.gp (Nat.lt_of_lt_of_le lgp hV.size)).trans ((hV.block q.gp lgp).trans T5.out.xp)) 1 (by simp [Otl.cells])) (NX.out.2.1.getD t) (by have := NX.out.2.1.le_tot t; have := NX.out.2.2.1; omega) HOB.out.2.2.1 (by have := HOB.out.2.2.2.1; have := HOB.out.2.2.2.2.1; omega)))
                  have HPANY := Lib.hid (fun x (hx : 0 ≤ x) => show 0 ≤ parHi o x ∧ parHi o x ≤ x by have := par_rng (o := o) hx HOB.out.2.2.1 HOB.out.2.2.2.1 HOB.out.2.2.2.2.1; omega)
                  have LTNY := Lib.hid (fun V (hV : Below w5.heap.size w5 V) => later_any c2 (parHi o) 54 #[.pointer (some ⟨q.gp, 0, none⟩)] (enters_of Try.func54 (by kernel_rfl) rfl) V NY.out.2.2.2 (fun t _ => (HPANY.out _ (NY.out.2.1.getD t)).1) (HPANY.out 0 (Int.le_refl 0)).1 (fun t ht => by
                    have a1 := partN_le (p := parHi o) (e := 0) (c := c2) (fun t => by have := (HPANY.out _ (NY.out.2.1.getD t)).2; omega) t (by have := NY.out.2.2.2; omega)
                    have a2 := tot_take_le NY.out.2.1 t
                    have a3 := NY.out.2.2.1
                    omega) (fun V2 t hb ht => parHi_any o _ q.gp V2 (cell_of_block ((hb.block q.gp (Nat.lt_of_lt_of_le lgp hV.size)).trans ((hV.block q.gp lgp).trans T5.out.xp)) 2 (by simp [Otl.cells])) (NY.out.2.1.getD t) (by have := NY.out.2.1.le_tot t; have := NY.out.2.2.1; omega) (by have := HOB.out.2.2.1; have := HOB.out.2.2.2.1; omega) HOB.out.2.2.2.2.1))
                  clear u0 u1 u2 u3 u4 v2 v4 y2 yP
                  clear hne
                  go_upto_region 13 with (fail)
                  haveI hne : Nonempty (KeepW w5 [q.gl, q.gg]) := ⟨⟨w5, fun _ _ => rfl⟩⟩
                  refine wp_region_plan (fun w' => ∃ x : KeepW w5 [q.gl, q.gg], w' = x.w) (.fork [0, 1, 2, 3, 4, 5, 6, 8, 10, 11, 12, 14] 7 13 (.fork [] 9 13 (.step [] 13 (.step [] 15 (.step [16] 17 (.step [18] 19 (.last []))))) (.step [] 9 (.step [] 15 (.step [16] 17 (.step [18] 19 (.last [])))))) (.step [] 7 (.step [] 9 (.step [] 15 (.step [16] 17 (.step [18] 19 (.last []))))))) (by kernel_rfl) (by kernel_rfl) ?_
                  rintro _ ⟨x1, rfl⟩
                  refine ⟨keep2 (gw_block w5 x1 _ m0) (gw_block w5 x1 _ m1), ?_⟩
                  refine wpPlan_fork ?_
                  simp only [pickL, List.getElem?_cons_zero, List.getElem?_cons_succ]
                  repeat (go_big_quiet_step (fail))
                  refine wpQuiet_nil ?_
                  refine ⟨?_, ?_⟩
                  · go_wp2_with (refine wpList_load_cel rfl _ rfl _ _ rfl (CA5.out.below (below_gw w5 x1)) ?_)
                    refine contQ_now ⟨keep2 (gw_block w5 x1 _ m0) (gw_block w5 x1 _ m1), ?_⟩
                    refine wpPlan_fork ?_
                    simp only [pickL, List.getElem?_cons_zero, List.getElem?_cons_succ]
                    refine wpQuiet_nil ?_
                    refine ⟨?_, ?_⟩
                    · go_wp2_with fail
                      rename_i KK hKK
                      (with_reducible refine (LTNX.out _ (below_gw w5 x1)).mono ?_)
                      rintro e w6 ⟨rfl, hb6⟩
                      have HB6 := Lib.hid (thru hb6 (below_gw w5 x1))
                      clear hb6
                      refine hKK _ _ (contQ_nil ⟨keep2 (HB6.out.block _ m0) (HB6.out.block _ m1), ?_⟩)
                      clear hKK KK
                      refine wpPlan_step ?_
                      simp only [pickL, List.getElem?_cons_zero, List.getElem?_cons_succ]
                      refine wpQuiet_nil ?_
                      go_wp2_with (refine wpList_load_cel rfl _ rfl _ _ rfl (CB5.out.below HB6.out) ?_)
                      refine contQ_now ⟨keep2 (HB6.out.block _ m0) (HB6.out.block _ m1), ?_⟩
                      refine wpPlan_step ?_
                      simp only [pickL, List.getElem?_cons_zero, List.getElem?_cons_succ]
                      refine wpQuiet_nil ?_
                      go_wp2_with fail
                      rename_i KK hKK
                      (with_reducible refine (LTNY.out _ HB6.out).mono ?_)
                      rintro e w7 ⟨rfl, hb7⟩
                      have HB7 := Lib.hid (thru hb7 HB6.out)
                      clear hb7
                      refine hKK _ _ (contQ_nil ⟨keep2 (HB7.out.block _ m0) (HB7.out.block _ m1), ?_⟩)
                      clear hKK KK
                      have CA7 := Lib.hid (CA5.out.below HB7.out)
                      obtain ⟨W8, hW8⟩ : ∃ W8, w7.setCells ga (j * 32) (cV (lateF (parLo o) c1)) = W8 := ⟨_, rfl⟩
                      have AJ8 := (AJ5.out.below HB7.out).put hjl (lateF_len (parLo o) c1)
                      rw [hW8] at AJ8
                      have g8 : w7.grownBy W8 (some ga) := by rw [← hW8]; exact grownBy_setCells _ _ _ _
                      have BJ8 := (BJ5.out.below HB7.out).grown g8 gne2
                      have CB8 := Lib.hid (show CelAt W8 gb (j * 32) c2 by have := BJ8 j hjl; simpa using this)
                      obtain ⟨W9, hW9⟩ : ∃ W9, W8.setCells gb (j * 32) (cV (lateF (parHi o) c2)) = W9 := ⟨_, rfl⟩
                      have BJ9 := BJ8.put hjl (lateF_len (parHi o) c2)
                      rw [hW9] at BJ9
                      have g9 : W8.grownBy W9 (some gb) := by rw [← hW9]; exact grownBy_setCells _ _ _ _
                      have AJ9 := AJ8.grown g9 gne
                      have k8 : ∀ b, b < w5.heap.size → b ≠ ga → W8.heap[b]? = w5.heap[b]? := fun b h1 h2 => (g8.block b (Nat.lt_of_lt_of_le h1 HB7.out.size) (fun e => h2 (by cases e; rfl))).trans (HB7.out.block b h1)
                      have k9 : ∀ b, b < w5.heap.size → b ≠ ga → b ≠ gb → W9.heap[b]? = w5.heap[b]? := fun b h1 h2 h3 => (g9.block b (Nat.lt_of_lt_of_le h1 (Nat.le_trans HB7.out.size g8.size)) (fun e => h3 (by cases e; rfl))).trans (k8 b h1 h2)
                      have K8 : ∃ x : KeepW w5 [q.gl, q.gg], W8 = x.w := keep2 (k8 _ m0 (by omega)) (k8 _ m1 (by omega))
                      have K9 : ∃ x : KeepW w5 [q.gl, q.gg], W9 = x.w := keep2 (k9 _ m0 (by omega) (by omega)) (k9 _ m1 (by omega) (by omega))
                      have K8h := Lib.hid K8; have K9h := Lib.hid K9
                      have HB9 := Lib.hid ((((HB5.out.trans (HB7.out.mono HB5.out.size)).grown g8 (by have := HB5.out.size; have := HB7.out.size; omega) (fun k e => by cases e; omega)).grown g9 (by have := HB5.out.size; have := HB7.out.size; have := g8.size; omega) (fun k e => by cases e; omega)))
                      have A9 := Lib.hid AJ9; have B9 := Lib.hid BJ9
                      clear AJ8 BJ8 AJ9 BJ9 g8 g9 k8 k9 K8 K9
                      have H8 := Lib.hid hW8; have H9 := Lib.hid hW9
                      clear hW8 hW9
                      refine wpPlan_step ?_
                      simp only [pickL, List.getElem?_cons_zero, List.getElem?_cons_succ]
                      repeat (go_big_quiet_step (fail))
                      refine wpQuiet_nil ?_
                      go_wp2_with ((with_reducible refine wpList_store_cel (c := c1) (c' := lateF (parLo o) c1) rfl _ _ rfl ga (j * 32) rfl rfl CA7.out (lateF_len (parLo o) c1) ?_); rw [H8.out])
                      refine contQ_now ⟨K8h.out, ?_⟩
                      refine wpPlan_step ?_
                      simp only [pickL, List.getElem?_cons_zero, List.getElem?_cons_succ]
                      repeat (go_big_quiet_step (fail))
                      refine wpQuiet_nil ?_
                      go_wp2_with ((with_reducible refine wpList_store_cel (c := c2) (c' := lateF (parHi o) c2) rfl _ _ rfl gb (j * 32) rfl rfl CB8.out (lateF_len (parHi o) c2) ?_); rw [H9.out])
                      refine contQ_now ⟨K9h.out, ?_⟩
                      refine wpPlan_last ?_
                      simp only [pickL, List.getElem?_cons_zero, List.getElem?_cons_succ]
                      refine wpQuiet_nil ?_
                      refine contN_nil ?_
                      clear H8 H9 CA7 CB8 vl vg
                      go_wp2_with fail
                      go_roundg g2
                      case measure => omega
                      case rel =>
                        refine ⟨j + 1, by omega, by go_num, HB9, Lib.hid (A9.out.congr fun i hi => ?_), Lib.hid (B9.out.congr fun i hi => ?_), Lib.hid fun i hi => ?_⟩
                        · by_cases hij : i = j
                          · subst hij; simp only [if_pos (show i < i + 1 by omega), lowN, Otl.yrL, HE1.out, if_true]
                          · simp only [if_neg hij]; by_cases hl : i < j <;> simp [hl, show (i < j + 1) = (i < j) from propext (by omega)]
                        · by_cases hij : i = j
                          · subst hij; simp only [if_pos (show i < i + 1 by omega), highN, Otl.yrH, HEE2.out, if_true]
                          · simp only [if_neg hij]; by_cases hl : i < j <;> simp [hl, show (i < j + 1) = (i < j) from propext (by omega)]
                        · by_cases hij : i = j
                          · subst hij; simp [stepB, Otl.yrL, Otl.yrH, HE1.out, HEE2.out, H1.out, H2.out]
                          · exact HSJ.out i (by omega)
                    · go_wp2_with (refine wpList_load_cel rfl _ rfl _ _ rfl (CB5.out.below (below_gw w5 x1)) ?_)
                      refine contQ_now ⟨keep2 (gw_block w5 x1 _ m0) (gw_block w5 x1 _ m1), ?_⟩
                      refine wpPlan_step ?_
                      simp only [pickL, List.getElem?_cons_zero, List.getElem?_cons_succ]
                      refine wpQuiet_nil ?_
                      go_wp2_with fail
                      rename_i KK hKK
                      (with_reducible refine (LTNX.out _ (below_gw w5 x1)).mono ?_)
                      rintro e w6 ⟨rfl, hb6⟩
                      have HB6 := Lib.hid (thru hb6 (below_gw w5 x1))
                      clear hb6
                      refine hKK _ _ (contQ_nil ⟨keep2 (HB6.out.block _ m0) (HB6.out.block _ m1), ?_⟩)
                      clear hKK KK
                      refine wpPlan_step ?_
                      simp only [pickL, List.getElem?_cons_zero, List.getElem?_cons_succ]
                      refine wpQuiet_nil ?_
                      go_wp2_with fail
                      rename_i KK hKK
                      (with_reducible refine (LTNY.out _ HB6.out).mono ?_)
                      rintro e w7 ⟨rfl, hb7⟩
                      have HB7 := Lib.hid (thru hb7 HB6.out)
                      clear hb7
                      refine hKK _ _ (contQ_nil ⟨keep2 (HB7.out.block _ m0) (HB7.out.block _ m1), ?_⟩)
                      clear hKK KK
                      have CA7 := Lib.hid (CA5.out.below HB7.out)
                      obtain ⟨W8, hW8⟩ : ∃ W8, w7.setCells ga (j * 32) (cV (lateF (parLo o) c1)) = W8 := ⟨_, rfl⟩
                      have AJ8 := (AJ5.out.below HB7.out).put hjl (lateF_len (parLo o) c1)
                      rw [hW8] at AJ8
                      have g8 : w7.grownBy W8 (some ga) := by rw [← hW8]; exact grownBy_setCells _ _ _ _
                      have BJ8 := (BJ5.out.below HB7.out).grown g8 gne2
                      have CB8 := Lib.hid (show CelAt W8 gb (j * 32) c2 by have := BJ8 j hjl; simpa using this)
                      obtain ⟨W9, hW9⟩ : ∃ W9, W8.setCells gb (j * 32) (cV (lateF (parHi o) c2)) = W9 := ⟨_, rfl⟩
                      have BJ9 := BJ8.put hjl (lateF_len (parHi o) c2)
                      rw [hW9] at BJ9
                      have g9 : W8.grownBy W9 (some gb) := by rw [← hW9]; exact grownBy_setCells _ _ _ _
                      have AJ9 := AJ8.grown g9 gne
                      have k8 : ∀ b, b < w5.heap.size → b ≠ ga → W8.heap[b]? = w5.heap[b]? := fun b h1 h2 => (g8.block b (Nat.lt_of_lt_of_le h1 HB7.out.size) (fun e => h2 (by cases e; rfl))).trans (HB7.out.block b h1)
                      have k9 : ∀ b, b < w5.heap.size → b ≠ ga → b ≠ gb → W9.heap[b]? = w5.heap[b]? := fun b h1 h2 h3 => (g9.block b (Nat.lt_of_lt_of_le h1 (Nat.le_trans HB7.out.size g8.size)) (fun e => h3 (by cases e; rfl))).trans (k8 b h1 h2)
                      have K8 : ∃ x : KeepW w5 [q.gl, q.gg], W8 = x.w := keep2 (k8 _ m0 (by omega)) (k8 _ m1 (by omega))
                      have K9 : ∃ x : KeepW w5 [q.gl, q.gg], W9 = x.w := keep2 (k9 _ m0 (by omega) (by omega)) (k9 _ m1 (by omega) (by omega))
                      have K8h := Lib.hid K8; have K9h := Lib.hid K9
                      have HB9 := Lib.hid ((((HB5.out.trans (HB7.out.mono HB5.out.size)).grown g8 (by have := HB5.out.size; have := HB7.out.size; omega) (fun k e => by cases e; omega)).grown g9 (by have := HB5.out.size; have := HB7.out.size; have := g8.size; omega) (fun k e => by cases e; omega)))
                      have A9 := Lib.hid AJ9; have B9 := Lib.hid BJ9
                      clear AJ8 BJ8 AJ9 BJ9 g8 g9 k8 k9 K8 K9
                      have H8 := Lib.hid hW8; have H9 := Lib.hid hW9
                      clear hW8 hW9
                      refine wpPlan_step ?_
                      simp only [pickL, List.getElem?_cons_zero, List.getElem?_cons_succ]
                      repeat (go_big_quiet_step (fail))
                      refine wpQuiet_nil ?_
                      go_wp2_with ((with_reducible refine wpList_store_cel (c := c1) (c' := lateF (parLo o) c1) rfl _ _ rfl ga (j * 32) rfl rfl CA7.out (lateF_len (parLo o) c1) ?_); rw [H8.out])
                      refine contQ_now ⟨K8h.out, ?_⟩
                      refine wpPlan_step ?_
                      simp only [pickL, List.getElem?_cons_zero, List.getElem?_cons_succ]
                      repeat (go_big_quiet_step (fail))
                      refine wpQuiet_nil ?_
                      go_wp2_with ((with_reducible refine wpList_store_cel (c := c2) (c' := lateF (parHi o) c2) rfl _ _ rfl gb (j * 32) rfl rfl CB8.out (lateF_len (parHi o) c2) ?_); rw [H9.out])
                      refine contQ_now ⟨K9h.out, ?_⟩
                      refine wpPlan_last ?_
                      simp only [pickL, List.getElem?_cons_zero, List.getElem?_cons_succ]
                      refine wpQuiet_nil ?_
                      refine contN_nil ?_
                      clear H8 H9 CA7 CB8 vl vg
                      go_wp2_with fail
                      go_roundg g2
                      case measure => omega
                      case rel =>
                        refine ⟨j + 1, by omega, by go_num, HB9, Lib.hid (A9.out.congr fun i hi => ?_), Lib.hid (B9.out.congr fun i hi => ?_), Lib.hid fun i hi => ?_⟩
                        · by_cases hij : i = j
                          · subst hij; simp only [if_pos (show i < i + 1 by omega), lowN, Otl.yrL, HE1.out, if_true]
                          · simp only [if_neg hij]; by_cases hl : i < j <;> simp [hl, show (i < j + 1) = (i < j) from propext (by omega)]
                        · by_cases hij : i = j
                          · subst hij; simp only [if_pos (show i < i + 1 by omega), highN, Otl.yrH, HEE2.out, if_true]
                          · simp only [if_neg hij]; by_cases hl : i < j <;> simp [hl, show (i < j + 1) = (i < j) from propext (by omega)]
                        · by_cases hij : i = j
                          · subst hij; simp [stepB, Otl.yrL, Otl.yrH, HE1.out, HEE2.out, H1.out, H2.out]
                          · exact HSJ.out i (by omega)
                  · go_wp2_with (refine wpList_load_cel rfl _ rfl _ _ rfl (CB5.out.below (below_gw w5 x1)) ?_)
                    refine contQ_now ⟨keep2 (gw_block w5 x1 _ m0) (gw_block w5 x1 _ m1), ?_⟩
                    refine wpPlan_step ?_
                    simp only [pickL, List.getElem?_cons_zero, List.getElem?_cons_succ]
                    refine wpQuiet_nil ?_
                    go_wp2_with (refine wpList_load_cel rfl _ rfl _ _ rfl (CA5.out.below (below_gw w5 x1)) ?_)
                    refine contQ_now ⟨keep2 (gw_block w5 x1 _ m0) (gw_block w5 x1 _ m1), ?_⟩
                    refine wpPlan_step ?_
                    simp only [pickL, List.getElem?_cons_zero, List.getElem?_cons_succ]
                    refine wpQuiet_nil ?_
                    go_wp2_with fail
                    rename_i KK hKK
                    (with_reducible refine (LTNX.out _ (below_gw w5 x1)).mono ?_)
                    rintro e w6 ⟨rfl, hb6⟩
                    have HB6 := Lib.hid (thru hb6 (below_gw w5 x1))
                    clear hb6
                    refine hKK _ _ (contQ_nil ⟨keep2 (HB6.out.block _ m0) (HB6.out.block _ m1), ?_⟩)
                    clear hKK KK
                    refine wpPlan_step ?_
                    simp only [pickL, List.getElem?_cons_zero, List.getElem?_cons_succ]
                    refine wpQuiet_nil ?_
                    go_wp2_with fail
                    rename_i KK hKK
                    (with_reducible refine (LTNY.out _ HB6.out).mono ?_)
                    rintro e w7 ⟨rfl, hb7⟩
                    have HB7 := Lib.hid (thru hb7 HB6.out)
                    clear hb7
                    refine hKK _ _ (contQ_nil ⟨keep2 (HB7.out.block _ m0) (HB7.out.block _ m1), ?_⟩)
                    clear hKK KK
                    have CA7 := Lib.hid (CA5.out.below HB7.out)
                    obtain ⟨W8, hW8⟩ : ∃ W8, w7.setCells ga (j * 32) (cV (lateF (parLo o) c1)) = W8 := ⟨_, rfl⟩
                    have AJ8 := (AJ5.out.below HB7.out).put hjl (lateF_len (parLo o) c1)
                    rw [hW8] at AJ8
                    have g8 : w7.grownBy W8 (some ga) := by rw [← hW8]; exact grownBy_setCells _ _ _ _
                    have BJ8 := (BJ5.out.below HB7.out).grown g8 gne2
                    have CB8 := Lib.hid (show CelAt W8 gb (j * 32) c2 by have := BJ8 j hjl; simpa using this)
                    obtain ⟨W9, hW9⟩ : ∃ W9, W8.setCells gb (j * 32) (cV (lateF (parHi o) c2)) = W9 := ⟨_, rfl⟩
                    have BJ9 := BJ8.put hjl (lateF_len (parHi o) c2)
                    rw [hW9] at BJ9
                    have g9 : W8.grownBy W9 (some gb) := by rw [← hW9]; exact grownBy_setCells _ _ _ _
                    have AJ9 := AJ8.grown g9 gne
                    have k8 : ∀ b, b < w5.heap.size → b ≠ ga → W8.heap[b]? = w5.heap[b]? := fun b h1 h2 => (g8.block b (Nat.lt_of_lt_of_le h1 HB7.out.size) (fun e => h2 (by cases e; rfl))).trans (HB7.out.block b h1)
                    have k9 : ∀ b, b < w5.heap.size → b ≠ ga → b ≠ gb → W9.heap[b]? = w5.heap[b]? := fun b h1 h2 h3 => (g9.block b (Nat.lt_of_lt_of_le h1 (Nat.le_trans HB7.out.size g8.size)) (fun e => h3 (by cases e; rfl))).trans (k8 b h1 h2)
                    have K8 : ∃ x : KeepW w5 [q.gl, q.gg], W8 = x.w := keep2 (k8 _ m0 (by omega)) (k8 _ m1 (by omega))
                    have K9 : ∃ x : KeepW w5 [q.gl, q.gg], W9 = x.w := keep2 (k9 _ m0 (by omega) (by omega)) (k9 _ m1 (by omega) (by omega))
                    have K8h := Lib.hid K8; have K9h := Lib.hid K9
                    have HB9 := Lib.hid ((((HB5.out.trans (HB7.out.mono HB5.out.size)).grown g8 (by have := HB5.out.size; have := HB7.out.size; omega) (fun k e => by cases e; omega)).grown g9 (by have := HB5.out.size; have := HB7.out.size; have := g8.size; omega) (fun k e => by cases e; omega)))
                    have A9 := Lib.hid AJ9; have B9 := Lib.hid BJ9
                    clear AJ8 BJ8 AJ9 BJ9 g8 g9 k8 k9 K8 K9
                    have H8 := Lib.hid hW8; have H9 := Lib.hid hW9
                    clear hW8 hW9
                    refine wpPlan_step ?_
                    simp only [pickL, List.getElem?_cons_zero, List.getElem?_cons_succ]
                    repeat (go_big_quiet_step (fail))
                    refine wpQuiet_nil ?_
                    go_wp2_with ((with_reducible refine wpList_store_cel (c := c1) (c' := lateF (parLo o) c1) rfl _ _ rfl ga (j * 32) rfl rfl CA7.out (lateF_len (parLo o) c1) ?_); rw [H8.out])
                    refine contQ_now ⟨K8h.out, ?_⟩
                    refine wpPlan_step ?_
                    simp only [pickL, List.getElem?_cons_zero, List.getElem?_cons_succ]
                    repeat (go_big_quiet_step (fail))
                    refine wpQuiet_nil ?_
                    go_wp2_with ((with_reducible refine wpList_store_cel (c := c2) (c' := lateF (parHi o) c2) rfl _ _ rfl gb (j * 32) rfl rfl CB8.out (lateF_len (parHi o) c2) ?_); rw [H9.out])
                    refine contQ_now ⟨K9h.out, ?_⟩
                    refine wpPlan_last ?_
                    simp only [pickL, List.getElem?_cons_zero, List.getElem?_cons_succ]
                    refine wpQuiet_nil ?_
                    refine contN_nil ?_
                    clear H8 H9 CA7 CB8 vl vg
                    go_wp2_with fail
                    go_roundg g2
                    case measure => omega
                    case rel =>
                      refine ⟨j + 1, by omega, by go_num, HB9, Lib.hid (A9.out.congr fun i hi => ?_), Lib.hid (B9.out.congr fun i hi => ?_), Lib.hid fun i hi => ?_⟩
                      · by_cases hij : i = j
                        · subst hij; simp only [if_pos (show i < i + 1 by omega), lowN, Otl.yrL, HE1.out, if_true]
                        · simp only [if_neg hij]; by_cases hl : i < j <;> simp [hl, show (i < j + 1) = (i < j) from propext (by omega)]
                      · by_cases hij : i = j
                        · subst hij; simp only [if_pos (show i < i + 1 by omega), highN, Otl.yrH, HEE2.out, if_true]
                        · simp only [if_neg hij]; by_cases hl : i < j <;> simp [hl, show (i < j + 1) = (i < j) from propext (by omega)]
                      · by_cases hij : i = j
                        · subst hij; simp [stepB, Otl.yrL, Otl.yrH, HE1.out, HEE2.out, H1.out, H2.out]
                        · exact HSJ.out i (by omega)
                · have d1 : (e2 != 0) = true := by simp [h2]
                  have HS := Lib.hid (show ¬ allB o.nP (stepB o y now.length ld low high) = true from fun hA => by have := allB_t.1 hA j hjl; simp only [stepB, Otl.yrH, HEE2.out, Bool.and_eq_true, decide_eq_true_eq] at this; exact h2 this.2)
                  have HF3 := Lib.hid (show fst n st2 = st2 by rw [HF2.out, if_neg HS.out])
                  clear h2
                  refine wpSeg_nil ?_
                  simp only [pickL, List.getElem?_cons_zero, List.getElem?_cons_succ]
                  repeat (go_big_quiet_step (fail))
                  refine wpQuiet_nil ?_
                  refine contN_nil ?_
                  go_wp2_with fail
                  go_roundg g
                  case measure => omega
                  case rel => exact ⟨n + 1, st2, r2, by omega, by go_num, Lib.hid (HT2.out.below HB5.out), Lib.hid (HK2.out.trans (TK.below HB5.out)), Lib.hid (by rw [HE3.out, HF3.out])⟩
              · have d0 : (e1 != 0) = true := by simp [h1]
                have HS := Lib.hid (show ¬ allB o.nP (stepB o y now.length ld low high) = true from fun hA => by have := allB_t.1 hA j hjl; simp only [stepB, Otl.yrL, HE1.out, Bool.and_eq_true, decide_eq_true_eq] at this; exact h1 this.1)
                have HF3 := Lib.hid (show fst n st2 = st2 by rw [HF2.out, if_neg HS.out])
                clear h1
                refine wpSeg_cons ?_
                simp only [pickL, List.getElem?_cons_zero, List.getElem?_cons_succ]
                repeat (go_big_quiet_step (fail))
                refine wpQuiet_nil ?_
                go_wp2_with fail
                refine contQ_now ⟨keep4 (KP.out _ k0 n1) (KP.out _ k1 n2) (KP.out _ k2 n3) (KP.out _ lb2 n4), ?_⟩
                refine wpSeg_nil ?_
                simp only [pickL, List.getElem?_cons_zero, List.getElem?_cons_succ]
                repeat (go_big_quiet_step (fail))
                refine wpQuiet_nil ?_
                refine contN_nil ?_
                go_wp2_with fail
                go_roundg g
                case measure => omega
                case rel => exact ⟨n + 1, st2, r2, by omega, by go_num, Lib.hid (HT2.out.below HB4.out), Lib.hid (HK2.out.trans (TK.below HB4.out)), Lib.hid (by rw [HE3.out, HF3.out])⟩
end Go.Proofs.Ytdcpgjepgajioaa
