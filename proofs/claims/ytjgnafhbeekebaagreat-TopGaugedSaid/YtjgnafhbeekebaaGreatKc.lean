/- The days of a content. Contract of the iterator of days. Contracts of days, errorOf. Contract of errorOf. Contracts of strength, Strength (of the program and of the reference). No conditions beyond each theorem's own. -/
import Derived.Test.YtjgnafhbeekebaaGreatKb
import Derived.Test.YtjgnafhbeekebaaGreatAf
import Derived.Laws.EntriesVeiled
set_option linter.unusedVariables false
set_option linter.unusedSimpArgs false
set_option linter.unusedSectionVars false
set_option linter.constructorNameAsVariable false
namespace Go.Proofs.YtjgnafhbeekebaaGreat.L7
open Go.RowKit

attribute [local go_sem] gw_cell gw_frozen gw_size

def Cont.val (x : Cont) : Value := .agg #[.int .i64 x.day, .int .i64 x.alo, .int .i64 x.ahi, .int .i64 x.wlo, .int .i64 x.whi]
def Cont.cells (x : Cont) : Array Value := #[.int .i64 x.day, .int .i64 x.alo, .int .i64 x.ahi, .int .i64 x.wlo, .int .i64 x.whi]
/-- the floor of a day -/
def floorOf (F G : Nat → Int) (n : Nat) (d : Int) : Nat := (G (stayAt F n d)).toNat
/-- a content on the next day -/
def Cont.next (C : Clim) (F G : Nat → Int) (n : Nat) (x : Cont) : Cont :=
  x.rest ((C.RA (floorOf F G n x.day)).A (seasonOf C x.day)) ((C.RA (floorOf F G n x.day)).B (seasonOf C x.day)) ((C.RW (floorOf F G n x.day)).A (seasonOf C x.day)) ((C.RW (floorOf F G n x.day)).B (seasonOf C x.day))
def dayC (C : Clim) (F G : Nat → Int) (n : Nat) (x : Cont) : Nat → Cont
  | 0 => x
  | j + 1 => (dayC C F G n x j).next C F G n

theorem staysB_t {nA n : Nat} {F G : Nat → Int} (h : staysB nA n F G = true) : (1 ≤ n ∧ n ≤ 64) ∧ (∀ i, i < n → (0 ≤ F i ∧ F i ≤ 65536) ∧ (0 ≤ G i ∧ G i ≤ nA - 1)) ∧ ∀ i, i + 1 < n → F i < F (i + 1) := by
  simp only [staysB, Bool.and_eq_true] at h
  have b := inB_t.1 h.1
  refine ⟨by omega, fun i hi => ?_, fun i hi => ?_⟩
  · have := allB_t.1 h.2 i hi
    simp only [stayB, Bool.and_eq_true] at this
    exact ⟨inB_t.1 this.1, inB_t.1 this.2.1⟩
  · have := allB_t.1 h.2 (i + 1) hi
    simp only [stayB, Bool.and_eq_true, Bool.or_eq_true, decide_eq_true_eq] at this
    rcases this.2.2 with h | h
    · omega
    · simpa using h
theorem lb_pos {F : Nat → Int} {n : Nat} {d : Int} (hn : 0 < n) (h : F 0 ≤ d) : 0 < lb F (d + 1) n := by
  rcases Nat.eq_zero_or_pos (lb F (d + 1) n) with h0 | h0
  · have := lb_stop F (d + 1) n (by omega)
    rw [h0] at this
    omega
  · exact h0
section
variable {C : Clim} {F G : Nat → Int} {n : Nat} {x : Cont}
theorem floorOf_lt (hst : staysB C.nA n F G = true) (hA : 1 ≤ C.nA) (d : Int) : floorOf F G n d < C.nA ∧ G (stayAt F n d) = (floorOf F G n d : Nat) := by
  obtain ⟨h1, h2, h3⟩ := staysB_t hst
  have := lb_le F (d + 1) n
  have := (h2 (stayAt F n d) (by unfold stayAt; omega)).2
  unfold floorOf
  omega
theorem contB_rest {al ah wl wh : Int} (hx : contB x = true) (hd : x.day < 65536) (a0 : 0 ≤ al) (a1 : al ≤ ah) (a2 : ah ≤ 100000000) (b0 : 0 ≤ wl) (b1 : wl ≤ wh) (b2 : wh ≤ 100000000) : contB (x.rest al ah wl wh) = true := by
  obtain ⟨⟨d0, d1⟩, ⟨x0, x1, x2⟩, y0, y1, y2⟩ := contB_t hx
  have p1 := leftLo_range x0 (show 0 ≤ ah by omega) (by omega)
  have p2 := leftHi_range (show 0 ≤ x.ahi by omega) a0 (by omega)
  have p3 := left_le x0 x1 a0 a1 (by omega)
  have q1 := leftLo_range y0 (show 0 ≤ wh by omega) (by omega)
  have q2 := leftHi_range (show 0 ≤ x.whi by omega) b0 (by omega)
  have q3 := left_le y0 y1 b0 b1 (by omega)
  simp only [contB, Bool.and_eq_true]
  refine ⟨inB_t.2 ?_, spanB_t.2 ?_, spanB_t.2 ?_⟩
  · show 0 ≤ x.day + 1 ∧ x.day + 1 ≤ 65536
    omega
  · exact ⟨p1.1, p3, by show leftHi x.ahi al ≤ _; omega⟩
  · exact ⟨q1.1, q3, by show leftHi x.whi wl ≤ _; omega⟩
theorem contB_next (hB : climB C = true) (hst : staysB C.nA n F G = true) (hx : contB x = true) (hd : x.day < 65536) : contB (x.next C F G n) = true := by
  obtain ⟨-, ⟨a1, a2⟩, nw, ⟨b1, b2⟩, ra, rw'⟩ := climB_t hB
  have hf := (floorOf_lt hst a1 x.day).1
  have hs := seasonOf_lt (C := C) (day := x.day) (by omega)
  obtain ⟨p1, p2, p3⟩ := (ra _ hf).2 _ hs
  obtain ⟨q1, q2, q3⟩ := (rw' _ hf).2 _ hs
  exact contB_rest hx hd p1 p2 p3 q1 q2 q3
theorem dayC_ok (hB : climB C = true) (hst : staysB C.nA n F G = true) (hx : contB x = true) : ∀ j : Nat, x.day + j ≤ 65536 → contB (dayC C F G n x j) = true ∧ (dayC C F G n x j).day = x.day + j
  | 0, _ => ⟨hx, by simp [dayC]⟩
  | j + 1, h => by
    obtain ⟨i1, i2⟩ := dayC_ok hB hst hx j (by omega)
    exact ⟨contB_next hB hst i1 (by omega), by show (dayC C F G n x j).day + 1 = _; omega⟩
end
end Go.Proofs.YtjgnafhbeekebaaGreat.L7

namespace Go.Proofs.YtjgnafhbeekebaaGreat.L7
open Go.RowKit Go.Shelf

attribute [local go_sem] gw_cell gw_frozen gw_size

/-- the blocks that the iterator reads -/
def daysHeld (C : Clim) (cur : Array Value) (bc B bx bto ball bfl bcp bs : Nat) (x : Cont) (tu : Int) (aS : Option Addr) (k cS : Nat) : List (Nat × Obj) :=
  [(bc, .cells #[.int .i64 C.days, .slice C.aA C.nA C.cA, .slice C.aW C.nW C.cW] 30 (0, 0)), (B, .cells cur 138 (0, 0)),
   (bx, .cells x.cells 32 (0, 0)), (bto, .cells #[.int .i64 tu] 3 (0, 0)), (ball, .cells #[.slice (some ⟨B, 0, none⟩) C.nA C.nA] 130 (0, 0)),
   (bfl, .cells #[.func (.func 91) #[] #[.pointer (some ⟨bs, 0, none⟩)]] 134 (0, 0)), (bcp, .cells #[.pointer (some ⟨bc, 0, none⟩)] 121 (0, 0)), (bs, .cells #[.slice aS k cS] 33 (0, 0))]

section
variable {C : Clim} {cur : Array Value} {bc B bx bto ball bfl bcp bs : Nat} {x : Cont} {tu : Int} {aS : Option Addr} {k cS : Nat} {W : World}
theorem daysHeld_t (h : Held (daysHeld C cur bc B bx bto ball bfl bcp bs x tu aS k cS) W) :
    W.heap[bc]? = some (.cells #[.int .i64 C.days, .slice C.aA C.nA C.cA, .slice C.aW C.nW C.cW] 30 (0, 0)) ∧ W.heap[B]? = some (.cells cur 138 (0, 0)) ∧
    W.heap[bx]? = some (.cells x.cells 32 (0, 0)) ∧ W.heap[bto]? = some (.cells #[.int .i64 tu] 3 (0, 0)) ∧ W.heap[ball]? = some (.cells #[.slice (some ⟨B, 0, none⟩) C.nA C.nA] 130 (0, 0)) ∧
    W.heap[bfl]? = some (.cells #[.func (.func 91) #[] #[.pointer (some ⟨bs, 0, none⟩)]] 134 (0, 0)) ∧ W.heap[bcp]? = some (.cells #[.pointer (some ⟨bc, 0, none⟩)] 121 (0, 0)) ∧ W.heap[bs]? = some (.cells #[.slice aS k cS] 33 (0, 0)) := by
  have H := fun p hp => h p hp
  exact ⟨H (bc, _) (by simp [daysHeld]), H (B, _) (by simp [daysHeld]), H (bx, _) (by simp [daysHeld]), H (bto, _) (by simp [daysHeld]), H (ball, _) (by simp [daysHeld]), H (bfl, _) (by simp [daysHeld]), H (bcp, _) (by simp [daysHeld]), H (bs, _) (by simp [daysHeld])⟩
end

set_option maxRecDepth 100000 in
set_option maxHeartbeats 4000000 in
theorem days2_in (n l : Nat) (C : Clim) (cur : Array Value) (bc B bx bto ball bfl bcp bs b off cS k : Nat) (F G : Nat → Int) (x : Cont) (tu : Int) (w0 W : World) (bX : Nat) (m : Nat)
    (hB : climB C = true) (hCI : C.In w0) (hb : b < w0.heap.size) (hS : ∀ i, i < k → w0.cell? ⟨b, off + i * 2, none⟩ = some (.int .i64 (F i)) ∧ w0.cell? ⟨b, off + i * 2 + 1, none⟩ = some (.int .i64 (G i)))
    (hst : staysB C.nA k F G = true) (hx : contB x = true) (hto : tu ≤ 65536) (hm : x.day + m = tu) (h0 : 0 < m → F 0 ≤ x.day) (hcur : Filled C cur fun _ _ => True)
    (J Jx : Nat → World → Prop) (hJ : ∀ j K V V', W.heap.size ≤ K → J j V → V.grownBy V' (some K) → J j V')
    (hY : ∀ j V, J j V → j ≤ m → YieldAt Fence.wide (n - 1) Tryz.prog l #[(dayC C F G k x j).val] V fun e V' => (e = .returned (.bool true) ∧ J (j + 1) V' ∧ V.grownBy V' (some bX)) ∨ (e = .returned (.bool false) ∧ Jx j V'))
    (hlow : Below w0.heap.size w0 W) (hH : Held (daysHeld C cur bc B bx bto ball bfl bcp bs x tu (some ⟨b, off, none⟩) k cS) W) (hX0 : w0.heap.size ≤ bX) (hX1 : bX < W.heap.size) (hX : ∀ p ∈ daysHeld C cur bc B bx bto ball bfl bcp bs x tu (some ⟨b, off, none⟩) k cS, p.1 ≠ bX) (hJ0 : J 0 W) :
    CallsIn Fence.wide n Tryz.prog 94 #[.func (.yield l) #[] #[], .pointer (some ⟨bx, 0, none⟩), .pointer (some ⟨bto, 0, none⟩), .pointer (some ⟨ball, 0, none⟩), .pointer (some ⟨bfl, 0, none⟩), .pointer (some ⟨bcp, 0, none⟩)] W
      fun e W' => (∃ v, e = .returned v) ∧ (J (m + 1) W' ∨ ∃ j, j ≤ m ∧ Jx j W') := by
  have hbx : W.heap[bx]? = some (.cells x.cells 32 (0, 0)) := (daysHeld_t hH).2.2.1
  have x0 : W.cell? ⟨bx, 0, none⟩ = some (.int .i64 x.day) := cell_of_block hbx 0 (by simp [Cont.cells])
  have x1 : W.cell? ⟨bx, 1, none⟩ = some (.int .i64 x.alo) := cell_of_block hbx 1 (by simp [Cont.cells])
  have x2 : W.cell? ⟨bx, 2, none⟩ = some (.int .i64 x.ahi) := cell_of_block hbx 2 (by simp [Cont.cells])
  have x3 : W.cell? ⟨bx, 3, none⟩ = some (.int .i64 x.wlo) := cell_of_block hbx 3 (by simp [Cont.cells])
  have x4 : W.cell? ⟨bx, 4, none⟩ = some (.int .i64 x.whi) := cell_of_block hbx 4 (by simp [Cont.cells])
  clear hbx
  have HJ := Lib.hid hJ; clear hJ
  have HY := Lib.hid hY; clear hY
  have HH := Lib.hid hH; clear hH
  have HX := Lib.hid hX; clear hX
  have HS := Lib.hid hS; clear hS
  have HCI := Lib.hid hCI; clear hCI
  have HJ0 := Lib.hid hJ0; clear hJ0
  have HCUR := Lib.hid hcur; clear hcur
  have HLOW := Lib.hid hlow; clear hlow
  refine callsIn_of_wp Tryz.func94 rfl trivial ?_ rfl
  simp only [Tryz.ntmps94, List.size_toArray, List.length_cons, List.length_nil, Nat.reduceAdd, Nat.reduceSub, Array.replicate_succ, Array.replicate_zero, List.push_toArray, List.append_toArray, List.nil_append, List.cons_append]
  gi_wp2_with fail
  gi_loopw [9] (fun _ wr => ∃ j : Nat, j ≤ m ∧ J j wr ∧ CaskBox wr W.heap.size (dayC C F G k x j) ∧ Held (daysHeld C cur bc B bx bto ball bfl bcp bs x tu (some ⟨b, off, none⟩) k cS) wr ∧ Below w0.heap.size w0 wr)
    (fun _ wr => (tu - intOf ((wr.cell? ⟨W.heap.size, 0, none⟩).getD undef)).toNat)
  case atStart =>
    exact ⟨0, Nat.zero_le _, HJ.out 0 W.heap.size W _ (Nat.le_refl _) HJ0.out (World.grownBy_alloc W _ _), World.alloc_heap_new W _, HH.out.new (World.grownBy_alloc W _ (some W.heap.size)) (Nat.le_refl _), HLOW.out.trans ((below_alloc W _).mono HLOW.out.size)⟩
  case round =>
    obtain ⟨j, hj, hJj, hK, hHj, hlj⟩ := hrel
    obtain ⟨oy, ey⟩ := dayC_ok hB hst hx j (by omega)
    obtain ⟨fn, tmps, assign, body, hy, hR⟩ := HY.out j wr hJj hj
    have EN := Lib.hid (show dayC C F G k x (j + 1) = (dayC C F G k x j).next C F G k from rfl)
    obtain ⟨y, hyy⟩ : ∃ y, dayC C F G k x j = y := ⟨_, rfl⟩
    rw [hyy] at hy oy ey hK EN
    clear hyy hJj
    have EY := Lib.hid ey; clear ey
    have EM := Lib.hid hm; clear hm
    have c0 : wr.cell? ⟨W.heap.size, 0, none⟩ = some (.int .i64 y.day) := cell_of_block hK 0 (by simp)
    have c1 : wr.cell? ⟨W.heap.size, 1, none⟩ = some (.int .i64 y.alo) := cell_of_block hK 1 (by simp)
    have c2 : wr.cell? ⟨W.heap.size, 2, none⟩ = some (.int .i64 y.ahi) := cell_of_block hK 2 (by simp)
    have c3 : wr.cell? ⟨W.heap.size, 3, none⟩ = some (.int .i64 y.wlo) := cell_of_block hK 3 (by simp)
    have c4 : wr.cell? ⟨W.heap.size, 4, none⟩ = some (.int .i64 y.whi) := cell_of_block hK 4 (by simp)
    have hKl := (Array.getElem?_eq_some_iff.1 hK).1
    have HK := Lib.hid hK; clear hK
    have HHJ := Lib.hid hHj; clear hHj
    have HLJ := Lib.hid hlj; clear hlj
    have HR := Lib.hid hR; clear hR
    unfold Cont.val at hy
    gi_wp2_with fail
    refine ⟨(fun h => (by cases h)), HR.out.mono ?_⟩
    rintro e W3 (⟨rfl, hJ3, hg⟩ | ⟨rfl, hJx⟩)
    · have HJ3 := Lib.hid hJ3; clear hJ3
      have HH3 := Lib.hid (HHJ.out.grown hg HX.out)
      have HK3 := Lib.hid ((hg.block W.heap.size hKl (by simp; omega)).trans HK.out)
      have HL3 := Lib.hid (HLJ.out.grown hg HLJ.out.size (fun k e => by cases e; exact hX0))
      have MS := Lib.hid (show (wr.cell? ⟨W.heap.size, 0, none⟩).getD undef = .int .i64 y.day by rw [c0]; rfl)
      clear c0 c1 c2 c3 c4 hg hKl HR
      obtain ⟨z1, z2, z3, z4, z5, z6, z7, z8⟩ := daysHeld_t HH3.out
      have t0 := cell_of_block z4 0 (by simp)
      have d0 : W3.cell? ⟨W.heap.size, 0, none⟩ = some (.int .i64 y.day) := cell_of_block HK3.out 0 (by simp)
      simp at t0
      have DL : j < m ↔ y.day < tu := by have := EY.out; have := EM.out; omega
      by_cases hjm : j < m
      · have dl := DL.1 hjm
        clear DL
        obtain ⟨sn, sr, sm⟩ := staysB_t hst
        obtain ⟨fl, fe⟩ := floorOf_lt hst (climB_t hB).2.1.1 y.day
        have LB : 0 < lb F (y.day + 1) k := lb_pos (by omega) (by have := h0 (by omega); have := EY.out; omega)
        have dd := (contB_t oy).1
        have NX := Lib.hid (show y.next C F G k = y.rest ((C.RA (floorOf F G k y.day)).A (seasonOf C y.day)) ((C.RA (floorOf F G k y.day)).B (seasonOf C y.day)) ((C.RW (floorOf F G k y.day)).A (seasonOf C y.day)) ((C.RW (floorOf F G k y.day)).B (seasonOf C y.day)) from rfl)
        have FL := fun z => floor_any b off k cS bs y.day F G (gw W3 z) (by omega) (by rw [gw_size]; have := HL3.out.size; omega) dd.1 dd.2 ((gw_cell (p := ⟨bs, 0, none⟩) (Array.getElem?_eq_some_iff.1 z8).1).trans (cell_of_block z8 0 (by simp))) (by rw [gw_size]; have := (Array.getElem?_eq_some_iff.1 z8).1; omega)
          (fun i hi => ⟨((HL3.out.trans ((below_gw W3 z).mono HL3.out.size)).cell (p := ⟨b, off + i * 2, none⟩) hb).trans (HS.out i hi).1, ((HL3.out.trans ((below_gw W3 z).mono HL3.out.size)).cell (p := ⟨b, off + i * 2 + 1, none⟩) hb).trans (HS.out i hi).2⟩) (fun i hi => (sr i hi).1) sm LB
        have SE := fun z => season_any C bc B (floorOf F G k y.day) y.day (gw W3 z) ⟨((below_gw W3 z).block bc (Array.getElem?_eq_some_iff.1 z1).1).trans z1, HCI.out.below (HL3.out.trans ((below_gw W3 z).mono HL3.out.size))⟩ hB ⟨cur, ((below_gw W3 z).block B (Array.getElem?_eq_some_iff.1 z2).1).trans z2, HCUR.out⟩ fl dd.1 dd.2
        rw [fe] at FL
        obtain ⟨_, ⟨na1, na2⟩, nw, ⟨nb1, nb2⟩, ra, rw'⟩ := climB_t hB
        obtain ⟨p1, p2, p3⟩ := (ra _ fl).2 (seasonOf C y.day) (seasonOf_lt (by omega))
        obtain ⟨q1, q2, q3⟩ := (rw' _ fl).2 (seasonOf C y.day) (seasonOf_lt (by omega))
        have RS := fun z => rest_any W.heap.size y ((C.RA (floorOf F G k y.day)).A (seasonOf C y.day)) ((C.RA (floorOf F G k y.day)).B (seasonOf C y.day)) ((C.RW (floorOf F G k y.day)).A (seasonOf C y.day)) ((C.RW (floorOf F G k y.day)).B (seasonOf C y.day)) (gw W3 z) (((below_gw W3 z).block W.heap.size (Array.getElem?_eq_some_iff.1 HK3.out).1).trans HK3.out) oy p1 p2 p3 q1 q2 q3
        rw [← NX.out] at RS
        clear ra rw' p1 p2 p3 q1 q2 q3 sr sm LB
        generalize (C.RA (floorOf F G k y.day)).A (seasonOf C y.day) = p at *
        generalize (C.RA (floorOf F G k y.day)).B (seasonOf C y.day) = q at *
        generalize (C.RW (floorOf F G k y.day)).A (seasonOf C y.day) = r at *
        generalize (C.RW (floorOf F G k y.day)).B (seasonOf C y.day) = t at *
        generalize floorOf F G k y.day = f at *
        have FL' := Lib.hid FL; clear FL
        have SE' := Lib.hid SE; clear SE
        have RS' := Lib.hid RS; clear RS NX
        have u5 := cell_of_block z5 0 (by simp)
        have u6 := cell_of_block z6 0 (by simp)
        have u7 := cell_of_block z7 0 (by simp)
        simp at u5 u6 u7
        have l5 := (Array.getElem?_eq_some_iff.1 z5).1
        have l6 := (Array.getElem?_eq_some_iff.1 z6).1
        have l7 := (Array.getElem?_eq_some_iff.1 z7).1
        have lK := (Array.getElem?_eq_some_iff.1 HK3.out).1
        clear z1 z2 z3 z4 z5 z6 z7 z8
        gi_wp2_with fail
        refine wpIn_wide.2 (wp_region_gw_tail 12 (by kernel_rfl) (by kernel_rfl) ?_)
        simp only [List.take_succ_cons, List.take_zero]
        repeat (go_big_quiet_step (first | (go_at_call 91; with_reducible exact Calls.gw_of (FL'.out _)) | (go_at_call 96; with_reducible exact Calls.gw_of (SE'.out _))))
        refine wpQuiet_nil ?_
        rintro _ ⟨z, rfl⟩
        simp only [List.drop_succ_cons, List.drop_zero]
        go_wp2_with fail
        refine (RS'.out z).mono ?_
        rintro e W4 ⟨rfl, hK4, hg4⟩
        have hg := grownBy_trans (grownBy_of_below (below_gw W3 z) (some W.heap.size)) hg4
        have MS4 := Lib.hid (show (W4.cell? ⟨W.heap.size, 0, none⟩).getD undef = .int .i64 (y.next C F G k).day by rw [show W4.cell? ⟨W.heap.size, 0, none⟩ = _ from cell_of_block hK4 0 (by simp)]; rfl)
        have HG := Lib.hid hg; clear hg hg4
        have HK4 := Lib.hid hK4; clear hK4
        go_wp2_with fail
        go_roundw
        case rel => exact ⟨j + 1, hjm, HJ.out (j + 1) W.heap.size W3 _ (Nat.le_refl _) HJ3.out HG.out, by rw [EN.out]; exact HK4.out, HH3.out.grown HG.out (fun p hp e => by have := HH.out.lt hp; omega), HL3.out.grown HG.out HL3.out.size (fun k e => by cases e; exact Nat.le_of_lt (Nat.lt_of_le_of_lt hX0 hX1))⟩
        case measure =>
          rw [MS4.out, MS.out]
          show (tu - (y.day + 1)).toNat < (tu - y.day).toNat
          omega
      · have dl := fun h => hjm (DL.2 h)
        clear DL
        obtain rfl : j = m := by omega
        clear z1 z2 z3 z4 z5 z6 z7 z8
        gi_wp2_with fail
        go_end0
        exact ⟨⟨_, rfl⟩, .inl HJ3.out⟩
    · gi_wp2_with fail
      go_end0
      exact ⟨⟨_, rfl⟩, .inr ⟨j, hj, hJx⟩⟩
end Go.Proofs.YtjgnafhbeekebaaGreat.L7

namespace Go.Proofs.YtjgnafhbeekebaaGreat.L7
open Go.RowKit

attribute [local go_sem] gw_cell gw_frozen gw_size

theorem four_blocks (w : World) (o1 o2 o3 o4 : Obj) : ((((w.alloc o1).alloc o2).alloc o3).alloc o4).heap.size = w.heap.size + 4 ∧
    ((((w.alloc o1).alloc o2).alloc o3).alloc o4).heap[w.heap.size]? = some o1 ∧ ((((w.alloc o1).alloc o2).alloc o3).alloc o4).heap[w.heap.size + 1]? = some o2 ∧
    ((((w.alloc o1).alloc o2).alloc o3).alloc o4).heap[w.heap.size + 2]? = some o3 ∧ ((((w.alloc o1).alloc o2).alloc o3).alloc o4).heap[w.heap.size + 3]? = some o4 ∧ Below w.heap.size w ((((w.alloc o1).alloc o2).alloc o3).alloc o4) :=
  ⟨by simp, alloc_keep (alloc_keep (alloc_keep (alloc_at rfl))), alloc_keep (alloc_keep (alloc_at (by simp))), alloc_keep (alloc_at (by simp)), alloc_at (by simp), (((below_alloc _ _).alloc (by simp) _).alloc (by simp; omega) _).alloc (by simp; omega) _⟩

set_option maxRecDepth 100000 in
set_option maxHeartbeats 2000000 in
theorem days_any (C : Clim) (bc : Nat) (x : Cont) (aS : Option Addr) (k cS : Nat) (tu : Int) (w : World) (hC : C.At w bc) (hB : climB C = true) :
    Calls Tryz.prog 78 #[.pointer (some ⟨bc, 0, none⟩), x.val, .slice aS k cS, .int .i64 tu] w fun e w' =>
      ∃ cur B bx bto ball bfl bcp bs, e = .returned (.func (.func 94) #[] #[.pointer (some ⟨bx, 0, none⟩), .pointer (some ⟨bto, 0, none⟩), .pointer (some ⟨ball, 0, none⟩), .pointer (some ⟨bfl, 0, none⟩), .pointer (some ⟨bcp, 0, none⟩)]) ∧
        Held (daysHeld C cur bc B bx bto ball bfl bcp bs x tu aS k cS) w' ∧ Filled C cur (fun _ _ => True) ∧ Below w.heap.size w w' ∧ ∀ p ∈ daysHeld C cur bc B bx bto ball bfl bcp bs x tu aS k cS, p.1 = bc ∨ w.heap.size ≤ p.1 := by
  have hmf : ∀ (fn : Fn) (first cap : Array Value) (w : World), (Instr.makeFunc fn first cap).run Tryz.prog w = .ok (.func fn first cap) w := fun _ _ _ _ => rfl
  have lt := hC.lt
  have HC := Lib.hid hC; clear hC
  unfold Cont.val
  go_enter Tryz.func78, Tryz.ntmps78
  obtain ⟨z0, z1, z2, z3, z4, z5⟩ := four_blocks w (.cells #[.pointer (some ⟨bc, 0, none⟩)] 121) (.cells #[.int .i64 x.day, .int .i64 x.alo, .int .i64 x.ahi, .int .i64 x.wlo, .int .i64 x.whi] 32) (.cells #[.slice aS k cS] 33) (.cells #[.int .i64 tu] 3)
  obtain ⟨W1, hW1⟩ : ∃ W1, (((w.alloc (.cells #[.pointer (some ⟨bc, 0, none⟩)] 121)).alloc (.cells #[.int .i64 x.day, .int .i64 x.alo, .int .i64 x.ahi, .int .i64 x.wlo, .int .i64 x.whi] 32)).alloc (.cells #[.slice aS k cS] 33)).alloc (.cells #[.int .i64 tu] 3) = W1 := ⟨_, rfl⟩
  rw [hW1] at z0 z1 z2 z3 z4 z5
  have c0 : W1.cell? ⟨w.heap.size, 0, none⟩ = some (.pointer (some ⟨bc, 0, none⟩)) := cell_of_block z1 0 (by simp)
  have Y := Lib.hid (years_any C bc W1 (HC.out.below z5) hB)
  have Z := Lib.hid (And.intro z0 (And.intro z1 (And.intro z2 (And.intro z3 (And.intro z4 z5))))); clear z0 z1 z2 z3 z4 z5
  go_wp2_with fail
  refine Y.out.mono ?_
  rintro e w2 ⟨B, rfl, hBl, ⟨cur, hcu, hfi⟩, hb2⟩
  obtain ⟨z0, z1, z2, z3, z4, z5⟩ := Z.out
  have y1 := (hb2.block _ (by omega)).trans z1
  have y2 := (hb2.block _ (by omega)).trans z2
  have y3 := (hb2.block _ (by omega)).trans z3
  have y4 := (hb2.block _ (by omega)).trans z4
  have hcl := (z5.trans (hb2.mono z5.size)).block bc lt |>.trans HC.out.blk
  have hlow := z5.trans (hb2.mono z5.size)
  have YY := Lib.hid (And.intro y1 (And.intro y2 (And.intro y3 (And.intro y4 (And.intro hcl (And.intro hcu (And.intro hlow hb2.size)))))))
  clear y1 y2 y3 y4 hcl hcu hlow hb2 z0 z1 z2 z3 z4 z5 c0 hW1
  go_wp2_with fail
  go_ret
  obtain ⟨y1, y2, y3, y4, hcl, hcu, hlow, hsz⟩ := YY.out
  obtain ⟨z0, -⟩ := Z.out
  refine ⟨cur, B, w.heap.size + 1, w.heap.size + 1 + 1 + 1, w2.heap.size, w2.heap.size + 1, w.heap.size, w.heap.size + 1 + 1, rfl, ?_, hfi, (hlow.alloc hlow.size _).alloc (by have := hlow.size; simp; omega) _, ?_⟩
  · have A : ∀ {k : Nat} {q : Obj} {o o' : Obj}, w2.heap[k]? = some q → ((w2.alloc o).alloc o').heap[k]? = some q := fun h => alloc_keep (alloc_keep h)
    intro p hp
    simp only [daysHeld, List.mem_cons, List.not_mem_nil, or_false] at hp
    rcases hp with rfl | rfl | rfl | rfl | rfl | rfl | rfl | rfl
    · exact A hcl
    · exact A hcu
    · exact A y2
    · exact A y4
    · exact alloc_keep (alloc_at rfl)
    · exact alloc_at (by simp)
    · exact A y1
    · exact A y3
  · intro p hp
    simp only [daysHeld, List.mem_cons, List.not_mem_nil, or_false] at hp
    rcases hp with rfl | rfl | rfl | rfl | rfl | rfl | rfl | rfl
    · exact .inl rfl
    all_goals exact .inr (by dsimp only; omega)
end Go.Proofs.YtjgnafhbeekebaaGreat.L7

namespace Go.Proofs.YtjgnafhbeekebaaGreat.L7
open Go.RowKit

attribute [local go_sem] gw_cell gw_frozen gw_size

/-- the error of a later day -/
def errH (C : Clim) (x : Cont) (k : Nat) (F G : Nat → Int) (day : Int) : Int :=
  if climB C = true ∧ contB x = true ∧ staysB C.nA k F G = true then
    if inB day 0 65536 = true then if day < x.day then 7 else if x.day < F 0 ∧ x.day < day then 4 else 0 else 2
  else 1

set_option maxRecDepth 100000 in
set_option maxHeartbeats 400000 in
theorem errorOf_any (C : Clim) (x : Cont) (aS : Option Addr) (k cS : Nat) (F G : Nat → Int) (day : Int) (w : World) (hC : C.In w) (hf : C.Fits) (hk : k ≤ 9223372036854775807) (hS : SpansAt w aS k F G) :
    Calls Tryz.prog 77 #[.agg #[.int .i64 C.days, .slice C.aA C.nA C.cA, .slice C.aW C.nW C.cW], .agg #[.int .i64 x.day, .int .i64 x.alo, .int .i64 x.ahi, .int .i64 x.wlo, .int .i64 x.whi], .slice aS k cS, .int .i64 day] w fun e w' => e = .returned (.int .i64 (errH C x k F G day)) ∧ Below w.heap.size w w' := by
  obtain ⟨E, hE⟩ : ∃ E, errH C x k F G day = E := ⟨_, rfl⟩
  have EE := Lib.hid hE
  unfold errH at hE
  have HE := Lib.hid hE; clear hE
  rw [EE.out]
  obtain ⟨W1, hW1⟩ : ∃ W1, (w.alloc (.cells #[.int .i64 C.days, .slice C.aA C.nA C.cA, .slice C.aW C.nW C.cW] 30)).alloc (.cells #[.int .i64 x.day, .int .i64 x.alo, .int .i64 x.ahi, .int .i64 x.wlo, .int .i64 x.whi] 32) = W1 := ⟨_, rfl⟩
  have hB : Below w.heap.size w W1 := by rw [← hW1]; exact (below_alloc _ _).alloc (by simp) _
  have z1 : W1.heap[w.heap.size]? = some (.cells #[.int .i64 C.days, .slice C.aA C.nA C.cA, .slice C.aW C.nW C.cW] 30 (0, 0)) := by rw [← hW1]; exact alloc_keep (alloc_at rfl)
  have z2 : W1.heap[w.heap.size + 1]? = some (.cells #[.int .i64 x.day, .int .i64 x.alo, .int .i64 x.ahi, .int .i64 x.wlo, .int .i64 x.whi] 32 (0, 0)) := by rw [← hW1]; exact alloc_at (by simp)
  have c0 : W1.cell? ⟨w.heap.size, 0, none⟩ = some (.int .i64 C.days) := cell_of_block z1 0 (by simp)
  have c1 : W1.cell? ⟨w.heap.size, 1, none⟩ = some (.slice C.aA C.nA C.cA) := cell_of_block z1 1 (by simp)
  have c2 : W1.cell? ⟨w.heap.size, 2, none⟩ = some (.slice C.aW C.nW C.cW) := cell_of_block z1 2 (by simp)
  have d0 : W1.cell? ⟨w.heap.size + 1, 0, none⟩ = some (.int .i64 x.day) := cell_of_block z2 0 (by simp)
  have d1 : W1.cell? ⟨w.heap.size + 1, 1, none⟩ = some (.int .i64 x.alo) := cell_of_block z2 1 (by simp)
  have d2 : W1.cell? ⟨w.heap.size + 1, 2, none⟩ = some (.int .i64 x.ahi) := cell_of_block z2 2 (by simp)
  have d3 : W1.cell? ⟨w.heap.size + 1, 3, none⟩ = some (.int .i64 x.wlo) := cell_of_block z2 3 (by simp)
  have d4 : W1.cell? ⟨w.heap.size + 1, 4, none⟩ = some (.int .i64 x.whi) := cell_of_block z2 4 (by simp)
  have l1 := (Array.getElem?_eq_some_iff.1 z1).1
  have l2 := (Array.getElem?_eq_some_iff.1 z2).1
  have HC := Lib.hid (hC.below hB); clear hC
  have HS := Lib.hid (hS.below hB); clear hS
  have HB := Lib.hid hB; clear hB
  have HW1 := Lib.hid hW1; clear hW1 z1 z2
  cases h1 : climB C with
  | false =>
    have EV := Lib.hid (show E = 1 by rw [← HE.out]; simp [h1])
    have H1 := Lib.hid h1; clear h1
    go_enter Tryz.func77, Tryz.ntmps77
    go_wp2_with fail
    rw [HW1.out]
    go_wp2_with fail
    refine (Calls.grown (isClimate_b C _ HC.out hf H1.out)).mono ?_
    rintro e w1 ⟨rfl, z1, rfl⟩
    go_wp2_with fail
    go_ret
    exact ⟨by rw [EV.out]; rfl, HB.out.gw z1⟩
  | true =>
    cases h2 : contB x with
    | false =>
      have EV := Lib.hid (show E = 1 by rw [← HE.out]; simp [h2])
      have H1 := Lib.hid h1; clear h1
      have H2 := Lib.hid h2; clear h2
      go_enter Tryz.func77, Tryz.ntmps77
      go_wp2_with fail
      rw [HW1.out]
      go_wp2_with fail
      refine (Calls.grown (isClimate_b C _ HC.out hf H1.out)).mono ?_
      rintro e w1 ⟨rfl, z1, rfl⟩
      go_wp2_with fail
      refine (Calls.gw_of (isContent_b x _ H2.out)).mono ?_
      rintro e w1 ⟨rfl, z2, rfl⟩
      go_wp2_with fail
      go_ret
      exact ⟨by rw [EV.out]; rfl, HB.out.gw z2⟩
    | true =>
      cases h3 : staysB C.nA k F G with
      | false =>
        have EV := Lib.hid (show E = 1 by rw [← HE.out]; simp [h3])
        have H1 := Lib.hid h1; clear h1
        have H2 := Lib.hid h2; clear h2
        have H3 := Lib.hid h3; clear h3
        go_enter Tryz.func77, Tryz.ntmps77
        go_wp2_with fail
        rw [HW1.out]
        go_wp2_with fail
        refine (Calls.grown (isClimate_b C _ HC.out hf H1.out)).mono ?_
        rintro e w1 ⟨rfl, z1, rfl⟩
        go_wp2_with fail
        refine (Calls.gw_of (isContent_b x _ H2.out)).mono ?_
        rintro e w1 ⟨rfl, z2, rfl⟩
        go_wp2_with fail
        refine (Calls.gw_of (areStays_b C _ k cS F G _ hf hk (HS.out.below (below_gw W1 z2)) H3.out)).mono ?_
        rintro e w1 ⟨rfl, z3, rfl⟩
        go_wp2_with fail
        go_ret
        exact ⟨by rw [EV.out]; rfl, HB.out.gw z3⟩
      | true =>
        cases h4 : inB day 0 65536 with
        | false =>
          have EV := Lib.hid (show E = 2 by rw [← HE.out]; simp [h1, h2, h3, h4])
          have H1 := Lib.hid h1; clear h1
          have H2 := Lib.hid h2; clear h2
          have H3 := Lib.hid h3; clear h3
          have H4 := Lib.hid h4; clear h4
          go_enter Tryz.func77, Tryz.ntmps77
          go_wp2_with fail
          rw [HW1.out]
          go_wp2_with fail
          refine (Calls.grown (isClimate_b C _ HC.out hf H1.out)).mono ?_
          rintro e w1 ⟨rfl, z1, rfl⟩
          go_wp2_with fail
          refine (Calls.gw_of (isContent_b x _ H2.out)).mono ?_
          rintro e w1 ⟨rfl, z2, rfl⟩
          go_wp2_with fail
          refine (Calls.gw_of (areStays_b C _ k cS F G _ hf hk (HS.out.below (below_gw W1 z2)) H3.out)).mono ?_
          rintro e w1 ⟨rfl, z3, rfl⟩
          go_wp2_with fail
          refine (within_b _ _ _ _ H4.out).mono ?_
          rintro e w1 ⟨rfl, rfl⟩
          go_wp2_with fail
          go_ret
          exact ⟨by rw [EV.out]; rfl, HB.out.gw z3⟩
        | true =>
          by_cases h5 : day < x.day
          · have h6 := h5
            have EV := Lib.hid (show E = 7 by rw [← HE.out]; simp [h1, h2, h3, h4, h5])
            have H1 := Lib.hid h1; clear h1
            have H2 := Lib.hid h2; clear h2
            have H3 := Lib.hid h3; clear h3
            have H4 := Lib.hid h4; clear h4
            have H6 := Lib.hid h6; clear h6
            go_enter Tryz.func77, Tryz.ntmps77
            go_wp2_with fail
            rw [HW1.out]
            go_wp2_with fail
            refine (Calls.grown (isClimate_b C _ HC.out hf H1.out)).mono ?_
            rintro e w1 ⟨rfl, z1, rfl⟩
            go_wp2_with fail
            refine (Calls.gw_of (isContent_b x _ H2.out)).mono ?_
            rintro e w1 ⟨rfl, z2, rfl⟩
            go_wp2_with fail
            refine (Calls.gw_of (areStays_b C _ k cS F G _ hf hk (HS.out.below (below_gw W1 z2)) H3.out)).mono ?_
            rintro e w1 ⟨rfl, z3, rfl⟩
            go_wp2_with fail
            refine (within_b _ _ _ _ H4.out).mono ?_
            rintro e w1 ⟨rfl, rfl⟩
            go_wp2_with fail
            go_ret
            exact ⟨by rw [EV.out]; rfl, HB.out.gw z3⟩
          · have kn := (staysB_t h3).1.1
            rcases HS.out with h0 | ⟨b, off, rfl, lb, hc⟩
            · omega
            have f0 : W1.cell? ⟨b, off, none⟩ = some (.int .i64 (F 0)) := by simpa using (hc 0 (by omega)).1
            clear hc
            by_cases h6 : x.day < F 0 <;> by_cases h7 : x.day < day
            all_goals
              have EV := Lib.hid (show E = if x.day < F 0 ∧ x.day < day then 4 else 0 by rw [← HE.out]; simp [h1, h2, h3, h4, h5])
              simp only [h6, h7, and_self, and_true, and_false, false_and, true_and, if_true, if_false] at EV
              first | have h8 : decide (x.day < F 0) = false := (by (simp; omega)) | skip
              have H1 := Lib.hid h1; clear h1
              have H2 := Lib.hid h2; clear h2
              have H3 := Lib.hid h3; clear h3
              have H4 := Lib.hid h4; clear h4
              go_enter Tryz.func77, Tryz.ntmps77
              go_wp2_with fail
              rw [HW1.out]
              go_wp2_with fail
              refine (Calls.grown (isClimate_b C _ HC.out hf H1.out)).mono ?_
              rintro e w1 ⟨rfl, z1, rfl⟩
              go_wp2_with fail
              refine (Calls.gw_of (isContent_b x _ H2.out)).mono ?_
              rintro e w1 ⟨rfl, z2, rfl⟩
              go_wp2_with fail
              refine (Calls.gw_of (areStays_b C _ k cS F G _ hf hk (HS.out.below (below_gw W1 z2)) H3.out)).mono ?_
              rintro e w1 ⟨rfl, z3, rfl⟩
              go_wp2_with fail
              refine (within_b _ _ _ _ H4.out).mono ?_
              rintro e w1 ⟨rfl, rfl⟩
              go_wp2_with fail
              refine wp_region_gw2 (by kernel_rfl) (by kernel_rfl) ?_
              repeat (go_big_quiet_step (fail))
              refine wpQuiet_nil ?_
              rintro _ ⟨z4, rfl⟩
              go_wp2_with fail
              go_ret
              exact ⟨by rw [EV.out]; rfl, HB.out.gw z4⟩
end Go.Proofs.YtjgnafhbeekebaaGreat.L7

namespace Go.Proofs.YtjgnafhbeekebaaGreat.L7
open Go.RowKit

attribute [local go_sem] gw_cell gw_frozen gw_size

def strLo (x : Cont) : Int := if 0 < x.alo then x.alo * 10000 / (x.alo + x.whi) else 0
def strHi (x : Cont) : Int := if 0 < x.ahi then upI (x.ahi * 10000) (x.ahi + x.wlo) else 0

set_option maxRecDepth 100000 in
set_option maxHeartbeats 2000000 in
theorem strength_any (x : Cont) (w : World) (hx : contB x = true) :
    Calls Tryz.prog 41 #[x.val] w fun e w' => e = .returned (.agg #[.int .i64 (strLo x), .int .i64 (strHi x)]) ∧ Below w.heap.size w w' := by
  obtain ⟨⟨d0, d1⟩, ⟨x0, x1, x2⟩, y0, y1, y2⟩ := contB_t hx
  clear hx
  unfold Cont.val
  by_cases p : 0 < x.alo <;> by_cases q : 0 < x.ahi
  all_goals try (exfalso; omega)
  all_goals
    obtain ⟨A, hA⟩ : ∃ A, strLo x = A := ⟨_, rfl⟩
    obtain ⟨B, hB⟩ : ∃ B, strHi x = B := ⟨_, rfl⟩
    rw [hA, hB]
    unfold strLo at hA
    unfold strHi at hB
    first | rw [if_pos p] at hA | rw [if_neg p] at hA
    first | rw [if_pos q] at hB | rw [if_neg q] at hB
    subst hA hB
    have t : x.alo ≤ 0 ∨ 0 < x.alo + x.whi := by omega
    go_enter Tryz.func41, Tryz.ntmps41
    go_wp2_with (go_at_call 67; refine (up_any _ _ _ (by omega) (by omega) (by omega) (by omega)).mono ?_; rintro e w1 ⟨rfl, rfl⟩)
    refine bodyPost_ret  (by simp [results, Tryz.results41, go_sem]) rfl ⟨rfl, ?_⟩
    exact (below_alloc _ _).alloc (by simp) _
end Go.Proofs.YtjgnafhbeekebaaGreat.L7
