/- Contract of Left. No conditions beyond each theorem's own. -/
import Derived.Test.YtdcpgjepgajioaaBl
set_option linter.unusedVariables false
set_option linter.unusedSimpArgs false
set_option linter.unusedSectionVars false
set_option linter.constructorNameAsVariable false
namespace Go.Proofs.Ytdcpgjepgajioaa
open Go.RowKit Go.Shelf

attribute [local go_sem] gw_cell gw_frozen gw_size
attribute [local go_sem] Oper.semAt_some keepW_cell

theorem keep1 {W w : World} {b : Nat} (h : w.heap[b]? = W.heap[b]?) : ∃ x : KeepW W [b], w = x.w := ⟨⟨w, fun b' hb => by simp only [List.mem_singleton] at hb; rw [hb]; exact h⟩, rfl⟩
theorem argE_zero {o : Otl} {y : Lyg} {m : Nat} {L : Nat → Int} (h : argE o y m L = 0) : outB o = true ∧ layB o y = true ∧ lotsB y m L = true := by
  unfold argE at h
  split at h
  · assumption
  · cases h
theorem argE_cases (o : Otl) (y : Lyg) (m : Nat) (L : Nat → Int) : argE o y m L = 0 ∨ argE o y m L = 1 := by unfold argE; split <;> simp
theorem infoLI : (Try.prog.info? 22).map (fun i => (i.zero, i.size, i.bytes)) = some (some (.slice none 0 0), 1, 24) := by kernel_rfl

set_option maxRecDepth 100000 in
set_option maxHeartbeats 4000000 in
theorem Left_rng (o : Otl) (y : Lyg) (aL : Option Addr) (m cL : Nat) (L : Nat → Int) (path : Int) (w : World) (hO : o.In w) (hfo : o.Fits) (hY : y.In w) (hfy : y.Fits) (hL : IntsAt w aL m L) (hm : m ≤ 9223372036854775807) (h : argE o y m L = 0) (h2 : inB path 0 (o.nP - 1) = false) :
    Calls Try.prog 11 #[o.val, y.val, .slice aL m cL, .int .i64 path] w fun e w' => e = .returned (.tuple #[.slice none 0 0, .int .i64 0, .int .i64 2]) ∧ Below w.heap.size w w' := by
  obtain ⟨e1, e2, e3⟩ := argE_zero h
  have E1 := Lib.hid e1; have E2 := Lib.hid e2; have E3 := Lib.hid e3; have H2 := Lib.hid h2
  clear e1 e2 e3 h h2
  unfold Otl.val Lyg.val
  obtain ⟨W1, hW1⟩ : ∃ W1, ((((w.alloc (.cells #[.slice o.aS o.nS o.cS, .int .i64 o.kl, .int .i64 o.kh, .slice o.aA o.nA o.cA, .slice o.aP o.nP o.cP] 27)).alloc (.cells #[.slice y.aR y.nR y.cR, .slice y.aM y.nM y.cM, .int .i64 y.lot, .int .i64 y.room] 29)).alloc (.cells #[.slice none 0 0] 32)).alloc (.cells #[.int .i64 0] 3)).alloc (.cells #[.int .i64 0] 33) = W1 := ⟨_, rfl⟩
  have hBc : Below w.heap.size w W1 := by rw [← hW1]; exact ((((below_alloc _ _).alloc (by simp) _).alloc (by simp <;> omega) _).alloc (by simp <;> omega) _).alloc (by simp <;> omega) _
  have zc0 : W1.heap[w.heap.size]? = some (.cells #[.slice o.aS o.nS o.cS, .int .i64 o.kl, .int .i64 o.kh, .slice o.aA o.nA o.cA, .slice o.aP o.nP o.cP] 27 (0, 0)) := by rw [← hW1]; exact alloc_keep (alloc_keep (alloc_keep (alloc_keep (alloc_at rfl))))
  have zc1 : W1.heap[w.heap.size + 1]? = some (.cells #[.slice y.aR y.nR y.cR, .slice y.aM y.nM y.cM, .int .i64 y.lot, .int .i64 y.room] 29 (0, 0)) := by rw [← hW1]; exact alloc_keep (alloc_keep (alloc_keep (alloc_at (by simp))))
  have zc2 : W1.heap[w.heap.size + 1 + 1]? = some (.cells #[.slice none 0 0] 32 (0, 0)) := by rw [← hW1]; exact alloc_keep (alloc_keep (alloc_at (by simp <;> omega)))
  have zc3 : W1.heap[w.heap.size + 1 + 1 + 1]? = some (.cells #[.int .i64 0] 3 (0, 0)) := by rw [← hW1]; exact alloc_keep (alloc_at (by simp <;> omega))
  have zc4 : W1.heap[w.heap.size + 1 + 1 + 1 + 1]? = some (.cells #[.int .i64 0] 33 (0, 0)) := by rw [← hW1]; exact alloc_at (by simp <;> omega)
  have c00 : W1.cell? ⟨w.heap.size, 0, none⟩ = some (.slice o.aS o.nS o.cS) := cell_of_block zc0 0 (by simp)
  have c01 : W1.cell? ⟨w.heap.size, 1, none⟩ = some (.int .i64 o.kl) := cell_of_block zc0 1 (by simp)
  have c02 : W1.cell? ⟨w.heap.size, 2, none⟩ = some (.int .i64 o.kh) := cell_of_block zc0 2 (by simp)
  have c03 : W1.cell? ⟨w.heap.size, 3, none⟩ = some (.slice o.aA o.nA o.cA) := cell_of_block zc0 3 (by simp)
  have c04 : W1.cell? ⟨w.heap.size, 4, none⟩ = some (.slice o.aP o.nP o.cP) := cell_of_block zc0 4 (by simp)
  have c10 : W1.cell? ⟨w.heap.size + 1, 0, none⟩ = some (.slice y.aR y.nR y.cR) := cell_of_block zc1 0 (by simp)
  have c11 : W1.cell? ⟨w.heap.size + 1, 1, none⟩ = some (.slice y.aM y.nM y.cM) := cell_of_block zc1 1 (by simp)
  have c12 : W1.cell? ⟨w.heap.size + 1, 2, none⟩ = some (.int .i64 y.lot) := cell_of_block zc1 2 (by simp)
  have c13 : W1.cell? ⟨w.heap.size + 1, 3, none⟩ = some (.int .i64 y.room) := cell_of_block zc1 3 (by simp)
  have c20 : W1.cell? ⟨w.heap.size + 1 + 1, 0, none⟩ = some (.slice none 0 0) := cell_of_block zc2 0 (by simp)
  have c30 : W1.cell? ⟨w.heap.size + 1 + 1 + 1, 0, none⟩ = some (.int .i64 0) := cell_of_block zc3 0 (by simp)
  have c40 : W1.cell? ⟨w.heap.size + 1 + 1 + 1 + 1, 0, none⟩ = some (.int .i64 0) := cell_of_block zc4 0 (by simp)
  have lc0 := (Array.getElem?_eq_some_iff.1 zc0).1
  have lc1 := (Array.getElem?_eq_some_iff.1 zc1).1
  have lc2 := (Array.getElem?_eq_some_iff.1 zc2).1
  have lc3 := (Array.getElem?_eq_some_iff.1 zc3).1
  have lc4 := (Array.getElem?_eq_some_iff.1 zc4).1
  have fc20 := frozen_of_block zc2 0
  have fc30 := frozen_of_block zc3 0
  have fc40 := frozen_of_block zc4 0
  clear zc0 zc1 zc2 zc3 zc4
  have HBc := Lib.hid hBc; clear hBc
  have HWc := Lib.hid hW1; clear hW1
  have HO := Lib.hid (hO.below HBc.out)
  have HY := Lib.hid (hY.below HBc.out)
  have HL := Lib.hid (hL.below HBc.out)
  have OL' := Lib.hid (fun W (hb : Below W1.heap.size W1 W) => isOutlook_any o W (HO.out.below hb) hfo)
  have HF := Lib.hid hfo
  have HFY := Lib.hid hfy
  clear hO hY hL hfo hfy
  have LY' := Lib.hid (fun W (hb : Below W1.heap.size W1 W) => isLaying_any o y W (HO.out.below hb) (by have := outB_t E1.out; omega) (HF.out.pN 0 (by have := outB_t E1.out; omega)) (HY.out.below hb) HFY.out)
  have LT' := Lib.hid (fun W (hb : Below W1.heap.size W1 W) => areLots_any y aL m cL L W (HY.out.below hb) HFY.out (HL.out.below hb) hm)
  rw [E1.out] at OL'
  rw [E2.out] at LY'
  rw [E3.out] at LT'
  unfold Otl.val at OL' LY'
  unfold Lyg.val at LY' LT'
  go_enter Try.func11, Try.ntmps11
  go_upto_region 1 with (fail)
  rw [HWc.out]
  have oP := (outB_t E1.out).2.2.2.2.2.2.2.2.1
  go_wp2_with fail
  refine (Calls.grown (OL'.out W1 (Below.refl _ _))).mono ?_
  rintro e w1 ⟨rfl, z1, rfl⟩
  go_wp2_with fail
  refine (Calls.gw_of (LY'.out _ (below_gw W1 z1))).mono ?_
  rintro e w1 ⟨rfl, z2, rfl⟩
  go_wp2_with fail
  refine (Calls.gw_of (LT'.out _ (below_gw W1 z2))).mono ?_
  rintro e w1 ⟨rfl, z3, rfl⟩
  go_wp2_with fail
  refine (within_b path 0 (o.nP - 1) _ H2.out).mono ?_
  rintro e w1 ⟨rfl, rfl⟩
  go_wp2_with fail
  refine bodyPost_ret (v := .tuple #[.slice none 0 0, .int .i64 0, .int .i64 2]) (by simp [results, Try.results11, go_sem, *]) rfl ⟨rfl, ?_⟩
  exact (((HBc.out.gw z3).setCell (by simp <;> omega) _).setCell (by simp <;> omega) _).setCell (by simp <;> omega) _

theorem left_ok {o : Otl} {y : Lyg} {m : Nat} {L : Nat → Int} {i q : Nat} (h : argE o y m L = 0) (h2 : inB (i : Int) 0 (o.nP - 1) = true) (hq : upto (o.errLo y i L) m = q) : (q = m → leftE o y m L i = 0 ∧ leftY o y m L i = m) ∧ (q < m → leftE o y m L i = o.errLo y i L q ∧ leftY o y m L i = q) := by
  have h1 : ¬ argE o y m L = 1 := by omega
  unfold leftE leftY
  rw [if_neg h1, if_pos h2, if_neg h1, if_pos h2, Int.toNat_natCast, hq]
  refine ⟨fun e => ⟨if_pos e, e⟩, fun e => ⟨if_neg (by omega), rfl⟩⟩
structure LfJ (M : Nat → List Int) (w : World) (D : Nat) (rec : Loop) (K j : Nat) (V : World) : Prop where
  loop : V.heap[D + 1]? = some (.loop rec)
  dfr : V.heap[D]? = some (.deferred (some []))
  lft : ∃ a c, V.heap[w.heap.size + 1 + 1]? = some (.cells #[.slice a j c] 32 (0, 0)) ∧ LRows V (D + 2) K a j c M
  r1 : V.heap[w.heap.size + 1 + 1 + 1]? = some (.cells #[.int .i64 0] 3 (0, 0))
  r2 : V.heap[w.heap.size + 1 + 1 + 1 + 1]? = some (.cells #[.int .i64 0] 33 (0, 0))
  low : Below w.heap.size w V
structure LfX (w : World) (D : Nat) (rec : Loop) (j : Nat) (e : Int) (V : World) : Prop where
  loop : V.heap[D + 1]? = some (.loop { rec with state := .done, pending := some .ret })
  dfr : V.heap[D]? = some (.deferred (some []))
  lft : V.heap[w.heap.size + 1 + 1]? = some (.cells #[.slice none 0 0] 32 (0, 0))
  r1 : V.heap[w.heap.size + 1 + 1 + 1]? = some (.cells #[.int .i64 j] 3 (0, 0))
  r2 : V.heap[w.heap.size + 1 + 1 + 1 + 1]? = some (.cells #[.int .i64 e] 33 (0, 0))
  low : Below w.heap.size w V
theorem LfJ.kept {M : Nat → List Int} {w : World} {D : Nat} {rec : Loop} {K j : Nat} {V V' : World} (hD : w.heap.size + 4 < D) (h : LfJ M w D rec K j V) (g : V.grownBy V' (some K)) (hK : D + 2 ≤ K) : LfJ M w D rec K j V' := by
  have k : ∀ (B : Nat) (o : Obj), V.heap[B]? = some o → B ≠ K → V'.heap[B]? = some o := fun B o ho hne => (g.block B (Array.getElem?_eq_some_iff.1 ho).1 (by simpa using hne)).trans ho
  obtain ⟨a, c, h1, h2⟩ := h.lft
  exact ⟨k _ _ h.loop (by omega), k _ _ h.dfr (by omega), ⟨a, c, k _ _ h1 (by omega), h2.kept g (fun b e => by cases e; exact .inl rfl)⟩, k _ _ h.r1 (by omega), k _ _ h.r2 (by omega), h.low.grown g h.low.size (fun k e => by cases e; omega)⟩
theorem grownBy_fresh {w W W' : World} {r r' : Option Nat} (h1 : w.grownBy W r) (h2 : W.grownBy W' r') (hB : ∀ b, r' = some b → w.heap.size ≤ b) : w.grownBy W' r :=
  ⟨h2.os.trans h1.os, h2.tape.trans h1.tape, h2.output.trans h1.output, Nat.le_trans h1.size h2.size, fun k hk hr => (h2.block k (Nat.lt_of_lt_of_le hk h1.size) (fun e => by have := hB k e.symm; omega)).trans (h1.block k hk hr)⟩
theorem LfX.of {w : World} {D : Nat} {rec : Loop} {j : Nat} {e : Int} {M : Nat → List Int} {K : Nat} {V Wb W3 : World} (hD : w.heap.size + 4 < D) (h : LfJ M w D rec K j V) (h1 : V.grownBy Wb (some (D + 1))) (hl : Wb.heap[D + 1]? = some (.loop { rec with state := .busy }))
    (hW : ((Wb.setCell ⟨w.heap.size + 1 + 1, 0, none⟩ (.slice none 0 0)).setCell ⟨w.heap.size + 1 + 1 + 1, 0, none⟩ (.int .i64 j)).setCell ⟨w.heap.size + 1 + 1 + 1 + 1, 0, none⟩ (.int .i64 e) = W3) :
    W3.heap[D + 1]? = some (.loop { rec with state := .busy }) ∧ LfX w D rec j e (W3.putObj (D + 1) (.loop { rec with state := .done, pending := some .ret })) := by
  obtain ⟨a, c, h5, -⟩ := h.lft
  have far : ∀ (W : World) (b k : Nat) (v : Value) (B : Nat), B ≠ b → (W.setCell ⟨b, k, none⟩ v).heap[B]? = W.heap[B]? := fun W b k v B h => Below.heap_setCell W ⟨b, k, none⟩ v B h
  have kk : ∀ (B : Nat) (o : Obj), V.heap[B]? = some o → B ≠ D + 1 → Wb.heap[B]? = some o := fun B o ho hne => (h1.block B (Array.getElem?_eq_some_iff.1 ho).1 (by simpa using hne)).trans ho
  have y1 := kk _ _ h5 (by omega)
  have y2 := kk _ _ h.r1 (by omega)
  have y3 := kk _ _ h.r2 (by omega)
  have y4 := kk _ _ h.dfr (by omega)
  have l3 : W3.heap[D + 1]? = some (.loop { rec with state := .busy }) := by rw [← hW]; exact (far _ _ _ _ _ (by omega)).trans ((far _ _ _ _ _ (by omega)).trans ((far _ _ _ _ _ (by omega)).trans hl))
  have low : Below w.heap.size w W3 := by
    rw [← hW]
    exact (((h.low.grown h1 h.low.size (fun k e => by cases e; omega)).setCell (p := ⟨w.heap.size + 1 + 1, 0, none⟩) (by simp <;> omega) _).setCell (p := ⟨w.heap.size + 1 + 1 + 1, 0, none⟩) (by simp <;> omega) _).setCell (p := ⟨w.heap.size + 1 + 1 + 1 + 1, 0, none⟩) (by simp <;> omega) _
  refine ⟨l3, World.putObj_heap_same (Array.getElem?_eq_some_iff.1 l3).1, (World.putObj_heap_other (by omega)).trans ?_, (World.putObj_heap_other (by omega)).trans ?_, (World.putObj_heap_other (by omega)).trans ?_, (World.putObj_heap_other (by omega)).trans ?_, low.grown (grownBy_putObj' _ _ _) low.size (fun k e => by cases e; omega)⟩
  · rw [← hW]; exact (far _ _ _ _ _ (by omega)).trans ((far _ _ _ _ _ (by omega)).trans ((far _ _ _ _ _ (by omega)).trans y4))
  · rw [← hW]; exact (far _ _ _ _ _ (by omega)).trans ((far _ _ _ _ _ (by omega)).trans (block_set 0 _ y1))
  · rw [← hW]; exact (far _ _ _ _ _ (by omega)).trans (block_set 0 _ ((far _ _ _ _ _ (by omega)).trans y2))
  · rw [← hW]; exact block_set 0 _ ((far _ _ _ _ _ (by omega)).trans ((far _ _ _ _ _ (by omega)).trans y3))

set_option maxRecDepth 100000 in
set_option maxHeartbeats 8000000 in
theorem Left_in (n : Nat) (o : Otl) (y : Lyg) (aL : Option Addr) (m cL : Nat) (L : Nat → Int) (path : Int) (w : World) (hO : o.In w) (hfo : o.Fits) (hY : y.In w) (hfy : y.Fits) (hL : IntsAt w aL m L) (hm : m ≤ 9223372036854775807) (i : Nat) (hp : path = i) (h : argE o y m L = 0) (h2 : inB path 0 (o.nP - 1) = true) :
    CallsIn Fence.wide n Try.prog 11 #[o.val, y.val, .slice aL m cL, .int .i64 path] w (LeftEnd o y m L path w) := by
  subst hp
  obtain ⟨e1, e2, e3⟩ := argE_zero h
  have hi : i < o.nP := by have := inB_t.1 h2; omega
  have LB := layB_t e2
  have TB := lotsB_t e3
  have OB := outB_t e1
  have hRO : RunOk o i m L y.lot (parLo o) := ⟨e1, hi, by rw [TB.1, LB.2.1, (OB.2.2.2.2.2.2.2.2.2 i hi).1], fun t ht => by have := TB.2 t ht; have := LB.2.2.2.1 t (by omega); omega, LB.2.2.2.2.1, fun x hx => by have := par_rng (o := o) hx OB.2.2.1 OB.2.2.2.1 OB.2.2.2.2.1; omega⟩
  have E1 := Lib.hid e1; have E2 := Lib.hid e2; have E3 := Lib.hid e3; have H2 := Lib.hid h2
  have HARG := Lib.hid h
  have HRO := Lib.hid hRO
  have KL := Lib.hid (And.intro OB.2.2.1 (And.intro OB.2.2.2.1 OB.2.2.2.2.1))
  have m10 := hRO.m10
  clear e1 e2 e3 h h2 LB TB OB hRO
  unfold Otl.val Lyg.val
  obtain ⟨W1, hW1⟩ : ∃ W1, ((((w.alloc (.cells #[.slice o.aS o.nS o.cS, .int .i64 o.kl, .int .i64 o.kh, .slice o.aA o.nA o.cA, .slice o.aP o.nP o.cP] 27)).alloc (.cells #[.slice y.aR y.nR y.cR, .slice y.aM y.nM y.cM, .int .i64 y.lot, .int .i64 y.room] 29)).alloc (.cells #[.slice none 0 0] 32)).alloc (.cells #[.int .i64 0] 3)).alloc (.cells #[.int .i64 0] 33) = W1 := ⟨_, rfl⟩
  have hBc : Below w.heap.size w W1 := by rw [← hW1]; exact ((((below_alloc _ _).alloc (by simp) _).alloc (by simp <;> omega) _).alloc (by simp <;> omega) _).alloc (by simp <;> omega) _
  have zc0 : W1.heap[w.heap.size]? = some (.cells #[.slice o.aS o.nS o.cS, .int .i64 o.kl, .int .i64 o.kh, .slice o.aA o.nA o.cA, .slice o.aP o.nP o.cP] 27 (0, 0)) := by rw [← hW1]; exact alloc_keep (alloc_keep (alloc_keep (alloc_keep (alloc_at rfl))))
  have zc1 : W1.heap[w.heap.size + 1]? = some (.cells #[.slice y.aR y.nR y.cR, .slice y.aM y.nM y.cM, .int .i64 y.lot, .int .i64 y.room] 29 (0, 0)) := by rw [← hW1]; exact alloc_keep (alloc_keep (alloc_keep (alloc_at (by simp))))
  have zc2 : W1.heap[w.heap.size + 1 + 1]? = some (.cells #[.slice none 0 0] 32 (0, 0)) := by rw [← hW1]; exact alloc_keep (alloc_keep (alloc_at (by simp <;> omega)))
  have zc3 : W1.heap[w.heap.size + 1 + 1 + 1]? = some (.cells #[.int .i64 0] 3 (0, 0)) := by rw [← hW1]; exact alloc_keep (alloc_at (by simp <;> omega))
  have zc4 : W1.heap[w.heap.size + 1 + 1 + 1 + 1]? = some (.cells #[.int .i64 0] 33 (0, 0)) := by rw [← hW1]; exact alloc_at (by simp <;> omega)
  have c00 : W1.cell? ⟨w.heap.size, 0, none⟩ = some (.slice o.aS o.nS o.cS) := cell_of_block zc0 0 (by simp)
  have c01 : W1.cell? ⟨w.heap.size, 1, none⟩ = some (.int .i64 o.kl) := cell_of_block zc0 1 (by simp)
  have c02 : W1.cell? ⟨w.heap.size, 2, none⟩ = some (.int .i64 o.kh) := cell_of_block zc0 2 (by simp)
  have c03 : W1.cell? ⟨w.heap.size, 3, none⟩ = some (.slice o.aA o.nA o.cA) := cell_of_block zc0 3 (by simp)
  have c04 : W1.cell? ⟨w.heap.size, 4, none⟩ = some (.slice o.aP o.nP o.cP) := cell_of_block zc0 4 (by simp)
  have c10 : W1.cell? ⟨w.heap.size + 1, 0, none⟩ = some (.slice y.aR y.nR y.cR) := cell_of_block zc1 0 (by simp)
  have c11 : W1.cell? ⟨w.heap.size + 1, 1, none⟩ = some (.slice y.aM y.nM y.cM) := cell_of_block zc1 1 (by simp)
  have c12 : W1.cell? ⟨w.heap.size + 1, 2, none⟩ = some (.int .i64 y.lot) := cell_of_block zc1 2 (by simp)
  have c13 : W1.cell? ⟨w.heap.size + 1, 3, none⟩ = some (.int .i64 y.room) := cell_of_block zc1 3 (by simp)
  have c20 : W1.cell? ⟨w.heap.size + 1 + 1, 0, none⟩ = some (.slice none 0 0) := cell_of_block zc2 0 (by simp)
  have c30 : W1.cell? ⟨w.heap.size + 1 + 1 + 1, 0, none⟩ = some (.int .i64 0) := cell_of_block zc3 0 (by simp)
  have c40 : W1.cell? ⟨w.heap.size + 1 + 1 + 1 + 1, 0, none⟩ = some (.int .i64 0) := cell_of_block zc4 0 (by simp)
  have lc0 := (Array.getElem?_eq_some_iff.1 zc0).1
  have lc1 := (Array.getElem?_eq_some_iff.1 zc1).1
  have lc2 := (Array.getElem?_eq_some_iff.1 zc2).1
  have lc3 := (Array.getElem?_eq_some_iff.1 zc3).1
  have lc4 := (Array.getElem?_eq_some_iff.1 zc4).1
  have fc20 := frozen_of_block zc2 0
  have fc30 := frozen_of_block zc3 0
  have fc40 := frozen_of_block zc4 0
  have Zc0 := Lib.hid zc0
  have Zc1 := Lib.hid zc1
  have Zc2 := Lib.hid zc2
  have Zc3 := Lib.hid zc3
  have Zc4 := Lib.hid zc4
  clear zc0 zc1 zc2 zc3 zc4
  have HBc := Lib.hid hBc; clear hBc
  have HWc := Lib.hid hW1; clear hW1
  have HO0 := Lib.hid hO
  have HL0 := Lib.hid hL
  have HO := Lib.hid (hO.below HBc.out)
  have HY := Lib.hid (hY.below HBc.out)
  have HL := Lib.hid (hL.below HBc.out)
  have OL' := Lib.hid (fun W (hb : Below W1.heap.size W1 W) => isOutlook_any o W (HO.out.below hb) hfo)
  have HF := Lib.hid hfo
  have HFY := Lib.hid hfy
  clear hO hY hL hfo hfy
  have LY' := Lib.hid (fun W (hb : Below W1.heap.size W1 W) => isLaying_any o y W (HO.out.below hb) (by have := outB_t E1.out; omega) (HF.out.pN 0 (by have := outB_t E1.out; omega)) (HY.out.below hb) HFY.out)
  have LT' := Lib.hid (fun W (hb : Below W1.heap.size W1 W) => areLots_any y aL m cL L W (HY.out.below hb) HFY.out (HL.out.below hb) hm)
  rw [E1.out] at OL'
  rw [E2.out] at LY'
  rw [E3.out] at LT'
  unfold Otl.val at OL' LY'
  unfold Lyg.val at LY' LT'
  refine callsIn_of_wp_marks Try.func11 rfl trivial ?_ rfl
  simp only [Try.ntmps11, List.size_toArray, List.length_cons, List.length_nil, Nat.reduceAdd, Nat.reduceSub, Array.replicate_succ, Array.replicate_zero, List.push_toArray, List.append_toArray, List.nil_append, List.cons_append]
  gi_upto_region 1 with (fail)
  rw [HWc.out]
  have oP := (outB_t E1.out).2.2.2.2.2.2.2.2.1
  gi_wp2_with fail
  refine ⟨trivial, (fun h => (by cases h)), ?_⟩
  refine (callsIn_wide.2 (Calls.grown (OL'.out W1 (Below.refl _ _)))).mono ?_
  rintro e w1 ⟨rfl, z1, rfl⟩
  gi_wp2_with fail
  refine ⟨trivial, (fun h => (by cases h)), ?_⟩
  refine (callsIn_wide.2 (Calls.gw_of (LY'.out _ (below_gw W1 z1)))).mono ?_
  rintro e w1 ⟨rfl, z2, rfl⟩
  gi_wp2_with fail
  refine ⟨trivial, (fun h => (by cases h)), ?_⟩
  refine (callsIn_wide.2 (Calls.gw_of (LT'.out _ (below_gw W1 z2)))).mono ?_
  rintro e w1 ⟨rfl, z3, rfl⟩
  gi_wp2_with fail
  refine ⟨trivial, (fun h => (by cases h)), ?_⟩
  refine (callsIn_wide.2 (within_b i 0 (o.nP - 1) _ H2.out)).mono ?_
  rintro e w1 ⟨rfl, rfl⟩
  gi_wp2_with fail
  refine ⟨trivial, (fun h => (by cases h)), ?_⟩
  have PA := parts_any o (gw W1 z3)
  unfold Otl.val at PA
  refine (callsIn_wide.2 PA).mono ?_
  rintro e w4 ⟨bq, rfl, hq0, hq1, hb4⟩
  obtain ⟨z4, rfl⟩ := gw_of_below (thru hb4 (below_gw W1 z3))
  have HQ := Lib.hid hq1
  rw [gw_size] at hq0
  clear hb4 PA
  gi_wp2_with fail
  refine ⟨trivial, (fun h => (by cases h)), ?_⟩
  have YA := years_any o y aL m cL i 53 36 #[.pointer (some ⟨bq, 0, none⟩)] #[] (gw W1 z4)
  unfold Otl.val Lyg.val at YA
  refine (callsIn_wide.2 YA).mono ?_
  rintro e W0 ⟨bo, bl, bp, by', br, bt, rfl, hge, y0, y1, y2, y3, y4, y5, hb0⟩
  have BW := Lib.hid (thru hb0 (HBc.out.gw z4))
  have low0 := hb0.size
  rw [gw_size] at low0
  have kz : ∀ (B : Nat) (ob : Obj), W1.heap[B]? = some ob → W0.heap[B]? = some ob := fun B ob hob => (hb0.block B (by rw [gw_size]; have := (Array.getElem?_eq_some_iff.1 hob).1; omega)).trans ((gw_block W1 z4 B (Array.getElem?_eq_some_iff.1 hob).1).trans hob)
  have K2 := Lib.hid (kz _ _ Zc2.out)
  have K3 := Lib.hid (kz _ _ Zc3.out)
  have K4 := Lib.hid (kz _ _ Zc4.out)
  have yq : W0.heap[bq]? = some (.cells o.cells 27 (0, 0)) := (hb0.block bq (by rw [gw_size]; have := (Array.getElem?_eq_some_iff.1 HQ.out).1; rw [gw_size] at this; exact this)).trans HQ.out
  have SZ : w.heap.size + 5 ≤ W0.heap.size := by have := (Array.getElem?_eq_some_iff.1 K4.out).1; omega
  have YY := Lib.hid (And.intro y0 (And.intro y1 (And.intro y2 (And.intro y3 (And.intro y4 (And.intro y5 yq))))))
  have sz1 : w.heap.size + 5 ≤ W1.heap.size := by have := (Array.getElem?_eq_some_iff.1 Zc4.out).1; omega
  rw [gw_size] at hge
  have GE := Lib.hid (show (w.heap.size + 5 ≤ bo ∧ w.heap.size + 5 ≤ bl ∧ w.heap.size + 5 ≤ bp) ∧ (w.heap.size + 5 ≤ by' ∧ w.heap.size + 5 ≤ br ∧ w.heap.size + 5 ≤ bt) ∧ w.heap.size + 5 ≤ bq by omega)
  clear y0 y1 y2 y3 y4 y5 yq hb0 kz hge hq0 HQ low0 YA
  clear c00 c01 c02 c03 c04 c10 c11 c12 c13 c20 c30 c40 fc20 fc30 fc40 lc0 lc1 lc2 lc3 lc4
  obtain ⟨X, hX⟩ : ∃ X, X = [bo, bl, bp, by', br, bt, bq] := ⟨_, rfl⟩
  have HXLO := Lib.hid (show ∀ b, b ∈ X → w.heap.size + 5 ≤ b from fun b hb => by
    rw [hX] at hb
    simp only [List.mem_cons, List.not_mem_nil, or_false] at hb
    have := GE.out
    rcases hb with rfl | rfl | rfl | rfl | rfl | rfl | rfl <;> omega)
  obtain ⟨q, hq⟩ : ∃ q, upto (o.errLo y i L) m = q := ⟨_, rfl⟩
  have q1 := upto_le (o.errLo y i L) m
  have q2 := upto_zero (o.errLo y i L) m
  have q3 := upto_stop (o.errLo y i L) m
  rw [hq] at q1 q2 q3
  have Q := Lib.hid (And.intro q2 (And.intro q3 hq)); clear q2 q3 hq
  have HXX := Lib.hid hX; clear hX
  gi_wp2_with fail
  refine wpIn_rangeFunc_X (gf := 55) (lb := #[.pointer (some ⟨bo, 0, none⟩), .pointer (some ⟨bl, 0, none⟩), .pointer (some ⟨bp, 0, none⟩), .pointer (some ⟨by', 0, none⟩), .pointer (some ⟨br, 0, none⟩), .pointer (some ⟨bt, 0, none⟩)]) rfl (enters_of Try.func55 (by kernel_rfl) rfl)
    (fun rec e W => (∃ v, e = .returned v) ∧ ((q = m ∧ ∃ K, LfJ (o.leftRow y i L) w W0.heap.size rec K m W) ∨ (q < m ∧ LfX w W0.heap.size rec q (o.errLo y i L q) W))) ?call ?ret ?out
  case out => rintro rec e W ⟨h, _⟩; exact h
  case call =>
    intro rec r1 r2 r3 r4 r5 r6
    obtain ⟨W2, hW2⟩ : ∃ W2, (W0.alloc (.deferred (some []))).alloc (.loop rec) = W2 := ⟨_, rfl⟩
    have hB2 : Below W0.heap.size W0 W2 := by rw [← hW2]; exact (below_alloc _ _).alloc (by simp) _
    have hl2 : W2.heap[W0.heap.size + 1]? = some (.loop rec) := by rw [← hW2]; exact alloc_at (by simp)
    have hd2 : W2.heap[W0.heap.size]? = some (.deferred (some [])) := by rw [← hW2]; exact alloc_keep (alloc_at rfl)
    have hs2 : W2.heap.size = W0.heap.size + 2 := by rw [← hW2]; simp
    rw [hW2]
    clear hW2
    have k2 : ∀ (B : Nat) (ob : Obj), W0.heap[B]? = some ob → W2.heap[B]? = some ob := fun B ob hob => (hB2.block B (Array.getElem?_eq_some_iff.1 hob).1).trans hob
    obtain ⟨y0, y1, y2, y3, y4, y5, yq⟩ := YY.out
    have hYB : YBox o y i m cL aL 53 36 #[.pointer (some ⟨bq, 0, none⟩)] #[] bo bl bp by' br bt X W2 := by
      have e := HXX.out
      subst e
      exact ⟨k2 _ _ y0, by simp, k2 _ _ y1, by simp, k2 _ _ y2, by simp, k2 _ _ y3, by simp, k2 _ _ y4, by simp, k2 _ _ y5, by simp⟩
    have hbqX : bq ∈ X := by rw [HXX.out]; simp
    have hXlt : ∀ b, b ∈ X → b < W2.heap.size := by
      intro b hb
      rw [HXX.out] at hb
      have L := fun {B : Nat} {ob : Obj} (h : W0.heap[B]? = some ob) => (Array.getElem?_eq_some_iff.1 (k2 B ob h)).1
      simp only [List.mem_cons, List.not_mem_nil, or_false] at hb
      rcases hb with rfl | rfl | rfl | rfl | rfl | rfl | rfl
      · exact L y0
      · exact L y1
      · exact L y2
      · exact L y3
      · exact L y4
      · exact L y5
      · exact L yq
    have hXW : ∀ b, b ∈ X → b < W0.heap.size := by
      intro b hb
      rw [HXX.out] at hb
      have L := fun {B : Nat} {ob : Obj} (h : W0.heap[B]? = some ob) => (Array.getElem?_eq_some_iff.1 h).1
      simp only [List.mem_cons, List.not_mem_nil, or_false] at hb
      rcases hb with rfl | rfl | rfl | rfl | rfl | rfl | rfl
      · exact L y0
      · exact L y1
      · exact L y2
      · exact L y3
      · exact L y4
      · exact L y5
      · exact L yq
    have zq2 := k2 _ _ yq
    refine years1_in (n - 1) (W0.heap.size + 1) o y i m cL aL L 53 36 #[.pointer (some ⟨bq, 0, none⟩)] #[] (fun _ _ => rfl) (fun _ _ => rfl) anyRoom (parLo o) bo bl bp by' br bt w W2 X q HRO.out HO0.out HL0.out (BW.out.trans (hB2.mono BW.out.size)) hYB hXlt
      (fun V x _ => (anything_any x V)) (fun V x hA h0 h1 => parLo_any o x bq V (cell_of_block ((hA bq hbqX).trans zq2) 1 (by simp [Otl.cells])) h0 h1 KL.out.1 (by have := KL.out; omega)) q1 (fun t ht => Q.out.1 t ht) (fun h => Q.out.2.1 h)
      (fun K j V => LfJ (o.leftRow y i L) w W0.heap.size rec K j V) (fun V => LfX w W0.heap.size rec q (o.errLo y i L q) V) ?abide ?start ?round
    case abide => exact fun K j V V' hK h g => h.kept (by omega) g (by omega)
    case start => exact fun K V hK hb => ⟨(hb.block _ (by omega)).trans hl2, (hb.block _ (by omega)).trans hd2, ⟨none, 0, (hb.block _ (by omega)).trans (k2 _ _ K2.out), LRows.nil _ _ _ _⟩, (hb.block _ (by omega)).trans (k2 _ _ K3.out), (hb.block _ (by omega)).trans (k2 _ _ K4.out), (BW.out.trans (hB2.mono BW.out.size)).trans (hb.mono (by have := BW.out.size; omega))⟩
    case round =>
      intro K j V hK hKV hJ hA hlow hjm hjq
      refine yieldAt_J hJ.loop r1 r3 r4 r5 r6 rfl ?_
      have YO := yrAt_ok (room := anyRoom) HRO.out hjm
      have EM : o.leftRow y i L j = (o.yrAt i L y.lot anyRoom (parLo o) j).1 := rfl
      have EE : o.errLo y i L j = (o.yrAt i L y.lot anyRoom (parLo o) j).2 := rfl
      obtain ⟨c', e', hE⟩ : ∃ c' e', o.yrAt i L y.lot anyRoom (parLo o) j = (c', e') := ⟨_, _, rfl⟩
      rw [hE] at YO EM EE ⊢
      dsimp only at YO EM EE ⊢
      have YO := Lib.hid YO
      have EM := Lib.hid EM
      have EE := Lib.hid EE
      have HJ := Lib.hid hJ
      have HA := Lib.hid hA
      have HLW := Lib.hid hlow
      have HL2 := Lib.hid (And.intro hl2 (And.intro hd2 hs2))
      have HXW := Lib.hid hXW
      clear hJ hA hlow r3 r4 r5 r6 hE hl2 hd2 hs2 hB2 k2 y0 y1 y2 y3 y4 y5 yq hYB hbqX hXlt hXW zq2
      have HCZ := Lib.hid (show CelAt (V.alloc (.cells #[.int .i64 0, .int .i64 0, .int .i64 0, .int .i64 0, .int .i64 0, .int .i64 0, .int .i64 0, .int .i64 0, .int .i64 0, .int .i64 0, .int .i64 0, .int .i64 0, .int .i64 0, .int .i64 0, .int .i64 0, .int .i64 0, .int .i64 0, .int .i64 0, .int .i64 0, .int .i64 0, .int .i64 0, .int .i64 0, .int .i64 0, .int .i64 0, .int .i64 0, .int .i64 0, .int .i64 0, .int .i64 0, .int .i64 0, .int .i64 0, .int .i64 0, .int .i64 0] 74)) V.heap.size 0 zero32 from cel_of_block rfl (by rw [zero32_v]; exact alloc_at rfl))
      gi_wp2_with ((with_reducible refine wpListIn_store_cel (c := zero32) (c' := c') rfl _ _ rfl V.heap.size 0 rfl rfl HCZ.out YO.out.2.1 ?_))
      obtain ⟨P1, P2⟩ := HCZ.out.put YO.out.2.1
      have hgV : V.grownBy ((V.alloc (.cells #[.int .i64 0, .int .i64 0, .int .i64 0, .int .i64 0, .int .i64 0, .int .i64 0, .int .i64 0, .int .i64 0, .int .i64 0, .int .i64 0, .int .i64 0, .int .i64 0, .int .i64 0, .int .i64 0, .int .i64 0, .int .i64 0, .int .i64 0, .int .i64 0, .int .i64 0, .int .i64 0, .int .i64 0, .int .i64 0, .int .i64 0, .int .i64 0, .int .i64 0, .int .i64 0, .int .i64 0, .int .i64 0, .int .i64 0, .int .i64 0, .int .i64 0, .int .i64 0] 74)).setCells V.heap.size 0 (cV c')) none := grownBy_fresh (grownBy_of_below (below_alloc V _) none) P2.g (fun b e => by cases e; exact Nat.le_refl _)
      obtain ⟨V1, hV1⟩ : ∃ V1, (V.alloc (.cells #[.int .i64 0, .int .i64 0, .int .i64 0, .int .i64 0, .int .i64 0, .int .i64 0, .int .i64 0, .int .i64 0, .int .i64 0, .int .i64 0, .int .i64 0, .int .i64 0, .int .i64 0, .int .i64 0, .int .i64 0, .int .i64 0, .int .i64 0, .int .i64 0, .int .i64 0, .int .i64 0, .int .i64 0, .int .i64 0, .int .i64 0, .int .i64 0, .int .i64 0, .int .i64 0, .int .i64 0, .int .i64 0, .int .i64 0, .int .i64 0, .int .i64 0, .int .i64 0] 74)).setCells V.heap.size 0 (cV c') = V1 := ⟨_, rfl⟩
      rw [hV1] at P1 hgV ⊢
      have hlv := (Array.getElem?_eq_some_iff.1 HJ.out.loop).1
      have hl1 : V1.heap[W0.heap.size + 1]? = some (.loop rec) := (hgV.block _ hlv (by simp)).trans HJ.out.loop
      refine ⟨hl1, ?_⟩
      obtain ⟨Wb, hWb⟩ : ∃ Wb, V1.putObj (W0.heap.size + 1) (.loop { rec with state := .busy }) = Wb := ⟨_, rfl⟩
      have hg1 : V.grownBy Wb (some (W0.heap.size + 1)) := by rw [← hWb]; exact grownBy_trans (grownBy_some hgV _) (grownBy_putObj' _ _ _)
      have hlb : Wb.heap[W0.heap.size + 1]? = some (.loop { rec with state := .busy }) := by rw [← hWb]; exact World.putObj_heap_same (Array.getElem?_eq_some_iff.1 hl1).1
      have hcb : CelAt Wb V.heap.size 0 c' := by rw [← hWb]; exact P1.same (World.putObj_heap_other (by omega))
      rw [hWb]
      clear hWb hV1 P1 P2 hgV hl1 HCZ
      obtain ⟨aL', cL', h5, hrows⟩ := HJ.out.lft
      have kk : ∀ (B : Nat) (ob : Obj), V.heap[B]? = some ob → B ≠ W0.heap.size + 1 → Wb.heap[B]? = some ob := fun B ob hob hne => (hg1.block B (Array.getElem?_eq_some_iff.1 hob).1 (by simpa using hne)).trans hob
      have b5 := kk _ _ h5 (by omega)
      have b6 := kk _ _ HJ.out.r1 (by omega)
      have b7 := kk _ _ HJ.out.r2 (by omega)
      have v5 := box_cell b5
      have v6 := box_cell b6
      have v7 := box_cell b7
      have f5 := frozen_of_block b5 0
      have f6 := frozen_of_block b6 0
      have f7 := frozen_of_block b7 0
      have l5 := (Array.getElem?_eq_some_iff.1 b5).1
      have l6 := (Array.getElem?_eq_some_iff.1 b6).1
      have l7 := (Array.getElem?_eq_some_iff.1 b7).1
      have HB5 := Lib.hid b5
      have HG1 := Lib.hid hg1
      have HLB := Lib.hid hlb
      have HCB := Lib.hid hcb
      have HROWS := Lib.hid hrows
      clear b5 b6 b7 h5 kk hg1 hlb hcb hrows
      by_cases he : e' = 0
      · have d0 : (e' != 0) = false := by simp [he]
        have HE0 := Lib.hid he; clear he
        gi_wp2_with fail
        have IB := Lib.hid (show IntsAt Wb (some ⟨V.heap.size, 0, none⟩) 32 (fun t => c'.getD t 0) from .inr ⟨V.heap.size, 0, rfl, HCB.out.lt, fun t ht => HCB.out.cell t ht⟩)
        obtain ⟨rA, rC, ho1, ho2, ho3⟩ := HROWS.out
        have HO1 := Lib.hid ho1; have HO2 := Lib.hid ho2; have HO3 := Lib.hid ho3; clear ho1 ho2 ho3
        obtain ⟨j0, jh, jy0, jy1, jy2⟩ := info_parts infoLI
        have JI := Lib.hid jh; have Y0 := Lib.hid jy0; have Y1 := Lib.hid jy1; have Y2 := Lib.hid jy2
        clear jh jy0 jy1 jy2
        have sz1 := HG1.out.size
        have lb0 := HCB.out.lt
        have nob : ∀ b, (Value.slice aL' j cL').ownBlock = some b → W0.heap.size + 2 ≤ b ∧ b < V.heap.size := fun b hb => HO1.out.lt b hb
        have NOB := Lib.hid nob; clear nob
        haveI hne : Nonempty (KeepW Wb [w.heap.size + 1 + 1]) := ⟨⟨Wb, fun _ _ => rfl⟩⟩
        refine wpIn_region_steps (fun w' => ∃ x : KeepW Wb [w.heap.size + 1 + 1], w' = x.w) [([0], 1), ([], 2), ([], 3), ([], 4)] [] [5] (fun ⟨_, _, h⟩ => h) (by kernel_rfl) (by kernel_rfl) (by kernel_rfl) ?_
        rintro _ ⟨x0, rfl⟩
        refine ⟨keep1 (gw_block Wb x0 _ l5), ?_⟩
        refine wpSeg_cons ?_
        simp only [pickL, List.getElem?_cons_zero, List.getElem?_cons_succ]
        repeat (go_big_quiet_step (fail))
        refine wpQuiet_nil ?_
        go_wp2_with fail
        refine contQ_now ⟨keep1 (gw_block Wb x0 _ l5), ?_⟩
        refine wpSeg_cons ?_
        simp only [pickL, List.getElem?_cons_zero, List.getElem?_cons_succ]
        repeat (go_big_quiet_step (fail))
        refine wpQuiet_nil ?_
        go_wp2_with fail
        rename_i KK hKK
        refine (cloneI_any (some ⟨V.heap.size, 0, none⟩) 32 32 (fun t => c'.getD t 0) (gw Wb x0) (IB.out.below (below_gw Wb x0)) (by omega)).mono ?_
        rintro e w3 ⟨a3, c3, rfl, hown3, hb3⟩
        have hfo : ∃ g3, a3 = some ⟨g3, 0, none⟩ ∧ (gw Wb x0).heap.size ≤ g3 ∧ g3 < w3.heap.size := by
          rcases hown3.2 with ⟨_, h⟩ | ⟨g, cap, cur, hv, h1, h2, _⟩
          · omega
          · simp only [Value.slice.injEq] at hv
            exact ⟨g, hv.1, h1, (Array.getElem?_eq_some_iff.1 h2).1⟩
        obtain ⟨g3, rfl, hg3, hg3'⟩ := hfo
        have hi3 := ints_of_own' hown3
        have HC3 := Lib.hid (show ∀ t, t < 32 → w3.cell? ⟨g3, t, none⟩ = some (.int .i64 (c'.getD t 0)) from fun t ht => by
          rcases hi3 with h | ⟨b, off, e, _, h⟩
          · omega
          · cases e; have := h t ht; rw [Nat.zero_add] at this; exact this)
        have hB3 : Below Wb.heap.size Wb w3 := thru hb3 (below_gw Wb x0)
        have HB3 := Lib.hid hB3
        have sz3 := hB3.size
        rw [gw_size] at hg3
        clear hi3 hown3 hb3 hB3
        refine hKK _ _ (contQ_nil ⟨keep1 (HB3.out.block _ l5), ?_⟩)
        clear hKK KK
        refine wpSeg_cons ?_
        simp only [pickL, List.getElem?_cons_zero, List.getElem?_cons_succ]
        repeat (go_big_quiet_step (fail))
        refine wpQuiet_nil ?_
        go_wp2_with fail
        obtain ⟨w4, hw4⟩ : ∃ w4, w3.alloc (.cells #[.slice (some ⟨g3, 0, none⟩) 32 c3] 22) = w4 := ⟨_, rfl⟩
        have HB4 := Lib.hid (show Below Wb.heap.size Wb w4 by rw [← hw4]; exact HB3.out.alloc sz3 _)
        have HN4 := Lib.hid (show ∀ (i : Nat) (u : Value), [Value.slice (some ⟨g3, 0, none⟩) 32 c3][i]? = some u → w4.cell? ((⟨w3.heap.size, 0, none⟩ : Addr).add i) = some u by rw [← hw4]; exact news_lit w3 _ _)
        have hz4 : w4.heap.size = w3.heap.size + 1 := by rw [← hw4]; simp
        have HC4 := Lib.hid (show ∀ t, t < 32 → w4.cell? ⟨g3, t, none⟩ = some (.int .i64 (c'.getD t 0)) from fun t ht => by rw [← hw4]; exact ((below_alloc w3 _).cell (p := ⟨g3, t, none⟩) hg3').trans (HC3.out t ht))
        rw [hw4]
        have HZ4 := Lib.hid hz4; clear hw4 hz4
        have HOW4 := Lib.hid (own_below (HO1.out.kept HG1.out (.inr (fun e => by have := NOB.out _ e; omega))) HB4.out)
        refine contQ_now ⟨keep1 (HB4.out.block _ l5), ?_⟩
        refine wpSeg_cons ?_
        simp only [pickL, List.getElem?_cons_zero, List.getElem?_cons_succ]
        repeat (go_big_quiet_step (fail))
        refine wpQuiet_nil ?_
        go_wp2_with (at_builtin; refine wpList_append_own_at _ rfl _ _ 32 rfl (W0.heap.size + 2) 22 j0 (.slice none 0 0) 1 24 Try.underlying32 JI.out Y0.out Y1.out Y2.out rfl (by decide) _ j (rowsV j rA rC) rfl HOW4.out ⟨w3.heap.size, 0, none⟩ 1 1 [.slice (some ⟨g3, 0, none⟩) 32 c3] rfl rfl HN4.out (by simp [Value.oneCell']) (by unfold maxLen; omega) (by omega) (by have := HB4.out.size; omega) ?_; intro v9 w9 hown9 hgrow9 _ hat9)
        have PU := LRows.push (V := V) (V1 := w4) (V2 := w9) (K := K) (a' := g3) (c' := c3) (M := o.leftRow y i L) HO1.out HO2.out HO3.out (show W0.heap.size + 1 < W0.heap.size + 2 by omega) (grownBy_trans HG1.out (grownBy_of_below HB4.out _)) hKV (by omega) ⟨by omega, by rw [HZ4.out]; omega⟩ (fun t ht => by rw [EM.out]; exact HC4.out t ht) hgrow9 hown9 (by rcases hat9 with e | e; exact .inl e; exact .inr ⟨_, e, Nat.le_refl _⟩)
        obtain ⟨a9, c9, rfl, hrow9⟩ := PU
        have keepB : ∀ B, B < V.heap.size → B ≠ W0.heap.size + 1 → some B ≠ (Value.slice aL' j cL').ownBlock → w9.heap[B]? = V.heap[B]? := fun B h1 h2 h3 => (hgrow9.block B (by have := HB4.out.size; omega) h3).trans ((HB4.out.block B (by omega)).trans (HG1.out.block B h1 (by simpa using h2)))
        have own5 : ∀ B, B < W0.heap.size + 2 → some B ≠ (Value.slice aL' j cL').ownBlock := fun B h e => by have := NOB.out B e.symm; omega
        have l5v : w.heap.size + 1 + 1 < V.heap.size := by omega
        have b9 : w9.heap[w.heap.size + 1 + 1]? = some (.cells #[.slice aL' j cL'] 32 (0, 0)) := (hgrow9.block _ (by have := HB4.out.size; omega) (own5 _ (by omega))).trans ((HB4.out.block _ l5).trans HB5.out)
        have hlb9 : w9.heap[W0.heap.size + 1]? = some (.loop { rec with state := .busy }) := (hgrow9.block _ (by have := HB4.out.size; have := (Array.getElem?_eq_some_iff.1 HLB.out).1; omega) (own5 _ (by omega))).trans ((HB4.out.block _ (Array.getElem?_eq_some_iff.1 HLB.out).1).trans HLB.out)
        have x9 := box_cell b9
        have f9 := frozen_of_block b9 0
        have l9 := (Array.getElem?_eq_some_iff.1 b9).1
        have low9 : Below w.heap.size V w9 := (((Below.refl w.heap.size V).grown HG1.out (by omega) (fun k e => by cases e; omega)).trans (HB4.out.mono (by omega))).grown hgrow9 (by have := HB4.out.size; omega) (fun b e => by have := NOB.out b e; omega)
        have HB9 := Lib.hid b9; have HLB9 := Lib.hid hlb9; have HLOW9 := Lib.hid low9; have HROW9 := Lib.hid hrow9; have KEEPB := Lib.hid keepB; have OWN5 := Lib.hid own5; have SZ9 := Lib.hid hgrow9.size
        clear b9 hlb9 low9 hrow9 keepB own5 hgrow9 hown9 hat9
        refine contQ_now ⟨keep1 (HB9.out.trans HB5.out.symm), ?_⟩
        refine wpSeg_nil ?_
        simp only [pickL, List.getElem?_cons_zero, List.getElem?_cons_succ]
        repeat (go_big_quiet_step (fail))
        refine wpQuiet_nil ?_
        go_wp2_with fail
        refine noPanic_now ?_
        obtain ⟨W3, hW3⟩ : ∃ W3, w9.setCell ⟨w.heap.size + 1 + 1, 0, none⟩ (.slice a9 (j + 1) c9) = W3 := ⟨_, rfl⟩
        have g3w : w9.grownBy W3 (some (w.heap.size + 1 + 1)) := by rw [← hW3]; exact grownBy_set _ _ _ _
        have b3w : W3.heap[w.heap.size + 1 + 1]? = some (.cells #[.slice a9 (j + 1) c9] 32 (0, 0)) := by rw [← hW3]; exact block_set 0 _ HB9.out
        have l3w : W3.heap[W0.heap.size + 1]? = some (.loop { rec with state := .busy }) := (g3w.block _ (Array.getElem?_eq_some_iff.1 HLB9.out).1 (by simp; omega)).trans HLB9.out
        rw [hW3]
        clear hW3
        refine ⟨_, _, run_endRound none l3w, .inl ⟨HE0.out, rfl, ?_⟩⟩
        simp only [Option.isNone_none, if_true]
        rw [loop_again r1 r2]
        have g5 : W3.grownBy (W3.putObj (W0.heap.size + 1) (.loop rec)) (some (W0.heap.size + 1)) := grownBy_putObj' _ _ _
        have fin : ∀ B, B < V.heap.size → B ≠ W0.heap.size + 1 → some B ≠ (Value.slice aL' j cL').ownBlock → B ≠ w.heap.size + 1 + 1 → (W3.putObj (W0.heap.size + 1) (.loop rec)).heap[B]? = V.heap[B]? := fun B h1 h2 h3 h4 => (World.putObj_heap_other h2).trans ((g3w.block B (by have := SZ9.out; have := HB4.out.size; omega) (by simpa using h4)).trans (KEEPB.out B h1 h2 h3))
        have s3w := g3w.size
        have hbl := (Array.getElem?_eq_some_iff.1 b3w).1
        have LX := HLOW9.out.size
        refine ⟨⟨World.putObj_heap_same (Array.getElem?_eq_some_iff.1 l3w).1, (fin _ (by omega) (by omega) (OWN5.out _ (by omega)) (by omega)).trans HJ.out.dfr, ⟨a9, c9, (World.putObj_heap_other (by omega)).trans b3w, (HROW9.out.kept g3w (fun b e => by cases e; exact .inr (by omega))).kept g5 (fun b e => by cases e; exact .inr (by omega))⟩, (fin _ (by omega) (by omega) (OWN5.out _ (by omega)) (by omega)).trans HJ.out.r1, (fin _ (by omega) (by omega) (OWN5.out _ (by omega)) (by omega)).trans HJ.out.r2, ?_⟩, ?_, fun b hb => ?_, ?_⟩
        · exact HJ.out.low.trans ((HLOW9.out.grown g3w (by omega) (fun k e => by cases e; omega)).grown g5 (by omega) (fun k e => by cases e; omega))
        · exact (HLOW9.out.grown g3w (by omega) (fun k e => by cases e; omega)).grown g5 (by omega) (fun k e => by cases e; omega)
        · have h2s := HL2.out.2.2
          have := HXW.out b hb
          have := HXLO.out b hb
          exact fin b (by omega) (by omega) (OWN5.out _ (by omega)) (by omega)
        · have h2s := HL2.out.2.2
          exact fin K hKV (by omega) (fun e => HO2.out K e.symm rfl) (by omega)
      · have d0 : (e' != 0) = true := by simp [he]
        have HE0 := Lib.hid he; clear he
        have ejq : j = q := by
          rcases Nat.lt_or_ge j q with h | h
          · exact absurd (EE.out.symm.trans (Q.out.1 j h)) HE0.out
          · omega
        have EJQ := Lib.hid ejq; clear ejq
        gi_wp2_with fail
        obtain ⟨hl3, hX3⟩ := LfX.of (j := j) (e := e') (by omega) HJ.out HG1.out HLB.out rfl
        refine ⟨_, _, run_endRound (some .ret) hl3, .inr ⟨HE0.out, rfl, ?_⟩⟩
        have e9 := EJQ.out
        subst e9
        rw [EE.out]
        exact hX3
  case ret =>
    rintro rec v W r1 r2 ⟨-, ⟨hqm, K, hJ⟩ | ⟨hqm, hX⟩⟩
    · refine ⟨rec, hJ.loop, by rw [r1]; simp, ?_⟩
      rw [r2]
      obtain ⟨W5, hW5⟩ : ∃ W5, W.putObj (W0.heap.size + 1) (.loop { rec with state := .exhausted }) = W5 := ⟨_, rfl⟩
      have hg5 : W.grownBy W5 (some (W0.heap.size + 1)) := by rw [← hW5]; exact grownBy_putObj' _ _ _
      have same : ∀ (B : Nat) (ob : Obj), W.heap[B]? = some ob → B ≠ W0.heap.size + 1 → W5.heap[B]? = some ob := fun B ob ho hB => (hg5.block B (Array.getElem?_eq_some_iff.1 ho).1 (by simpa using hB)).trans ho
      simp only [← r2] at *
      rw [hW5]
      clear hW5
      obtain ⟨a1, c1, h5, hrows⟩ := hJ.lft
      have b5 := same _ _ h5 (by omega)
      have b6 := same _ _ hJ.r1 (by omega)
      have b7 := same _ _ hJ.r2 (by omega)
      have bd := same _ _ hJ.dfr (by omega)
      have hrows5 := hrows.kept hg5 (fun b e => by cases e; exact .inr (by omega))
      have low5 : Below w.heap.size w W5 := hJ.low.grown hg5 hJ.low.size (fun k e => by cases e; omega)
      have v5 := box_cell b5
      have v6 := box_cell b6
      have v7 := box_cell b7
      have f5 := frozen_of_block b5 0
      have f6 := frozen_of_block b6 0
      have f7 := frozen_of_block b7 0
      have l5 := (Array.getElem?_eq_some_iff.1 b5).1
      have l6 := (Array.getElem?_eq_some_iff.1 b6).1
      have l7 := (Array.getElem?_eq_some_iff.1 b7).1
      have HB5 := Lib.hid b5; have HB6 := Lib.hid b6; have HB7 := Lib.hid b7; have HBD := Lib.hid bd
      have HR5 := Lib.hid hrows5; have LOW5 := Lib.hid low5; have HQM := Lib.hid hqm
      clear same b5 b6 b7 bd hrows5 low5 hg5 hJ h5 hrows hqm
      gi_wp2_with fail
      have far : ∀ (W : World) (b k : Nat) (v : Value) (B : Nat), B ≠ b → (W.setCell ⟨b, k, none⟩ v).heap[B]? = W.heap[B]? := fun W b k v B h => Below.heap_setCell W ⟨b, k, none⟩ v B h
      obtain ⟨W3, hW3⟩ : ∃ W3, ((W5.setCell ⟨w.heap.size + 1 + 1, 0, none⟩ (.slice a1 m c1)).setCell ⟨w.heap.size + 1 + 1 + 1, 0, none⟩ (.int .i64 m)).setCell ⟨w.heap.size + 1 + 1 + 1 + 1, 0, none⟩ (.int .i64 0) = W3 := ⟨_, rfl⟩
      have x0 : W3.heap[w.heap.size + 1 + 1]? = some (.cells #[.slice a1 m c1] 32 (0, 0)) := by rw [← hW3]; exact (far _ _ _ _ _ (by omega)).trans ((far _ _ _ _ _ (by omega)).trans (block_set 0 _ HB5.out))
      have x1 : W3.heap[w.heap.size + 1 + 1 + 1]? = some (.cells #[.int .i64 m] 3 (0, 0)) := by rw [← hW3]; exact (far _ _ _ _ _ (by omega)).trans (block_set 0 _ ((far _ _ _ _ _ (by omega)).trans HB6.out))
      have x2 : W3.heap[w.heap.size + 1 + 1 + 1 + 1]? = some (.cells #[.int .i64 0] 33 (0, 0)) := by rw [← hW3]; exact block_set 0 _ ((far _ _ _ _ _ (by omega)).trans ((far _ _ _ _ _ (by omega)).trans HB7.out))
      have xd : W3.heap[W0.heap.size]? = some (.deferred (some [])) := by rw [← hW3]; exact (far _ _ _ _ _ (by omega)).trans ((far _ _ _ _ _ (by omega)).trans ((far _ _ _ _ _ (by omega)).trans HBD.out))
      have low3 : Below w.heap.size w W3 := by rw [← hW3]; exact ((LOW5.out.setCell (p := ⟨w.heap.size + 1 + 1, 0, none⟩) (by simp <;> omega) _).setCell (p := ⟨w.heap.size + 1 + 1 + 1, 0, none⟩) (by simp <;> omega) _).setCell (p := ⟨w.heap.size + 1 + 1 + 1 + 1, 0, none⟩) (by simp <;> omega) _
      have rows3 : LRows W3 (W0.heap.size + 2) K a1 m c1 (o.leftRow y i L) := by rw [← hW3]; exact ((HR5.out.kept (grownBy_set _ _ _ _) (fun b e => by cases e; exact .inr (by omega))).kept (grownBy_set _ _ _ _) (fun b e => by cases e; exact .inr (by omega))).kept (grownBy_set _ _ _ _) (fun b e => by cases e; exact .inr (by omega))
      first | rw [hW3] | (rw [show (W5.setCell ⟨w.heap.size + 1 + 1, 0, none⟩ (.slice a1 m c1)) = W5 from setCell_self (box_cell HB5.out)] at hW3; rw [hW3])
      clear hW3
      unfold bodyPostM
      refine ⟨by simp, .inl ⟨W0.heap.size, _, rfl, run_takeDeferred xd, ?_⟩⟩
      have b0 := box_cell (show (W3.putObj W0.heap.size (.deferred none)).heap[w.heap.size + 1 + 1]? = _ from (World.putObj_heap_other (by omega)).trans x0)
      have b1 := box_cell (show (W3.putObj W0.heap.size (.deferred none)).heap[w.heap.size + 1 + 1 + 1]? = _ from (World.putObj_heap_other (by omega)).trans x1)
      have b2 := box_cell (show (W3.putObj W0.heap.size (.deferred none)).heap[w.heap.size + 1 + 1 + 1 + 1]? = _ from (World.putObj_heap_other (by omega)).trans x2)
      refine ⟨.tuple #[.slice a1 m c1, .int .i64 m, .int .i64 0], by simp [results, Try.results11, go_sem, b0, b1, b2], ?_⟩
      obtain ⟨g1, g2⟩ := (left_ok HARG.out H2.out Q.out.2.2).1 HQM.out
      refine ⟨a1, c1, by rw [g1, g2]; rfl, ?_, low3.grown (grownBy_putObj' _ _ _) low3.size (fun k e => by cases e; omega)⟩
      rw [g1, if_pos rfl, Int.toNat_natCast]
      exact (rows3.kept (grownBy_putObj' _ _ _) (fun b e => by cases e; exact .inr (by omega))).out
    · refine ⟨_, hX.loop, by simp, ?_⟩
      obtain ⟨W5, hW5⟩ : ∃ W5, W.putObj (W0.heap.size + 1) (.loop { rec with state := .exhausted, pending := some .ret }) = W5 := ⟨_, rfl⟩
      have hg5 : W.grownBy W5 (some (W0.heap.size + 1)) := by rw [← hW5]; exact grownBy_putObj' _ _ _
      have same : ∀ (B : Nat) (ob : Obj), W.heap[B]? = some ob → B ≠ W0.heap.size + 1 → W5.heap[B]? = some ob := fun B ob ho hB => (hg5.block B (Array.getElem?_eq_some_iff.1 ho).1 (by simpa using hB)).trans ho
      show Code.wpIn Fence.wide n _ Code.ret _ _ (W.putObj (W0.heap.size + 1) (.loop { rec with state := .exhausted, pending := some .ret }))
      rw [hW5]
      clear hW5
      have x0 := same _ _ hX.lft (by omega)
      have x1 := same _ _ hX.r1 (by omega)
      have x2 := same _ _ hX.r2 (by omega)
      have xd := same _ _ hX.dfr (by omega)
      have low5 : Below w.heap.size w W5 := hX.low.grown hg5 hX.low.size (fun k e => by cases e; omega)
      clear hX same hg5
      gi_wp2_with fail
      unfold bodyPostM
      refine ⟨by simp, .inl ⟨W0.heap.size, _, rfl, run_takeDeferred xd, ?_⟩⟩
      have b0 := box_cell (show (W5.putObj W0.heap.size (.deferred none)).heap[w.heap.size + 1 + 1]? = _ from (World.putObj_heap_other (by omega)).trans x0)
      have b1 := box_cell (show (W5.putObj W0.heap.size (.deferred none)).heap[w.heap.size + 1 + 1 + 1]? = _ from (World.putObj_heap_other (by omega)).trans x1)
      have b2 := box_cell (show (W5.putObj W0.heap.size (.deferred none)).heap[w.heap.size + 1 + 1 + 1 + 1]? = _ from (World.putObj_heap_other (by omega)).trans x2)
      refine ⟨.tuple #[.slice none 0 0, .int .i64 q, .int .i64 (o.errLo y i L q)], by simp [results, Try.results11, go_sem, b0, b1, b2], ?_⟩
      obtain ⟨g1, g2⟩ := (left_ok HARG.out H2.out Q.out.2.2).2 hqm
      have ne := Q.out.2.1 hqm
      refine ⟨none, 0, by rw [g1, g2, if_neg ne], ?_, low5.grown (grownBy_putObj' _ _ _) low5.size (fun k e => by cases e; omega)⟩
      rw [g1, if_neg ne]
      exact ⟨fun _ => none, fun _ => 0, .inl rfl, fun t ht => by omega⟩

theorem Left_any (o : Otl) (y : Lyg) (aL : Option Addr) (m cL : Nat) (L : Nat → Int) (path : Int) (w : World) (hO : o.In w) (hfo : o.Fits) (hY : y.In w) (hfy : y.Fits) (hL : IntsAt w aL m L) (hm : m ≤ 9223372036854775807) :
    Calls Try.prog 11 #[o.val, y.val, .slice aL m cL, .int .i64 path] w (LeftEnd o y m L path w) := by
  rcases argE_cases o y m L with h | h
  · cases h2 : inB path 0 (o.nP - 1) with
    | true =>
      have := inB_t.1 h2
      exact callsIn_wide.1 (Left_in 4 o y aL m cL L path w hO hfo hY hfy hL hm path.toNat (by omega) h h2)
    | false =>
      refine (Left_rng o y aL m cL L path w hO hfo hY hfy hL hm h h2).mono fun e w' ⟨he, hb⟩ => ?_
      have e1 : leftE o y m L path = 2 := by unfold leftE; rw [if_neg (by omega), if_neg (by simp [h2])]
      have e2 : leftY o y m L path = 0 := by unfold leftY; rw [if_neg (by omega), if_neg (by simp [h2])]
      exact ⟨none, 0, by rw [he, e1, e2]; rfl, by rw [e1]; exact ⟨fun _ => none, fun _ => 0, .inl rfl, fun t ht => by simp at ht⟩, hb⟩
  · refine (Left_arg o y aL m cL L path w hO hfo hY hfy hL hm h).mono fun e w' ⟨he, hb⟩ => ?_
    have e1 : leftE o y m L path = 1 := by unfold leftE; rw [if_pos h]
    have e2 : leftY o y m L path = 0 := by unfold leftY; rw [if_pos h]
    exact ⟨none, 0, by rw [he, e1, e2]; rfl, by rw [e1]; exact ⟨fun _ => none, fun _ => 0, .inl rfl, fun t ht => by simp at ht⟩, hb⟩
end Go.Proofs.Ytdcpgjepgajioaa
