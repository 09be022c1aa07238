/- Plain laws of narrower spans; the closures of StrengthNarrower; an array of six numbers. No conditions beyond each theorem's own. -/
import Derived.Test.YtohcopdfdmjhnaaTe
import Derived.Test.YtohcopdfdmjhnaaUd
import Derived.Test.YtohcopdfdmjhnaaTa
import Derived.Test.YtohcopdfdmjhnaaTb
import Derived.Test.YtohcopdfdmjhnaaSw
import Derived.Test.YtohcopdfdmjhnaaTr
import Derived.Test.YtohcopdfdmjhnaaPd
set_option linter.unusedVariables false
set_option linter.unusedSimpArgs false
set_option linter.unusedSectionVars false
set_option linter.constructorNameAsVariable false
namespace Go.Proofs.Ytohcopdfdmjhnaa.L1
open Go.RowKit
open Go.Proofs.Ytohcopdfdmjhnaa

attribute [local go_sem] gw_cell gw_frozen gw_size
attribute [local go_sem ↓] run_minI

theorem run_maxI {Q : Program} (w : World) (ts : Array TypeId) (t : TypeId) (k k' : IntKind) (x y : Int) : (Builtin.max_ ts t #[.int k x, .int k' y]).run Q w = .ok (.int k (max x y)) w := by rw [run_maxZ, maxZ_eq]
attribute [local go_sem ↓] run_maxI
section
variable {t : Tab} {alo ahi lo hi tlo thi alo' ahi' lo' hi' tlo' thi' : Int}
structure Nr (alo ahi lo hi tlo thi alo' ahi' lo' hi' tlo' thi' : Int) : Prop where
  a0 : 0 ≤ alo
  a1 : alo ≤ alo'
  a2 : alo' ≤ ahi'
  a3 : ahi' ≤ ahi
  a4 : ahi ≤ 1099511627776
  s1 : lo ≤ lo'
  s2 : lo' ≤ hi'
  s3 : hi' ≤ hi
  t1 : tlo ≤ tlo'
  t2 : tlo' ≤ thi'
  t3 : thi' ≤ thi
theorem Nr.spans (n : Nr alo ahi lo hi tlo thi alo' ahi' lo' hi' tlo' thi') : spanB alo ahi 0 1099511627776 = true ∧ spanB alo' ahi' 0 1099511627776 = true := by
  obtain ⟨a0, a1, a2, a3, a4, s1, s2, s3, t1, t2, t3⟩ := n
  exact ⟨spanB_t.2 ⟨by omega, by omega, by omega⟩, spanB_t.2 ⟨by omega, by omega, by omega⟩⟩
theorem meE_ok (h : t.meE alo ahi lo hi tlo thi = 0) : t.okB = true ∧ t.strE lo hi tlo thi = 0 ∧ t.voE alo ahi (t.strL lo hi tlo thi) (t.strH lo hi tlo thi) tlo thi = 0 := by
  unfold Tab.meE at h
  by_cases hB : t.meB alo ahi = true
  · rw [if_pos hB] at h
    by_cases hs : t.strE lo hi tlo thi = 0
    · rw [if_pos hs] at h
      exact ⟨(Tab.strE_zero hs).1, hs, h⟩
    · rw [if_neg hs] at h; exact absurd h hs
  · rw [if_neg hB] at h; cases h
theorem voE_cases (hok : t.okB = true) (hs : spanB alo ahi 0 1099511627776 = true) {slo shi : Int} : t.voE alo ahi slo shi tlo thi = 0 ∨ t.voE alo ahi slo shi tlo thi = 2 ∨ t.voE alo ahi slo shi tlo thi = 11 := by
  unfold Tab.voE
  rw [if_pos ⟨hok, hs⟩]
  by_cases h2 : t.fitS slo shi = true ∧ t.fitT tlo thi = true
  · rw [if_pos h2]; split
    · exact .inl rfl
    · exact .inr (.inr rfl)
  · rw [if_neg h2]; exact .inr (.inl rfl)
/-- what has no result for the wider spans can have one for the narrower ones only if the wider ones do not fit -/
theorem nr_back (n : Nr alo ahi lo hi tlo thi alo' ahi' lo' hi' tlo' thi') (h : t.meE alo' ahi' lo' hi' tlo' thi' = 0) : t.meE alo ahi lo hi tlo thi = 0 ∨ t.meE alo ahi lo hi tlo thi = 2 ∨ t.meE alo ahi lo hi tlo thi = 11 := by
  obtain ⟨hok, hs, hv⟩ := meE_ok h
  obtain ⟨sp, sp'⟩ := n.spans
  have g := Tab.good hok
  have hB : t.meB alo ahi = true := by unfold Tab.meB; rw [hok, sp]; rfl
  have e : t.meE alo ahi lo hi tlo thi = if t.strE lo hi tlo thi = 0 then t.voE alo ahi (t.strL lo hi tlo thi) (t.strH lo hi tlo thi) tlo thi else t.strE lo hi tlo thi := by unfold Tab.meE; rw [if_pos hB]
  rw [e]
  obtain ⟨_, _, _, nn⟩ := Tab.strE_zero hs
  have hl : lo ≤ hi := by have := n.s1; have := n.s2; have := n.s3; omega
  cases hT : t.fitT tlo thi with
  | false =>
    have e2 := Tab.strE_far hok hl hT
    rw [e2]; exact .inr (.inl rfl)
  | true =>
    have k := g.ok.str_narrower (Tab.fitT_t hT) n.t1 n.t2 n.t3 n.s1 n.s3 nn
    have e2 := Tab.strE_ok hok hl hT k.1
    rw [if_pos e2]
    exact voE_cases hok sp
/-- narrower spans have results that are not wider, or there is none -/
theorem nr_fwd (n : Nr alo ahi lo hi tlo thi alo' ahi' lo' hi' tlo' thi') (h : t.meE alo ahi lo hi tlo thi = 0) :
    t.meE alo' ahi' lo' hi' tlo' thi' = 4 ∨ t.meE alo' ahi' lo' hi' tlo' thi' = 0 ∧ ∃ m m' : Me, t.meV alo ahi lo hi tlo thi = m ∧ t.meV alo' ahi' lo' hi' tlo' thi' = m' ∧
      (m.vl ≤ m'.vl ∧ m'.vl ≤ m'.vh ∧ m'.vh ≤ m.vh) ∧ (m.sl ≤ m'.sl ∧ m'.sl ≤ m'.sh ∧ m'.sh ≤ m.sh) ∧ m.pl ≤ m'.pl ∧ m'.pl ≤ m'.ph ∧ m'.ph ≤ m.ph := by
  obtain ⟨hok, hs, hv⟩ := meE_ok h
  obtain ⟨sp, sp'⟩ := n.spans
  have g := Tab.good hok
  obtain ⟨_, _, hT, nw⟩ := Tab.strE_zero hs
  have ft := Tab.fitT_t hT
  have fa := ft.a
  have fc := ft.c
  have ft' : t.tb.FitT tlo' thi' := ⟨by have := n.t1; omega, n.t2, by have := n.t3; omega⟩
  have hT' := Tab.t_fitT ft'
  have hB' : t.meB alo' ahi' = true := by unfold Tab.meB; rw [hok, sp']; rfl
  have e' : t.meE alo' ahi' lo' hi' tlo' thi' = if t.strE lo' hi' tlo' thi' = 0 then t.voE alo' ahi' (t.strL lo' hi' tlo' thi') (t.strH lo' hi' tlo' thi') tlo' thi' else t.strE lo' hi' tlo' thi' := by unfold Tab.meE; rw [if_pos hB']
  cases nn : t.tb.noneB lo' hi' tlo' thi' with
  | true =>
    have e2 := Tab.strE_none hok n.s2 hT' nn
    left; rw [e', e2]; rfl
  | false =>
    right
    have hs' := Tab.strE_ok hok n.s2 hT' nn
    obtain ⟨_, k1, k2⟩ := g.ok.str_narrower ft n.t1 n.t2 n.t3 n.s1 n.s3 nn
    obtain ⟨s0, s1, s2, s3⟩ := str_range hs
    obtain ⟨r0, r1, r2, r3⟩ := str_range hs'
    have eL : t.strL lo hi tlo thi = t.tb.strLo lo tlo thi := if_pos hs
    have eH : t.strH lo hi tlo thi = t.tb.strHi hi tlo thi := if_pos hs
    have eL' : t.strL lo' hi' tlo' thi' = t.tb.strLo lo' tlo' thi' := if_pos hs'
    have eH' : t.strH lo' hi' tlo' thi' = t.tb.strHi hi' tlo' thi' := if_pos hs'
    rw [← eL, ← eL'] at k1
    rw [← eH, ← eH'] at k2
    clear eL eH eL' eH'
    have mE : t.meV alo ahi lo hi tlo thi = ⟨t.voLo alo ahi (t.strL lo hi tlo thi) (t.strH lo hi tlo thi) tlo thi, t.voHi alo ahi (t.strL lo hi tlo thi) (t.strH lo hi tlo thi) tlo thi, t.strL lo hi tlo thi, t.strH lo hi tlo thi,
      puLo (t.voLo alo ahi (t.strL lo hi tlo thi) (t.strH lo hi tlo thi) tlo thi) (t.strL lo hi tlo thi), puHi (t.voHi alo ahi (t.strL lo hi tlo thi) (t.strH lo hi tlo thi) tlo thi) (t.strH lo hi tlo thi)⟩ := if_pos h
    rw [if_pos hs'] at e'
    have mE' : t.meE alo' ahi' lo' hi' tlo' thi' = 0 → t.meV alo' ahi' lo' hi' tlo' thi' = ⟨t.voLo alo' ahi' (t.strL lo' hi' tlo' thi') (t.strH lo' hi' tlo' thi') tlo' thi', t.voHi alo' ahi' (t.strL lo' hi' tlo' thi') (t.strH lo' hi' tlo' thi') tlo' thi', t.strL lo' hi' tlo' thi', t.strH lo' hi' tlo' thi',
      puLo (t.voLo alo' ahi' (t.strL lo' hi' tlo' thi') (t.strH lo' hi' tlo' thi') tlo' thi') (t.strL lo' hi' tlo' thi'), puHi (t.voHi alo' ahi' (t.strL lo' hi' tlo' thi') (t.strH lo' hi' tlo' thi') tlo' thi') (t.strH lo' hi' tlo' thi')⟩ := fun h => if_pos h
    generalize t.strL lo hi tlo thi = sl at *
    generalize t.strH lo hi tlo thi = sh at *
    generalize t.strL lo' hi' tlo' thi' = sl' at *
    generalize t.strH lo' hi' tlo' thi' = sh' at *
    obtain ⟨v1, v2⟩ := g.ok.vol_narrower ft s3 ft' r3 n.t1 n.t3 k1 k2 n.a0 n.a1 n.a3 n.a2
    have eVL : t.voLo alo ahi sl sh tlo thi = t.tb.volLo alo sl sh tlo thi := if_pos hv
    have eVH : t.voHi alo ahi sl sh tlo thi = t.tb.volHi ahi sl sh tlo thi := if_pos hv
    obtain ⟨x0, x1, x2⟩ := vo_range hv
    have hv' : t.voE alo' ahi' sl' sh' tlo' thi' = 0 := by
      rw [Tab.voE_ok hok sp' (Tab.t_fitS r3) hT']
      refine if_pos ?_
      omega
    obtain ⟨y0, y1, y2⟩ := vo_range hv'
    have eVL' : t.voLo alo' ahi' sl' sh' tlo' thi' = t.tb.volLo alo' sl' sh' tlo' thi' := if_pos hv'
    have eVH' : t.voHi alo' ahi' sl' sh' tlo' thi' = t.tb.volHi ahi' sl' sh' tlo' thi' := if_pos hv'
    rw [hv'] at e'
    refine ⟨e', _, _, mE, mE' e', ⟨?_, y1, ?_⟩, ⟨k1, r1, k2⟩, ?_, ?_, ?_⟩
    · simp only; omega
    · simp only; omega
    · simp only
      have q := Int.mul_le_mul (show t.voLo alo ahi sl sh tlo thi ≤ t.voLo alo' ahi' sl' sh' tlo' thi' by omega) k1 s0 (by omega)
      unfold puLo
      omega
    · simp only
      have q := Int.mul_le_mul y1 r1 r0 (by omega)
      unfold puLo puHi upI
      omega
    · simp only
      have q := Int.mul_le_mul (show t.voHi alo' ahi' sl' sh' tlo' thi' ≤ t.voHi alo ahi sl sh tlo thi by omega) k2 (by omega) (by omega)
      unfold puHi upI
      omega
end

set_option maxRecDepth 100000 in
set_option maxHeartbeats 2000000 in
theorem cut0_any (lo hi x y : Int) (bb : Nat) (w : World) (h0 : -1000000000000000 ≤ lo) (h1 : lo ≤ hi) (h2 : hi ≤ 1000000000000000) (x0 : 0 ≤ x ∧ x ≤ 4294967295) (y0 : 0 ≤ y ∧ y ≤ 4294967295) (cx : w.cell? ⟨bb, 0, none⟩ = some (.int .u32 x)) (cy : w.cell? ⟨bb, 1, none⟩ = some (.int .u32 y)) :
    Calls Try.prog 41 #[.agg #[.int .i64 lo, .int .i64 hi], .int .i64 0, .pointer (some ⟨bb, 0, none⟩)] w fun e w' => e = .returned (.agg #[.int .i64 (min (innerI lo hi x) (innerI lo hi y)), .int .i64 (max (innerI lo hi x) (innerI lo hi y))]) ∧ Below w.heap.size w w' := by
  have I1 := Lib.hid (fun W => inner_any lo hi x W h0 h1 h2 x0.1 x0.2)
  have I2 := Lib.hid (fun W => inner_any lo hi y W h0 h1 h2 y0.1 y0.2)
  generalize innerI lo hi x = p at *
  generalize innerI lo hi y = q at *
  obtain ⟨W1, hW1⟩ : ∃ W1, (w.alloc (.cells #[.int .i64 lo, .int .i64 hi] 27)).alloc (.cells #[.int .i64 0, .int .i64 0] 27) = W1 := ⟨_, rfl⟩
  have hBc : Below w.heap.size w W1 := by rw [← hW1]; exact (below_alloc _ _).alloc (by simp) _
  have zc0 : W1.heap[w.heap.size]? = some (.cells #[.int .i64 lo, .int .i64 hi] 27 (0, 0)) := by rw [← hW1]; exact alloc_keep (alloc_at rfl)
  have zc1 : W1.heap[w.heap.size + 1]? = some (.cells #[.int .i64 0, .int .i64 0] 27 (0, 0)) := by rw [← hW1]; exact alloc_at (by simp)
  have c00 : W1.cell? ⟨w.heap.size, 0, none⟩ = some (.int .i64 lo) := cell_of_block zc0 0 (by simp)
  have c01 : W1.cell? ⟨w.heap.size, 1, none⟩ = some (.int .i64 hi) := cell_of_block zc0 1 (by simp)
  have c10 : W1.cell? ⟨w.heap.size + 1, 0, none⟩ = some (.int .i64 0) := cell_of_block zc1 0 (by simp)
  have c11 : W1.cell? ⟨w.heap.size + 1, 1, none⟩ = some (.int .i64 0) := cell_of_block zc1 1 (by simp)
  have lc0 := (Array.getElem?_eq_some_iff.1 zc0).1
  have lc1 := (Array.getElem?_eq_some_iff.1 zc1).1
  have Zc1 := Lib.hid zc1
  clear zc0 zc1
  have HBc := Lib.hid hBc; clear hBc
  have HWc := Lib.hid hW1; clear hW1
  have kx := below_cell HBc.out cx
  have ky := below_cell HBc.out cy
  have lbb := World.block_lt_of_cell? W1 _ kx
  dsimp only at lbb
  clear cx cy
  go_enter Try.func41, Try.ntmps41
  go_upto_region 1 with (fail)
  rw [HWc.out]
  refine wp_region_gw (by kernel_rfl) (by kernel_rfl) ?_
  repeat (go_big_quiet_step ((go_at_call 23; first | (with_reducible exact Calls.gw_of (I1.out _)) | (with_reducible exact Calls.gw_of (I2.out _)))))
  refine wpQuiet_nil ?_
  rintro _ ⟨z, rfl⟩
  obtain ⟨V, hV⟩ : ∃ V, gw W1 z = V := ⟨_, rfl⟩
  have z1 := ((below_gw W1 z).block _ lc1).trans Zc1.out
  have BV := Lib.hid (HBc.out.gw z)
  rw [hV] at z1 BV ⊢
  clear hV
  have g0 : V.cell? ⟨w.heap.size + 1, 0, none⟩ = some (.int .i64 0) := cell_of_block z1 0 (by simp)
  have g1 : V.cell? ⟨w.heap.size + 1, 1, none⟩ = some (.int .i64 0) := cell_of_block z1 1 (by simp)
  have f0 := frozen_of_block z1 0
  have f1 := frozen_of_block z1 1
  have l1 := (Array.getElem?_eq_some_iff.1 z1).1
  clear z1 c00 c01 c10 c11 kx ky lbb
  go_wp2_with fail
  refine bodyPost_ret (v := .agg #[.int .i64 (min p q), .int .i64 (max p q)]) (by simp [results, Try.results41, go_sem, *]) rfl ⟨rfl, ?_⟩
  exact (BV.out.setCell (by simp) _).setCell (by simp) _
set_option maxRecDepth 100000 in
set_option maxHeartbeats 2000000 in
theorem cut2_any (lo hi x y : Int) (bb : Nat) (w : World) (h0 : -1000000000000000 ≤ lo) (h1 : lo ≤ hi) (h2 : hi ≤ 1000000000000000) (x0 : 0 ≤ x ∧ x ≤ 4294967295) (y0 : 0 ≤ y ∧ y ≤ 4294967295) (cx : w.cell? ⟨bb, 2, none⟩ = some (.int .u32 x)) (cy : w.cell? ⟨bb, 3, none⟩ = some (.int .u32 y)) :
    Calls Try.prog 41 #[.agg #[.int .i64 lo, .int .i64 hi], .int .i64 2, .pointer (some ⟨bb, 0, none⟩)] w fun e w' => e = .returned (.agg #[.int .i64 (min (innerI lo hi x) (innerI lo hi y)), .int .i64 (max (innerI lo hi x) (innerI lo hi y))]) ∧ Below w.heap.size w w' := by
  have I1 := Lib.hid (fun W => inner_any lo hi x W h0 h1 h2 x0.1 x0.2)
  have I2 := Lib.hid (fun W => inner_any lo hi y W h0 h1 h2 y0.1 y0.2)
  generalize innerI lo hi x = p at *
  generalize innerI lo hi y = q at *
  obtain ⟨W1, hW1⟩ : ∃ W1, (w.alloc (.cells #[.int .i64 lo, .int .i64 hi] 27)).alloc (.cells #[.int .i64 0, .int .i64 0] 27) = W1 := ⟨_, rfl⟩
  have hBc : Below w.heap.size w W1 := by rw [← hW1]; exact (below_alloc _ _).alloc (by simp) _
  have zc0 : W1.heap[w.heap.size]? = some (.cells #[.int .i64 lo, .int .i64 hi] 27 (0, 0)) := by rw [← hW1]; exact alloc_keep (alloc_at rfl)
  have zc1 : W1.heap[w.heap.size + 1]? = some (.cells #[.int .i64 0, .int .i64 0] 27 (0, 0)) := by rw [← hW1]; exact alloc_at (by simp)
  have c00 : W1.cell? ⟨w.heap.size, 0, none⟩ = some (.int .i64 lo) := cell_of_block zc0 0 (by simp)
  have c01 : W1.cell? ⟨w.heap.size, 1, none⟩ = some (.int .i64 hi) := cell_of_block zc0 1 (by simp)
  have c10 : W1.cell? ⟨w.heap.size + 1, 0, none⟩ = some (.int .i64 0) := cell_of_block zc1 0 (by simp)
  have c11 : W1.cell? ⟨w.heap.size + 1, 1, none⟩ = some (.int .i64 0) := cell_of_block zc1 1 (by simp)
  have lc0 := (Array.getElem?_eq_some_iff.1 zc0).1
  have lc1 := (Array.getElem?_eq_some_iff.1 zc1).1
  have Zc1 := Lib.hid zc1
  clear zc0 zc1
  have HBc := Lib.hid hBc; clear hBc
  have HWc := Lib.hid hW1; clear hW1
  have kx := below_cell HBc.out cx
  have ky := below_cell HBc.out cy
  have lbb := World.block_lt_of_cell? W1 _ kx
  dsimp only at lbb
  clear cx cy
  go_enter Try.func41, Try.ntmps41
  go_upto_region 1 with (fail)
  rw [HWc.out]
  refine wp_region_gw (by kernel_rfl) (by kernel_rfl) ?_
  repeat (go_big_quiet_step ((go_at_call 23; first | (with_reducible exact Calls.gw_of (I1.out _)) | (with_reducible exact Calls.gw_of (I2.out _)))))
  refine wpQuiet_nil ?_
  rintro _ ⟨z, rfl⟩
  obtain ⟨V, hV⟩ : ∃ V, gw W1 z = V := ⟨_, rfl⟩
  have z1 := ((below_gw W1 z).block _ lc1).trans Zc1.out
  have BV := Lib.hid (HBc.out.gw z)
  rw [hV] at z1 BV ⊢
  clear hV
  have g0 : V.cell? ⟨w.heap.size + 1, 0, none⟩ = some (.int .i64 0) := cell_of_block z1 0 (by simp)
  have g1 : V.cell? ⟨w.heap.size + 1, 1, none⟩ = some (.int .i64 0) := cell_of_block z1 1 (by simp)
  have f0 := frozen_of_block z1 0
  have f1 := frozen_of_block z1 1
  have l1 := (Array.getElem?_eq_some_iff.1 z1).1
  clear z1 c00 c01 c10 c11 kx ky lbb
  go_wp2_with fail
  refine bodyPost_ret (v := .agg #[.int .i64 (min p q), .int .i64 (max p q)]) (by simp [results, Try.results41, go_sem, *]) rfl ⟨rfl, ?_⟩
  exact (BV.out.setCell (by simp) _).setCell (by simp) _
set_option maxRecDepth 100000 in
set_option maxHeartbeats 2000000 in
theorem cut4_any (lo hi x y : Int) (bb : Nat) (w : World) (h0 : -1000000000000000 ≤ lo) (h1 : lo ≤ hi) (h2 : hi ≤ 1000000000000000) (x0 : 0 ≤ x ∧ x ≤ 4294967295) (y0 : 0 ≤ y ∧ y ≤ 4294967295) (cx : w.cell? ⟨bb, 4, none⟩ = some (.int .u32 x)) (cy : w.cell? ⟨bb, 5, none⟩ = some (.int .u32 y)) :
    Calls Try.prog 41 #[.agg #[.int .i64 lo, .int .i64 hi], .int .i64 4, .pointer (some ⟨bb, 0, none⟩)] w fun e w' => e = .returned (.agg #[.int .i64 (min (innerI lo hi x) (innerI lo hi y)), .int .i64 (max (innerI lo hi x) (innerI lo hi y))]) ∧ Below w.heap.size w w' := by
  have I1 := Lib.hid (fun W => inner_any lo hi x W h0 h1 h2 x0.1 x0.2)
  have I2 := Lib.hid (fun W => inner_any lo hi y W h0 h1 h2 y0.1 y0.2)
  generalize innerI lo hi x = p at *
  generalize innerI lo hi y = q at *
  obtain ⟨W1, hW1⟩ : ∃ W1, (w.alloc (.cells #[.int .i64 lo, .int .i64 hi] 27)).alloc (.cells #[.int .i64 0, .int .i64 0] 27) = W1 := ⟨_, rfl⟩
  have hBc : Below w.heap.size w W1 := by rw [← hW1]; exact (below_alloc _ _).alloc (by simp) _
  have zc0 : W1.heap[w.heap.size]? = some (.cells #[.int .i64 lo, .int .i64 hi] 27 (0, 0)) := by rw [← hW1]; exact alloc_keep (alloc_at rfl)
  have zc1 : W1.heap[w.heap.size + 1]? = some (.cells #[.int .i64 0, .int .i64 0] 27 (0, 0)) := by rw [← hW1]; exact alloc_at (by simp)
  have c00 : W1.cell? ⟨w.heap.size, 0, none⟩ = some (.int .i64 lo) := cell_of_block zc0 0 (by simp)
  have c01 : W1.cell? ⟨w.heap.size, 1, none⟩ = some (.int .i64 hi) := cell_of_block zc0 1 (by simp)
  have c10 : W1.cell? ⟨w.heap.size + 1, 0, none⟩ = some (.int .i64 0) := cell_of_block zc1 0 (by simp)
  have c11 : W1.cell? ⟨w.heap.size + 1, 1, none⟩ = some (.int .i64 0) := cell_of_block zc1 1 (by simp)
  have lc0 := (Array.getElem?_eq_some_iff.1 zc0).1
  have lc1 := (Array.getElem?_eq_some_iff.1 zc1).1
  have Zc1 := Lib.hid zc1
  clear zc0 zc1
  have HBc := Lib.hid hBc; clear hBc
  have HWc := Lib.hid hW1; clear hW1
  have kx := below_cell HBc.out cx
  have ky := below_cell HBc.out cy
  have lbb := World.block_lt_of_cell? W1 _ kx
  dsimp only at lbb
  clear cx cy
  go_enter Try.func41, Try.ntmps41
  go_upto_region 1 with (fail)
  rw [HWc.out]
  refine wp_region_gw (by kernel_rfl) (by kernel_rfl) ?_
  repeat (go_big_quiet_step ((go_at_call 23; first | (with_reducible exact Calls.gw_of (I1.out _)) | (with_reducible exact Calls.gw_of (I2.out _)))))
  refine wpQuiet_nil ?_
  rintro _ ⟨z, rfl⟩
  obtain ⟨V, hV⟩ : ∃ V, gw W1 z = V := ⟨_, rfl⟩
  have z1 := ((below_gw W1 z).block _ lc1).trans Zc1.out
  have BV := Lib.hid (HBc.out.gw z)
  rw [hV] at z1 BV ⊢
  clear hV
  have g0 : V.cell? ⟨w.heap.size + 1, 0, none⟩ = some (.int .i64 0) := cell_of_block z1 0 (by simp)
  have g1 : V.cell? ⟨w.heap.size + 1, 1, none⟩ = some (.int .i64 0) := cell_of_block z1 1 (by simp)
  have f0 := frozen_of_block z1 0
  have f1 := frozen_of_block z1 1
  have l1 := (Array.getElem?_eq_some_iff.1 z1).1
  clear z1 c00 c01 c10 c11 kx ky lbb
  go_wp2_with fail
  refine bodyPost_ret (v := .agg #[.int .i64 (min p q), .int .i64 (max p q)]) (by simp [results, Try.results41, go_sem, *]) rfl ⟨rfl, ?_⟩
  exact (BV.out.setCell (by simp) _).setCell (by simp) _
set_option maxHeartbeats 1000000 in
theorem nrIn_true (al ah bl bh : Int) (w : World) (h1 : bl ≤ al) (h2 : al ≤ ah) (h3 : ah ≤ bh) :
    Calls Try.prog 42 #[.agg #[.int .i64 al, .int .i64 ah], .agg #[.int .i64 bl, .int .i64 bh]] w fun e w' => e = .returned (.bool true) ∧ Below w.heap.size w w' := by
  go_enter Try.func42, Try.ntmps42
  go_wp2
  go_ret
  exact ⟨rfl, (below_alloc _ _).alloc (by simp) _⟩
end Go.Proofs.Ytohcopdfdmjhnaa.L1
namespace Go.Proofs.Ytohcopdfdmjhnaa.L1
open Go.ChangeShapes Go.WideShapes Go.ChangeAt Go.RowKit Go.Deep
section
variable {H : Type} {enc : TypeId × Value → H} {P : Program} {w : World} {base : Nat} {spare : Nat → Bool} {held : Bool}
theorem trod_array6 {t e : TypeId} {fuel : Nat} {c0 c1 c2 c3 c4 c5 : Value} {x : DataW H × List MemPlace} (ht : P.underlying t = some (.array 6 e)) (hce : P.cellsOf e = 1)
    (h : DataW.trod enc P w base spare held fuel t [c0, c1, c2, c3, c4, c5] = some x) :
    ∃ n y0 y1 y2 y3 y4 y5, DataW.trod enc P w base spare held n e [c0] = some y0 ∧ DataW.trod enc P w base spare held n e [c1] = some y1 ∧ DataW.trod enc P w base spare held n e [c2] = some y2 ∧ DataW.trod enc P w base spare held n e [c3] = some y3 ∧ DataW.trod enc P w base spare held n e [c4] = some y4 ∧ DataW.trod enc P w base spare held n e [c5] = some y5 := by
  cases fuel with
  | zero => simp [DataW.trod] at h
  | succ n =>
    unfold DataW.trod at h
    rw [ht] at h
    have r6 : List.range 6 = [0, 1, 2, 3, 4, 5] := rfl
    simp [r6, hce] at h
    obtain ⟨_, h⟩ := h
    cases h0 : DataW.trod enc P w base spare held n e [c0] with
    | none => simp [h0] at h
    | some y0 =>
      cases h1 : DataW.trod enc P w base spare held n e [c1] with
      | none => simp [h0, h1] at h
      | some y1 =>
        cases h2 : DataW.trod enc P w base spare held n e [c2] with
        | none => simp [h0, h1, h2] at h
        | some y2 =>
          cases h3 : DataW.trod enc P w base spare held n e [c3] with
          | none => simp [h0, h1, h2, h3] at h
          | some y3 =>
            cases h4 : DataW.trod enc P w base spare held n e [c4] with
            | none => simp [h0, h1, h2, h3, h4] at h
            | some y4 =>
              cases h5 : DataW.trod enc P w base spare held n e [c5] with
              | none => simp [h0, h1, h2, h3, h4, h5] at h
              | some y5 =>
                exact ⟨n, y0, y1, y2, y3, y4, y5, h0, h1, h2, h3, h4, h5⟩
theorem rd_by6 {tU tB : TypeId} (hU : P.underlying tU = some (.int .u32)) (kU : P.cellsOf tU = 1) (hB : P.underlying tB = some (.array 6 tU)) (kB : P.cellsOf tB = 6) {v : Value} {d : DataW H} {ps : List MemPlace}
    (hv : Value.okWide P w .any base tB v) (h : DataW.Trod enc P w 0 spare held tB v d ps) : ∃ a0 a1 a2 a3 a4 a5, v = .agg #[.int .u32 a0, .int .u32 a1, .int .u32 a2, .int .u32 a3, .int .u32 a4, .int .u32 a5] ∧ (0 ≤ a0 ∧ a0 ≤ 4294967295) ∧ (0 ≤ a1 ∧ a1 ≤ 4294967295) ∧ (0 ≤ a2 ∧ a2 ≤ 4294967295) ∧ (0 ≤ a3 ∧ a3 ≤ 4294967295) ∧ (0 ≤ a4 ∧ a4 ≤ 4294967295) ∧ 0 ≤ a5 ∧ a5 ≤ 4294967295 := by
  obtain ⟨cs, rfl, hsz, _⟩ : ∃ cs, v = .agg cs ∧ cs.size = P.cellsOf tB ∧ Row.okWide P w .any base tB cs := by simpa [Value.okWide, hB] using hv
  rw [kB] at hsz
  obtain ⟨l⟩ := cs
  match l, (show l.length = 6 from hsz) with
  | [c0, c1, c2, c3, c4, c5], _ =>
    obtain ⟨fuel, hf⟩ := h
    obtain ⟨m, y0, y1, y2, y3, y4, y5, h0, h1, h2, h3, h4, h5⟩ := trod_array6 hB kU (show DataW.trod enc P w 0 spare held fuel tB [c0, c1, c2, c3, c4, c5] = _ from hf)
    obtain ⟨a0, e0, _, w0⟩ := DataW.trod_int hU h0
    obtain ⟨a1, e1, _, w1⟩ := DataW.trod_int hU h1
    obtain ⟨a2, e2, _, w2⟩ := DataW.trod_int hU h2
    obtain ⟨a3, e3, _, w3⟩ := DataW.trod_int hU h3
    obtain ⟨a4, e4, _, w4⟩ := DataW.trod_int hU h4
    obtain ⟨a5, e5, _, w5⟩ := DataW.trod_int hU h5
    simp at e0 e1 e2 e3 e4 e5
    exact ⟨a0, a1, a2, a3, a4, a5, by rw [e0, e1, e2, e3, e4, e5], inU32_of w0, inU32_of w1, inU32_of w2, inU32_of w3, inU32_of w4, inU32_of w5⟩
end
end Go.Proofs.Ytohcopdfdmjhnaa.L1
