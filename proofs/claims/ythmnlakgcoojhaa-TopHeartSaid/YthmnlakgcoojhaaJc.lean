/- Contract of TopHeart: true. No conditions beyond each theorem's own. -/
import Derived.Test.YthmnlakgcoojhaaJa
import Derived.Test.YthmnlakgcoojhaaJb
set_option linter.unusedVariables false
set_option linter.unusedSimpArgs false
set_option linter.unusedSectionVars false
set_option linter.constructorNameAsVariable false
namespace Go.Proofs.Ythmnlakgcoojhaa
open Go.RowKit

attribute [local go_sem] gw_cell gw_frozen gw_size
theorem infoPart : (Try.prog.info? 41).map (fun i => (i.zero, i.size, i.bytes)) = some (some (.agg #[.int .i64 0, .int .i64 0, .int .i64 0, .int .i64 0]), 4, 32) := by kernel_rfl
theorem infoPart2 : (Try.prog.info? 41).map (fun i => (i.zero, i.size)) = some (some (.agg #[.int .i64 0, .int .i64 0, .int .i64 0, .int .i64 0]), 4) := by kernel_rfl
theorem infoSpn : (Try.prog.info? 27).map (fun i => (i.zero, i.size)) = some (some (.agg #[.int .i64 0, .int .i64 0]), 2) := by kernel_rfl
theorem jinfo {P : Program} {e : TypeId} {z : Value} {s b : Nat} (h : (P.info? e).map (fun i => (i.zero, i.size, i.bytes)) = some (some z, s, b)) : ∃ i, P.info? e = some i ∧ i.zero = some z ∧ i.size = s ∧ i.bytes = b := by
  cases hi : P.info? e with
  | none => rw [hi] at h; cases h
  | some i => rw [hi] at h; simp only [Option.map_some, Option.some.injEq, Prod.mk.injEq] at h; exact ⟨i, rfl, h.1, h.2.1, h.2.2⟩
/-- parts as they lie in a row -/
def prts (D : Nat → L4.Dr3) (f q : Nat) : List Value := (List.range q).flatMap fun i => [.int .i64 (prt D f i).al, .int .i64 (prt D f i).ah, .int .i64 (prt D f i).sl, .int .i64 (prt D f i).sh]
theorem prts_succ (D : Nat → L4.Dr3) (f q : Nat) : prts D f (q + 1) = prts D f q ++ [.int .i64 (prt D f q).al, .int .i64 (prt D f q).ah, .int .i64 (prt D f q).sl, .int .i64 (prt D f q).sh] := by simp [prts, List.range_succ]
theorem prts_len (D : Nat → L4.Dr3) (f : Nat) : ∀ q, (prts D f q).length = q * 4
  | 0 => rfl
  | q + 1 => by rw [prts_succ, List.length_append, prts_len D f q]; simp; omega
theorem prts_get (D : Nat → L4.Dr3) (f : Nat) : ∀ (k i : Nat), i < k → (prts D f k)[i * 4]? = some (.int .i64 (prt D f i).al) ∧ (prts D f k)[i * 4 + 1]? = some (.int .i64 (prt D f i).ah) ∧ (prts D f k)[i * 4 + 2]? = some (.int .i64 (prt D f i).sl) ∧ (prts D f k)[i * 4 + 3]? = some (.int .i64 (prt D f i).sh)
  | 0, i, h => by omega
  | k + 1, i, h => by
    rw [prts_succ]
    have hl := prts_len D f k
    by_cases hi : i < k
    · obtain ⟨h1, h2, h3, h4⟩ := prts_get D f k i hi
      exact ⟨by rw [List.getElem?_append_left (by omega)]; exact h1, by rw [List.getElem?_append_left (by omega)]; exact h2, by rw [List.getElem?_append_left (by omega)]; exact h3, by rw [List.getElem?_append_left (by omega)]; exact h4⟩
    · obtain rfl : i = k := by omega
      refine ⟨?_, ?_, ?_, ?_⟩
      · rw [List.getElem?_append_right (by omega), hl, Nat.sub_self]; rfl
      · rw [List.getElem?_append_right (by omega), hl, show i * 4 + 1 - i * 4 = 1 by omega]; rfl
      · rw [List.getElem?_append_right (by omega), hl, show i * 4 + 2 - i * 4 = 2 by omega]; rfl
      · rw [List.getElem?_append_right (by omega), hl, show i * 4 + 3 - i * 4 = 3 by omega]; rfl
theorem parts_of_own {w : World} {base q : Nat} {D : Nat → L4.Dr3} {f : Nat} {a : Option Addr} {cp : Nat} (h : w.ownsRow base 41 4 (.slice a q cp) q (prts D f q)) : L1.PartsAt w a q (prt D f) := by
  rcases h.2 with ⟨_, h0⟩ | ⟨g, cap, cur, hv, _, hgb, _⟩
  · exact .inl h0
  · simp only [Value.slice.injEq] at hv
    obtain ⟨rfl, _, rfl⟩ := hv
    refine .inr ⟨g, 0, rfl, (Array.getElem?_eq_some_iff.1 hgb).1, fun i hi => ?_⟩
    obtain ⟨q1, q2, q3, q4⟩ := prts_get D f q i hi
    rw [Nat.zero_add]
    have ad : ∀ j, ((⟨g, 0, none⟩ : Addr).add j) = ⟨g, j, none⟩ := fun j => by simp [Addr.add] <;> omega
    have z := fun j u (hu : (prts D f q)[j]? = some u) => h.cells (g := g) rfl j u hu
    simp only [ad] at z
    exact ⟨z _ _ q1, z _ _ q2, z _ _ q3, z _ _ q4⟩

set_option maxRecDepth 100000 in
set_option maxHeartbeats 4000000 in
theorem heart_long (aL aV aM : Option Addr) (m cL cV k cM : Nat) (c : L4.Crv) (p : L4.Pot3) (M : Nat → Int) (f t : Int) (w : World) (h : 40 < c.n ∨ 40 < m ∨ 40 < k) :
    Calls Try.prog 3 #[.agg #[.slice aL c.n cL, .slice aV m cV], .agg #[.int .i64 p.v, .int .i64 p.lo, .int .i64 p.hi], .slice aM k cM, .int .i64 f, .int .i64 t] w fun e w' => e = .returned (.bool true) ∧ Below w.heap.size w w' := by
  obtain ⟨W1, hW1⟩ : ∃ W1, (w.alloc (.cells #[.slice aL c.n cL, .slice aV m cV] 25)).alloc (.cells #[.int .i64 p.v, .int .i64 p.lo, .int .i64 p.hi] 29) = W1 := ⟨_, rfl⟩
  have hBc : Below w.heap.size w W1 := by rw [← hW1]; exact (below_alloc _ _).alloc (by simp) _
  have zc0 : W1.heap[w.heap.size]? = some (.cells #[.slice aL c.n cL, .slice aV m cV] 25 (0, 0)) := by rw [← hW1]; exact alloc_keep (alloc_at rfl)
  have zc1 : W1.heap[w.heap.size + 1]? = some (.cells #[.int .i64 p.v, .int .i64 p.lo, .int .i64 p.hi] 29 (0, 0)) := by rw [← hW1]; exact alloc_at (by simp)
  have c00 : W1.cell? ⟨w.heap.size, 0, none⟩ = some (.slice aL c.n cL) := cell_of_block zc0 0 (by simp)
  have c01 : W1.cell? ⟨w.heap.size, 1, none⟩ = some (.slice aV m cV) := cell_of_block zc0 1 (by simp)
  have c10 : W1.cell? ⟨w.heap.size + 1, 0, none⟩ = some (.int .i64 p.v) := cell_of_block zc1 0 (by simp)
  have c11 : W1.cell? ⟨w.heap.size + 1, 1, none⟩ = some (.int .i64 p.lo) := cell_of_block zc1 1 (by simp)
  have c12 : W1.cell? ⟨w.heap.size + 1, 2, none⟩ = some (.int .i64 p.hi) := cell_of_block zc1 2 (by simp)
  have lc0 := (Array.getElem?_eq_some_iff.1 zc0).1
  have lc1 := (Array.getElem?_eq_some_iff.1 zc1).1
  clear zc0 zc1
  have HBc := Lib.hid hBc; clear hBc
  have HWc := Lib.hid hW1; clear hW1
  by_cases h1 : 40 < c.n
  · have dn : decide ((c.n : Int) > 40) = true := by simp; omega
    have en : decide ((40 : Int) < (c.n : Int)) = true := by simp; omega
    have gn : decide (40 < c.n) = true := by simp; omega
    clear h
    go_enter Try.func3, Try.ntmps3
    go_upto_region 1 with (fail)
    rw [HWc.out]
    go_wp2_with fail
    refine (awake_any _).mono ?_
    rintro e w1 ⟨rfl, hb⟩
    go_wp2_with fail
    go_ret
    exact ⟨rfl, thru hb HBc.out⟩
  by_cases h2 : 40 < m
  · have dn : decide ((c.n : Int) > 40) = false := by simp; omega
    have en : decide ((40 : Int) < (c.n : Int)) = false := by simp; omega
    have gn : decide (40 < c.n) = false := by simp; omega
    have dm : decide ((m : Int) > 40) = true := by simp; omega
    have em : decide ((40 : Int) < (m : Int)) = true := by simp; omega
    have gm : decide (40 < m) = true := by simp; omega
    clear h
    go_enter Try.func3, Try.ntmps3
    go_upto_region 1 with (fail)
    rw [HWc.out]
    go_wp2_with fail
    refine (awake_any _).mono ?_
    rintro e w1 ⟨rfl, hb⟩
    go_wp2_with fail
    go_ret
    exact ⟨rfl, thru hb HBc.out⟩
  · have h3 : 40 < k := by omega
    have dn : decide ((c.n : Int) > 40) = false := by simp; omega
    have en : decide ((40 : Int) < (c.n : Int)) = false := by simp; omega
    have gn : decide (40 < c.n) = false := by simp; omega
    have dm : decide ((m : Int) > 40) = false := by simp; omega
    have em : decide ((40 : Int) < (m : Int)) = false := by simp; omega
    have gm : decide (40 < m) = false := by simp; omega
    have dk : decide ((k : Int) > 40) = true := by simp; omega
    have ek : decide ((40 : Int) < (k : Int)) = true := by simp; omega
    have gk : decide (40 < k) = true := by simp; omega
    clear h
    go_enter Try.func3, Try.ntmps3
    go_upto_region 1 with (fail)
    rw [HWc.out]
    go_wp2_with fail
    refine (awake_any _).mono ?_
    rintro e w1 ⟨rfl, hb⟩
    go_wp2_with fail
    go_ret
    exact ⟨rfl, thru hb HBc.out⟩

/-- Heart tells an amount -/
def HeartOk (m : Nat) (c : L4.Crv) (p : L4.Pot3) (M : Nat → Int) (k : Nat) (f t : Int) : Prop := L4.heartErr m c p M k f t = 0 ∧ 0 ≤ L4.heartB (c.outAt p M) f.toNat t (k - f.toNat)
theorem heart_bad (aL aV aM : Option Addr) (m cL cV k cM : Nat) (c : L4.Crv) (p : L4.Pot3) (M : Nat → Int) (f t : Int) (w : World) (hn : c.n ≤ 40) (hm : m ≤ 40) (hk : k ≤ 40) (hL : IntsAt w aL c.n c.L) (hV : SpansAt w aV m c.A c.B) (hM : IntsAt w aM k M) (h : ¬ HeartOk m c p M k f t) : ∃ x, x ≠ 0 ∧ ∀ W, Below w.heap.size w W →
    Calls Try.prog 5 #[.agg #[.slice aL c.n cL, .slice aV m cV], .agg #[.int .i64 p.v, .int .i64 p.lo, .int .i64 p.hi], .slice aM k cM, .int .i64 f, .int .i64 t] W fun e w' => e = .returned (.tuple #[.int .i64 0, .int .i64 x]) ∧ Below W.heap.size W w' := by
  by_cases h0 : L4.heartErr m c p M k f t = 0
  · refine ⟨4, by decide, fun W hb => (L4.heart_ok aL aV aM m cL cV k cM c p M f t W hn hm (hL.below hb) (hV.below hb) (hM.below hb) h0).mono ?_⟩
    rintro e w' ⟨he, hb2⟩
    have hn : L4.heartB (c.outAt p M) f.toNat t (k - f.toNat) < 0 := by
      rcases Int.lt_or_le (L4.heartB (c.outAt p M) f.toNat t (k - f.toNat)) 0 with x | x
      · exact x
      · exact absurd ⟨h0, x⟩ h
    unfold L4.HeartEnd at he
    rw [if_pos hn] at he
    exact ⟨he, hb2⟩
  · exact ⟨_, h0, fun W hb => L4.heart_err aL aV aM m cL cV k cM c p M f t W hn hm (by omega) (hL.below hb) (hV.below hb) (hM.below hb) _ rfl h0⟩
theorem run_some (aL aV aM : Option Addr) (m cL cV k cM : Nat) (c : L4.Crv) (p : L4.Pot3) (M : Nat → Int) (w : World) (hn : c.n ≤ 40) (hm : m ≤ 40) (hk : k ≤ 40) (hL : IntsAt w aL c.n c.L) (hV : SpansAt w aV m c.A c.B) (hM : IntsAt w aM k M) (W : World) (hb : Below w.heap.size w W) :
    Calls Try.prog 6 #[.agg #[.slice aL c.n cL, .slice aV m cV], .agg #[.int .i64 p.v, .int .i64 p.lo, .int .i64 p.hi], .slice aM k cM] W fun e w' => ∃ v x y z u, e = .returned (.tuple #[v, .agg #[.int .i64 x, .int .i64 y, .int .i64 z], .int .i64 u]) ∧ Below W.heap.size W w' := by
  by_cases h0 : L4.runErr m c p M k = 0
  · refine (L4.run_ok aL aV aM m cL cV k cM c p M W (by omega) (by omega) (hL.below hb) (hV.below hb) (hM.below hb) h0).mono ?_
    rintro e w' ⟨v, rfl, _, hb2⟩
    exact ⟨_, _, _, _, _, rfl, hb2⟩
  · refine (L4.run_err aL aV aM m cL cV k cM c p M W (by omega) (by omega) (by omega) (hL.below hb) (hV.below hb) (hM.below hb) _ rfl h0).mono ?_
    rintro e w' ⟨rfl, hb2⟩
    exact ⟨_, _, _, _, _, rfl, hb2⟩

set_option maxRecDepth 100000 in
set_option maxHeartbeats 4000000 in
theorem heart_none (aL aV aM : Option Addr) (m cL cV k cM : Nat) (c : L4.Crv) (p : L4.Pot3) (M : Nat → Int) (f t : Int) (w : World) (hn : c.n ≤ 40) (hm : m ≤ 40) (hk : k ≤ 40) (hL : IntsAt w aL c.n c.L) (hV : SpansAt w aV m c.A c.B) (hM : IntsAt w aM k M) (h : ¬ HeartOk m c p M k f t) :
    Calls Try.prog 3 #[.agg #[.slice aL c.n cL, .slice aV m cV], .agg #[.int .i64 p.v, .int .i64 p.lo, .int .i64 p.hi], .slice aM k cM, .int .i64 f, .int .i64 t] w fun e w' => e = .returned (.bool true) ∧ Below w.heap.size w w' := by
  obtain ⟨W1, hW1⟩ : ∃ W1, (w.alloc (.cells #[.slice aL c.n cL, .slice aV m cV] 25)).alloc (.cells #[.int .i64 p.v, .int .i64 p.lo, .int .i64 p.hi] 29) = W1 := ⟨_, rfl⟩
  have hBc : Below w.heap.size w W1 := by rw [← hW1]; exact (below_alloc _ _).alloc (by simp) _
  have zc0 : W1.heap[w.heap.size]? = some (.cells #[.slice aL c.n cL, .slice aV m cV] 25 (0, 0)) := by rw [← hW1]; exact alloc_keep (alloc_at rfl)
  have zc1 : W1.heap[w.heap.size + 1]? = some (.cells #[.int .i64 p.v, .int .i64 p.lo, .int .i64 p.hi] 29 (0, 0)) := by rw [← hW1]; exact alloc_at (by simp)
  have c00 : W1.cell? ⟨w.heap.size, 0, none⟩ = some (.slice aL c.n cL) := cell_of_block zc0 0 (by simp)
  have c01 : W1.cell? ⟨w.heap.size, 1, none⟩ = some (.slice aV m cV) := cell_of_block zc0 1 (by simp)
  have c10 : W1.cell? ⟨w.heap.size + 1, 0, none⟩ = some (.int .i64 p.v) := cell_of_block zc1 0 (by simp)
  have c11 : W1.cell? ⟨w.heap.size + 1, 1, none⟩ = some (.int .i64 p.lo) := cell_of_block zc1 1 (by simp)
  have c12 : W1.cell? ⟨w.heap.size + 1, 2, none⟩ = some (.int .i64 p.hi) := cell_of_block zc1 2 (by simp)
  have lc0 := (Array.getElem?_eq_some_iff.1 zc0).1
  have lc1 := (Array.getElem?_eq_some_iff.1 zc1).1
  clear zc0 zc1
  have HBc := Lib.hid hBc; clear hBc
  have HWc := Lib.hid hW1; clear hW1
  obtain ⟨x, hx, HE⟩ := heart_bad aL aV aM m cL cV k cM c p M f t w hn hm hk hL hV hM h
  have HE := Lib.hid HE
  have RS := Lib.hid (run_some aL aV aM m cL cV k cM c p M w hn hm hk hL hV hM)
  clear hL hV hM h
  have dn : decide ((c.n : Int) > 40) = false := by simp; omega
  have en : decide ((40 : Int) < (c.n : Int)) = false := by simp; omega
  have gn : decide (40 < c.n) = false := by simp; omega
  have dm : decide ((m : Int) > 40) = false := by simp; omega
  have em : decide ((40 : Int) < (m : Int)) = false := by simp; omega
  have gm : decide (40 < m) = false := by simp; omega
  have dk : decide ((k : Int) > 40) = false := by simp; omega
  have ek : decide ((40 : Int) < (k : Int)) = false := by simp; omega
  have gk : decide (40 < k) = false := by simp; omega
  have dx : (x == 0) = false := by simp; exact hx
  have dx2 : (x != 0) = true := by simp; exact hx
  go_enter Try.func3, Try.ntmps3
  go_upto_region 1 with (fail)
  rw [HWc.out]
  go_wp2_with fail
  refine (HE.out _ HBc.out).mono ?_
  rintro e w2 ⟨rfl, hb2⟩
  obtain ⟨z2, rfl⟩ := gw_of_below hb2
  clear hb2
  go_wp2_with fail
  refine (RS.out _ (HBc.out.gw z2)).mono ?_
  rintro e w3 ⟨v3, x3, y3, q3, u3, rfl, hb3⟩
  go_wp2_with fail
  refine (awake_any _).mono ?_
  rintro e w4 ⟨rfl, hb4⟩
  go_wp2_with fail
  go_ret
  exact ⟨rfl, thru hb4 (thru (below_alloc _ _) (thru hb3 (HBc.out.gw z2)))⟩

/-- where Heart tells an amount -/
theorem heart_facts {m : Nat} {c : L4.Crv} {p : L4.Pot3} {M : Nat → Int} {k : Nat} {f t : Int} (h : HeartOk m c p M k f t) : ∃ f' j : Nat, f = f' ∧ f' + j < k ∧ L4.heartB (c.outAt p M) f' t (k - f') = ((f' + j : Nat) : Int) ∧ 1 ≤ t ∧ t ≤ 10000 ∧ L4.heartErr m c p M k f t = 0 ∧ L4.runErr m c p M k = 0 ∧ (∀ i, i < k → 1 ≤ (c.outAt p M i).d ∧ (c.outAt p M i).d ≤ 1073741824 ∧ 0 ≤ (c.outAt p M i).lo ∧ (c.outAt p M i).lo ≤ (c.outAt p M i).hi ∧ (c.outAt p M i).hi ≤ (c.outAt p M i).d) ∧ 0 ≤ L4.heartO (c.outAt p M) f' t (j + 1) := by
  obtain ⟨h0, h1⟩ := h
  obtain ⟨v1, v2, v3, v4⟩ := L4.heart_valid h0
  have f0 := inB_t.1 v2
  have t0 := inB_t.1 v3
  obtain ⟨r1, r2, r3, g, pk, re, rk⟩ := L4.run_zero v4
  have sp := (L4.heartB_spec (c.outAt p M) f.toNat t (k - f.toNat)).1
  rcases sp with x | ⟨j, hj, e, ho⟩
  · omega
  · refine ⟨f.toNat, j, by omega, by omega, by rw [e]; rfl, t0.1, t0.2, h0, v4, fun i hi => ?_, ho⟩
    have n := L4.next_ok g (rk i (by omega)) (re i hi)
    have q := L4.errD_zero (re i hi)
    have d := inB_t.1 q.1
    have e1 : (c.outAt p M i).d = M i := rfl
    have e2 : (c.outAt p M i).lo = c.least (c.potAt p M i) (M i) := rfl
    have e3 : (c.outAt p M i).hi = c.most (c.potAt p M i) (M i) := rfl
    rw [e1, e2, e3]
    exact ⟨d.1, d.2, n.2.1, n.2.2.1, n.2.2.2.1⟩

set_option maxRecDepth 100000 in
set_option maxHeartbeats 16000000 in
theorem heart_some (aL aV aM : Option Addr) (m cL cV k cM : Nat) (c : L4.Crv) (p : L4.Pot3) (M : Nat → Int) (f t : Int) (w : World) (hn : c.n ≤ 40) (hm : m ≤ 40) (hk : k ≤ 40) (hL : IntsAt w aL c.n c.L) (hV : SpansAt w aV m c.A c.B) (hM : IntsAt w aM k M) (h : HeartOk m c p M k f t) :
    Calls Try.prog 3 #[.agg #[.slice aL c.n cL, .slice aV m cV], .agg #[.int .i64 p.v, .int .i64 p.lo, .int .i64 p.hi], .slice aM k cM, .int .i64 f, .int .i64 t] w fun e w' => e = .returned (.bool true) ∧ Below w.heap.size w w' := by
  obtain ⟨f, j, rfl, hfj, hB, t0, t1, hE, hR, hD, hO⟩ := heart_facts h
  obtain ⟨W1, hW1⟩ : ∃ W1, (w.alloc (.cells #[.slice aL c.n cL, .slice aV m cV] 25)).alloc (.cells #[.int .i64 p.v, .int .i64 p.lo, .int .i64 p.hi] 29) = W1 := ⟨_, rfl⟩
  have hBc : Below w.heap.size w W1 := by rw [← hW1]; exact (below_alloc _ _).alloc (by simp) _
  have zc0 : W1.heap[w.heap.size]? = some (.cells #[.slice aL c.n cL, .slice aV m cV] 25 (0, 0)) := by rw [← hW1]; exact alloc_keep (alloc_at rfl)
  have zc1 : W1.heap[w.heap.size + 1]? = some (.cells #[.int .i64 p.v, .int .i64 p.lo, .int .i64 p.hi] 29 (0, 0)) := by rw [← hW1]; exact alloc_at (by simp)
  have c00 : W1.cell? ⟨w.heap.size, 0, none⟩ = some (.slice aL c.n cL) := cell_of_block zc0 0 (by simp)
  have c01 : W1.cell? ⟨w.heap.size, 1, none⟩ = some (.slice aV m cV) := cell_of_block zc0 1 (by simp)
  have c10 : W1.cell? ⟨w.heap.size + 1, 0, none⟩ = some (.int .i64 p.v) := cell_of_block zc1 0 (by simp)
  have c11 : W1.cell? ⟨w.heap.size + 1, 1, none⟩ = some (.int .i64 p.lo) := cell_of_block zc1 1 (by simp)
  have c12 : W1.cell? ⟨w.heap.size + 1, 2, none⟩ = some (.int .i64 p.hi) := cell_of_block zc1 2 (by simp)
  have lc0 := (Array.getElem?_eq_some_iff.1 zc0).1
  have lc1 := (Array.getElem?_eq_some_iff.1 zc1).1
  have Zc0 := Lib.hid zc0
  have Zc1 := Lib.hid zc1
  clear zc0 zc1
  have HBc := Lib.hid hBc; clear hBc
  have HWc := Lib.hid hW1; clear hW1
  have HE := fun W (hb : Below w.heap.size w W) => L4.heart_ok aL aV aM m cL cV k cM c p M f t W hn hm (hL.below hb) (hV.below hb) (hM.below hb) hE
  unfold L4.HeartEnd at HE
  rw [Int.toNat_natCast, hB] at HE
  simp only [if_neg (show ¬ ((f + j : Nat) : Int) < 0 by omega)] at HE
  have HE := Lib.hid HE
  have HR := Lib.hid (fun W (hb : Below w.heap.size w W) => L4.run_ok aL aV aM m cL cV k cM c p M W (by omega) (by omega) (hL.below hb) (hV.below hb) (hM.below hb) hR)
  obtain ⟨D, hDD⟩ : ∃ D, c.outAt p M = D := ⟨_, rfl⟩
  rw [hDD] at hD hO
  have HDD := Lib.hid hDD
  have HD := Lib.hid (show Drs D f (j + 1) from fun i hi => hD (f + i) (by omega))
  have HO := Lib.hid hO
  clear hDD hD hO hE hR hB hL hV hM h
  obtain ⟨nn, hnn⟩ : ∃ x : Int, ((f + j : Nat) : Int) = x := ⟨_, rfl⟩
  have hni : nn = (f : Int) + (j : Int) := by omega
  simp only [hnn] at HE
  clear hnn
  have dn : decide ((c.n : Int) > 40) = false := by simp; omega
  have en : decide ((40 : Int) < (c.n : Int)) = false := by simp; omega
  have gn : decide (40 < c.n) = false := by simp; omega
  have dm : decide ((m : Int) > 40) = false := by simp; omega
  have em : decide ((40 : Int) < (m : Int)) = false := by simp; omega
  have gm : decide (40 < m) = false := by simp; omega
  have dk : decide ((k : Int) > 40) = false := by simp; omega
  have ek : decide ((40 : Int) < (k : Int)) = false := by simp; omega
  have gk : decide (40 < k) = false := by simp; omega
  go_enter Try.func3, Try.ntmps3
  go_upto_region 1 with (fail)
  rw [HWc.out]
  go_wp2_with fail
  refine (HE.out _ HBc.out).mono ?_
  rintro e w2 ⟨rfl, hb2⟩
  obtain ⟨z2, rfl⟩ := gw_of_below hb2
  clear hb2
  go_wp2_with fail
  refine (HR.out _ (HBc.out.gw z2)).mono ?_
  rintro e w3 ⟨v3, rfl, hown, hb3⟩
  obtain ⟨b, cap, rfl, hkc, hcm, hlb, hc⟩ := L4.drawn_of_own' hown (by omega)
  rw [HDD.out] at hc
  have HC := Lib.hid hc
  have B3 := Lib.hid (thru hb3 (HBc.out.gw z2))
  clear hc hown hb3
  have q1 : ¬ (f : Int) < 0 := by omega
  have q2 : ¬ nn < (f : Int) := by omega
  have q3 : ¬ nn ≥ (k : Int) := by omega
  have q4 : decide (nn < (f : Int)) = false := by simp; omega
  have q5 : decide (nn ≥ (k : Int)) = false := by simp; omega
  have q6 : decide ((k : Int) ≤ nn) = false := by simp; omega
  have q7 : decide ((f : Int) < 0) = false := by simp <;> omega
  go_upto_region 9 with (fail)
  obtain ⟨Wc, hWc⟩ : ∃ V, w3.alloc (.cells #[.int .i64 (c.potAt p M k).v, .int .i64 (c.potAt p M k).lo, .int .i64 (c.potAt p M k).hi] 29) = V := ⟨_, rfl⟩
  have b4 : Below w3.heap.size w3 Wc := by rw [← hWc]; exact below_alloc _ _
  rw [hWc]
  clear hWc
  have HB4 := Lib.hid (thru b4 B3.out)
  have lb4 : b < Wc.heap.size := Nat.lt_of_lt_of_le hlb b4.size
  have HC4 := Lib.hid (show ∀ i, i < k → Wc.cell? ⟨b, i * 3, none⟩ = some (.int .i64 (D i).d) ∧ Wc.cell? ⟨b, i * 3 + 1, none⟩ = some (.int .i64 (D i).lo) ∧ Wc.cell? ⟨b, i * 3 + 2, none⟩ = some (.int .i64 (D i).hi) from fun i hi => by have x := HC.out i hi; simp only [Nat.zero_add] at x; exact ⟨(b4.cell (p := ⟨b, i * 3, none⟩) hlb).trans x.1, (b4.cell (p := ⟨b, i * 3 + 1, none⟩) hlb).trans x.2.1, (b4.cell (p := ⟨b, i * 3 + 2, none⟩) hlb).trans x.2.2⟩)
  clear b4 B3 HC hlb q1 q2 q3 q4 q5 q6 q7
  obtain ⟨i0, ih, iz0, iz1, iz2⟩ := jinfo infoPart
  have II := Lib.hid ih; have IZ0 := Lib.hid iz0; have IZ1 := Lib.hid iz1; have IZ2 := Lib.hid iz2
  clear ih iz0 iz1 iz2
  have HFJ := Lib.hid hfj
  have HNI := Lib.hid hni
  skip
  go_wp2_with fail
  go_loopw [16, 17, 18, 19] (fun s16 s17 s18 s19 wr => ∃ (q i : Nat) (a : Option Addr) (cp : Nat), q ≤ j + 1 ∧ Hid (i = f + q) ∧ s16 = .slice a q cp ∧ s17 = .int .i64 (L4.asum D f q) ∧ s18 = .int .i64 (L4.lsum D f q) ∧ s19 = .int .i64 (i : Int) ∧ Hid (wr.ownsRow Wc.heap.size 41 4 (.slice a q cp) q (prts D f q)) ∧ Hid (Below Wc.heap.size Wc wr)) (fun _ _ _ s19 _ => (f + j + 1) - (intOf s19).toNat)
  case atStart => exact ⟨0, f, none, 0, Nat.zero_le _, Lib.hid rfl, rfl, rfl, rfl, rfl, Lib.hid (World.ownsRow_nil _ _ _ _), Lib.hid (Below.refl _ _)⟩
  case round =>
    obtain ⟨q, i, a, cp, hq, HI, rfl, rfl, rfl, rfl, HN, HB⟩ := hrel
    obtain ⟨wo, rfl⟩ : ∃ wo, wo = wr := ⟨_, rfl⟩
    have AG := asum_ge HD.out q hq
    by_cases hlt : q ≤ j
    · have ik : i < k := by have := HI.out; omega
      have iki : (i : Int) < (k : Int) := by omega
      have inn : (i : Int) ≤ (f : Int) + (j : Int) := by have := HI.out; omega
      have din : decide ((i : Int) ≤ (f : Int) + (j : Int)) = true := by simp; omega
      obtain ⟨x0, x1, x2⟩ := HC4.out i ik
      replace x0 := (HB.out.cell (p := ⟨b, i * 3, none⟩) lb4).trans x0
      replace x1 := (HB.out.cell (p := ⟨b, i * 3 + 1, none⟩) lb4).trans x1
      replace x2 := (HB.out.cell (p := ⟨b, i * 3 + 2, none⟩) lb4).trans x2
      have lb5 : b < wo.heap.size := Nat.lt_of_lt_of_le lb4 HB.out.size
      obtain ⟨hd1, hd2, hl1, hl2, hh⟩ := HD.out q (by omega)
      rw [← HI.out] at hd1 hd2 hl1 hl2 hh
      obtain ⟨d, hd⟩ : ∃ x, (D i).d = x := ⟨_, rfl⟩
      obtain ⟨lo, hlo⟩ : ∃ x, (D i).lo = x := ⟨_, rfl⟩
      obtain ⟨hi, hhi⟩ : ∃ x, (D i).hi = x := ⟨_, rfl⟩
      rw [hd] at x0 hd1 hd2 hh
      rw [hlo] at x1 hl1 hl2
      rw [hhi] at x2 hl2 hh
      have PQ := Lib.hid (show prt D f q = ⟨d, d, lo * 10000 / d, (hi * 10000 + d - 1) / d⟩ by unfold prt; rw [← HI.out, hd, hlo, hhi])
      have SQ := Lib.hid (show L4.asum D f (q + 1) = L4.asum D f q + d ∧ L4.lsum D f (q + 1) = L4.lsum D f q + lo from ⟨by show _ + (D (f + q)).d = _; rw [← HI.out, hd], by show _ + (D (f + q)).lo = _; rw [← HI.out, hlo]⟩)
      obtain ⟨A0, hA0⟩ : ∃ x, L4.asum D f q = x := ⟨_, rfl⟩
      obtain ⟨S0, hS0⟩ : ∃ x, L4.lsum D f q = x := ⟨_, rfl⟩
      rw [hA0, hS0] at AG ⊢
      rw [hA0, hS0] at SQ
      clear hd hlo hhi hA0 hS0
      have w1 : decide (d < 1) = false := by simp; omega
      have w2 : decide (lo < 0) = false := by simp; omega
      have w3 : decide (lo > hi) = false := by simp; omega
      have w4 : decide (hi < lo) = false := by simp; omega
      have w5 : decide (hi > d) = false := by simp; omega
      have w6 : decide (d < hi) = false := by simp; omega
      have qj : (q : Int) ≤ 40 := by omega
      have a0 : (0 : Int) ≤ A0 := by omega
      have hd0 : ¬ d = 0 := by omega
      have HLT := Lib.hid hlt
      clear hlt
      go_upto_region 17 with (fail)
      obtain ⟨W6, hW6⟩ : ∃ V, wo.alloc (.cells #[.int .i64 d, .int .i64 lo, .int .i64 hi] 39) = V := ⟨_, rfl⟩
      have b6 : Below wo.heap.size wo W6 := by rw [← hW6]; exact below_alloc _ _
      have z6 : W6.heap[wo.heap.size]? = some (.cells #[.int .i64 d, .int .i64 lo, .int .i64 hi] 39 (0, 0)) := by rw [← hW6]; exact alloc_at rfl
      rw [hW6]
      clear hW6
      have y0 : W6.cell? ⟨wo.heap.size, 0, none⟩ = some (.int .i64 d) := cell_of_block z6 0 (by simp)
      have y1 : W6.cell? ⟨wo.heap.size, 1, none⟩ = some (.int .i64 lo) := cell_of_block z6 1 (by simp)
      have y2 : W6.cell? ⟨wo.heap.size, 2, none⟩ = some (.int .i64 hi) := cell_of_block z6 2 (by simp)
      have l6 := (Array.getElem?_eq_some_iff.1 z6).1
      have Z6 := Lib.hid z6
      have B6 := Lib.hid b6
      have OW6 := Lib.hid (own_below HN.out b6)
      clear z6 b6 x0 x1 x2
      refine wp_region_box1 [true, true, true, true, true, true, true, true, true, true, true, true, true, true, true, true, true, true, true, false, false] 19 20 #[.int .i64 0, .int .i64 0] #[.int .i64 (lo * 10000 / d), .int .i64 ((hi * 10000 + d - 1) / d)] (by kernel_rfl) rfl rfl rfl (by kernel_rfl) rfl (by kernel_rfl) infoSpn rfl rfl (by simp [Value.oneCell']) ?_
      apply Exists.intro
      refine ⟨fun S hS hx => ?_, ?_, ?_⟩
      · obtain ⟨x0, hx0⟩ := hx
        haveI : Nonempty (GrewS W6 S) := ⟨⟨x0, hx0⟩⟩
        simp only [pickM]
        repeat (go_big_quiet_step (fail))
        exact wpQuiet_nil rfl
      · rfl
      intro B7 w7 hBw hblk hbb
      simp only [Act.put, List.setIfInBounds_toArray, List.set_cons_succ, List.set_cons_zero]
      replace y0 := jcell hbb y0
      replace y1 := jcell hbb y1
      replace y2 := jcell hbb y2
      have l7 : wo.heap.size < w7.heap.size := Nat.lt_of_lt_of_le l6 hbb.size
      have u0 : w7.cell? ⟨B7, 0, none⟩ = some (.int .i64 (lo * 10000 / d)) := cell_of_block hblk 0 (by simp)
      have u1 : w7.cell? ⟨B7, 1, none⟩ = some (.int .i64 ((hi * 10000 + d - 1) / d)) := cell_of_block hblk 1 (by simp)
      have l8 := (Array.getElem?_eq_some_iff.1 hblk).1
      have Z7 := Lib.hid ((hbb.block _ l6).trans Z6.out)
      have OW7 := Lib.hid (own_below OW6.out hbb)
      have B7 := Lib.hid (thru hbb B6.out)
      clear hbb hblk Z6 OW6 B6
      obtain ⟨sl, hsl⟩ : ∃ x, lo * 10000 / d = x := ⟨_, rfl⟩
      obtain ⟨sh, hsh⟩ : ∃ x, (hi * 10000 + d - 1) / d = x := ⟨_, rfl⟩
      rw [hsl] at u0 PQ ⊢
      rw [hsh] at u1 PQ ⊢
      clear hsl hsh
      go_upto_region 18 with (fail)
      go_wp2_with (at_builtin; refine wpList_append_own _ rfl _ _ 37 rfl Wc.heap.size 41 i0 (.agg #[.int .i64 0, .int .i64 0, .int .i64 0, .int .i64 0]) 4 32 Try.underlying37 II.out IZ0.out IZ1.out IZ2.out rfl (by decide) _ q (prts D f q) rfl (own_below OW7.out (below_alloc w7 _)) ⟨w7.heap.size, 0, none⟩ 1 1 [.int .i64 d, .int .i64 d, .int .i64 sl, .int .i64 sh] rfl rfl (news_lit _ _ _) (by simp [Value.oneCell']) (by unfold maxLen; omega) (by omega) (by have a := HB.out.size; have b := B7.out.size; simp; omega) ?_; intro v9 V9 hown9 hgrow9 _; have far : some wo.heap.size ≠ (Value.slice a q cp).ownBlock := far_row OW7.out Z7.out (fun _ e => by cases e); have g9 : w7.grownBy V9 (Value.slice a q cp).ownBlock := grownBy_trans (grownBy_of_below (below_alloc w7 _) _) hgrow9; have z9 := (g9.block _ l7 far).trans Z7.out; have OB := OW7.out.lt; obtain ⟨a9, c9, rfl⟩ := own_form hown9; have HN9 := Lib.hid (show V9.ownsRow Wc.heap.size 41 4 (.slice a9 (q + 1) c9) (q + 1) (prts D f (q + 1)) by rw [prts_succ, PQ.out]; exact hown9); have HB9 := Lib.hid ((HB.out.trans (B7.out.mono HB.out.size)).grown g9 (by have a := HB.out.size; have b := B7.out.size; omega) (fun b e => (OB b e).1)); have y0 := cell_of_block z9 0 (by simp); have y1 := cell_of_block z9 1 (by simp); have y2 := cell_of_block z9 2 (by simp); have l9 := (Array.getElem?_eq_some_iff.1 z9).1; clear z9 far hown9 hgrow9 g9 OB)
      go_upto_region 19 with (fail)
      go_region
      go_wp2_with fail
      go_roundw
      case rel => exact ⟨q + 1, i + 1, a9, c9, by have := HLT.out; omega, Lib.hid (by have := HI.out; omega), rfl, by rw [SQ.out.1], by rw [SQ.out.2], rfl, Lib.hid (own_below HN9.out (below_drew _)), Lib.hid HB9.out.drew⟩
      case measure => have := HI.out; have := HLT.out; simp only [intOf]; omega
    · have hqj : q = j + 1 := by omega
      subst hqj
      have hin : ¬ (i : Int) ≤ (f : Int) + (j : Int) := by have := HI.out; omega
      have din : decide ((i : Int) ≤ (f : Int) + (j : Int)) = false := by simp; omega
      obtain ⟨mE, ms, mt, mV, mtt⟩ := heart_mix HD.out (by omega) (by omega) t0 t1 HO.out
      obtain ⟨wE, wN0, wN1, wN2, wN3⟩ := heart_water HD.out (by omega) (by omega) t0 t1 HO.out
      have MX := L1.Mix_any a (j + 1) cp (prt D f) 0 wo (by omega) (parts_of_own HN.out)
      rw [mE, mV] at MX
      dsimp only at MX
      have WA := fun A B C E => L1.Water_any A B C E t
      replace WA := WA (L4.asum D f (j + 1)) (L4.asum D f (j + 1)) (L4.lsum D f (j + 1) * 10000 / L4.asum D f (j + 1)) 10000
      rw [wE] at WA
      obtain ⟨A0, hA0⟩ : ∃ x, L4.asum D f (j + 1) = x := ⟨_, rfl⟩
      obtain ⟨S0, hS0⟩ : ∃ x, L4.lsum D f (j + 1) = x := ⟨_, rfl⟩
      simp only [hA0, hS0] at wN0 wN1 wN2 wN3 AG WA MX ⊢
      clear hA0 hS0
      obtain ⟨wt, hwt⟩ : ∃ x, L1.watN A0 A0 (S0 * 10000 / A0) 10000 t = x := ⟨_, rfl⟩
      rw [hwt] at wN0 wN1 wN2 wN3
      simp only [hwt] at WA
      clear hwt mE mV wE
      have MX := Lib.hid MX; have WA := Lib.hid WA
      have jj : ((j + 1 : Nat) : Int) = (j : Int) + 1 := rfl
      rw [jj] at AG
      clear jj
      have hA : ¬ A0 = 0 := by omega
      have r1 : decide (mt < t) = false := by simp; omega
      have r2 : decide (wt ≥ 0) = true := by simp; omega
      have r3 : decide (0 ≤ wt) = true := by simp; omega
      have r4 : decide (S0 * 10000 ≥ t * (A0 + wt)) = true := by simp; omega
      have r5 : decide (t * (A0 + wt) ≤ S0 * 10000) = true := by simp; omega
      go_wp2_with fail
      refine (MX.out).mono ?_
      rintro e w5 ⟨rfl, hb5⟩
      have B5 := Lib.hid (thru hb5 (thru HB.out HB4.out))
      clear hb5
      go_upto_region 23 with (fail)
      obtain ⟨V5, hV5⟩ : ∃ V, w5.alloc (.cells #[.int .i64 A0, .int .i64 A0, .int .i64 ms, .int .i64 mt] 41) = V := ⟨_, rfl⟩
      have z5 : V5.heap[w5.heap.size]? = some (.cells #[.int .i64 A0, .int .i64 A0, .int .i64 ms, .int .i64 mt] 41 (0, 0)) := by rw [← hV5]; exact alloc_at rfl
      have BV := Lib.hid (show Below w.heap.size w V5 by rw [← hV5]; exact thru (below_alloc _ _) B5.out)
      rw [hV5]
      clear hV5
      have y0 : V5.cell? ⟨w5.heap.size, 0, none⟩ = some (.int .i64 A0) := cell_of_block z5 0 (by simp)
      have y1 : V5.cell? ⟨w5.heap.size, 1, none⟩ = some (.int .i64 A0) := cell_of_block z5 1 (by simp)
      have l5 := (Array.getElem?_eq_some_iff.1 z5).1
      clear z5
      refine wp_region_box1 [true, true, true, true, true, true, true, true, false, false] 8 9 #[.int .i64 0, .int .i64 0, .int .i64 0, .int .i64 0] #[.int .i64 A0, .int .i64 A0, .int .i64 (S0 * 10000 / A0), .int .i64 10000] (by kernel_rfl) rfl rfl rfl (by kernel_rfl) rfl (by kernel_rfl) infoPart2 rfl rfl (by simp [Value.oneCell']) ?_
      apply Exists.intro
      refine ⟨fun S hS hx => ?_, ?_, ?_⟩
      · obtain ⟨x0, hx0⟩ := hx
        haveI : Nonempty (GrewS V5 S) := ⟨⟨x0, hx0⟩⟩
        simp only [pickM]
        repeat (go_big_quiet_step (fail))
        exact wpQuiet_nil rfl
      · rfl
      intro B7 w7 hBw hblk hbb
      simp only [Act.put, List.setIfInBounds_toArray, List.set_cons_succ, List.set_cons_zero]
      have u0 : w7.cell? ⟨B7, 0, none⟩ = some (.int .i64 (A0)) := cell_of_block hblk 0 (by simp)
      have u1 : w7.cell? ⟨B7, 1, none⟩ = some (.int .i64 (A0)) := cell_of_block hblk 1 (by simp)
      have u2 : w7.cell? ⟨B7, 2, none⟩ = some (.int .i64 (S0 * 10000 / A0)) := cell_of_block hblk 2 (by simp)
      have u3 : w7.cell? ⟨B7, 3, none⟩ = some (.int .i64 (10000)) := cell_of_block hblk 3 (by simp)
      have l7 := (Array.getElem?_eq_some_iff.1 hblk).1
      have BW := Lib.hid (thru hbb BV.out)
      clear hbb hblk y0 y1
      go_wp2_with fail
      refine (WA.out _).mono ?_
      rintro e w8 ⟨rfl, hb8⟩
      go_wp2_with fail
      refine (awake_any _).mono ?_
      rintro e w9 ⟨rfl, hb9⟩
      go_wp2_with fail
      go_ret
      exact ⟨rfl, thru hb9 (thru hb8 BW.out)⟩
end Go.Proofs.Ythmnlakgcoojhaa
