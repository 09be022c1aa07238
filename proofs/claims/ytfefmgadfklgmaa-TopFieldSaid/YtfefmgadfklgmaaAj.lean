/- Laws of append: an owned row and any list that lies in memory, in a plain region and in one that draws its order; a row is overwritten; lists of spans one behind the other. No conditions beyond each theorem's own. -/
import Derived.Test.YtfefmgadfklgmaaAc
import Derived.Deep.RegionLaw
set_option linter.unusedVariables false
set_option linter.unusedSimpArgs false
set_option linter.unusedSectionVars false
set_option linter.constructorNameAsVariable false
namespace Go
open Go.RowKit
section
variable {P : Program} {w : World}
theorem run_append_owned_nothing (base : Nat) (t ty e : TypeId) (i : TypeInfo) (size : Nat) (ht : P.underlying t = some (.slice e)) (hi : P.info? e = some i)
    (v : Value) (n : Nat) (xs : List Value) (hown : w.ownsRow base e size v n xs) (ax : Option Addr) (c : Nat) :
    (Builtin.append_ #[t, t] ty #[v, .slice ax 0 c]).run P w = .ok v w := by
  rcases hown.2 with ⟨rfl, rfl⟩ | ⟨g, cap, cur, rfl, _, _, hnc, _⟩
  · cases ax <;> simp [Builtin.append_, run_underlying ht, sizeOf, typeInfo, hi, Builtin.lenOf, Builtin.firstCells, storeCells, loadCells, loadCellsFrom, Result.andThen]
  · cases ax <;> simp [Builtin.append_, run_underlying ht, sizeOf, typeInfo, hi, Builtin.lenOf, Builtin.firstCells, hnc, storeCells, loadCells, loadCellsFrom, Result.andThen]

/-- append(a, b...): a is an owned row, b lies anywhere -/
theorem wp_append_src {o : Oper} {a : Act} {K : Act → World → Prop} {Q : Exit → Act → World → Prop} (s x : Operand) (t : TypeId)
    (ho : o.op = .call { callee := .builtin .append, args := #[s, x], argTypes := #[t, t] })
    (base : Nat) (e : TypeId) (i : TypeInfo) (z : Value) (size bytes : Nat) (ht : P.underlying t = some (.slice e)) (hi : P.info? e = some i) (hz : i.zero = some z)
    (hsize : i.size = size) (hby : i.bytes = bytes) (hzs : z.cells.size = size) (hsz : 0 < size)
    (v : Value) (n : Nat) (xs : List Value) (hs : a.eval s = v) (hown : w.ownsRow base e size v n xs)
    (ax : Option Addr) (m c : Nat) (news : List Value) (hx : a.eval x = .slice ax m c) (hn : news.length = m * size) (hc : m = 0 ∨ ∃ ad, ax = some ad ∧ ∀ j u, news[j]? = some u → w.cell? (ad.add j) = some u) (h1 : ∀ u ∈ news, u.oneCell' = true)
    (h63 : n + m ≤ maxLen) (hbytes : (n + m) * bytes ≤ 140737488355328) (hbase : base ≤ w.heap.size)
    (h : ∀ v' w', w'.ownsRow base e size v' (n + m) (xs ++ news) → w.grownBy w' v.ownBlock → K (a.put o.dst v') w') : o.wp P a w K Q := by
  by_cases hm : m = 0
  · subst hm
    obtain rfl : news = [] := List.eq_nil_of_length_eq_zero (by simpa using hn)
    have hrun := run_append_owned_nothing (P := P) (w := w) base t o.type e i size ht hi v n xs hown ax c
    unfold Oper.wp
    simp [execOp, ho, resolve, invoke, builtin, hs, hx, hrun, Result.andThen]
    exact h v w (by simpa using hown) ⟨rfl, rfl, rfl, Nat.le_refl _, fun _ _ _ => rfl⟩
  · obtain ⟨ad, rfl, hcc⟩ := hc.resolve_left hm
    exact wp_append_own w s x t ho base e i z size bytes ht hi hz hsize hby hzs hsz v n xs hs hown ad m c news hx hn hcc h1 h63 hbytes hbase fun v' w' h2 h3 _ => h v' w' h2 h3

theorem wpList_append_src {ops : Array Oper} {rest : List Oper} {o : Oper} {a : Act} {Q : Exit → Act → World → Prop} (hgd : Region.wanted o (yielded ops a.tmps) = true) (s x : Operand) (t : TypeId)
    (ho : o.op = .call { callee := .builtin .append, args := #[s, x], argTypes := #[t, t] })
    (base : Nat) (e : TypeId) (i : TypeInfo) (z : Value) (size bytes : Nat) (ht : P.underlying t = some (.slice e)) (hi : P.info? e = some i) (hz : i.zero = some z)
    (hsize : i.size = size) (hby : i.bytes = bytes) (hzs : z.cells.size = size) (hsz : 0 < size)
    (v : Value) (n : Nat) (xs : List Value) (hs : a.eval s = v) (hown : w.ownsRow base e size v n xs)
    (ax : Option Addr) (m c : Nat) (news : List Value) (hx : a.eval x = .slice ax m c) (hn : news.length = m * size) (hc : m = 0 ∨ ∃ ad, ax = some ad ∧ ∀ j u, news[j]? = some u → w.cell? (ad.add j) = some u) (h1 : ∀ u ∈ news, u.oneCell' = true)
    (h63 : n + m ≤ maxLen) (hbytes : (n + m) * bytes ≤ 140737488355328) (hbase : base ≤ w.heap.size)
    (h : ∀ v' w', w'.ownsRow base e size v' (n + m) (xs ++ news) → w.grownBy w' v.ownBlock → wpList P ops Q rest (a.put o.dst v') w') : wpList P ops Q (o :: rest) a w :=
  wpList_wanted hgd fun K hK => wp_append_src s x t ho base e i z size bytes ht hi hz hsize hby hzs hsz v n xs hs hown ax m c news hx hn hc h1 h63 hbytes hbase fun v' w' h2 h3 => hK _ _ (h v' w' h2 h3)

theorem step_append_src {ops : Array Oper} {o : Oper} {a : Act} {K : Act → World → Prop} {Q : Exit → Act → World → Prop} {E : Prop} (hg : o.guard = none) (s x : Operand) (t : TypeId)
    (ho : o.op = .call { callee := .builtin .append, args := #[s, x], argTypes := #[t, t] })
    (base : Nat) (e : TypeId) (i : TypeInfo) (z : Value) (size bytes : Nat) (ht : P.underlying t = some (.slice e)) (hi : P.info? e = some i) (hz : i.zero = some z)
    (hsize : i.size = size) (hby : i.bytes = bytes) (hzs : z.cells.size = size) (hsz : 0 < size)
    (v : Value) (n : Nat) (xs : List Value) (hs : a.eval s = v) (hown : w.ownsRow base e size v n xs)
    (ax : Option Addr) (m c : Nat) (news : List Value) (hx : a.eval x = .slice ax m c) (hn : news.length = m * size) (hc : m = 0 ∨ ∃ ad, ax = some ad ∧ ∀ j u, news[j]? = some u → w.cell? (ad.add j) = some u) (h1 : ∀ u ∈ news, u.oneCell' = true)
    (h63 : n + m ≤ maxLen) (hbytes : (n + m) * bytes ≤ 140737488355328) (hbase : base ≤ w.heap.size)
    (h : ∀ v' w', w'.ownsRow base e size v' (n + m) (xs ++ news) → w.grownBy w' v.ownBlock → K (a.put o.dst v') w') :
    if Region.wanted o (yielded ops a.tmps) = true then Oper.wp P o a w K Q else E := by
  have hw : Region.wanted o (yielded ops a.tmps) = true := by simp [Region.wanted, hg]
  rw [if_pos hw]
  exact wp_append_src s x t ho base e i z size bytes ht hi hz hsize hby hzs hsz v n xs hs hown ax m c news hx hn hc h1 h63 hbytes hbase h
end
end Go
namespace Go.Proofs.Ytfefmgadfklgmaa
open Go.RowKit

theorem own_form {w : World} {base k size : Nat} {e : TypeId} {v : Value} {xs : List Value} (h : w.ownsRow base e size v k xs) : ∃ a cap, v = .slice a k cap := by
  rcases h.2 with ⟨rfl, rfl⟩ | ⟨g, cap, cur, rfl, -⟩
  · exact ⟨none, 0, rfl⟩
  · exact ⟨_, _, rfl⟩
/-- a row of K elements, of sz cells each, may be overwritten -/
structure ScrN (e : TypeId) (sz K : Nat) (a1 : Option Addr) (row : Option Nat) (W wr : World) : Prop where
  gr : W.grownBy wr row
  blk : 0 < K → ∃ g cur, a1 = some ⟨g, 0, none⟩ ∧ wr.heap[g]? = some (.cells cur e (0, 0)) ∧ K * sz ≤ cur.size
theorem scrN_start {e : TypeId} {sz K ca base : Nat} {a1 : Option Addr} {xs : List Value} {W : World} (h : W.ownsRow base e sz (.slice a1 K ca) K xs) : ScrN e sz K a1 (Value.slice a1 K ca).ownBlock W W := by
  refine ⟨⟨rfl, rfl, rfl, Nat.le_refl _, fun _ _ _ => rfl⟩, fun hK => ?_⟩
  rcases h.2 with ⟨h1, h2⟩ | ⟨g, cap, cur, h1, _, h3, h4, _, h6, _⟩
  · omega
  · cases h1
    exact ⟨g, cur, rfl, h3, by rw [h6]; exact Nat.mul_le_mul_right sz h4⟩
theorem ScrN.set {e : TypeId} {sz K ca g : Nat} {a1 : Option Addr} {W wr : World} (h : ScrN e sz K a1 (Value.slice a1 K ca).ownBlock W wr) (ha : a1 = some ⟨g, 0, none⟩) (q : Nat) (x : Value) :
    ScrN e sz K a1 (Value.slice a1 K ca).ownBlock W (wr.setCell ⟨g, q, none⟩ x) := by
  subst ha
  refine ⟨grownBy_trans h.gr (grownBy_set wr g q x), fun hK => ?_⟩
  obtain ⟨g', cur, e1, h2, h3⟩ := h.blk hK
  cases e1
  exact ⟨g, _, rfl, block_set q x h2, by simpa using h3⟩

theorem spansV_append (A B A' B' : Nat → Int) (n : Nat) : ∀ m, spansV n A B ++ spansV m A' B' = spansV (n + m) (fun i => if i < n then A i else A' (i - n)) (fun i => if i < n then B i else B' (i - n))
  | 0 => by
    rw [show spansV 0 A' B' = [] from rfl, List.append_nil]
    unfold spansV
    rw [List.flatMap_def, List.flatMap_def]
    congr 1
    refine List.map_congr_left fun j hj => ?_
    have := List.mem_range.1 hj
    simp [show j < n by omega]
  | m + 1 => by
    rw [spansV_succ, ← List.append_assoc, spansV_append A B A' B' n m, ← Nat.add_assoc, spansV_succ]
    simp [show ¬ n + m < n by omega]
/-- n elements of c numbers each -/
def tupsV (c n : Nat) (F : Nat → Nat → Int) : List Value := (List.range (n * c)).map fun j => .int .i64 (F (j / c) (j % c))
theorem tupsV_len (c n : Nat) (F : Nat → Nat → Int) : (tupsV c n F).length = n * c := by simp [tupsV]
theorem tupsV_one (c n : Nat) (F : Nat → Nat → Int) : ∀ u ∈ tupsV c n F, u.oneCell' = true := by
  intro u hu
  simp only [tupsV, List.mem_map] at hu
  obtain ⟨j, _, rfl⟩ := hu
  rfl
theorem tups_div {c i q : Nat} (h : q < c) : (i * c + q) / c = i ∧ (i * c + q) % c = q := by
  have hc : 0 < c := by omega
  refine ⟨?_, ?_⟩
  · rw [Nat.mul_comm, Nat.mul_add_div hc, Nat.div_eq_of_lt h, Nat.add_zero]
  · rw [Nat.mul_comm, Nat.mul_add_mod, Nat.mod_eq_of_lt h]
theorem tups_lt {c n i q : Nat} (hi : i < n) (h : q < c) : i * c + q < n * c :=
  Nat.lt_of_lt_of_le (Nat.add_lt_add_left h _) (by rw [← Nat.succ_mul]; exact Nat.mul_le_mul_right c hi)
theorem tupsV_get (c : Nat) {n i q : Nat} (F : Nat → Nat → Int) (hi : i < n) (h : q < c) : (tupsV c n F)[i * c + q]? = some (.int .i64 (F i q)) := by
  simp only [tupsV, List.getElem?_map, List.getElem?_range (tups_lt hi h), Option.map_some]
  rw [(tups_div h).1, (tups_div h).2]
theorem tupsV_succ (c n : Nat) (F : Nat → Nat → Int) : tupsV c (n + 1) F = tupsV c n F ++ (List.range c).map fun q => .int .i64 (F n q) := by
  unfold tupsV
  rw [Nat.succ_mul, List.range_add, List.map_append, List.map_map]
  congr 1
  refine List.map_congr_left fun q hq => ?_
  have := List.mem_range.1 hq
  simp only [Function.comp]
  rw [(tups_div this).1, (tups_div this).2]
def TupsAt (w : World) (a : Option Addr) (c n : Nat) (F : Nat → Nat → Int) : Prop :=
  n = 0 ∨ ∃ b off, a = some ⟨b, off, none⟩ ∧ b < w.heap.size ∧ ∀ i, i < n → ∀ q, q < c → w.cell? ⟨b, off + i * c + q, none⟩ = some (.int .i64 (F i q))
theorem TupsAt.below {w w' : World} {a : Option Addr} {c n : Nat} {F : Nat → Nat → Int} (h : TupsAt w a c n F) (hb : Below w.heap.size w w') : TupsAt w' a c n F := by
  rcases h with h | ⟨b, off, rfl, hlt, hc⟩
  · exact .inl h
  · exact .inr ⟨b, off, rfl, Nat.lt_of_lt_of_le hlt hb.size, fun i hi q hq => (hb.cell (p := ⟨b, _, none⟩) hlt).trans (hc i hi q hq)⟩
theorem tups_news {w : World} {a : Option Addr} {c n : Nat} {F : Nat → Nat → Int} (h : TupsAt w a c n F) : n = 0 ∨ ∃ ad, a = some ad ∧ ∀ j u, (tupsV c n F)[j]? = some u → w.cell? (ad.add j) = some u := by
  rcases h with h | ⟨b, off, rfl, _, hc⟩
  · exact .inl h
  · refine .inr ⟨_, rfl, fun j u hu => ?_⟩
    have hj : j < n * c := by have := (List.getElem?_eq_some_iff.1 hu).1; rwa [tupsV_len] at this
    have hc0 : 0 < c := by rcases Nat.eq_zero_or_pos c with h0 | h0; (· subst h0; simp at hj); (· exact h0)
    have hq := Nat.mod_lt j hc0
    have hi : j / c < n := (Nat.div_lt_iff_lt_mul hc0).2 hj
    have e : j / c * c + j % c = j := by rw [Nat.mul_comm]; exact Nat.div_add_mod j c
    have g := tupsV_get c F hi hq
    rw [e, hu] at g
    cases g
    have := hc _ hi _ hq
    rw [addr_add]
    rwa [Nat.add_assoc, e] at this
theorem tups_of_own {w : World} {base c n : Nat} {e : TypeId} {F : Nat → Nat → Int} {v : Value} (h : w.ownsRow base e c v n (tupsV c n F)) : ∃ a cap, v = .slice a n cap ∧ TupsAt w a c n F := by
  rcases h.2 with ⟨rfl, h0⟩ | ⟨g, cap, cur, rfl, hg, hgb, _⟩
  · exact ⟨none, 0, by rw [h0], .inl h0⟩
  · refine ⟨_, cap, rfl, .inr ⟨g, 0, rfl, (Array.getElem?_eq_some_iff.1 hgb).1, fun i hi q hq => ?_⟩⟩
    have := h.cells (g := g) rfl _ _ (tupsV_get c F hi hq)
    rw [addr_add] at this
    rwa [Nat.add_assoc]
end Go.Proofs.Ytfefmgadfklgmaa
