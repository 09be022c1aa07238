/- Plain words: a still in memory; what is drawn. No conditions. -/
import Derived.Test.YtnmldophadanbaaKe
import Derived.RangeFuncBox
set_option linter.unusedVariables false
set_option linter.unusedSimpArgs false
set_option linter.unusedSectionVars false
set_option linter.constructorNameAsVariable false
namespace Go.Proofs.Ytnmldophadanbaa
open Go.RowKit

theorem block_set {w : World} {b : Nat} {c : Array Value} {t : TypeId} (k : Nat) (v : Value) (h : w.heap[b]? = some (.cells c t (0, 0))) : (w.setCell ⟨b, k, none⟩ v).heap[b]? = some (.cells (c.setIfInBounds k v) t (0, 0)) := by
  obtain ⟨hlt, hk⟩ := Array.getElem?_eq_some_iff.1 h
  show (w.heap.modify b _)[b]? = _
  rw [Array.getElem?_eq_getElem (by rw [Array.size_modify]; exact hlt), Array.getElem_modify_self, hk]
  rfl

/-- a still's block -/
def StillBox (w : World) (bs : Nat) (v lo hi : Int) (bc : Nat) : Prop :=
  w.heap[bs]? = some (.cells #[.int .i64 v, .int .i64 lo, .int .i64 hi, .pointer (some ⟨bc, 0, none⟩)] 79 (0, 0))

section
variable {w w' : World} {bs bc : Nat} {v lo hi : Int}
theorem StillBox.lt (h : StillBox w bs v lo hi bc) : bs < w.heap.size := (Array.getElem?_eq_some_iff.1 h).1
theorem StillBox.c0 (h : StillBox w bs v lo hi bc) : w.cell? ⟨bs, 0, none⟩ = some (.int .i64 v) := by simp [World.cell?, show w.heap[bs]? = _ from h]
theorem StillBox.c1 (h : StillBox w bs v lo hi bc) : w.cell? ⟨bs, 1, none⟩ = some (.int .i64 lo) := by simp [World.cell?, show w.heap[bs]? = _ from h]
theorem StillBox.c2 (h : StillBox w bs v lo hi bc) : w.cell? ⟨bs, 2, none⟩ = some (.int .i64 hi) := by simp [World.cell?, show w.heap[bs]? = _ from h]
theorem StillBox.c3 (h : StillBox w bs v lo hi bc) : w.cell? ⟨bs, 3, none⟩ = some (.pointer (some ⟨bc, 0, none⟩)) := by simp [World.cell?, show w.heap[bs]? = _ from h]
theorem StillBox.fr (h : StillBox w bs v lo hi bc) (k : Nat) : w.frozen? ⟨bs, k, none⟩ = false := by simp [World.frozen?, show w.heap[bs]? = _ from h]
theorem StillBox.below (h : StillBox w bs v lo hi bc) (hb : Below w.heap.size w w') : StillBox w' bs v lo hi bc := (hb.block bs h.lt).trans h
theorem StillBox.set (h : StillBox w bs v lo hi bc) (v' lo' hi' : Int) :
    StillBox (((w.setCell ⟨bs, 0, none⟩ (.int .i64 v')).setCell ⟨bs, 1, none⟩ (.int .i64 lo')).setCell ⟨bs, 2, none⟩ (.int .i64 hi')) bs v' lo' hi' bc :=
  block_set 2 _ (block_set 1 _ (block_set 0 _ h))
end

theorem grownBy_set (W : World) (b k : Nat) (v : Value) : W.grownBy (W.setCell ⟨b, k, none⟩ v) (some b) :=
  ⟨rfl, rfl, rfl, (KeepsWalks.setCell W _ v).size, fun j _ hj => Below.heap_setCell _ _ _ j (fun e => hj (by rw [e]))⟩
theorem grownBy_of_below {w w' : World} (h : Below w.heap.size w w') (row : Option Nat) : w.grownBy w' row := ⟨h.os, h.tape, h.output, h.size, fun k hk _ => h.block k hk⟩
theorem grownBy_trans {a b c : World} {row : Option Nat} (h : a.grownBy b row) (k : b.grownBy c row) : a.grownBy c row :=
  ⟨k.os.trans h.os, k.tape.trans h.tape, k.output.trans h.output, Nat.le_trans h.size k.size, fun j hj hr => (k.block j (Nat.lt_of_lt_of_le hj h.size) hr).trans (h.block j hj hr)⟩

def mostI (L B : Nat → Int) (n : Nat) (v hi d : Int) : Int := min hi (upI (d * vapHi L B n (upI (hi * 10000) v)) 10000)
def staysI (lo mo : Int) : Int := max 0 (lo - mo)
def weakI (lo v st lf : Int) : Int := min (lo * 10000 / v) (if lf = 0 then 0 else st * 10000 / lf)
def leastI (L A : Nat → Int) (n : Nat) (lo lf d wk : Int) : Int := max (lo - lf) (d * vapLo L A n wk / 10000)
def highI (hi ls lf v : Int) : Int := min (hi - ls) (min lf (upI (hi * lf) v))

end Go.Proofs.Ytnmldophadanbaa
