/- Words for memory: structs that are stored whole. They speak of no program. -/
import Derived.Test.YtjcilknfhkpepaaMem
import Derived.Deep.MidRow
import Derived.Lib.Hide
namespace Go.Proofs.Ytjcilknfhkpepaa.Mem
open Go.RowKit
theorem below_cells {a w : World} {B g o : Nat} {vs : List Value} (h : Below B a w) (hg : B ≤ g) : Below B a (w.setCells g o vs) := by
  obtain ⟨o1, o2, o3⟩ := setCells_os g vs o w
  refine ⟨o1.trans h.os, o2.trans h.tape, o3.trans h.output, by rw [setCells_size]; exact h.size, fun k hk => ?_⟩
  rw [setCells_heap_ne g vs o w k (by omega)]
  exact h.block k hk
theorem there_blk {w : World} {g : Nat} {t : TypeId} {cs : Array Value} (h : Blk w g t cs) {n : Nat} (hn : n ≤ cs.size) : w.there g 0 n := fun j hj => by
  rw [Nat.zero_add]
  exact ⟨by rw [h.cell j, Array.getElem?_eq_getElem (by omega)]; rfl, h.frozen j⟩
theorem rangeAt_blk {w : World} {g : Nat} {t : TypeId} {cs : Array Value} (h : Blk w g t cs) : w.rangeAt g 0 cs.toList := fun j v hv => by
  rw [Nat.zero_add, h.cell j]; simpa using hv
theorem blk_whole {w : World} {g : Nat} {t : TypeId} {old cs : Array Value} (h : Blk w g t old) (hs : cs.size = old.size) : Blk (w.setCells g 0 cs.toList) g t cs := by
  have := Blk.many cs.toList 0 h
  have e : putMany old 0 cs.toList = cs := by
    apply Array.toList_inj.1
    rw [putMany_list _ _ _ (by simp; omega)]
    simp [hs]
  rw [e] at this
  exact this
theorem blk_whole_far {w : World} {g g' : Nat} {t : TypeId} {old : Array Value} (h : Blk w g t old) (hn : g ≠ g') (vs : List Value) (o : Nat) : Blk (w.setCells g' o vs) g t old := (setCells_heap_ne g' vs o w g hn).trans h
theorem Only.cells {F : Nat → Prop} {a w : World} (h : Only F a w) {g : Nat} (hg : F g ∨ a.heap.size ≤ g) (o : Nat) (vs : List Value) : Only F a (w.setCells g o vs) := by
  obtain ⟨o1, o2, o3⟩ := setCells_os g vs o w
  refine ⟨o1.trans h.os, o2.trans h.tape, o3.trans h.output, by rw [setCells_size]; exact h.size, fun k hk hn => ?_⟩
  rw [setCells_heap_ne g vs o w k (by rintro rfl; rcases hg with e | e; exact hn e; omega)]
  exact h.block k hk hn
end Go.Proofs.Ytjcilknfhkpepaa.Mem
