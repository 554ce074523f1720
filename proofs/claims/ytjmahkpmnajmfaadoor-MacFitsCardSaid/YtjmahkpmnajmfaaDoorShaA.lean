/- sha: words of 32 bits as the model holds them; arrays of words in memory. -/
import Derived.Test.YtjmahkpmnajmfaaDoorProg
import Derived.Test.YtjmahkpmnajmfaaDoorMem
import Derived.Test.YtjmahkpmnajmfaaDoorWWords
import Derived.Test.YtjmahkpmnajmfaaDoorWLast
import Derived.Test.YtjmahkpmnajmfaaDoorWMore
import Derived.Deep.WholeRow
import Derived.Laws.Bits64
import Derived.Lib.Hide
namespace Go.Proofs.YtjmahkpmnajmfaaDoor.Sha
open Go.RowKit Go.Proofs.YtjmahkpmnajmfaaDoor.Mem Go.Proofs.YtjmahkpmnajmfaaDoorW.PrintWords Go.Proofs.YtjmahkpmnajmfaaDoorW.PrintLast Go.Proofs.YtjmahkpmnajmfaaDoorW.PrintMore
set_option linter.unusedVariables false
set_option linter.unusedSimpArgs false
abbrev W := BitVec 32
def iv (x : W) : Int := (x.toNat : Int)
def wv (x : W) : Value := .int .u32 (iv x)
theorem wrap_u32 (n : Int) : IntKind.u32.wrap n = n % 4294967296 := by simp [IntKind.wrap, IntKind.bits, IntKind.signed]
theorem iv_lt (x : W) : 0 ≤ iv x ∧ iv x < 4294967296 := ⟨Int.natCast_nonneg _, by unfold iv; have := x.isLt; omega⟩
theorem iv_inj {x y : W} (h : iv x = iv y) : x = y := BitVec.eq_of_toNat_eq (by unfold iv at h; omega)
theorem wrap_iv (x : W) : IntKind.u32.wrap (iv x) = iv x := by rw [wrap_u32]; have := iv_lt x; omega
theorem iv_add (x y : W) : IntKind.u32.wrap (iv x + iv y) = iv (x + y) := by
  rw [wrap_u32]; unfold iv; rw [BitVec.toNat_add]; omega
theorem ofInt_iv (x : W) : BitVec.ofInt 32 (iv x) = x := by
  unfold iv; rw [BitVec.ofInt_natCast]; simp
theorem iv_xor (x y : W) : bits .xor .u32 (iv x) (iv y) = iv (x ^^^ y) := by
  show IntKind.u32.wrap ((BitVec.ofInt 32 (iv x) ^^^ BitVec.ofInt 32 (iv y)).toNat : Int) = _
  rw [ofInt_iv, ofInt_iv]; exact wrap_iv _
theorem iv_and (x y : W) : bits .and .u32 (iv x) (iv y) = iv (x &&& y) := by
  show IntKind.u32.wrap ((BitVec.ofInt 32 (iv x) &&& BitVec.ofInt 32 (iv y)).toNat : Int) = _
  rw [ofInt_iv, ofInt_iv]; exact wrap_iv _
theorem iv_or (x y : W) : bits .or .u32 (iv x) (iv y) = iv (x ||| y) := by
  show IntKind.u32.wrap ((BitVec.ofInt 32 (iv x) ||| BitVec.ofInt 32 (iv y)).toNat : Int) = _
  rw [ofInt_iv, ofInt_iv]; exact wrap_iv _
theorem iv_shr (x : W) (n : Nat) : iv x / 2 ^ n = iv (x >>> n) := by
  unfold iv; rw [BitVec.toNat_ushiftRight, Nat.shiftRight_eq_div_pow]; norm_cast
theorem iv_shl (x : W) (n : Nat) : IntKind.u32.wrap (iv x * 2 ^ n) = iv (x <<< n) := by
  rw [wrap_u32]; unfold iv; rw [BitVec.toNat_shiftLeft, Nat.shiftLeft_eq, Int.natCast_emod, Int.natCast_mul, Int.natCast_pow]; rfl
/-- an array of 64 words of which the first are l, the others noughts -/
def arr (l : List W) : Array Value := ((l ++ List.replicate (64 - l.length) 0#32).map wv).toArray
theorem arr_size (l : List W) (h : l.length ≤ 64) : (arr l).size = 64 := by
  unfold arr
  rw [List.size_toArray, List.length_map, List.length_append, List.length_replicate]; omega
theorem arr_get (l : List W) (i : Nat) (h : i < l.length) : (arr l)[i]? = some (wv l[i]) := by
  unfold arr
  rw [List.getElem?_toArray, List.getElem?_map, List.getElem?_append_left h, List.getElem?_eq_getElem h]; rfl
theorem arr_getD (l : List W) (i : Nat) (h : i < l.length) : (arr l)[i]? = some (wv (l.getD i 0#32)) := by
  rw [arr_get l i h, List.getD_eq_getElem?_getD, List.getElem?_eq_getElem h]; rfl
theorem arr_nought (l : List W) (h : l.length < 64) : arr (l ++ [0#32]) = arr l := by
  unfold arr
  rw [List.append_assoc, List.length_append, List.length_singleton, show 64 - l.length = (64 - (l.length + 1)) + 1 from by omega, List.replicate_succ]; rfl
theorem arr_set (l : List W) (x y : W) (h : l.length < 64) : (arr (l ++ [x])).setIfInBounds l.length (wv y) = arr (l ++ [y]) := by
  unfold arr
  apply Array.toList_inj.1
  rw [Array.toList_setIfInBounds]
  simp
theorem arr_put (l : List W) (y : W) (h : l.length < 64) : (arr l).setIfInBounds l.length (wv y) = arr (l ++ [y]) := by
  rw [← arr_nought l h]; exact arr_set l 0#32 y h
/-! whole arrays out of and into a block -/
theorem loadCells_blk {P : Program} {w : World} {g : Nat} {t : TypeId} {cs : Array Value} (h : Blk w g t cs) (n : Nat) (hn : cs.size = n) :
    (loadCellsFrom ⟨g, 0, none⟩ 0 n #[]).run P w = .ok cs w := by
  subst hn
  have := run_loadCells_list (P := P) w ⟨g, 0, none⟩ cs.toList (fun j v hv => by
    have hadd : (⟨g, 0, none⟩ : Addr).add j = ⟨g, j, none⟩ := by unfold Addr.add; split <;> simp_all
    rw [hadd, h.cell j]
    simpa using hv)
  simpa [loadCells] using this
theorem storeCells_blk {P : Program} {w : World} {g : Nat} {t : TypeId} {old cs : Array Value} (h : Blk w g t old) (ho : old.size = cs.size) (h1 : cs.all (·.oneCell') = true) :
    (storeCells ⟨g, 0, none⟩ cs.toList 0).run P w = .ok () (w.setRow g cs) :=
  run_storeCells_from (P := P) g t cs.toList 0 old w h (by simp; omega) (fun v hv => (Array.all_eq_true_iff_forall_mem.1 h1) v (by simpa using hv))
theorem Blk.row {w : World} {g : Nat} {t : TypeId} {old : Array Value} (h : Blk w g t old) (cs : Array Value) : Blk (w.setRow g cs) g t cs := by
  show (w.setRow g cs).heap[g]? = _
  simp only [World.setRow, Array.getElem?_modify, if_true]
  rw [show w.heap[g]? = _ from h]; rfl
theorem Blk.row_far {w : World} {g g' : Nat} {t : TypeId} {old : Array Value} (h : Blk w g t old) (hn : g' ≠ g) (cs : Array Value) : Blk (w.setRow g' cs) g t old := by
  show (w.setRow g' cs).heap[g]? = _
  simp only [World.setRow, Array.getElem?_modify, if_neg hn]
  exact h
theorem Below_row {a w : World} {B g : Nat} (h : Below B a w) (hg : B ≤ g) (cs : Array Value) : Below B a (w.setRow g cs) := by
  refine ⟨h.os, h.tape, h.output, ?_, ?_⟩
  · simpa [World.setRow] using h.size
  · intro k hk
    rw [← h.block k hk]
    simp only [World.setRow, Array.getElem?_modify, if_neg (show g ≠ k by omega)]
theorem arr_one (l : List W) : (arr l).all (·.oneCell') = true := by
  unfold arr
  rw [Array.all_eq_true_iff_forall_mem]
  intro v hv
  simp only [List.mem_toArray, List.mem_map] at hv
  obtain ⟨x, _, rfl⟩ := hv
  rfl
end Go.Proofs.YtjmahkpmnajmfaaDoor.Sha
