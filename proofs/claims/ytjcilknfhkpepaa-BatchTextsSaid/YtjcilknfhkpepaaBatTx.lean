/- batch: changes sorted by their keys, as plain values. -/
import Derived.Test.YtjcilknfhkpepaaAid
import Derived.Test.YtjcilknfhkpepaaMem
import Derived.Test.YtjcilknfhkpepaaShelf
import Derived.Shelf.RegionOpenPlain
import Derived.WalkKit
import Derived.Lib.Walk
import Derived.Lib.SliceRun
import Derived.Lib.JoinLaws
import Derived.Lib.AppendZeros
import Derived.Lib.AppendZerosOnto
import Derived.Lib.Overlaps
import Derived.Laws.Externs
import Derived.Laws.IdiomCopy
import Derived.Laws.NewBlocks
import Derived.Deep.MidRow
import Derived.Lib.Hide
import Derived.StillTactics
import Derived.Test.YtjcilknfhkpepaaX1
import Derived.Test.YtjcilknfhkpepaaMemS
import Derived.Test.YtjcilknfhkpepaaMemP
import Derived.Test.YtjcilknfhkpepaaRangeC
import Derived.Shelf.Abstract
import Derived.OwnWalkIn
import Derived.TacticsInMore
import Derived.LoopNIn
import Derived.LoopIn
import Derived.Test.YtjcilknfhkpepaaWLast
import Derived.OrdersIn
import Derived.TacticsIn
import Derived.Test.YtjcilknfhkpepaaX5
import Derived.Test.YtjcilknfhkpepaaX6
import Derived.Test.YtjcilknfhkpepaaX7
import Derived.Test.YtjcilknfhkpepaaXT
namespace Go.Proofs.Ytjcilknfhkpepaa.Bat
open Go.RowKit Go.Proofs.Ytjcilknfhkpepaa.Aid
structure Ch where
  key : ByteArray
  value : ByteArray
  gone : Bool
theorem Ch.ext' {a b : Ch} (h1 : a.key = b.key) (h2 : a.value = b.value) (h3 : a.gone = b.gone) : a = b := by
  cases a; cases b; simp_all
def fits (c : Ch) : Int := if c.key.size = 0 then 3 else if 200 < c.key.size ∨ 1048576 < c.value.size then 2 else 0
def lt (a b : ByteArray) : Prop := L a < L b
instance (a b : ByteArray) : Decidable (lt a b) := inferInstanceAs (Decidable (L a < L b))
theorem lt_irrefl (a : ByteArray) : ¬ lt a a := List.lt_irrefl (L a)
theorem lt_trans {a b c : ByteArray} (h : lt a b) (k : lt b c) : lt a c := List.lt_trans h k
theorem lt_asymm {a b : ByteArray} (h : lt a b) : ¬ lt b a := fun k => lt_irrefl a (lt_trans h k)
theorem lt_tri {a b : ByteArray} (h : ¬ lt a b) : a = b ∨ lt b a := by
  by_cases hb : lt b a
  · exact .inr hb
  · left
    apply L_inj
    exact List.le_antisymm (List.not_lt.1 hb) (List.not_lt.1 h)
theorem not_lt_trans {a b c : ByteArray} (h : ¬ lt b a) (k : lt b c) : lt a c := by
  rcases lt_tri h with e | e
  · exact e ▸ k
  · exact lt_trans e k
/-- how many stand ahead of a key -/
def pos : List Ch → ByteArray → Nat
  | [], _ => 0
  | a :: r, key => if lt a.key key then pos r key + 1 else 0
def there : List Ch → ByteArray → Bool
  | [], _ => false
  | a :: r, key => if lt a.key key then there r key else decide (a.key = key)
def Sorted (l : List Ch) : Prop := l.Pairwise fun a b => lt a.key b.key
theorem pos_le : ∀ (l : List Ch) (key : ByteArray), pos l key ≤ l.length
  | [], _ => Nat.le_refl _
  | a :: r, key => by
    unfold pos
    have := pos_le r key
    split <;> simp <;> omega
theorem at_pos : ∀ (l : List Ch) (key : ByteArray), there l key = (match l[pos l key]? with | some c => decide (c.key = key) | none => false)
  | [], _ => rfl
  | a :: r, key => by
    unfold there pos
    by_cases h : lt a.key key
    · rw [if_pos h, if_pos h, at_pos r key]
      rfl
    · rw [if_neg h, if_neg h]
      rfl
theorem ahead : ∀ (l : List Ch) (key : ByteArray), Sorted l → ∀ i (hi : i < l.length), lt l[i].key key ↔ i < pos l key
  | [], _, _, i, hi => by simp at hi
  | a :: r, key, hs, i, hi => by
    have hs' := List.pairwise_cons.1 hs
    unfold pos
    by_cases h : lt a.key key
    · rw [if_pos h]
      cases i with
      | zero => simp [h]
      | succ i =>
        have := ahead r key hs'.2 i (by simpa using hi)
        simp only [List.getElem_cons_succ]
        rw [this]
        omega
    · rw [if_neg h]
      simp only [Nat.not_lt_zero, iff_false]
      cases i with
      | zero => exact h
      | succ i =>
        simp only [List.getElem_cons_succ]
        intro hk
        exact h (lt_trans (hs'.1 _ (List.getElem_mem (by simpa using hi))) hk)
/-- the list with a change in it -/
def put (l : List Ch) (c : Ch) : List Ch := l.take (pos l c.key) ++ c :: l.drop (pos l c.key + if there l c.key then 1 else 0)
theorem put_nil (c : Ch) : put [] c = [c] := rfl
theorem put_cons (a : Ch) (r : List Ch) (c : Ch) : put (a :: r) c = if lt a.key c.key then a :: put r c else c :: (if a.key = c.key then r else a :: r) := by
  unfold put
  by_cases h : lt a.key c.key
  · rw [if_pos h]
    have e1 : pos (a :: r) c.key = pos r c.key + 1 := by rw [pos, if_pos h]
    have e2 : there (a :: r) c.key = there r c.key := by rw [there, if_pos h]
    rw [e1, e2, List.take_succ_cons, Nat.add_right_comm, List.drop_succ_cons]
    rfl
  · rw [if_neg h]
    have e1 : pos (a :: r) c.key = 0 := by rw [pos, if_neg h]
    have e2 : there (a :: r) c.key = decide (a.key = c.key) := by rw [there, if_neg h]
    rw [e1, e2]
    by_cases hk : a.key = c.key <;> simp [hk]
theorem put_mem : ∀ (l : List Ch) (c x : Ch), x ∈ put l c → x = c ∨ x ∈ l
  | [], c, x, h => by rw [put_nil] at h; exact .inl (by simpa using h)
  | a :: r, c, x, h => by
    rw [put_cons] at h
    split at h
    · rcases List.mem_cons.1 h with e | e
      · exact .inr (e ▸ List.mem_cons_self ..)
      · rcases put_mem r c x e with e | e
        · exact .inl e
        · exact .inr (List.mem_cons_of_mem _ e)
    · rcases List.mem_cons.1 h with e | e
      · exact .inl e
      · split at e
        · exact .inr (List.mem_cons_of_mem _ e)
        · exact .inr e
theorem put_sorted : ∀ (l : List Ch) (c : Ch), Sorted l → Sorted (put l c)
  | [], c, _ => by rw [put_nil]; exact List.pairwise_singleton ..
  | a :: r, c, h => by
    have h' := List.pairwise_cons.1 h
    rw [put_cons]
    by_cases hl : lt a.key c.key
    · rw [if_pos hl]
      refine List.pairwise_cons.2 ⟨fun x hx => ?_, put_sorted r c h'.2⟩
      rcases put_mem r c x hx with e | e
      · rw [e]; exact hl
      · exact h'.1 x e
    · rw [if_neg hl]
      by_cases hk : a.key = c.key
      · rw [if_pos hk]
        exact List.pairwise_cons.2 ⟨fun x hx => hk ▸ h'.1 x hx, h'.2⟩
      · rw [if_neg hk]
        have hca : lt c.key a.key := (lt_tri hl).resolve_left hk
        refine List.pairwise_cons.2 ⟨fun x hx => ?_, h⟩
        rcases List.mem_cons.1 hx with e | e
        · rw [e]; exact hca
        · exact lt_trans hca (h'.1 x e)
/-- a change, made -/
def change (l : List Ch) (c : Ch) : List Ch × Int :=
  if fits c ≠ 0 then (l, fits c) else if there l c.key = false ∧ 2000 ≤ l.length then (l, 8) else (put l c, 0)
/-- a key's change -/
def find : List Ch → ByteArray → Option Ch
  | [], _ => none
  | a :: r, key => if a.key = key then some a else find r key
theorem find_none : ∀ (l : List Ch) (key : ByteArray), (∀ x ∈ l, x.key ≠ key) → find l key = none
  | [], _, _ => rfl
  | a :: r, key, h => by rw [find, if_neg (h a (List.mem_cons_self ..)), find_none r key fun x hx => h x (List.mem_cons_of_mem _ hx)]
theorem find_pos : ∀ (l : List Ch) (key : ByteArray), Sorted l → find l key = if there l key then l[pos l key]? else none
  | [], _, _ => rfl
  | a :: r, key, hs => by
    have hs' := List.pairwise_cons.1 hs
    by_cases hl : lt a.key key
    · rw [find, if_neg (fun e => by rw [e] at hl; exact lt_irrefl _ hl), there, if_pos hl, pos, if_pos hl, find_pos r key hs'.2]
      simp
    · rw [find, there, if_neg hl, pos, if_neg hl]
      by_cases hk : a.key = key
      · simp [hk]
      · rw [if_neg hk, find_none]
        · simp [hk]
        · intro x hx e
          have := (lt_tri hl).resolve_left hk
          exact lt_irrefl _ (e ▸ lt_trans this (hs'.1 x hx))
theorem find_there (l : List Ch) (key : ByteArray) (hs : Sorted l) : (find l key).isSome = there l key := by
  rw [find_pos l key hs]
  cases ht : there l key
  · rfl
  · rw [at_pos] at ht
    cases he : l[pos l key]? with
    | none => rw [he] at ht; cases ht
    | some c => simp
theorem find_put : ∀ (l : List Ch) (c : Ch) (key : ByteArray), Sorted l → find (put l c) key = if c.key = key then some c else find l key
  | [], c, key, _ => rfl
  | a :: r, c, key, hs => by
    have hs' := List.pairwise_cons.1 hs
    rw [put_cons]
    by_cases hl : lt a.key c.key
    · rw [if_pos hl, find, find_put r c key hs'.2]
      by_cases hk : c.key = key
      · rw [if_pos hk, if_pos hk, if_neg (fun e => by rw [e, hk] at hl; exact lt_irrefl _ hl)]
      · rw [if_neg hk, if_neg hk]
        rfl
    · rw [if_neg hl, find]
      by_cases hk : c.key = key
      · rw [if_pos hk, if_pos hk]
      · rw [if_neg hk, if_neg hk]
        by_cases ha : a.key = c.key
        · rw [if_pos ha, find, if_neg (fun e => hk (ha ▸ e))]
        · rw [if_neg ha]
theorem change_sorted (l : List Ch) (c : Ch) (h : Sorted l) : Sorted (change l c).1 := by
  unfold change
  split
  · exact h
  · split
    · exact h
    · exact put_sorted l c h
theorem put_len (l : List Ch) (c : Ch) : (put l c).length = if there l c.key then l.length else l.length + 1 := by
  have h := pos_le l c.key
  unfold put
  rw [List.length_append, List.length_take, List.length_cons, List.length_drop]
  by_cases ht : there l c.key = true
  · rw [if_pos ht, if_pos ht]
    have : pos l c.key < l.length := by
      rw [at_pos] at ht
      rcases Nat.lt_or_ge (pos l c.key) l.length with h1 | h1
      · exact h1
      · rw [List.getElem?_eq_none h1] at ht; cases ht
    omega
  · rw [if_neg ht, if_neg ht]
    omega
theorem change_len (l : List Ch) (c : Ch) (h : l.length ≤ 2000) : (change l c).1.length ≤ 2000 := by
  unfold change
  split
  · exact h
  · split
    · exact h
    · rename_i h2
      show (put l c).length ≤ 2000
      rw [put_len]
      split
      · exact h
      · rename_i h3
        have : ¬ 2000 ≤ l.length := fun e => h2 ⟨by simpa using h3, e⟩
        omega
/-- each change that is there fits -/
def Fit (l : List Ch) : Prop := ∀ c ∈ l, fits c = 0
theorem change_fit (l : List Ch) (c : Ch) (h : Fit l) : Fit (change l c).1 := by
  unfold change
  split
  · exact h
  · rename_i h1
    split
    · exact h
    · intro x hx
      rcases put_mem l c x hx with e | e
      · rw [e]; exact Decidable.of_not_not h1
      · exact h x e
end Go.Proofs.Ytjcilknfhkpepaa.Bat
/- slices.Insert of one element into a slice of structs: copy and Insert, walked. -/
namespace Go.Proofs.Ytjcilknfhkpepaa.Ins
open Go Go.RowKit Go.Lib Go.Proofs.Ytjcilknfhkpepaa.Mem
set_option linter.unusedVariables false
set_option linter.unusedSimpArgs false
/-! ### copy, of elements of several cells -/
theorem run_copy_z {P : Program} (w : World) (dT sT ty elem : TypeId) (z k : Nat) (b o dLen dCap : Nat) (a : Addr) (sLen sCap : Nat) (cs : List Value)
    (hu : P.underlying dT = some (.slice elem)) (hs : (P.info? elem).map (·.size) = some z) (hk : Nat.min sLen dLen = k) (hn : cs.length = k * z)
    (hsrc : ∀ j v, cs[j]? = some v → w.cell? (a.add j) = some v) (hc : ∀ j, j < cs.length → (w.cell? ⟨b, o + j, none⟩).isSome = true) (hf : ∀ j, j < cs.length → w.frozen? ⟨b, o + j, none⟩ = false) (h1 : ∀ v ∈ cs, v.oneCell' = true) :
    (Builtin.copy_ #[dT, sT] ty #[.slice (some ⟨b, o, none⟩) dLen dCap, .slice (some a) sLen sCap]).run P w = .ok (goInt k) (w.setCells b o cs) := by
  have hl := run_firstCells_some (P := P) w z k a sLen sCap cs hn hsrc
  have hst := run_storeCells_cells (P := P) b o cs 0 w (by simpa using hc) (by simpa using hf) h1
  cases hq : P.info? elem with
  | none => simp [hq] at hs
  | some i =>
    have hi : i.size = z := by simpa [hq] using hs
    simp [Builtin.copy_, run_underlying hu, Builtin.lenOf, sizeOf, typeInfo, hq, hi, hk, hl, hst]
theorem wpList_copy_z (w : World) {P : Program} {ops : Array Oper} {rest : List Oper} {o : Oper} {a : Act} {Q : Exit → Act → World → Prop} (hgd : o.guard = none) (d s : Operand) (t t' : TypeId)
    (ho : o.op = .call { callee := .builtin .copy, args := #[d, s], argTypes := #[t, t'] }) (v u : Value) (hd : a.eval d = v) (hs : a.eval s = u) {v' : Value} {w' : World}
    (hr : (Builtin.copy_ #[t, t'] o.type #[v, u]).run P w = .ok v' w') (h : wpList P ops Q rest (a.put o.dst v') w') : wpList P ops Q (o :: rest) a w :=
  wpList_plain hgd fun _ hK => by
    unfold Oper.wp execOp
    simp only [ho, resolve, invoke, builtin, Sem.run_bind, Sem.run_pure, Result.andThen_ok, List.map_toArray, List.map_cons, List.map_nil, hd, hs, hr]
    exact hK _ _ h
theorem step_copy_z {P : Program} {ops : Array Oper} {o : Oper} {a : Act} {w : World} {K : Act → World → Prop} {Q : Exit → Act → World → Prop} {E : Prop}
    (hg : o.guard = none) (d x : Operand) (dT sT : TypeId) (hop : o.op = Op.call { callee := Callee.builtin Builtin.copy, args := #[d, x], argTypes := #[dT, sT] })
    (v u : Value) (hd : a.eval d = v) (hx : a.eval x = u) {v' : Value} {w' : World} (hr : (Builtin.copy_ #[dT, sT] o.type #[v, u]).run P w = .ok v' w') (hK : K (a.put o.dst v') w') :
    if Region.wanted o (yielded ops a.tmps) = true then Oper.wp P o a w K Q else E := by
  have hw : Region.wanted o (yielded ops a.tmps) = true := by simp [Region.wanted, hg]
  rw [if_pos hw]
  unfold Oper.wp
  simp [execOp, hop, resolve, invoke, builtin, hd, hx, hr, Result.andThen]
  exact hK
/-! ### lists of cells -/
/-- cells moved up, one element put between -/
theorem shifted (cur xs vs : List Value) (off p m z : Nat) (hxs : (cur.drop off).take m = xs) (hl : xs.length = m) (h3 : p ≤ m) (hv : vs.length = z) (hfit : off + m + z ≤ cur.length) :
    ((((cur.take (off + p + z) ++ xs.drop p ++ cur.drop (off + p + z + (xs.drop p).length)).take (off + p) ++ vs ++ (cur.take (off + p + z) ++ xs.drop p ++ cur.drop (off + p + z + (xs.drop p).length)).drop (off + p + vs.length)).drop off).take (m + z)) = xs.take p ++ vs ++ xs.drop p := by
  have hd : (xs.drop p).length = m - p := by rw [List.length_drop, hl]
  have e1 : (cur.take (off + p + z) ++ xs.drop p ++ cur.drop (off + p + z + (xs.drop p).length)).take (off + p) = cur.take (off + p) := by
    rw [List.append_assoc, List.take_append_of_le_length (by rw [List.length_take]; omega), List.take_take, Nat.min_eq_left (by omega)]
  have e2 : (cur.take (off + p + z) ++ xs.drop p ++ cur.drop (off + p + z + (xs.drop p).length)).drop (off + p + vs.length) = xs.drop p ++ cur.drop (off + p + z + (xs.drop p).length) := by
    have hlen : (cur.take (off + p + z)).length = off + p + vs.length := by rw [List.length_take, hv]; omega
    rw [List.append_assoc, ← hlen, List.drop_left]
  rw [e1, e2]
  have e3 : (cur.take (off + p)).drop off = xs.take p := by
    rw [← hxs, List.drop_take, List.take_take, Nat.add_sub_cancel_left, Nat.min_eq_left h3]
  have hlt : (xs.take p).length = p := by rw [List.length_take, hl]; omega
  rw [List.append_assoc, List.drop_append_of_le_length (by rw [List.length_take]; omega), e3, ← List.append_assoc, ← List.append_assoc, List.take_append_of_le_length (by rw [List.length_append, List.length_append, hlt, hd, hv]; omega)]
  exact List.take_of_length_le (by rw [List.length_append, List.length_append, hlt, hd, hv]; omega)
theorem setCells_blk {w : World} {g o : Nat} {t : TypeId} {cur : Array Value} (h : Blk w g t cur) (vs : List Value) : Blk (w.setCells g o vs) g t (putMany cur o vs) := h.many vs o
theorem sizeT : (Try.prog.info? 31).map (·.size) = some 3 := by kernel_rfl
theorem info_T : (Try.prog.info? 31).map (fun i => (i.zero, i.size, i.bytes)) = some (some (.agg #[.string ⟨#[]⟩, .string ⟨#[]⟩, .bool false]), 3, 40) := by kernel_rfl
theorem no_overlap (w : World) (vb g o : Nat) (lb cb : Nat) (cs cur : Array Value) (hv : Blk w vb 31 cs) (hg : Blk w g 31 cur) (hne : vb ≠ g) (h0 : cur.size ≠ 0) :
    (callFunc 48 #[.slice (some ⟨vb, 0, none⟩) 1 1, .slice (some ⟨g, o, none⟩) lb cb]).run Try.prog w = .ok (.value (.bool false)) w := by
  obtain ⟨i0, hi, hz0, hz1, hz2⟩ := info_parts info_T
  rw [run_callFunc_extern Try.func48 (by kernel_rfl) (by kernel_rfl) (by kernel_rfl) (e := Extern.SlicesOverlaps.overlaps #[59, 59] #[4]) (by kernel_rfl),
    Lib.run_overlaps_apart w 59 4 31 Try.underlying59 3 (fun w => by simp [sizeOf, typeInfo, hi, hz1]) ⟨vb, 0, none⟩ ⟨g, o, none⟩ 1 1 lb cb hne 31 31 cs.size cur.size (by simp [World.shape?, hv, Blk] at hv ⊢; rw [hv]) (by simp [World.shape?, hg, Blk] at hg ⊢; rw [hg]) h0 (hv.frozen 0) (hv.frozen _)]
  rfl
/-- what Insert tells -/
def InsPost (w : World) (A : Option Addr) (n cap i : Nat) (xs vs : List Value) (e : Ending) (w' : World) : Prop :=
  ∃ A' cap', e = .returned (.slice A' (n + 1) cap') ∧ Sl w' 31 3 (.slice A' (n + 1) cap') (n + 1) (xs.take (i * 3) ++ vs ++ xs.drop (i * 3)) ∧ Only (own (.slice A n cap)) w w' ∧ ∀ k, own (.slice A' (n + 1) cap') k → own (.slice A n cap) k ∨ w.heap.size ≤ k
set_option maxHeartbeats 4000000 in
set_option maxRecDepth 100000 in
/-- at the end -/
theorem ins_end (w : World) (A : Option Addr) (n cap : Nat) (xs : List Value) (h : Sl w 31 3 (.slice A n cap) n xs) (vb : Nat) (vs : List Value) (hv : vs.length = 3) (hvb : Blk w vb 31 vs.toArray) (h1 : ∀ v ∈ vs, v.oneCell' = true) (hn : n ≤ 100000) :
    Calls Try.prog 41 #[.slice A n cap, .int .i64 (n : Int), .slice (some ⟨vb, 0, none⟩) 1 1] w fun e w' => InsPost w A n cap n xs vs e w' := by
  obtain ⟨i0, hi, hz0, hz1, hz2⟩ := info_parts info_T
  have HI := Lib.hid (And.intro hi (And.intro hz0 (And.intro hz1 hz2)))
  have HS : Hid (Src Try.prog 3 59 (.slice (some ⟨vb, 0, none⟩) 1 1) 1 vs w) := Lib.hid (by
    have := src_blk (P := Try.prog) (size := 3) hvb Try.underlying59 1 1 (by rw [List.size_toArray]; omega) (by simpa using h1)
    simpa using this)
  have HX := Lib.hid h
  obtain ⟨A9, cap9, he, hle, hml⟩ := h.form
  have hnc : n ≤ cap := by injection he with e1 e2 e3; omega
  have HE := Lib.hid h.len
  clear hi hz0 hz1 hz2 h he hml
  by_cases hcn : cap = n
  · obtain rfl : n = cap := hcn.symm
    go_enter Try.func41, Try.ntmps41
    go_wp2_with (at_builtin; go_loud (refine wpList_append_sl rfl _ _ 59 59 rfl 31 i0 _ 3 40 Try.underlying59 HI.out.1 HI.out.2.1 HI.out.2.2.1 HI.out.2.2.2 rfl _ n xs rfl HX.out _ 1 vs rfl HS.out ?c1 ?c2 ?_))
    case c1 => unfold maxLen; omega
    case c2 => omega
    intro A' cap' w' h2 h3 h4
    go_wp2
    go_ret
    refine ⟨A', cap', rfl, ?_, h3, fun k hk => (h4 k hk).imp id (fun e => by rw [e]; exact Nat.le_refl _)⟩
    have e1 : xs.take (n * 3) = xs := List.take_of_length_le (by rw [HE.out]; exact Nat.le_refl _)
    have e2 : xs.drop (n * 3) = [] := List.drop_eq_nil_of_le (by rw [HE.out]; exact Nat.le_refl _)
    rw [e1, e2, List.append_nil]
    exact h2
  · have hcn2 : ¬ n = cap := fun e => hcn e.symm
    go_enter Try.func41, Try.ntmps41
    go_wp2_with (at_builtin; go_loud (refine wpList_append_sl rfl _ _ 59 59 rfl 31 i0 _ 3 40 Try.underlying59 HI.out.1 HI.out.2.1 HI.out.2.2.1 HI.out.2.2.2 rfl _ n xs rfl HX.out _ 1 vs rfl HS.out ?c1 ?c2 ?_))
    case c1 => unfold maxLen; omega
    case c2 => omega
    intro A' cap' w' h2 h3 h4
    go_wp2
    go_ret
    refine ⟨A', cap', rfl, ?_, h3, fun k hk => (h4 k hk).imp id (fun e => by rw [e]; exact Nat.le_refl _)⟩
    have e1 : xs.take (n * 3) = xs := List.take_of_length_le (by rw [HE.out]; exact Nat.le_refl _)
    have e2 : xs.drop (n * 3) = [] := List.drop_eq_nil_of_le (by rw [HE.out]; exact Nat.le_refl _)
    rw [e1, e2, List.append_nil]
    exact h2
theorem add_mul3 (g off i : Nat) : (⟨g, off, none⟩ : Addr).add (i * 3) = ⟨g, off + i * 3, none⟩ := by unfold Addr.add; split <;> simp_all
set_option maxHeartbeats 4000000 in
set_option maxRecDepth 100000 in
/-- there is room -/
theorem ins_shift (w : World) (g off n cap i : Nat) (cur : Array Value) (xs : List Value) (hg : Blk w g 31 cur) (hnc : n + 1 ≤ cap) (hml : cap ≤ maxLen) (hfit : off + cap * 3 ≤ cur.size) (hxs : (cur.toList.drop off).take (n * 3) = xs) (hl : xs.length = n * 3) (hi : i < n) (h1x : ∀ v ∈ xs, v.oneCell' = true)
    (vb : Nat) (vs : List Value) (hv : vs.length = 3) (hvb : Blk w vb 31 vs.toArray) (hne : vb ≠ g) (h1 : ∀ v ∈ vs, v.oneCell' = true) (hn : n ≤ 100000) :
    Calls Try.prog 41 #[.slice (some ⟨g, off, none⟩) n cap, .int .i64 (i : Int), .slice (some ⟨vb, 0, none⟩) 1 1] w fun e w' => InsPost w (some ⟨g, off, none⟩) n cap i xs vs e w' := by
  have hml' : cap ≤ 9223372036854775807 := by unfold maxLen at hml; exact hml
  have hcell : ∀ j v, xs[j]? = some v → w.cell? ⟨g, off + j, none⟩ = some v := fun j v hj => by
    rw [hg.cell]
    rw [← hxs, List.getElem?_take] at hj
    split at hj
    · rw [List.getElem?_drop] at hj
      rw [← Array.getElem?_toList]
      exact hj
    · cases hj
  have hthere : ∀ j, j < (n + 1) * 3 → (w.cell? ⟨g, off + j, none⟩).isSome = true := fun j hj => by rw [hg.cell, Array.getElem?_eq_getElem (by omega)]; rfl
  have hdl : (xs.drop (i * 3)).length = (n - i) * 3 := by rw [List.length_drop, hl]; omega
  have hov : ∀ lb cb, (callFunc 48 #[.slice (some ⟨vb, 0, none⟩) 1 1, .slice (some ⟨g, off + (i + 1) * 3, none⟩) lb cb]).run Try.prog w = .ok (.value (.bool false)) w := fun lb cb => no_overlap w vb g _ lb cb _ _ hvb hg hne (by omega)
  have hcp1 : ∀ ty dc sc, (Builtin.copy_ #[59, 59] ty #[.slice (some ⟨g, off + (i + 1) * 3, none⟩) (n - i) dc, .slice (some ⟨g, off + i * 3, none⟩) (n + 1 - i) sc]).run Try.prog w.drew = .ok (goInt ((n - i : Nat) : Int)) (w.drew.setCells g (off + (i + 1) * 3) (xs.drop (i * 3))) := fun ty dc sc =>
    run_copy_z w.drew _ _ ty 31 3 (n - i) g (off + (i + 1) * 3) (n - i) dc ⟨g, off + i * 3, none⟩ (n + 1 - i) sc (xs.drop (i * 3)) Try.underlying59 sizeT (by simp only [Nat.min_def]; split <;> omega) hdl
      (fun j v hj => by rw [show (⟨g, off + i * 3, none⟩ : Addr).add j = ⟨g, off + (i * 3 + j), none⟩ from by unfold Addr.add; split <;> simp_all [Nat.add_assoc]]; exact hcell _ v (by rwa [List.getElem?_drop] at hj))
      (fun j hj => by rw [Nat.add_assoc]; exact hthere _ (by rw [hdl] at hj; omega)) (fun j hj => hg.frozen _) (fun v hv => h1x v (List.mem_of_mem_drop hv))
  obtain ⟨W1, hW1⟩ : ∃ W1, W1 = w.drew.setCells g (off + (i + 1) * 3) (xs.drop (i * 3)) := ⟨_, rfl⟩
  have hg1 : Blk W1 g 31 (putMany cur (off + (i + 1) * 3) (xs.drop (i * 3))) := by rw [hW1]; exact hg.drew.many _ _
  have hv1 : Blk W1 vb 31 vs.toArray := by rw [hW1]; exact (setCells_heap_ne g _ _ _ vb hne).trans hvb
  have hcp2 : ∀ ty dc, (Builtin.copy_ #[59, 59] ty #[.slice (some ⟨g, off + i * 3, none⟩) (n + 1 - i) dc, .slice (some ⟨vb, 0, none⟩) 1 1]).run Try.prog W1 = .ok (goInt 1) (W1.setCells g (off + i * 3) vs) := fun ty dc =>
    run_copy_z W1 _ _ ty 31 3 1 g (off + i * 3) (n + 1 - i) dc ⟨vb, 0, none⟩ 1 1 vs Try.underlying59 sizeT (by simp only [Nat.min_def]; split <;> omega) (by omega)
      (fun j v hj => by rw [show (⟨vb, 0, none⟩ : Addr).add j = ⟨vb, j, none⟩ from by unfold Addr.add; split <;> simp_all, hv1.cell]; simpa using hj)
      (fun j hj => by rw [hg1.cell, Array.getElem?_eq_getElem (by rw [putMany_size]; omega)]; rfl) (fun j hj => hg1.frozen _) h1
  rw [← hW1] at hcp1
  have hz2 : ¬ ((i : Int) = (n : Int)) := by omega
  have mixed : Try.prog.follows .mixedOrders = true := by kernel_rfl
  have hw1 : IntKind.i64.wrap ((i : Int) + 1) = (i : Int) + 1 := IntWalk.i64_in _ ⟨by omega, by omega⟩
  have hw2 : IntKind.i64.wrap ((n : Int) + 1) = (n : Int) + 1 := IntWalk.i64_in _ ⟨by omega, by omega⟩
  have hb1 : (0 : Int) ≤ (i : Int) + 1 := by omega
  have hb0 : (0 : Int) ≤ (n : Int) + 1 := by omega
  have htn : ((i : Int) + 1).toNat = i + 1 := by omega
  have htm : ((n : Int) + 1).toNat = n + 1 := by omega
  have hb2 : ¬ (cap = i + 1) := by omega
  have hb4 : ¬ (cap = i) := by omega
  have hb3 : (i : Int) + 1 ≤ (n : Int) + 1 := by omega
  have hb5 : (i : Int) ≤ (n : Int) + 1 := by omega
  have hb6 : (n : Int) + 1 ≤ (cap : Int) := by omega
  have hb7 : ¬ ((cap : Int) < (n : Int) + 1) := by omega
  have hin : (i : Int) ≤ (n : Int) := by omega
  have H0 := Lib.hid (And.intro hg (And.intro hg1 (And.intro hxs (And.intro hl (And.intro hfit (And.intro hv hW1))))))
  clear hcell hthere hdl hg hg1 hxs hl hv hvb hv1 h1 h1x hml hW1
  go_enter Try.func41, Try.ntmps41
  go_wp2_with (simp only [hov])
  go_region_law_o (refine step_copy_z rfl _ _ 59 59 rfl _ _ (by simp [Act.eval, Act.put]) (by simp [Act.eval, Act.put]) (hcp1 _ _ _) ?_)
  go_wp2_with (at_builtin; refine wpList_copy_z _ rfl _ _ 59 59 rfl _ _ rfl rfl (hcp2 _ _) ?_)
  go_ret
  obtain ⟨hg, hg1, hxs, hl, hfit, hv, hW1⟩ := H0.out
  have hg2 := hg1.many vs (off + i * 3)
  have hp1 := putMany_list (xs.drop (i * 3)) (off + (i + 1) * 3) cur (by rw [List.length_drop, hl]; omega)
  have hp2 := putMany_list vs (off + i * 3) (putMany cur (off + (i + 1) * 3) (xs.drop (i * 3))) (by rw [putMany_size]; omega)
  have hsh := shifted cur.toList xs vs off (i * 3) (n * 3) 3 hxs hl (by omega) hv (by rw [Array.length_toList]; omega)
  refine ⟨_, _, rfl, ⟨?_, .inr ⟨g, off, cap, _, rfl, hg2, by omega, hml', by rw [putMany_size, putMany_size]; exact hfit, ?_⟩⟩, ?_, fun k hk => .inl hk⟩
  · rw [List.length_append, List.length_append, List.length_take, List.length_drop, hl, hv]; omega
  · rw [hp2, hp1, show (n + 1) * 3 = n * 3 + 3 from by omega, show off + (i + 1) * 3 = off + i * 3 + 3 from by omega]
    exact hsh
  · obtain ⟨o1, o2, o3⟩ := setCells_os g vs (off + i * 3) W1
    obtain ⟨p1, p2, p3⟩ := setCells_os g (xs.drop (i * 3)) (off + (i + 1) * 3) w.drew
    rw [← hW1] at p1 p2 p3
    refine ⟨o1.trans p1, o2.trans p2, o3.trans p3, by rw [setCells_size, hW1, setCells_size]; exact Nat.le_refl _, fun k _ hk => ?_⟩
    have hkg : k ≠ g := fun e => hk (by rw [e]; rfl)
    rw [setCells_heap_ne g vs _ W1 k hkg, hW1, setCells_heap_ne g _ _ w.drew k hkg]
    rfl
set_option maxHeartbeats 4000000 in
set_option maxRecDepth 100000 in
/-- no room: a new row -/
theorem ins_grow (w : World) (g off n cap i : Nat) (cur : Array Value) (xs : List Value) (hg : Blk w g 31 cur) (hle : n ≤ cap) (hnc : cap < n + 1) (hml : cap ≤ maxLen) (hfit : off + cap * 3 ≤ cur.size) (hxs : (cur.toList.drop off).take (n * 3) = xs) (hl : xs.length = n * 3) (hi : i < n) (h1x : ∀ v ∈ xs, v.oneCell' = true)
    (vb : Nat) (vs : List Value) (hv : vs.length = 3) (hvb : Blk w vb 31 vs.toArray) (h1 : ∀ v ∈ vs, v.oneCell' = true) (hn : n ≤ 100000) :
    Calls Try.prog 41 #[.slice (some ⟨g, off, none⟩) n cap, .int .i64 (i : Int), .slice (some ⟨vb, 0, none⟩) 1 1] w fun e w' => InsPost w (some ⟨g, off, none⟩) n cap i xs vs e w' := by
  obtain ⟨i0, hi0, hz0, hzs, hzb⟩ := info_parts info_T
  have hml' : cap ≤ 9223372036854775807 := by unfold maxLen at hml; exact hml
  have hcell : ∀ j v, xs[j]? = some v → w.cell? ⟨g, off + j, none⟩ = some v := fun j v hj => by
    rw [hg.cell]
    rw [← hxs, List.getElem?_take] at hj
    split at hj
    · rw [List.getElem?_drop] at hj
      rw [← Array.getElem?_toList]
      exact hj
    · cases hj
  have hdl : (xs.drop (i * 3)).length = (n - i) * 3 := by rw [List.length_drop, hl]; omega
  have htl : (xs.take (i * 3)).length = i * 3 := by rw [List.length_take, hl]; omega
  have hgw := hg.lt
  have hvw := hvb.lt
  have hkk : (n : Int) + 1 - (i : Int) = ((n + 1 - i : Nat) : Int) := by omega
  have hik : i + (n + 1 - i) = n + 1 := by omega
  have hold : (Builtin.firstCells i0.size i (.slice (some ⟨g, off, none⟩) i cap)).run Try.prog w.drew = .ok (xs.take (i * 3)).toArray w.drew := by
    rw [hzs]
    exact run_firstCells_some w.drew 3 i ⟨g, off, none⟩ i cap (xs.take (i * 3)) htl (fun j v hj => by
      rw [show (⟨g, off, none⟩ : Addr).add j = ⟨g, off + j, none⟩ from by unfold Addr.add; split <;> simp_all]
      rw [List.getElem?_take] at hj
      split at hj
      · exact hcell j v hj
      · cases hj)
  have hrz : ∀ ty, (Builtin.append_ #[59, 3] ty #[.slice (some ⟨g, off, none⟩) i cap, .int .i64 ((n : Int) + 1 - (i : Int))]).run Try.prog w =
      .ok (.slice (some ⟨w.heap.size, 0, none⟩) (n + 1) (grownCap w (n + 1) cap 31)) (w.drew.alloc (.cells ((xs.take (i * 3)).toArray ++ Builtin.zeroCells (Value.agg #[.string ⟨#[]⟩, .string ⟨#[]⟩, .bool false]).cells (n + 1 - i) ++ Builtin.zeroCells (Value.agg #[.string ⟨#[]⟩, .string ⟨#[]⟩, .bool false]).cells (grownCap w (n + 1) cap 31 - (n + 1))) 31)) := fun ty => by
    have h := Lib.run_append_grow_zeros w 59 3 ty 31 i0 _ .i64 .i64 Try.underlying59 Try.underlying3 hi0 hz0 (some ⟨g, off, none⟩) i cap (xs.take (i * 3)) hold (n + 1 - i) (by omega) (by omega) (by omega) (by omega) (by rw [hzb]; omega) (by rw [hzb, hik]; exact growslice_fits hnc (by omega))
    rw [hik] at h
    rw [hkk]
    exact h
  obtain ⟨G, hG⟩ : ∃ G, G = grownCap w (n + 1) cap 31 := ⟨_, rfl⟩
  rw [← hG] at hrz
  have hGn : n + 1 ≤ G := by rw [hG]; exact grownCap_ge w _ _ _
  have hGml : G ≤ maxLen := by rw [hG]; exact grownCap_le_maxLen w (n + 1) cap 31 (by unfold maxLen; omega)
  have hG63 : G ≤ 9223372036854775807 := by unfold maxLen at hGml; exact hGml
  have hzc : ((Value.agg #[.string ⟨#[]⟩, .string ⟨#[]⟩, .bool false]).cells).size = 3 := rfl
  obtain ⟨ROW, hROW⟩ : ∃ ROW : Array Value, ROW = (xs.take (i * 3)).toArray ++ Builtin.zeroCells (Value.agg #[.string ⟨#[]⟩, .string ⟨#[]⟩, .bool false]).cells (n + 1 - i) ++ Builtin.zeroCells (Value.agg #[.string ⟨#[]⟩, .string ⟨#[]⟩, .bool false]).cells (G - (n + 1)) := ⟨_, rfl⟩
  rw [← hROW] at hrz
  have hRs : ROW.size = G * 3 := by rw [hROW, Array.size_append, Array.size_append, size_zeroCells, size_zeroCells, hzc, List.size_toArray, htl]; omega
  have hRl : ROW.toList.take (i * 3) = xs.take (i * 3) := by
    rw [hROW, Array.toList_append, Array.toList_append, List.append_assoc, List.take_append_of_le_length (by show i * 3 ≤ (xs.take (i * 3)).length; omega)]
    exact List.take_of_length_le (by show (xs.take (i * 3)).length ≤ i * 3; omega)
  obtain ⟨W1, hW1⟩ : ∃ W1, W1 = w.drew.alloc (.cells ROW 31) := ⟨_, rfl⟩
  rw [← hW1] at hrz
  have hg1 : Blk W1 g 31 cur := by rw [hW1]; exact hg.drew.alloc _
  have hv1 : Blk W1 vb 31 vs.toArray := by rw [hW1]; exact hvb.drew.alloc _
  have hN1 : Blk W1 w.heap.size 31 ROW := by rw [hW1]; exact Blk.new w.drew _ _
  have hcpA : ∀ ty dc, (Builtin.copy_ #[59, 59] ty #[.slice (some ⟨w.heap.size, i * 3, none⟩) (n + 1 - i) dc, .slice (some ⟨vb, 0, none⟩) 1 1]).run Try.prog W1 = .ok (goInt 1) (W1.setCells w.heap.size (i * 3) vs) := fun ty dc =>
    run_copy_z W1 _ _ ty 31 3 1 w.heap.size (i * 3) (n + 1 - i) dc ⟨vb, 0, none⟩ 1 1 vs Try.underlying59 sizeT (by simp only [Nat.min_def]; split <;> omega) (by omega)
      (fun j v hj => by rw [show (⟨vb, 0, none⟩ : Addr).add j = ⟨vb, j, none⟩ from by unfold Addr.add; split <;> simp_all, hv1.cell]; simpa using hj)
      (fun j hj => by rw [hN1.cell, Array.getElem?_eq_getElem (by omega)]; rfl) (fun j hj => hN1.frozen _) h1
  obtain ⟨W2, hW2⟩ : ∃ W2, W2 = W1.setCells w.heap.size (i * 3) vs := ⟨_, rfl⟩
  rw [← hW2] at hcpA
  have hN2 : Blk W2 w.heap.size 31 (putMany ROW (i * 3) vs) := by rw [hW2]; exact hN1.many _ _
  have hg2 : Blk W2 g 31 cur := by rw [hW2]; exact (setCells_heap_ne _ _ _ _ g (by omega)).trans hg1
  have hcpB : ∀ ty dc sc, (Builtin.copy_ #[59, 59] ty #[.slice (some ⟨w.heap.size, (i + 1) * 3, none⟩) (n - i) dc, .slice (some ⟨g, off + i * 3, none⟩) (n - i) sc]).run Try.prog W2.drew = .ok (goInt ((n - i : Nat) : Int)) (W2.drew.setCells w.heap.size ((i + 1) * 3) (xs.drop (i * 3))) := fun ty dc sc =>
    run_copy_z W2.drew _ _ ty 31 3 (n - i) w.heap.size ((i + 1) * 3) (n - i) dc ⟨g, off + i * 3, none⟩ (n - i) sc (xs.drop (i * 3)) Try.underlying59 sizeT (by simp) hdl
      (fun j v hj => by
        rw [show (⟨g, off + i * 3, none⟩ : Addr).add j = ⟨g, off + (i * 3 + j), none⟩ from by unfold Addr.add; split <;> simp_all [Nat.add_assoc]]
        rw [List.getElem?_drop] at hj
        have h2 := hcell _ v hj
        rw [hg.cell] at h2
        exact (hg2.drew.cell _).trans h2)
      (fun j hj => by rw [hN2.drew.cell, Array.getElem?_eq_getElem (by rw [putMany_size, hRs]; rw [hdl] at hj; omega)]; rfl) (fun j hj => hN2.drew.frozen _) (fun v hv => h1x v (List.mem_of_mem_drop hv))
  have hz2 : ¬ ((i : Int) = (n : Int)) := by omega
  have mixed : Try.prog.follows .mixedOrders = true := by kernel_rfl
  have hw1 : IntKind.i64.wrap ((i : Int) + 1) = (i : Int) + 1 := IntWalk.i64_in _ ⟨by omega, by omega⟩
  have hb1 : (0 : Int) ≤ (i : Int) + 1 := by omega
  have htn : ((i : Int) + 1).toNat = i + 1 := by omega
  have hb2 : ¬ (G = i + 1) := by omega
  have hb4 : ¬ (G = i) := by omega
  have hci : ¬ (cap = i) := by omega
  have hb3 : (i : Int) + 1 ≤ (n : Int) + 1 := by omega
  have hb5 : (i : Int) ≤ (n : Int) + 1 := by omega
  have hb7 : (cap : Int) < (n : Int) + 1 := by omega
  have hin : (i : Int) ≤ (n : Int) := by omega
  have H0 := Lib.hid (And.intro hN2 (And.intro hRs (And.intro hRl (And.intro hl (And.intro hv (And.intro hW1 (And.intro hW2 (And.intro hGml hik))))))))
  clear hcell hdl htl hgw hvw hkk hik hold hG hzc hROW hW1 hW2 hRs hRl hg hg1 hg2 hN1 hN2 hxs hl hv hvb hv1 h1 h1x hml hGml hi0 hz0 hzs hzb
  go_enter Try.func41, Try.ntmps41
  go_wp2_with (first
    | (at_builtin; refine Lib.wpList_append_run _ rfl _ _ _ _ rfl _ _ rfl rfl _ _ (hrz _) ?_)
    | (at_builtin; refine wpList_copy_z _ rfl _ _ 59 59 rfl _ _ rfl rfl (hcpA _ _) ?_))
  go_region_law_o (refine step_copy_z rfl _ _ 59 59 rfl _ _ (by simp [Act.eval, Act.put]) (by simp [Act.eval, Act.put]) (hcpB _ _ _) ?_)
  go_wp2
  go_ret
  obtain ⟨hN2, hRs, hRl, hl, hv, hW1, hW2, hGml, hik⟩ := H0.out
  have hN3 := hN2.drew.many (xs.drop (i * 3)) ((i + 1) * 3)
  have hdl : (xs.drop (i * 3)).length = n * 3 - i * 3 := by rw [List.length_drop, hl]
  have hp1 := putMany_list vs (i * 3) ROW (by omega)
  have hp2 := putMany_list (xs.drop (i * 3)) ((i + 1) * 3) (putMany ROW (i * 3) vs) (by rw [putMany_size, hdl]; omega)
  have htl : (xs.take (i * 3)).length = i * 3 := by rw [List.length_take, hl]; omega
  refine ⟨_, _, rfl, ⟨?_, .inr ⟨w.heap.size, 0, G, _, rfl, hN3, hGn, hGml, by rw [putMany_size, putMany_size, hRs]; omega, ?_⟩⟩, ?_, fun k hk => .inr (by cases hk; exact Nat.le_refl _)⟩
  · rw [List.length_append, List.length_append, htl, hdl, hv]; omega
  · rw [hp2, hp1, hRl, List.drop_zero]
    have e1 : (xs.take (i * 3) ++ vs ++ ROW.toList.drop (i * 3 + vs.length)).take ((i + 1) * 3) = xs.take (i * 3) ++ vs := by
      rw [List.take_append_of_le_length (by rw [List.length_append, htl, hv]; omega)]
      exact List.take_of_length_le (by rw [List.length_append, htl, hv]; omega)
    rw [e1, List.take_append_of_le_length (by rw [List.length_append, List.length_append, htl, hdl, hv]; omega)]
    exact List.take_of_length_le (by rw [List.length_append, List.length_append, htl, hdl, hv]; omega)
  · have o2 := setCells_os w.heap.size (xs.drop (i * 3)) ((i + 1) * 3) W2.drew
    have o1 := setCells_os w.heap.size vs (i * 3) W1
    rw [← hW2] at o1
    have os1 : W1.os = w.os ∧ W1.tape = w.tape ∧ W1.output = w.output := by rw [hW1]; exact ⟨rfl, rfl, rfl⟩
    have z1 : W1.heap.size = w.heap.size + 1 := by rw [hW1]; exact World.size_alloc ..
    have z2 : W2.heap.size = w.heap.size + 1 := by rw [hW2, setCells_size, z1]
    refine ⟨o2.1.trans (o1.1.trans os1.1), o2.2.1.trans (o1.2.1.trans os1.2.1), o2.2.2.trans (o1.2.2.trans os1.2.2), by rw [setCells_size]; show w.heap.size ≤ W2.heap.size; omega, fun k hk _ => ?_⟩
    rw [setCells_heap_ne w.heap.size _ _ W2.drew k (by omega)]
    show W2.heap[k]? = _
    rw [hW2, setCells_heap_ne w.heap.size vs _ W1 k (by omega), hW1]
    exact Below.heap_alloc w.drew _ k hk
/-- slices.Insert of one element -/
theorem ins_calls (w : World) (A : Option Addr) (n cap i : Nat) (xs : List Value) (h : Sl w 31 3 (.slice A n cap) n xs) (hi : i ≤ n) (h1x : ∀ v ∈ xs, v.oneCell' = true) (vb : Nat) (vs : List Value) (hv : vs.length = 3) (hvb : Blk w vb 31 vs.toArray) (hne : ¬ own (.slice A n cap) vb) (h1 : ∀ v ∈ vs, v.oneCell' = true) (hn : n ≤ 100000) :
    Calls Try.prog 41 #[.slice A n cap, .int .i64 (i : Int), .slice (some ⟨vb, 0, none⟩) 1 1] w fun e w' => InsPost w A n cap i xs vs e w' := by
  rcases Nat.lt_or_ge i n with hlt | hge
  · obtain ⟨g, off, c9, cur, he, hb, h2, h3, h4, h5⟩ := h.form_pos (by omega)
    injection he with e1 e2 e3
    subst e1 e3
    rcases Nat.lt_or_ge cap (n + 1) with hc | hc
    · exact ins_grow w g off n cap i cur xs hb h2 hc h3 h4 h5 h.len hlt h1x vb vs hv hvb h1 hn
    · exact ins_shift w g off n cap i cur xs hb hc h3 h4 h5 h.len hlt h1x vb vs hv hvb (fun e => hne (by rw [e]; rfl)) h1 hn
  · obtain rfl : i = n := by omega
    exact ins_end w A i cap xs h vb vs hv hvb h1 hn
end Go.Proofs.Ytjcilknfhkpepaa.Ins
/- A region whose quiet operations are taken one after another, skipped ones too: the goal is kept in a box, so that nothing unfolds it. -/
namespace Go.Proofs.Ytjcilknfhkpepaa.StillB
open Go
structure Box (p : Prop) : Prop where
  out : p
theorem step_ {P : Program} {ops : Array Oper} {w : World} {Q : Act → Prop} {a : Act} {o : Oper} {rest : List Oper} (h : ∀ K : Act → Prop, (∀ a, Box (wpStill P ops w Q rest a) → K a) → if Region.wanted o (yielded ops a.tmps) then o.still P a w K else K (a.put o.dst undef)) : Box (wpStill P ops w Q (o :: rest) a) :=
  Box.mk (wpStill_step fun K hK => h K fun a ha => hK a ha.out)
theorem nil_ {P : Program} {ops : Array Oper} {w : World} {Q : Act → Prop} {a : Act} (h : Q a) : Box (wpStill P ops w Q [] a) := Box.mk h
theorem out_ {p : Prop} (h : Box p) : p := h.out
end Go.Proofs.Ytjcilknfhkpepaa.StillB
/- batch: the state of a batch, and place, walked. -/
namespace Go.Proofs.Ytjcilknfhkpepaa.Bat
open Go.RowKit Go.Proofs.Ytjcilknfhkpepaa.Mem Go.Proofs.Ytjcilknfhkpepaa.X Go.Proofs.YtjcilknfhkpepaaW.PrintWords Go.Proofs.YtjcilknfhkpepaaW.PrintLast Go.Proofs.YtjcilknfhkpepaaW.PrintMore Go.Proofs.Ytjcilknfhkpepaa.Aid
set_option linter.unusedVariables false
set_option linter.unusedSimpArgs false
def ccells (c : Ch) : List Value := [.string c.key, .string c.value, .bool c.gone]
def bcells (l : List Ch) : List Value := l.flatMap ccells
theorem bcells_len : ∀ l : List Ch, (bcells l).length = l.length * 3
  | [] => rfl
  | c :: t => by
    have := bcells_len t
    have e : bcells (c :: t) = ccells c ++ bcells t := List.flatMap_cons
    rw [e, List.length_append, this, List.length_cons, Nat.succ_mul]
    show 3 + _ = _
    omega
theorem bcells_at : ∀ (l : List Ch) (i : Nat) (h : i < l.length) (j : Nat), j < 3 → (bcells l)[i * 3 + j]? = (ccells l[i])[j]?
  | c :: t, 0, h, j, hj => by
    have e : bcells (c :: t) = ccells c ++ bcells t := List.flatMap_cons
    rw [e, List.getElem?_append_left (by show 0 * 3 + j < 3; omega)]
    simp
  | c :: t, i + 1, h, j, hj => by
    have e : bcells (c :: t) = ccells c ++ bcells t := List.flatMap_cons
    rw [e, List.getElem?_append_right (by show 3 ≤ _; omega), show (i + 1) * 3 + j - (ccells c).length = i * 3 + j from by show (i + 1) * 3 + j - 3 = _; omega]
    exact bcells_at t i (by simpa using h) j hj
theorem bcells_take : ∀ (l : List Ch) (i : Nat), (bcells l).take (i * 3) = bcells (l.take i)
  | [], i => by simp [bcells]
  | c :: t, 0 => by simp [bcells]
  | c :: t, i + 1 => by
    have e : bcells (c :: t) = ccells c ++ bcells t := List.flatMap_cons
    have e2 : bcells ((c :: t).take (i + 1)) = ccells c ++ bcells (t.take i) := List.flatMap_cons
    rw [e, e2, List.take_append, List.take_of_length_le (by show 3 ≤ _; omega), show (i + 1) * 3 - (ccells c).length = i * 3 from by show (i + 1) * 3 - 3 = _; omega, bcells_take t i]
theorem bcells_drop : ∀ (l : List Ch) (i : Nat), (bcells l).drop (i * 3) = bcells (l.drop i)
  | [], i => by simp [bcells]
  | c :: t, 0 => by simp
  | c :: t, i + 1 => by
    have e : bcells (c :: t) = ccells c ++ bcells t := List.flatMap_cons
    rw [e, List.drop_append, List.drop_eq_nil_of_le (by show 3 ≤ _; omega), List.nil_append, show (i + 1) * 3 - (ccells c).length = i * 3 from by show (i + 1) * 3 - 3 = _; omega, bcells_drop t i]
    rfl
theorem bcells_app (a b : List Ch) : bcells (a ++ b) = bcells a ++ bcells b := List.flatMap_append
theorem one_ccells (c : Ch) : ∀ v ∈ ccells c, v.oneCell' = true := by
  intro v hv
  simp [ccells] at hv
  rcases hv with rfl | rfl | rfl <;> rfl
theorem one_bcells (l : List Ch) : ∀ v ∈ bcells l, v.oneCell' = true := by
  intro v hv
  obtain ⟨c, _, h⟩ := List.mem_flatMap.1 hv
  exact one_ccells c v h
/-- a batch in memory: its block, and its row -/
structure Bt (w : World) (p : Nat) (v : Value) (l : List Ch) : Prop where
  blk : Blk w p 65 #[v]
  row : Sl w 31 3 v l.length (bcells l)
theorem Bt.below {w w' : World} {p : Nat} {v : Value} {l : List Ch} (h : Bt w p v l) (hb : Below w.heap.size w w') : Bt w' p v l := ⟨h.blk.below hb, h.row.below hb⟩
theorem Bt.alloc {w : World} {p : Nat} {v : Value} {l : List Ch} (h : Bt w p v l) (o : Obj) : Bt (w.alloc o) p v l := ⟨h.blk.alloc o, h.row.alloc o⟩
theorem Bt.drew {w : World} {p : Nat} {v : Value} {l : List Ch} (h : Bt w p v l) : Bt w.drew p v l := ⟨h.blk.drew, h.row.drew⟩
theorem Bt.only {w w' : World} {p : Nat} {v : Value} {l : List Ch} {F : Nat → Prop} (h : Bt w p v l) (ho : Only F w w') (h1 : ¬ F p) (h2 : ∀ k, own v k → ¬ F k) : Bt w' p v l := ⟨ho.blk h.blk h1, h.row.only ho h2⟩
theorem Bt.apart {w : World} {p : Nat} {v : Value} {l : List Ch} (h : Bt w p v l) : ¬ own v p := h.row.type_ne h.blk (by decide)
/-- the cells of one change -/
theorem Bt.at {w : World} {p : Nat} {A : Option Addr} {n cap : Nat} {l : List Ch} (h : Bt w p (.slice A n cap) l) {i : Nat} (hi : i < l.length) :
    ∃ g off, A = some ⟨g, off, none⟩ ∧ w.cell? ⟨g, off + i * 3, none⟩ = some (.string l[i].key) ∧ w.cell? ⟨g, off + i * 3 + 1, none⟩ = some (.string l[i].value) ∧ w.cell? ⟨g, off + i * 3 + 2, none⟩ = some (.bool l[i].gone) := by
  obtain ⟨g, off, c, cur, hv, hb, h2, h3, h4, h5⟩ := h.row.form_pos (by omega)
  have hn : n = l.length := by injection hv
  injection hv with e1 e2 e3
  subst e1
  have hv : (.slice (some ⟨g, off, none⟩) n cap : Value) = .slice (some ⟨g, off, none⟩) l.length cap := by rw [hn]
  have c0 := h.row.cell hv (j := i * 3 + 0) (by omega)
  have c1 := h.row.cell hv (j := i * 3 + 1) (by omega)
  have c2 := h.row.cell hv (j := i * 3 + 2) (by omega)
  rw [bcells_at l i hi _ (by omega)] at c0 c1 c2
  exact ⟨g, off, rfl, c0, c1, c2⟩
theorem lt_iff (a b : ByteArray) : (a.toList < b.toList) ↔ lt a b := by
  rw [tl, tl]
  rfl
theorem less_eq : ∀ (x y : List UInt8), Op.bytesLess x y = decide (x < y)
  | [], [] => rfl
  | [], _ :: _ => by simp [Op.bytesLess]
  | _ :: _, [] => by simp [Op.bytesLess]
  | a :: x, b :: y => by
    rw [Op.bytesLess, less_eq x y, Bool.eq_iff_iff]
    simp only [Bool.or_eq_true, Bool.and_eq_true, decide_eq_true_eq, beq_iff_eq, List.cons_lt_cons_iff]
theorem less_yes {a b : ByteArray} (h : lt a b) : Op.bytesLess a.toList b.toList = true := by rw [less_eq]; exact decide_eq_true ((lt_iff a b).2 h)
theorem less_no {a b : ByteArray} (h : ¬ lt a b) : Op.bytesLess a.toList b.toList = false := by rw [less_eq]; exact decide_eq_false fun e => h ((lt_iff a b).1 e)
set_option maxHeartbeats 4000000 in
set_option maxRecDepth 100000 in
theorem place_calls (w : World) (p : Nat) (v : Value) (l : List Ch) (key : ByteArray) (h : Bt w p v l) (hs : Sorted l) (hn : l.length ≤ 100000) :
    Calls Try.prog 31 #[.pointer (some ⟨p, 0, none⟩), .string key] w fun e w' => e = .returned (.tuple #[.int .i64 (pos l key : Int), .bool (there l key)]) ∧ Below w.heap.size w w' := by
  obtain ⟨A, cap, rfl, hnc, hml⟩ := h.row.form
  have hlt0 := h.blk.lt
  have HS := Lib.hid hs
  have HN := Lib.hid hn
  have HT := Lib.hid h
  have x0 : w.cell? ⟨p, 0, none⟩ = some (.slice A l.length cap) := (h.blk.cell 0).trans rfl
  clear hs h hml hnc
  go_enter Try.func31, Try.ntmps31
  go_wp2
  refine wp_region_still_lit (by kernel_rfl) (by kernel_rfl) ?_
  repeat still_step
  refine wpStill_nil ?_
  go_wp2
  go_loopw [6, 7] (fun lo hi wr => ∃ a b : Nat, lo = .int .i64 a ∧ hi = .int .i64 b ∧ a ≤ pos l key ∧ pos l key ≤ b ∧ b ≤ l.length ∧ Bt wr p (.slice A l.length cap) l ∧ Below w.heap.size w wr) (fun lo hi _ => (intOf hi - intOf lo).toNat)
  case atStart => exact ⟨0, l.length, rfl, rfl, Nat.zero_le _, pos_le l key, Nat.le_refl _, HT.out.drew, (Below.refl _ w).drew⟩
  case round =>
    obtain ⟨a, b, rfl, rfl, ha, hb, hbl, hbt, hbw⟩ := hrel
    clear x0 HT
    have x0 : wr.cell? ⟨p, 0, none⟩ = some (.slice A l.length cap) := (hbt.blk.cell 0).trans rfl
    have HT := Lib.hid hbt
    clear hbt
    by_cases hab : a < b
    · have hab' : (a : Int) < (b : Int) := by omega
      obtain ⟨m, hm⟩ : ∃ m, m = (a + b) / 2 := ⟨_, rfl⟩
      have hma : a ≤ m := by omega
      have hmb : m < b := by omega
      have hml : m < l.length := by omega
      have hq : Int.tdiv ((a : Int) + (b : Int)) 2 = (m : Int) := by rw [Int.tdiv_eq_ediv_of_nonneg (by omega)]; omega
      have hw : wrap64 ((a : Int) + (b : Int)) = (a : Int) + (b : Int) := w64 (by omega) (by have := HN.out; omega)
      have hmi : (m : Int) < (l.length : Int) := by omega
      obtain ⟨g, off, hA, c0, c1, c2⟩ := HT.out.at hml
      subst hA
      have hah := ahead l key HS.out m hml
      have hmax := HN.out
      obtain ⟨k9, hk9⟩ : ∃ k9, l[m].key = k9 := ⟨_, rfl⟩
      rw [hk9] at c0 hah
      clear hm c1 c2 hk9
      by_cases hlt : lt k9 key
      · have hb1 := less_yes hlt
        have hpos := hah.1 hlt
        have HH := Lib.hid (And.intro hmax (And.intro hpos (And.intro hb (And.intro hbl (And.intro hma hmb)))))
        clear hah hlt hmax hpos ha hb hbl hab hma
        go_wp2
        go_roundw
        case rel => exact ⟨m + 1, b, by go_num, rfl, by have := HH.out; omega, HH.out.2.2.1, HH.out.2.2.2.1, HT.out, hbw⟩
        case measure => have := HH.out; simp [intOf]; omega
      · have hb1 := less_no hlt
        have hpos : pos l key ≤ m := Nat.le_of_not_lt fun e => hlt (hah.2 e)
        have HH := Lib.hid (And.intro hmax (And.intro hpos (And.intro ha (And.intro hbl (And.intro hma hmb)))))
        clear hah hlt hmax hpos ha hb hbl hab hma
        go_wp2
        go_roundw
        case rel => exact ⟨a, m, rfl, rfl, HH.out.2.2.1, HH.out.2.1, by have := HH.out; omega, HT.out, hbw⟩
        case measure => have := HH.out; simp [intOf]; omega
    · have hab' : ¬ (a : Int) < (b : Int) := by omega
      have hap : a = pos l key := by omega
      have hth := at_pos l key
      subst hap
      clear ha hb hab
      by_cases hpl : pos l key < l.length
      · have hpl' : (pos l key : Int) < (l.length : Int) := by omega
        obtain ⟨g, off, hA, c0, c1, c2⟩ := HT.out.at hpl
        subst hA
        rw [List.getElem?_eq_getElem hpl] at hth
        simp only at hth
        obtain ⟨k9, hk9⟩ : ∃ k9, l[pos l key].key = k9 := ⟨_, rfl⟩
        rw [hk9] at c0 hth
        have hd : (k9.toList == key.toList) = there l key := by rw [hth]; exact beq_L k9 key
        obtain ⟨q, hq⟩ : ∃ q, pos l key = q := ⟨_, rfl⟩
        obtain ⟨th, hh⟩ : ∃ th, there l key = th := ⟨_, rfl⟩
        have HQ := Lib.hid (And.intro hq hh)
        rw [hq] at c0 hpl' hab'
        rw [hh] at hd
        simp only [hq]
        clear c1 c2 hk9 hth hq hh hbl hpl
        go_wp2
        refine wp_region_still_lit (by kernel_rfl) (by kernel_rfl) ?_
        repeat still_step
        refine wpStill_nil ?_
        go_wp2
        go_ret2
        exact ⟨by rw [HQ.out.1, HQ.out.2]; rfl, hbw.drew⟩
      · have hpl' : ¬ (pos l key : Int) < (l.length : Int) := by omega
        rw [List.getElem?_eq_none (by omega)] at hth
        simp only at hth
        obtain ⟨q, hq⟩ : ∃ q, pos l key = q := ⟨_, rfl⟩
        have HQ := Lib.hid (And.intro hq hth)
        rw [hq] at hpl' hab'
        simp only [hq]
        have hplN : ¬ q < l.length := by rw [← hq]; exact hpl
        have hplD : decide (q < l.length) = false := decide_eq_false hplN
        clear hth hq hbl hpl
        go_wp2
        refine wp_region_still_lit (by kernel_rfl) (by kernel_rfl) ?_
        refine StillB.out_ ?_
        iterate 22 (refine StillB.step_ (fun K hK => ?_); go_simp; refine hK _ ?_; clear hK K)
        refine StillB.nil_ ?_
        go_wp2
        go_ret2
        exact ⟨by rw [HQ.out.1, HQ.out.2]; rfl, hbw.drew⟩
end Go.Proofs.Ytjcilknfhkpepaa.Bat
/- batch: New, Len, change, Put, Del, walked. -/
namespace Go.Proofs.Ytjcilknfhkpepaa.Bat
open Go.RowKit Go.Proofs.Ytjcilknfhkpepaa.Mem Go.Proofs.Ytjcilknfhkpepaa.X Go.Proofs.YtjcilknfhkpepaaW.PrintWords Go.Proofs.YtjcilknfhkpepaaW.PrintLast Go.Proofs.YtjcilknfhkpepaaW.PrintMore Go.Proofs.Ytjcilknfhkpepaa.Aid
set_option linter.unusedVariables false
set_option linter.unusedSimpArgs false
theorem Sl.put3 {w : World} {e : TypeId} {g off n cap : Nat} {xs : List Value} (h : Sl w e 3 (.slice (some ⟨g, off, none⟩) n cap) n xs) {i : Nat} (hi : i < n) (vs : List Value) (hv : vs.length = 3) :
    Sl (w.setCells g (off + i * 3) vs) e 3 (.slice (some ⟨g, off, none⟩) n cap) n (xs.take (i * 3) ++ vs ++ xs.drop (i * 3 + 3)) := by
  obtain ⟨g', off', cap', cur, hv', hb, h2, h3, h4, h5⟩ := h.form_pos (by omega)
  injection hv' with e1 e2 e3
  injection e1 with e1
  injection e1 with e4 e5
  subst e3 e4 e5
  have hl := h.len
  have hp := putMany_list vs (off + i * 3) cur (by omega)
  refine ⟨by rw [List.length_append, List.length_append, List.length_take, List.length_drop, hl, hv]; omega, .inr ⟨g, off, cap, _, rfl, hb.many vs (off + i * 3), h2, h3, by rw [putMany_size]; exact h4, ?_⟩⟩
  rw [hp]
  have hc : cur.toList.length = cur.size := Array.length_toList
  have e6 : ((cur.toList.take (off + i * 3) ++ vs ++ cur.toList.drop (off + i * 3 + vs.length)).drop off) = (cur.toList.drop off).take (i * 3) ++ vs ++ (cur.toList.drop off).drop (i * 3 + 3) := by
    rw [List.append_assoc, List.drop_append_of_le_length (by rw [List.length_take]; omega), List.drop_take, Nat.add_sub_cancel_left, List.drop_drop, hv, ← List.append_assoc]
    congr 2
  rw [e6, ← h5]
  have e7 : ((cur.toList.drop off).take (i * 3)).length = i * 3 := by rw [List.length_take, List.length_drop]; omega
  have e8 : (((cur.toList.drop off).take (i * 3) ++ vs).length) = i * 3 + 3 := by rw [List.length_append, e7, hv]
  rw [List.take_append, List.take_of_length_le (by omega), e8, List.take_take, Nat.min_eq_left (by omega), List.drop_take]
def vch (c : Ch) : Value := .agg #[.string c.key, .string c.value, .bool c.gone]
theorem put_there {l : List Ch} {c : Ch} (h : there l c.key = true) : (bcells l).take (pos l c.key * 3) ++ ccells c ++ (bcells l).drop (pos l c.key * 3 + 3) = bcells (put l c) := by
  unfold put
  rw [h, if_pos rfl, show pos l c.key * 3 + 3 = (pos l c.key + 1) * 3 from by omega, bcells_take, bcells_drop, bcells_app]
  have e : bcells (c :: l.drop (pos l c.key + 1)) = ccells c ++ bcells (l.drop (pos l c.key + 1)) := List.flatMap_cons
  rw [e, List.append_assoc]
theorem put_new {l : List Ch} {c : Ch} (h : there l c.key = false) : (bcells l).take (pos l c.key * 3) ++ ccells c ++ (bcells l).drop (pos l c.key * 3) = bcells (put l c) := by
  unfold put
  rw [h, if_neg (by simp), Nat.add_zero, bcells_take, bcells_drop, bcells_app]
  have e : bcells (c :: l.drop (pos l c.key)) = ccells c ++ bcells (l.drop (pos l c.key)) := List.flatMap_cons
  rw [e, List.append_assoc]
theorem there_pos {l : List Ch} {key : ByteArray} (h : there l key = true) : pos l key < l.length := by
  rw [at_pos] at h
  rcases Nat.lt_or_ge (pos l key) l.length with h1 | h1
  · exact h1
  · rw [List.getElem?_eq_none h1] at h; cases h
theorem fits_eq (k v : ByteArray) (g : Bool) : batch_fits.f k v g = some (fits ⟨k, v, g⟩) := by
  unfold batch_fits.f fits
  by_cases h0 : k.size = 0
  · rw [if_pos (by rw [tl]; exact List.eq_nil_of_length_eq_zero (by rw [← sz]; exact h0)), if_pos h0]
  · rw [if_neg (by rw [tl]; intro e; apply h0; rw [sz, e]; rfl), if_neg h0]
    by_cases h1 : 200 < k.size
    · rw [if_pos (by omega), if_pos (.inl h1)]
    · rw [if_neg (by omega)]
      by_cases h2 : 1048576 < v.size
      · rw [if_pos (by omega), if_pos (.inr h2)]
      · rw [if_neg (by omega), if_neg (fun e => e.elim h1 h2)]
set_option maxHeartbeats 4000000 in
theorem new_calls (w : World) : Calls Try.prog 9 #[] w fun e w' => e = .returned (.pointer (some ⟨w.heap.size, 0, none⟩)) ∧ Bt w' w.heap.size (.slice none 0 0) [] ∧ Below w.heap.size w w' := by
  have hu := Try.underlying65
  go_enter Try.func9, Try.ntmps9
  go_wp2
  go_ret
  exact ⟨rfl, ⟨Blk.new _ _ _, Sl.nil _ _ _⟩, (Below.refl _ w).alloc (Nat.le_refl _) _⟩
theorem Bt.there3 {w : World} {p : Nat} {g off cap : Nat} {l : List Ch} {n : Nat} (h : Bt w p (.slice (some ⟨g, off, none⟩) n cap) l) {i : Nat} (hi : i < l.length) : w.there g (off + i * 3) 3 := by
  obtain ⟨g', off', cap', cur, hv', hb, h2, h3, h4, h5⟩ := h.row.form_pos (by omega)
  injection hv' with e1 e2 e3
  injection e1 with e1
  injection e1 with e4 e5
  subst e3 e4 e5
  intro j hj
  exact ⟨by rw [hb.cell, Array.getElem?_eq_getElem (by omega)]; rfl, hb.frozen _⟩
set_option maxHeartbeats 8000000 in
set_option maxRecDepth 100000 in
theorem change_calls (w : World) (p : Nat) (v : Value) (l : List Ch) (ck cv : ByteArray) (cg : Bool) (h : Bt w p v l) (hs : Sorted l) (hn : l.length ≤ 2000) :
    Calls Try.prog 32 #[.pointer (some ⟨p, 0, none⟩), .agg #[.string ck, .string cv, .bool cg]] w fun e w' => ∃ v', e = .returned (.int .i64 (change l ⟨ck, cv, cg⟩).2) ∧ Bt w' p v' (change l ⟨ck, cv, cg⟩).1 ∧ Only (fun k => k = p ∨ own v k) w w' ∧ ∀ k, own v' k → own v k ∨ w.heap.size ≤ k := by
  obtain ⟨A, cap, rfl, hnc, hml⟩ := h.row.form
  have hlt0 := h.blk.lt
  have HT := Lib.hid h
  have HS := Lib.hid hs
  have hx0 := Blk.new w 31 #[.string ck, .string cv, .bool cg]
  have hb0 := h.alloc (.cells #[.string ck, .string cv, .bool cg] 31)
  have hB0 : Below w.heap.size w (w.alloc (.cells #[.string ck, .string cv, .bool cg] 31)) := (Below.refl _ w).alloc (Nat.le_refl _) _
  have hfit := fits_eq ck cv cg
  obtain ⟨ft, hft⟩ : ∃ ft, fits ⟨ck, cv, cg⟩ = ft := ⟨_, rfl⟩
  rw [hft] at hfit
  have HF := Lib.hid hft
  clear h hs hml hnc hft
  go_enter Try.func32, Try.ntmps32
  go_wp2_with fail
  refine (batch_fits.calls ck cv cg ft _ hfit).mono ?_
  rintro e w1 ⟨rfl, hd1⟩
  have hx1 := hx0.below hd1
  have hb1 := hb0.below hd1
  have hB1 := hB0.trans (hd1.mono hB0.size)
  clear hx0 hb0 hB0 hd1 hfit
  by_cases hf0 : ft = 0
  case neg =>
    have hf1 : (ft == 0) = false := beq_eq_false_iff_ne.mpr hf0
    have hf2 : (ft != 0) = true := by rw [bne, hf1]; rfl
    go_wp2
    go_ret
    refine ⟨_, by unfold change; rw [if_pos (by rw [HF.out]; exact hf0), HF.out]; rfl, by unfold change; rw [if_pos (by rw [HF.out]; exact hf0)]; exact hb1, Only.of_below hB1 _, fun k hk => .inl hk⟩
  subst hf0
  have hpl := place_calls w1 p _ l ck hb1 HS.out (by omega)
  obtain ⟨bx, hbx⟩ : ∃ bx, w.heap.size = bx := ⟨_, rfl⟩
  have x1 : w1.cell? ⟨bx, 0, none⟩ = some (.string ck) := by rw [← hbx]; exact (hx1.cell 0).trans rfl
  rw [hbx] at hx1
  have HBX := Lib.hid hbx
  simp only [hbx]
  clear hbx
  go_wp2_with fail
  refine hpl.mono ?_
  rintro e w2 ⟨rfl, hd2⟩
  have hb2 := hb1.below hd2
  have hx2 := hx1.below hd2
  have hB2 := hB1.trans (hd2.mono hB1.size)
  have hpos := pos_le l ck
  have hchg : ∀ b, there l ck = b → change l ⟨ck, cv, cg⟩ = if b = false ∧ 2000 ≤ l.length then (l, 8) else (put l ⟨ck, cv, cg⟩, 0) := fun b hb => by
    unfold change
    rw [if_neg (by rw [HF.out]; simp)]
    simp only [hb]
  have HCH := Lib.hid hchg
  clear hx1 hb1 hB1 hd2 hpl x1 hchg
  cases hth : there l ck with
  | true =>
    have hpt := there_pos hth
    obtain ⟨g, off, hA, z1, z2, z3⟩ := hb2.at hpt
    clear z1 z2 z3
    subst hA
    have hthere3 : ∀ W, Bt W p (.slice (some ⟨g, off, none⟩) l.length cap) l → W.there g (off + pos l ck * 3) 3 := fun W hW => hW.there3 hpt
    have hput := put_there (l := l) (c := ⟨ck, cv, cg⟩) hth
    have hlen := put_len l ⟨ck, cv, cg⟩
    obtain ⟨q, hq⟩ : ∃ q, pos l ck = q := ⟨_, rfl⟩
    have hqi : (q : Int) < (l.length : Int) := by omega
    have HQ := Lib.hid (And.intro hq (And.intro hth (And.intro hput (And.intro hlen hpt))))
    simp only [hq] at hthere3 ⊢
    clear hq hth hput hlen hpt hpos
    have hbw : ∀ k, own (.slice (some ⟨g, off, none⟩) l.length cap) k → k = g := fun k hk => by cases hk; rfl
    go_wp2
    refine start_ (n := 8) (S := fun w' => Bt w' p (.slice (some ⟨g, off, none⟩) l.length cap) l ∧ Blk w' bx 31 #[.string ck, .string cv, .bool cg] ∧ Below w.heap.size w w') (ds := [7]) #[false, false, false, false, false, false, false, false] (by kernel_rfl) rfl rfl ⟨hb2.drew, hx2.drew, hB2.drew⟩ (fun hHeld => ?_)
    generalize w2.drew = w3 at hHeld ⊢
    refine pure_ (i := 0) (N := some 33) (v := ?_) (a' := ?_) #[true, false, false, false, false, false, false, false] rfl rfl (by kernel_rfl) (fun _ _ _ h => h) (Or.inl ⟨by rfl, ?_⟩) ?_ ?_
    rotate_left
    · intro w'
      go_simp
      with_reducible rfl
    rotate_left
    · simp only [Act.put, List.setIfInBounds_toArray, List.set_cons_zero, List.set_cons_succ]
      rfl
    refine pure_ (i := 1) (N := some 34) (v := ?_) (a' := ?_) #[true, true, false, false, false, false, false, false] rfl rfl (by kernel_rfl) (fun _ _ _ h => h) (Or.inl ⟨by rfl, ?_⟩) ?_ ?_
    rotate_left
    · intro w'
      go_simp
      with_reducible rfl
    rotate_left
    · simp only [Act.put, List.setIfInBounds_toArray, List.set_cons_zero, List.set_cons_succ]
      rfl
    refine pure_ (i := 2) (N := some 35) (v := ?_) (a' := ?_) #[true, true, true, false, false, false, false, false] rfl rfl (by kernel_rfl) (fun _ _ _ h => h) (Or.inl ⟨by rfl, ?_⟩) ?_ ?_
    rotate_left
    · intro w'
      go_simp
      with_reducible rfl
    rotate_left
    · simp only [Act.put, List.setIfInBounds_toArray, List.set_cons_zero, List.set_cons_succ]
      rfl
    refine take_ (i := 3) (N := some 36) (v := ?_) (a' := ?_) #[true, true, true, true, false, false, false, false] rfl rfl (by kernel_rfl) (fun _ _ _ h => h) (Or.inl ⟨by rfl, ?_⟩) hHeld ?_ ?_
    rotate_left
    · rintro w' ⟨hS, hX, _⟩
      have x1 : w'.cell? ⟨p, 0, none⟩ = some (.slice (some ⟨g, off, none⟩) l.length cap) := (hS.blk.cell 0).trans rfl
      go_simp
      with_reducible rfl
    rotate_left
    · simp only [Act.put, List.setIfInBounds_toArray, List.set_cons_zero, List.set_cons_succ]
      rfl
    refine pure_ (i := 4) (N := some 37) (v := ?_) (a' := ?_) #[true, true, true, true, true, false, false, false] rfl rfl (by kernel_rfl) (fun _ _ _ h => h) (Or.inl ⟨by rfl, ?_⟩) ?_ ?_
    rotate_left
    · intro w'
      go_simp
      with_reducible rfl
    rotate_left
    · simp only [Act.put, List.setIfInBounds_toArray, List.set_cons_zero, List.set_cons_succ]
      rfl
    refine take_ (i := 5) (N := some 38) (v := ?_) (a' := ?_) #[true, true, true, true, true, true, false, false] rfl rfl (by kernel_rfl) (fun _ _ _ h => h) (Or.inl ⟨by rfl, ?_⟩) hHeld ?_ ?_
    rotate_left
    · rintro w' ⟨hS, hX, _⟩
      have x1 : w'.cell? ⟨bx, 0, none⟩ = some (.string ck) := (hX.cell 0).trans rfl
      have x2 : w'.cell? ⟨bx, 1, none⟩ = some (.string cv) := (hX.cell 1).trans rfl
      have x3 : w'.cell? ⟨bx, 2, none⟩ = some (.bool cg) := (hX.cell 2).trans rfl
      go_simp
      with_reducible rfl
    rotate_left
    · simp only [Act.put, List.setIfInBounds_toArray, List.set_cons_zero, List.set_cons_succ]
      rfl
    refine pure_ (i := 6) (N := some 39) (v := ?_) (a' := ?_) #[true, true, true, true, true, true, true, false] rfl rfl (by kernel_rfl) (fun _ _ _ h => h) (Or.inl ⟨by rfl, ?_⟩) ?_ ?_
    rotate_left
    · intro w'
      go_simp
      with_reducible rfl
    rotate_left
    · simp only [Act.put, List.setIfInBounds_toArray, List.set_cons_zero, List.set_cons_succ]
      rfl
    refine last_ (i := 7) (N := none) #[true, true, true, true, true, true, true, true] rfl rfl (by kernel_rfl) (by decide) (fun K hK => ?_)
    rw [if_pos (by rfl)]
    refine wp_store_mid 31 (.tmp 39) (.tmp 38) rfl g (off + q * 3) #[.string ck, .string cv, .bool cg] rfl rfl (hthere3 _ hHeld.1) Ins.sizeT (by simp [Value.oneCell']) ?_
    have hrow := Sl.put3 hHeld.1.row (i := q) (by have := HQ.out; omega) (ccells ⟨ck, cv, cg⟩) rfl
    have hb4 : Bt (w3.setCells g (off + q * 3) (ccells ⟨ck, cv, cg⟩)) p (.slice (some ⟨g, off, none⟩) l.length cap) (put l ⟨ck, cv, cg⟩) := by
      have hpg : p ≠ g := fun e => hHeld.1.apart (by rw [e]; rfl)
      have hl := HQ.out.2.2.2.1
      rw [if_pos HQ.out.2.1] at hl
      refine ⟨(setCells_heap_ne g _ _ w3 p hpg).trans hHeld.1.blk, ?_⟩
      rw [hl, ← HQ.out.2.2.1, HQ.out.1]
      exact hrow
    have ho4 : Only (fun k => k = p ∨ own (.slice (some ⟨g, off, none⟩) l.length cap) k) w (w3.setCells g (off + q * 3) (ccells ⟨ck, cv, cg⟩)) := (Only.of_below hHeld.2.2 _).cells (.inl (.inr rfl)) _ _
    have HB4 := Lib.hid (And.intro hb4 ho4)
    refine hK.out _ _ ?_
    clear hK K hrow hb4 ho4
    refine done_ (by kernel_rfl) ?_
    go_wp2
    go_ret
    have hc := HCH.out true HQ.out.2.1
    rw [if_neg (by simp)] at hc
    exact ⟨_, by rw [hc]; rfl, by rw [hc]; exact HB4.out.1, HB4.out.2, fun k hk => .inl hk⟩
  | false =>
    have hnt := put_new (l := l) (c := ⟨ck, cv, cg⟩) hth
    have hlen := put_len l ⟨ck, cv, cg⟩
    have hpl2 : (pos l ck : Int) ≤ (l.length : Int) := by omega
    obtain ⟨q, hq⟩ : ∃ q, pos l ck = q := ⟨_, rfl⟩
    have HQ := Lib.hid (And.intro hq (And.intro hth (And.intro hnt (And.intro hlen hpos))))
    have x0 : w2.cell? ⟨p, 0, none⟩ = some (.slice A l.length cap) := (hb2.blk.cell 0).trans rfl
    simp only [hq]
    rw [hq] at hpl2
    clear hq hth hnt hlen hpos
    by_cases hful : 2000 ≤ l.length
    · have hfi : (2000 : Int) ≤ (l.length : Int) := by omega
      have hfd : decide (2000 ≤ l.length) = true := decide_eq_true hful
      go_wp2
      go_ret
      have hc := HCH.out false HQ.out.2.1
      rw [if_pos ⟨rfl, hful⟩] at hc
      exact ⟨by rw [hc]; rfl, .slice A l.length cap, by rw [hc]; exact hb2, Only.of_below hB2 _, fun k hk => .inl hk⟩
    · have hfi : ¬ (2000 : Int) ≤ (l.length : Int) := by omega
      have hfd : decide (2000 ≤ l.length) = false := decide_eq_false hful
      go_wp2
      refine start_ (n := 12) (S := fun w' => Bt w' p (.slice A l.length cap) l ∧ Blk w' bx 31 #[.string ck, .string cv, .bool cg] ∧ Below w.heap.size w w') (ds := [8, 11]) #[false, false, false, false, false, false, false, false, false, false, false, false] (by kernel_rfl) rfl rfl ⟨hb2.drew, hx2.drew, hB2.drew⟩ (fun hHeld => ?_)
      generalize w2.drew = w3 at hHeld ⊢
      refine pure_ (i := 0) (N := some 20) (v := ?_) (a' := ?_) #[true, false, false, false, false, false, false, false, false, false, false, false] rfl rfl (by kernel_rfl) (fun _ _ _ h => h) (Or.inl ⟨by rfl, ?_⟩) ?_ ?_
      rotate_left
      · intro w'
        go_simp
        with_reducible rfl
      rotate_left
      · simp only [Act.put, List.setIfInBounds_toArray, List.set_cons_zero, List.set_cons_succ]
        rfl
      refine pure_ (i := 1) (N := some 21) (v := ?_) (a' := ?_) #[true, true, false, false, false, false, false, false, false, false, false, false] rfl rfl (by kernel_rfl) (fun _ _ _ h => h) (Or.inl ⟨by rfl, ?_⟩) ?_ ?_
      rotate_left
      · intro w'
        go_simp
        with_reducible rfl
      rotate_left
      · simp only [Act.put, List.setIfInBounds_toArray, List.set_cons_zero, List.set_cons_succ]
        rfl
      refine pure_ (i := 2) (N := some 22) (v := ?_) (a' := ?_) #[true, true, true, false, false, false, false, false, false, false, false, false] rfl rfl (by kernel_rfl) (fun _ _ _ h => h) (Or.inl ⟨by rfl, ?_⟩) ?_ ?_
      rotate_left
      · intro w'
        go_simp
        with_reducible rfl
      rotate_left
      · simp only [Act.put, List.setIfInBounds_toArray, List.set_cons_zero, List.set_cons_succ]
        rfl
      refine pure_ (i := 3) (N := some 23) (v := ?_) (a' := ?_) #[true, true, true, true, false, false, false, false, false, false, false, false] rfl rfl (by kernel_rfl) (fun _ _ _ h => h) (Or.inl ⟨by rfl, ?_⟩) ?_ ?_
      rotate_left
      · intro w'
        go_simp
        with_reducible rfl
      rotate_left
      · simp only [Act.put, List.setIfInBounds_toArray, List.set_cons_zero, List.set_cons_succ]
        rfl
      refine take_ (i := 4) (N := some 24) (v := ?_) (a' := ?_) #[true, true, true, true, true, false, false, false, false, false, false, false] rfl rfl (by kernel_rfl) (fun _ _ _ h => h) (Or.inl ⟨by rfl, ?_⟩) hHeld ?_ ?_
      rotate_left
      · rintro w' ⟨hS, hX, _⟩
        have x1 : w'.cell? ⟨p, 0, none⟩ = some (.slice A l.length cap) := (hS.blk.cell 0).trans rfl
        go_simp
        with_reducible rfl
      rotate_left
      · simp only [Act.put, List.setIfInBounds_toArray, List.set_cons_zero, List.set_cons_succ]
        rfl
      refine pure_ (i := 5) (N := some 25) (v := ?_) (a' := ?_) #[true, true, true, true, true, true, false, false, false, false, false, false] rfl rfl (by kernel_rfl) (fun _ _ _ h => h) (Or.inl ⟨by rfl, ?_⟩) ?_ ?_
      rotate_left
      · intro w'
        go_simp
        with_reducible rfl
      rotate_left
      · simp only [Act.put, List.setIfInBounds_toArray, List.set_cons_zero, List.set_cons_succ]
        rfl
      refine take_ (i := 6) (N := some 26) (v := ?_) (a' := ?_) #[true, true, true, true, true, true, true, false, false, false, false, false] rfl rfl (by kernel_rfl) (fun _ _ _ h => h) (Or.inl ⟨by rfl, ?_⟩) hHeld ?_ ?_
      rotate_left
      · rintro w' ⟨hS, hX, _⟩
        have x1 : w'.cell? ⟨bx, 0, none⟩ = some (.string ck) := (hX.cell 0).trans rfl
        have x2 : w'.cell? ⟨bx, 1, none⟩ = some (.string cv) := (hX.cell 1).trans rfl
        have x3 : w'.cell? ⟨bx, 2, none⟩ = some (.bool cg) := (hX.cell 2).trans rfl
        go_simp
        with_reducible rfl
      rotate_left
      · simp only [Act.put, List.setIfInBounds_toArray, List.set_cons_zero, List.set_cons_succ]
        rfl
      refine one_ (i := 7) (N := some 27) #[true, true, true, true, true, true, true, true, false, false, false, false] rfl rfl (by kernel_rfl) (by decide) (fun K hK => ?_)
      go_simp
      have hv9 := Blk.new w3 31 #[.string ck, .string cv, .bool cg]
      have hs9 : Bt (w3.alloc (.cells #[.string ck, .string cv, .bool cg] 31)) p (.slice A l.length cap) l ∧ Blk (w3.alloc (.cells #[.string ck, .string cv, .bool cg] 31)) bx 31 #[.string ck, .string cv, .bool cg] ∧ Below w.heap.size w (w3.alloc (.cells #[.string ck, .string cv, .bool cg] 31)) := ⟨hHeld.1.alloc _, hHeld.2.1.alloc _, hHeld.2.2.alloc hHeld.2.2.size _⟩
      have hne9 : ¬ own (.slice A l.length cap) w3.heap.size := fun e => by have := hHeld.1.row.lt e; omega
      have hvl : w.heap.size ≤ w3.heap.size := hHeld.2.2.size
      refine hK.out _ _ hs9 (fun hHeld => ?_)
      clear hK K hs9
      obtain ⟨vb, hvb⟩ : ∃ vb, w3.heap.size = vb := ⟨_, rfl⟩
      obtain ⟨w5, hw5⟩ : ∃ w5, w3.alloc (.cells #[.string ck, .string cv, .bool cg] 31) = w5 := ⟨_, rfl⟩
      rw [hw5] at hHeld hv9
      rw [hvb] at hv9 hne9 hvl
      simp only [hvb, hw5]
      clear hvb hw5
      have hins := Ins.ins_calls w5 A l.length cap q (bcells l) hHeld.1.row (by have := HQ.out; omega) (one_bcells l) vb (ccells ⟨ck, cv, cg⟩) rfl hv9 hne9 (one_ccells _) (by omega)
      refine last_ (i := 8) (N := some 28) #[true, true, true, true, true, true, true, true, true, false, false, false] rfl rfl (by kernel_rfl) (by decide) (fun K hK => ?_)
      go_simp
      go_wp2_with (go_at_call 41; refine hins.mono ?_; rintro e w6 ⟨A', cap', rfl, hs6, ho6, hn6⟩)
      have hpk : ¬ own (.slice A l.length cap) p := hHeld.1.apart
      have hbk6 := ho6.blk hHeld.1.blk hpk
      have hap6 : ¬ own (.slice A' (l.length + 1) cap') p := hs6.type_ne hbk6 (by decide)
      have ho9 : Only (fun k => k = p ∨ own (.slice A l.length cap) k) w w6 := (Only.of_below hHeld.2.2 _).trans (ho6.mono fun k hk => .inr hk)
      have hn9 : ∀ k, own (.slice A' (l.length + 1) cap') k → own (.slice A l.length cap) k ∨ w.heap.size ≤ k := fun k hk => (hn6 k hk).imp id fun e => Nat.le_trans hHeld.2.2.size e
      have HB6 := Lib.hid (And.intro hs6 (And.intro hbk6 (And.intro hap6 (And.intro ho9 hn9))))
      refine hK.out _ _ ?_
      clear hK K hHeld hs6 ho6 hn6 hins hv9 hne9 hpk hbk6 hap6 ho9 hn9
      refine pure_ (i := 9) (N := some 29) (v := ?_) (a' := ?_) #[true, true, true, true, true, true, true, true, true, true, false, false] rfl rfl (by kernel_rfl) (fun _ _ _ h => h) (Or.inl ⟨by rfl, ?_⟩) ?_ ?_
      rotate_left
      · intro w'
        go_simp
        with_reducible rfl
      rotate_left
      · simp only [Act.put, List.setIfInBounds_toArray, List.set_cons_zero, List.set_cons_succ]
        rfl
      refine pure_ (i := 10) (N := some 30) (v := ?_) (a' := ?_) #[true, true, true, true, true, true, true, true, true, true, true, false] rfl rfl (by kernel_rfl) (fun _ _ _ h => h) (Or.inl ⟨by rfl, ?_⟩) ?_ ?_
      rotate_left
      · intro w'
        go_simp
        with_reducible rfl
      rotate_left
      · simp only [Act.put, List.setIfInBounds_toArray, List.set_cons_zero, List.set_cons_succ]
        rfl
      refine last_ (i := 11) (N := none) #[true, true, true, true, true, true, true, true, true, true, true, true] rfl rfl (by kernel_rfl) (by decide) (fun K hK => ?_)
      have x6 : w6.cell? ⟨p, 0, none⟩ = some (.slice A l.length cap) := (HB6.out.2.1.cell 0).trans rfl
      have f6 := HB6.out.2.1.frozen 0
      go_simp
      refine hK.out _ _ ?_
      clear hK K
      refine done_ (by kernel_rfl) ?_
      go_wp2
      go_ret
      have hc := HCH.out false HQ.out.2.1
      rw [if_neg (fun e => hful e.2)] at hc
      obtain ⟨hs6, hbk6, hap6, ho9, hn9⟩ := HB6.out
      have hl := HQ.out.2.2.2.1
      rw [if_neg (show ¬ there l (⟨ck, cv, cg⟩ : Ch).key = true by rw [HQ.out.2.1]; simp)] at hl
      have hbt : Bt (w6.setCell ⟨p, 0, none⟩ (.slice A' (l.length + 1) cap')) p (.slice A' (l.length + 1) cap') (put l ⟨ck, cv, cg⟩) := by
        refine ⟨hbk6.set_ 0 _, ?_⟩
        rw [hl, ← HQ.out.2.2.1, HQ.out.1]
        exact hs6.far (p := ⟨p, 0, none⟩) hap6 _
      exact ⟨.slice A' (l.length + 1) cap', by rw [hc]; rfl, by rw [hc]; exact hbt, ho9.put (.inl rfl) 0 _, hn9⟩
end Go.Proofs.Ytjcilknfhkpepaa.Bat
/- batch: Put, Del, Len, Clear, Get, walked. -/
namespace Go.Proofs.Ytjcilknfhkpepaa.Bat
open Go.RowKit Go.Proofs.Ytjcilknfhkpepaa.Mem Go.Proofs.Ytjcilknfhkpepaa.X Go.Proofs.YtjcilknfhkpepaaW.PrintWords Go.Proofs.YtjcilknfhkpepaaW.PrintLast Go.Proofs.YtjcilknfhkpepaaW.PrintMore Go.Proofs.Ytjcilknfhkpepaa.Aid
set_option linter.unusedVariables false
set_option linter.unusedSimpArgs false
set_option maxHeartbeats 4000000 in
set_option maxRecDepth 100000 in
theorem put_calls (w : World) (p : Nat) (v : Value) (l : List Ch) (ck cv : ByteArray) (h : Bt w p v l) (hs : Sorted l) (hn : l.length ≤ 2000) :
    Calls Try.prog 13 #[.pointer (some ⟨p, 0, none⟩), .string ck, .string cv] w fun e w' => ∃ v', e = .returned (.int .i64 (change l ⟨ck, cv, false⟩).2) ∧ Bt w' p v' (change l ⟨ck, cv, false⟩).1 ∧ Only (fun k => k = p ∨ own v k) w w' ∧ ∀ k, own v' k → own v k ∨ w.heap.size ≤ k := by
  have hc := change_calls w p v l ck cv false h hs hn
  clear h hs hn
  go_enter Try.func13, Try.ntmps13
  go_wp2_with fail
  refine hc.mono ?_
  rintro e w' ⟨v', rfl, h1, h2, h3⟩
  go_wp2
  go_ret
  exact ⟨v', rfl, h1, h2, h3⟩
set_option maxHeartbeats 4000000 in
set_option maxRecDepth 100000 in
theorem del_calls (w : World) (p : Nat) (v : Value) (l : List Ch) (ck : ByteArray) (h : Bt w p v l) (hs : Sorted l) (hn : l.length ≤ 2000) :
    Calls Try.prog 16 #[.pointer (some ⟨p, 0, none⟩), .string ck] w fun e w' => ∃ v', e = .returned (.int .i64 (change l ⟨ck, ⟨#[]⟩, true⟩).2) ∧ Bt w' p v' (change l ⟨ck, ⟨#[]⟩, true⟩).1 ∧ Only (fun k => k = p ∨ own v k) w w' ∧ ∀ k, own v' k → own v k ∨ w.heap.size ≤ k := by
  have hc := change_calls w p v l ck ⟨#[]⟩ true h hs hn
  clear h hs hn
  go_enter Try.func16, Try.ntmps16
  go_wp2_with fail
  refine hc.mono ?_
  rintro e w' ⟨v', rfl, h1, h2, h3⟩
  go_wp2
  go_ret
  exact ⟨v', rfl, h1, h2, h3⟩
set_option maxHeartbeats 4000000 in
theorem len_calls (w : World) (p : Nat) (v : Value) (l : List Ch) (h : Bt w p v l) :
    Calls Try.prog 17 #[.pointer (some ⟨p, 0, none⟩)] w fun e w' => e = .returned (.int .i64 (l.length : Int)) ∧ w' = w := by
  obtain ⟨A, cap, rfl, hnc, hml⟩ := h.row.form
  have x0 : w.cell? ⟨p, 0, none⟩ = some (.slice A l.length cap) := (h.blk.cell 0).trans rfl
  clear h hnc hml
  go_enter Try.func17, Try.ntmps17
  go_wp2
  go_ret
  exact ⟨rfl, rfl⟩
set_option maxHeartbeats 4000000 in
theorem clear_calls (w : World) (p : Nat) (v : Value) (l : List Ch) (h : Bt w p v l) :
    Calls Try.prog 24 #[.pointer (some ⟨p, 0, none⟩)] w fun e w' => (∃ x, e = .returned x) ∧ Bt w' p (.slice none 0 0) [] ∧ Only (fun k => k = p) w w' := by
  have x0 : w.cell? ⟨p, 0, none⟩ = some v := (h.blk.cell 0).trans rfl
  have f0 := h.blk.frozen 0
  have h1 : Bt (w.setCell ⟨p, 0, none⟩ (.slice none 0 0)) p (.slice none 0 0) [] := ⟨h.blk.set_ 0 _, Sl.nil _ _ _⟩
  have h2 : Only (fun k => k = p) w (w.setCell ⟨p, 0, none⟩ (.slice none 0 0)) := (Only.refl (fun k => k = p) w).put rfl 0 _
  clear h
  go_enter Try.func24, Try.ntmps24
  go_wp2
  go_end0
  exact ⟨⟨_, rfl⟩, h1, h2⟩
end Go.Proofs.Ytjcilknfhkpepaa.Bat
/- batch: Get, walked. -/
namespace Go.Proofs.Ytjcilknfhkpepaa.Bat
open Go.RowKit Go.Proofs.Ytjcilknfhkpepaa.Mem Go.Proofs.Ytjcilknfhkpepaa.X Go.Proofs.YtjcilknfhkpepaaW.PrintWords Go.Proofs.YtjcilknfhkpepaaW.PrintLast Go.Proofs.YtjcilknfhkpepaaW.PrintMore Go.Proofs.Ytjcilknfhkpepaa.Aid
set_option linter.unusedVariables false
set_option linter.unusedSimpArgs false
def getOf (l : List Ch) (key : ByteArray) : Ch := if there l key = true then (l[pos l key]?).getD ⟨⟨#[]⟩, ⟨#[]⟩, false⟩ else ⟨⟨#[]⟩, ⟨#[]⟩, false⟩
theorem info_c : (Try.prog.info? 31).map (·.size) = some 3 := by kernel_rfl
set_option maxHeartbeats 4000000 in
set_option maxRecDepth 100000 in
theorem get_calls (w : World) (p : Nat) (v : Value) (l : List Ch) (key : ByteArray) (h : Bt w p v l) (hs : Sorted l) (hn : l.length ≤ 100000) :
    Calls Try.prog 12 #[.pointer (some ⟨p, 0, none⟩), .string key] w fun e w' => e = .returned (.tuple #[vch (getOf l key), .bool (there l key)]) ∧ Below w.heap.size w w' := by
  have hx0 := Blk.new w 31 #[.string ⟨#[]⟩, .string ⟨#[]⟩, .bool false]
  have hb0 := h.alloc (.cells #[.string ⟨#[]⟩, .string ⟨#[]⟩, .bool false] 31)
  have hB0 : Below w.heap.size w (w.alloc (.cells #[.string ⟨#[]⟩, .string ⟨#[]⟩, .bool false] 31)) := (Below.refl _ w).alloc (Nat.le_refl _) _
  have hpl := place_calls _ p _ l key hb0 hs hn
  have hlt := h.blk.lt
  clear h hs
  go_enter Try.func12, Try.ntmps12
  go_wp2_with fail
  refine hpl.mono ?_
  rintro e w1 ⟨rfl, hd1⟩
  have hx1 := hx0.below hd1
  have hb1 := hb0.below hd1
  have hB1 := hB0.trans (hd1.mono hB0.size)
  clear hx0 hb0 hB0 hd1 hpl
  obtain ⟨bx, hbx⟩ : ∃ bx, w.heap.size = bx := ⟨_, rfl⟩
  have HBX := Lib.hid hbx
  rw [hbx] at hx1 hB1 hlt ⊢
  clear hbx
  obtain ⟨A, cap, rfl, hnc, hml⟩ := hb1.row.form
  cases hth : there l key with
  | true =>
    have hpt := there_pos hth
    obtain ⟨g, off, hA, z1, z2, z3⟩ := hb1.at hpt
    subst hA
    have x0 : w1.cell? ⟨p, 0, none⟩ = some (.slice (some ⟨g, off, none⟩) l.length cap) := (hb1.blk.cell 0).trans rfl
    have hG : getOf l key = l[pos l key] := by unfold getOf; rw [if_pos hth, List.getElem?_eq_getElem hpt]; rfl
    obtain ⟨c, hc⟩ : ∃ c, l[pos l key] = c := ⟨_, rfl⟩
    rw [hc] at z1 z2 z3 hG
    obtain ⟨q, hq⟩ : ∃ q, pos l key = q := ⟨_, rfl⟩
    have hqi : (q : Int) < (l.length : Int) := by omega
    have HQ : Hid (getOf l key = c ∧ there l key = true) := Lib.hid ⟨hG, hth⟩
    simp only [hq] at z1 z2 z3 ⊢
    clear hq hG hc hth hb1 hnc hml hn
    have y0 : w1.cell? ⟨bx, 0, none⟩ = some (.string ⟨#[]⟩) := (hx1.cell 0).trans rfl
    have y1 : w1.cell? ⟨bx, 1, none⟩ = some (.string ⟨#[]⟩) := (hx1.cell 1).trans rfl
    have y2 : w1.cell? ⟨bx, 2, none⟩ = some (.bool false) := (hx1.cell 2).trans rfl
    have f0 := hx1.frozen 0
    have f1 := hx1.frozen 1
    have f2 := hx1.frozen 2
    have n1 := ((hx1.set_ 0 (.string c.key)).set_ 1 (.string c.value)).set_ 2 (.bool c.gone)
    have hB2 := ((hB1.setCell (p := ⟨bx, 0, none⟩) (Nat.le_refl _) (.string c.key)).setCell (p := ⟨bx, 1, none⟩) (Nat.le_refl _) (.string c.value)).setCell (p := ⟨bx, 2, none⟩) (Nat.le_refl _) (.bool c.gone)
    go_wp2_with fail
    refine bodyPost_ret (results_ct rfl _ _ bx 31 _ (0, 0) _ rfl n1 Try.underlying31 rfl info_c) rfl ⟨by rw [HQ.out.1, HQ.out.2]; rfl, by rw [HBX.out]; exact hB2⟩
  | false =>
    have HQ : Hid (getOf l key = ⟨⟨#[]⟩, ⟨#[]⟩, false⟩ ∧ there l key = false) := Lib.hid ⟨by unfold getOf; rw [if_neg (by rw [hth]; simp)], hth⟩
    have y0 : w1.cell? ⟨bx, 0, none⟩ = some (.string ⟨#[]⟩) := (hx1.cell 0).trans rfl
    have y1 : w1.cell? ⟨bx, 1, none⟩ = some (.string ⟨#[]⟩) := (hx1.cell 1).trans rfl
    have y2 : w1.cell? ⟨bx, 2, none⟩ = some (.bool false) := (hx1.cell 2).trans rfl
    have f0 := hx1.frozen 0
    have f1 := hx1.frozen 1
    have f2 := hx1.frozen 2
    have n1 := ((hx1.set_ 0 (.string ⟨#[]⟩)).set_ 1 (.string ⟨#[]⟩)).set_ 2 (.bool false)
    have hB2 := ((hB1.setCell (p := ⟨bx, 0, none⟩) (Nat.le_refl _) (.string ⟨#[]⟩)).setCell (p := ⟨bx, 1, none⟩) (Nat.le_refl _) (.string ⟨#[]⟩)).setCell (p := ⟨bx, 2, none⟩) (Nat.le_refl _) (.bool false)
    clear hth hb1 hnc hml hn
    go_wp2_with fail
    refine bodyPost_ret (results_ct rfl _ _ bx 31 _ (0, 0) _ rfl n1 Try.underlying31 rfl info_c) rfl ⟨by rw [HQ.out.1, HQ.out.2]; rfl, by rw [HBX.out]; exact hB2⟩
end Go.Proofs.Ytjcilknfhkpepaa.Bat
/- batch: All and its iterator. -/
namespace Go.Proofs.Ytjcilknfhkpepaa.Bat
open Go.RowKit Go.Shelf Go.Proofs.Ytjcilknfhkpepaa.Mem Go.Proofs.Ytjcilknfhkpepaa.X Go.Proofs.Ytjcilknfhkpepaa.Aid
attribute [local go_sem] Oper.semAt_some
set_option linter.unusedVariables false
set_option linter.unusedSimpArgs false
set_option maxRecDepth 100000 in
set_option maxHeartbeats 4000000 in
theorem all_in (n : Nat) (bt : TypeId) (l b c p : Nat) (v : Value) (xs : List Ch) (J Jx : List Ch → World → Prop) (hn : xs.length ≤ 100000)
    (hJ : Mind (· = c) J)
    (hY : ∀ pre x W1, pre ++ [x] <+: xs → J pre W1 → YieldAt Fence.wide (n - 1) Try.prog l #[vch x] W1 fun e W' =>
      (e = .returned (.bool true) ∧ J (pre ++ [x]) W' ∧ ∀ k, own v k → W'.heap[k]? = W1.heap[k]?) ∨ (e = .returned (.bool false) ∧ Jx (pre ++ [x]) W'))
    (W : World) (hb : Blk W b bt #[.pointer (some ⟨p, 0, none⟩)]) (ht : Bt W p v xs) (h0 : J [] W) :
    CallsIn Fence.wide n Try.prog 40 #[.func (.yield l) #[] #[], .pointer (some ⟨b, 0, none⟩)] W fun e W' => (∃ v, e = .returned v) ∧
      (J xs W' ∨ (∃ pre, Jx pre W')) := by
  have hro : Fence.wide.round = none := rfl
  have h7 : Fence.wide.fn 40 := trivial
  refine callsIn_of_wp Try.func40 rfl h7 ?_ hro
  simp only [Try.ntmps40, List.size_toArray, List.length_cons, List.length_nil, Nat.reduceAdd, Nat.reduceSub, Array.replicate_succ, Array.replicate_zero, List.push_toArray, List.append_toArray, List.nil_append, List.cons_append]
  obtain ⟨A, cap, rfl, hnc, hml⟩ := ht.row.form
  have c0 : W.cell? ⟨b, 0, none⟩ = some (.pointer (some ⟨p, 0, none⟩)) := (hb.cell 0).trans rfl
  have c1 : W.cell? ⟨p, 0, none⟩ = some (.slice A xs.length cap) := (ht.blk.cell 0).trans rfl
  have HT := Lib.hid ht
  clear hb ht hnc hml
  gi_wp2
  clear c0 c1
  gi_loopw [10] (fun i wr => ∃ j : Nat, i = .int .i64 j ∧ j ≤ xs.length ∧ J (xs.take j) wr ∧ ∀ k, own (.slice A xs.length cap) k → wr.heap[k]? = W.heap[k]?)
    (fun i _ => xs.length - (intOf i).toNat)
  case atStart => exact ⟨0, rfl, Nat.zero_le _, h0, fun _ _ => rfl⟩
  case round =>
    obtain ⟨j, rfl, hj, hJs, hk⟩ := hrel
    by_cases hlt : j < xs.length
    case neg =>
      have hl : ¬ (j : Int) < (xs.length : Int) := by omega
      have he : xs.take j = xs := List.take_of_length_le (by omega)
      rw [he] at hJs
      clear he
      gi_wp2
      go_end0
      exact ⟨⟨_, rfl⟩, .inl hJs⟩
    case pos =>
      have hl : (j : Int) < (xs.length : Int) := by omega
      obtain ⟨g, off, hA, z1, z2, z3⟩ := HT.out.at hlt
      subst hA
      have z1 := (World.cell?_of_block (a := ⟨g, off + j * 3, none⟩) (hk g rfl)).trans z1
      have z2 := (World.cell?_of_block (a := ⟨g, off + j * 3 + 1, none⟩) (hk g rfl)).trans z2
      have z3 := (World.cell?_of_block (a := ⟨g, off + j * 3 + 2, none⟩) (hk g rfl)).trans z3
      have hpre : xs.take j ++ [xs[j]] = xs.take (j + 1) := by rw [List.take_add_one, List.getElem?_eq_getElem hlt]; rfl
      obtain ⟨x, hx⟩ : ∃ x, xs[j] = x := ⟨_, rfl⟩
      rw [hx] at z1 z2 z3 hpre
      have HPX := Lib.hid hpre
      have hW1 : J (xs.take j) (wr.alloc (.cells #[.string x.key, .string x.value, .bool x.gone] 31)) := hJ _ _ _ hJs ((Only.refl _ wr).alloc _)
      obtain ⟨fn, tmps, assign, body, hy, hR⟩ := hY (xs.take j) x _ (by rw [hpre]; exact List.take_prefix _ _) hW1
      dsimp only [vch] at hy hR
      have hsz : (wr.alloc (.cells #[.string x.key, .string x.value, .bool x.gone] 31)).heap.size = wr.heap.size + 1 := World.size_alloc ..
      have hkw : ∀ k, own (.slice (some ⟨g, off, none⟩) xs.length cap) k → (wr.alloc (.cells #[.string x.key, .string x.value, .bool x.gone] 31)).heap[k]? = W.heap[k]? := fun k hk1 => (Below.heap_alloc _ _ _ (by
        have := (Array.getElem?_eq_some_iff.1 ((hk k hk1).trans (Array.getElem?_eq_getElem (HT.out.row.lt hk1)))).1
        exact this)).trans (hk k hk1)
      have HKW := Lib.hid hkw
      have HHK := Lib.hid hk
      clear hx hpre hsz hkw hk
      gi_wp2_with fail
      refine ⟨fun h => absurd h (by decide), ?_⟩
      refine hR.mono ?_
      rintro e W3 (⟨rfl, hJ3, hk3⟩ | ⟨rfl, hJx3⟩)
      · rw [HPX.out] at hJ3
        have HK3 := Lib.hid hk3
        clear hk3 z1 z2 z3 hJs hW1 hy hR hY
        gi_wp2
        go_roundw
        case rel => exact ⟨j + 1, rfl, hlt, hJ3, fun k hk => (HK3.out k hk).trans (HKW.out k hk)⟩
        case measure =>
          show xs.length - ((j : Int) + 1).toNat < xs.length - ((j : Int)).toNat
          omega
      · gi_wp2
        refine bodyPost_ret (results_none rfl _ _ _) rfl ?_
        exact ⟨⟨_, rfl⟩, .inr ⟨_, hJx3⟩⟩
/-- All: its iterator tells the changes -/
theorem all_seq (n : Nat) (bt : TypeId) (b p : Nat) (v : Value) (xs : List Ch) (hn : xs.length ≤ 100000) (w : World) (c : Nat) (hb : Blk w b bt #[.pointer (some ⟨p, 0, none⟩)]) (ht : Bt w p v xs) :
    SeqC Fence.wide n Try.prog 40 #[.pointer (some ⟨b, 0, none⟩)] (fun x : Ch => #[vch x]) c (own v) xs w := by
  intro l J Jx W hW hJ hJx hY h0
  exact all_in n bt l b c p v xs J Jx hn hJ hY W (hb.below hW) (ht.below hW) h0
set_option maxHeartbeats 1000000 in
theorem all_calls (w : World) (p : Nat) : Calls Try.prog 30 #[.pointer (some ⟨p, 0, none⟩)] w fun e w' =>
    e = .returned (.func (.func 40) #[] #[.pointer (some ⟨w.heap.size, 0, none⟩)]) ∧ ∃ bt, w' = w.alloc (.cells #[.pointer (some ⟨p, 0, none⟩)] bt) := by
  go_enter Try.func30, Try.ntmps30
  go_wp2
  go_ret
  exact ⟨rfl, _, rfl⟩
end Go.Proofs.Ytjcilknfhkpepaa.Bat
/- A range over a function whose loop variable is boxed: each round lays a block ahead of its body. It speaks of no program. -/
namespace Go.Proofs.Ytjcilknfhkpepaa.Mem
open Go Go.RowKit
set_option linter.unusedVariables false
variable {F : Fence} {n : Nat} {P : Program}
theorem wpIn_rangeFunc_D {α : Type} {g : Operand} {ps : Array Tmp} {assign body : Code} {Q : Exit → Act → World → Prop} {a : Act} {w : World}
    (hro : F.round = none) (h1 : 1 ≤ n) {gf : Nat} {lb : Array Value} (hg : a.eval g = .func (.func gf) #[] lb) (hFg : F.fn gf) (eg : ∀ args w, (callFunc gf args).run P w = .ok (.enter gf args) w)
    {encs : α → Array Value} {c : Nat} {hold : Nat → Prop} {xs : List α} {w0 : World} (hseq : SeqC F (n - 1) P gf lb encs c hold xs w0) (hc : c < w.heap.size) (hh : ∀ k, hold k → k < w.heap.size)
    (hb0 : Below w0.heap.size w0 w) (hps : ∀ x, (encs x).size = ps.size)
    (I : List α → World → Prop) (Ix : Code → List α → World → Prop) (hI : Mind (fun k => k = c ∨ k = w.heap.size ∨ k = w.heap.size + 1) I) (hIx : ∀ j, Mind (fun k => k = c ∨ k = w.heap.size ∨ k = w.heap.size + 1) (Ix j)) (h0 : I [] w) (Ax : α → Act → World → Prop) (hAx : ∀ x a W W', Ax x a W → Only (fun k => k = w.heap.size + 1) W W' → Ax x a W')
    (hassign : ∀ (l : Nat) (x : α) (W : World) (K : Act → World → Prop), w.heap.size + 1 < W.heap.size → (∀ a' W', Ax x a' W' → Only (fun _ => False) W W' → K a' W') →
      assign.wpIn (F.inRound l) (n - 1 - 1) P (Exit.then K (fun _ _ _ => False)) { tmps := (ps.zip (encs x)).foldl (fun t (p, v) => t.setIfInBounds p v) a.tmps, defers := [] } W)
    (hbody : ∀ (l : Nat) (pre : List α) (x : α) (a' : Act) (W : World), pre ++ [x] <+: xs → I pre W → Ax x a' W → w.heap.size + 1 < W.heap.size → body.wpIn (F.inRound l) (n - 1 - 1) P (postC (fun k => hold k ∨ k = w.heap.size ∨ k = w.heap.size + 1) I Ix (pre ++ [x]) W) a' W)
    (hdone : ∀ (W : World), I xs W → W.heap[w.heap.size]? = some (.deferred (some [])) → Q .normal { a with defers := { target := .collected w.heap.size, args := #[] } :: a.defers } W)
    (hstop : ∀ (j : Code) (pre : List α) (W : World), Ix j pre W → W.heap[w.heap.size]? = some (.deferred (some [])) → j.wpIn F n P Q { a with defers := { target := .collected w.heap.size, args := #[] } :: a.defers } W) :
    (Code.rangeFunc g ps assign body).wpIn F n P Q a w := by
  refine wpIn_rangeFunc ?_
  intro fn hfn
  rw [hro]
  obtain ⟨rec, hrec⟩ : ∃ rec : LoopState → Option Code → Loop, rec = fun st pe => { state := st, pending := pe, fn, tmps := a.tmps, params := ps, assign, body, defers := w.heap.size } := ⟨_, rfl⟩
  obtain ⟨W1, hW1⟩ : ∃ W1, (w.alloc (.deferred (some []))).alloc (.loop (rec .ready none)) = W1 := ⟨_, rfl⟩
  have hL1 : W1.heap[w.heap.size + 1]? = some (.loop (rec .ready none)) := by
    rw [← hW1]; have := World.alloc_heap_new (w.alloc (.deferred (some []))) (.loop (rec .ready none)); rwa [World.size_alloc] at this
  have hK1 : W1.heap[w.heap.size]? = some (.deferred (some [])) := by
    rw [← hW1]; exact (Below.heap_alloc _ _ _ (by simp)).trans (World.alloc_heap_new w _)
  have hI1 : I [] W1 := hI _ _ _ h0 (by rw [← hW1]; exact ((Only.refl _ w).alloc _).alloc _)
  have hb1 : Below w0.heap.size w0 W1 := by
    rw [← hW1]; exact hb0.trans ((((Below.refl _ w).alloc (Nat.le_refl _) _).alloc (by simp) _).mono hb0.size)
  refine ⟨w.heap.size + 1, [{ target := .collected w.heap.size, args := #[] }], W1, { target := .fn (.func gf) lb, args := #[.func (.yield (w.heap.size + 1)) #[] #[]] }, W1, gf,
    #[.func (.yield (w.heap.size + 1)) #[] #[]] ++ lb, W1, ?_, ?_, ?_, ?_, fun _ => h1, ?_⟩
  · rw [← hW1, hrec]; exact run_enterLoop_outer _ _ _ _ _
  · simp only [resolve, hg]
    simp [go_sem]
  · intro f' hf'; simp [Target.leads] at hf'; subst hf'; exact hFg
  · simp [invoke, go_sem, eg]
  · have up1 : ∀ {A B : World}, Only (· = c) A B → Only (fun k => k = c ∨ k = w.heap.size ∨ k = w.heap.size + 1) A B := fun h => h.mono fun k e => .inl e
    have book : ∀ {A B : World} {k : Nat} {o : Obj}, Only (· = c) A B → A.heap[k]? = some o → w.heap.size ≤ k → B.heap[k]? = some o := fun ho hk hle => (ho.block _ (Array.getElem?_eq_some_iff.1 hk).1 (by omega)).trans hk
    refine (hseq (w.heap.size + 1)
      (fun pre W => I pre W ∧ W.heap[w.heap.size + 1]? = some (.loop (rec .ready none)) ∧ W.heap[w.heap.size]? = some (.deferred (some [])))
      (fun pre W => ∃ j, Ix j pre W ∧ W.heap[w.heap.size + 1]? = some (.loop (rec .done (some j))) ∧ W.heap[w.heap.size]? = some (.deferred (some [])))
      W1 hb1
      (fun s A B hs ho => ⟨hI s A B hs.1 (up1 ho), book ho hs.2.1 (by omega), book ho hs.2.2 (Nat.le_refl _)⟩)
      (fun s A B hs ho => by
        obtain ⟨j, hj, hl, hk⟩ := hs
        exact ⟨j, hIx j s A B hj (up1 ho), book ho hl (by omega), book ho hk (Nat.le_refl _)⟩)
      ?_ ⟨hI1, hL1, hK1⟩).mono ?_
    · rintro pre x W hpx ⟨hi, hl, hk⟩
      have hlt : w.heap.size + 1 < W.heap.size := (Array.getElem?_eq_some_iff.1 hl).1
      have hy := run_yield (P := P) (args := encs x) hl (by rw [hrec]; exact hps x)
      rw [hrec] at hy
      refine ⟨fn, _, assign, body, hy, roundIn_of_wpIn hfn (hassign _ x W _ hlt (fun a' W' hax hof => ?_))⟩
      have up0 : Only (fun k => k = c ∨ k = w.heap.size ∨ k = w.heap.size + 1) W W' := hof.mono fun _ h => h.elim
      have hl' : W'.heap[w.heap.size + 1]? = some (.loop (rec .ready none)) := (hof.block _ hlt id).trans hl
      have hk' : W'.heap[w.heap.size]? = some (.deferred (some [])) := (hof.block _ (by omega) id).trans hk
      have hlt' : w.heap.size + 1 < W'.heap.size := Nat.lt_of_lt_of_le hlt hof.size
      refine ⟨_, run_beginRound hl' (by rw [hrec]), ?_⟩
      have hl2 : (W'.putObj (w.heap.size + 1) (.loop { rec .ready none with state := .busy })).heap[w.heap.size + 1]? = some (.loop { rec .ready none with state := .busy }) := World.putObj_heap_same hlt'
      have hk2 : (W'.putObj (w.heap.size + 1) (.loop { rec .ready none with state := .busy })).heap[w.heap.size]? = some (.deferred (some [])) := (World.putObj_heap_other (by omega)).trans hk'
      have po : ∀ (A : World) (o : Obj), Only (fun k => k = c ∨ k = w.heap.size ∨ k = w.heap.size + 1) A (A.putObj (w.heap.size + 1) o) := fun A o => Only.putObj A _ o (.inr (.inr rfl))
      refine wpIn_mono (hbody _ pre x a' _ hpx (hI _ _ _ (hI _ _ _ hi up0) (po _ _)) (hAx _ _ _ _ hax (Only.putObj _ _ _ rfl)) (by rw [World.putObj_size]; exact hlt')) ?_
      have fin : ∀ (jump : Option Code) (W3 : World), (∀ k, (hold k ∨ k = w.heap.size ∨ k = w.heap.size + 1) → W3.heap[k]? = (W'.putObj (w.heap.size + 1) (.loop { rec .ready none with state := .busy })).heap[k]?) →
          (Instr.endRound (w.heap.size + 1) jump).run P W3 = .ok (.bool jump.isNone) (W3.putObj (w.heap.size + 1) (.loop (rec (if jump.isNone then .ready else .done) jump))) ∧
          (W3.putObj (w.heap.size + 1) (.loop (rec (if jump.isNone then .ready else .done) jump))).heap[w.heap.size + 1]? = some (.loop (rec (if jump.isNone then .ready else .done) jump)) ∧
          (W3.putObj (w.heap.size + 1) (.loop (rec (if jump.isNone then .ready else .done) jump))).heap[w.heap.size]? = some (.deferred (some [])) ∧
          (∀ k, hold k → (W3.putObj (w.heap.size + 1) (.loop (rec (if jump.isNone then .ready else .done) jump))).heap[k]? = W.heap[k]?) := fun jump W3 hk3 => by
        have hl3 := (hk3 _ (.inr (.inr rfl))).trans hl2
        have := run_endRound (P := P) jump hl3
        rw [hrec] at this ⊢
        refine ⟨this, World.putObj_heap_same (Array.getElem?_eq_some_iff.1 hl3).1, (World.putObj_heap_other (by omega)).trans ((hk3 _ (.inr (.inl rfl))).trans hk2), fun k hkk => ?_⟩
        have := hh k hkk
        rw [World.putObj_heap_other (by omega), hk3 k (.inl hkk), World.putObj_heap_other (by omega)]
        exact hof.block _ (by omega) id
      rintro e a3 W3 hp
      cases e with
      | normal =>
        obtain ⟨hk3, hi3⟩ := hp
        obtain ⟨hr, hl4, hk4, hh4⟩ := fin none W3 hk3
        exact ⟨_, _, hr, .inl ⟨rfl, ⟨hI _ _ _ hi3 (po _ _), hl4, hk4⟩, hh4⟩⟩
      | ret =>
        obtain ⟨hk3, hi3⟩ := hp
        obtain ⟨hr, hl4, hk4, hh4⟩ := fin (some .ret) W3 hk3
        exact ⟨_, _, hr, .inr ⟨rfl, .ret, (hIx _) _ _ _ hi3 (po _ _), hl4, hk4⟩⟩
      | exit id =>
        obtain ⟨hk3, hi3⟩ := hp
        obtain ⟨hr, hl4, hk4, hh4⟩ := fin (some (.exit id)) W3 hk3
        exact ⟨_, _, hr, .inr ⟨rfl, .exit id, (hIx _) _ _ _ hi3 (po _ _), hl4, hk4⟩⟩
      | goto t =>
        obtain ⟨hk3, hi3⟩ := hp
        obtain ⟨hr, hl4, hk4, hh4⟩ := fin (some (.goto t)) W3 hk3
        exact ⟨_, _, hr, .inr ⟨rfl, .goto t, (hIx _) _ _ _ hi3 (po _ _), hl4, hk4⟩⟩
      | panic ch => exact hp.elim
      | outgrown => exact hp.elim
    · rintro e W2 ⟨⟨v, rfl⟩, (⟨hi, hl, hk⟩ | ⟨pre, j, hi, hl, hk⟩)⟩
      · exact ⟨none, _, by have := run_endLoop (P := P) hl (by rw [hrec]; simp); rw [hrec] at this; exact this, hdone _ (hI _ _ _ hi (Only.putObj _ _ _ (.inr (.inr rfl)))) ((World.putObj_heap_other (by omega)).trans hk)⟩
      · exact ⟨some j, _, by have := run_endLoop (P := P) hl (by rw [hrec]; simp); rw [hrec] at this; exact this, hstop j pre _ ((hIx j) _ _ _ hi (Only.putObj _ _ _ (.inr (.inr rfl)))) ((World.putObj_heap_other (by omega)).trans hk)⟩
end Go.Proofs.Ytjcilknfhkpepaa.Mem
/- A region that draws its order, in the body of a range over a function: the words for a plain one serve. It speaks of no program. -/
namespace Go.Proofs.Ytjcilknfhkpepaa.Mem
open Go Go.RowKit Go.Proofs.YtjcilknfhkpepaaW.PrintLast
set_option linter.unusedVariables false
variable {P : Program} {ops : Array Oper} {Q : Exit → Act → World → Prop} {md : Region.Mode}
theorem rows_in {F : Fence} (hF : F = Fence.wide) {row : String} {args : Array Value} {w : World} {R : Value → World → Prop} (l n : Nat) (h : Rows P row args w R) : RowsIn (Fence.wide.inRound l) n P row args w R := fun c cs _ => by
  obtain ⟨v, w', r, s⟩ := h c cs
  exact ⟨v, w', r, stepsIn_wide.2 s⟩
theorem oper_in {o : Oper} {a : Act} {w : World} {K : Act → World → Prop} (l n : Nat) (hnd : ∀ c, o.op ≠ .defer c) (h : o.wp P a w K Q) : o.wpIn (Fence.wide.inRound l) n P a w K Q := by
  unfold Oper.wpIn
  refine ⟨fun _ _ => trivial, ?_⟩
  have e : (Fence.wide.inRound l).round = some l := rfl
  rw [e, Oper.semAt_some l _ o hnd]
  unfold Oper.wp at h
  generalize (execOp a.eval o).run P w = r at h ⊢
  cases r with
  | ok x w' =>
    cases x with
    | value v => exact h
    | skip => exact h
    | defer d => exact h
    | enter f args => exact ⟨fun h => (by cases h), CallsIn.inRound l (callsIn_wide.2 h)⟩
    | row r args => exact ⟨fun h => (by cases h), rows_in rfl l _ h⟩
    | _ => exact h.elim
  | halt x w' => cases x <;> first | exact h | exact h.elim
def noDefer (ops : Array Oper) : Bool := ops.all fun o => match o.op with | .defer _ => false | _ => true
theorem noDefer_at (h : noDefer ops = true) {i : Nat} {o : Oper} (ho : ops[i]? = some o) : ∀ c, o.op ≠ .defer c := by
  intro c hc
  obtain ⟨hi, rfl⟩ := Array.getElem?_eq_some_iff.1 ho
  have := Array.all_eq_true.1 h i hi
  rw [hc] at this
  cases this
theorem wpOp_in {i : Nat} {K : Act → World → Prop} {a : Act} {w : World} (l n : Nat) (hlo : ¬ LetsOut Q) (hd : noDefer ops = true) (h : wpOp P ops Q i K a w) : wpOpIn (Fence.wide.inRound l) n P ops Q i K a w := by
  unfold wpOpIn
  unfold wpOp at h
  cases ho : ops[i]? with
  | none => rw [ho] at h; exact h
  | some o =>
    rw [ho] at h
    dsimp only at h ⊢
    split
    · rename_i hw; rw [if_pos hw] at h; exact oper_in l n (noDefer_at hd ho) (h.resolve_right fun e => hlo e.2)
    · rename_i hw; rw [if_neg hw] at h; exact ⟨fun _ _ => trivial, h⟩
theorem wpAny_in (l n : Nat) (hlo : ¬ LetsOut Q) (hd : noDefer ops = true) : ∀ (fuel : Nat) (listed : Array Bool) (a : Act) (w : World), wpAny P md ops Q fuel listed a w → wpAnyIn (Fence.wide.inRound l) n P md ops Q fuel listed a w
  | 0, _, _, _, h => h
  | fuel + 1, listed, a, w, h => ⟨h.1, fun i hi => wpOpIn_mono (fun a w hh => wpAny_in l n hlo hd fuel _ a w hh) (wpOp_in l n hlo hd (h.2 i hi))⟩
theorem startIn_ {S : World → Prop} {ds : List Nat} {id n : Nat} {a : Act} {w : World} {r m : Nat} (l : Array Bool) (hm : P.follows .mixedOrders = true) (hlo : ¬ LetsOut Q) (hd : noDefer ops = true) (hn : ops.size = n) (hl : Array.replicate n false = l) (hS : S w.drew)
    (h : S w.drew → wpAnyLast P .any ops Q S ds n l a w.drew) : (Code.region id ops true).wpIn (Fence.wide.inRound r) m P Q a w := by
  subst hn
  subst hl
  exact wpIn_region_any hm (wpAny_in r m hlo hd _ _ _ _ (wpAny_of_last _ _ _ _ (h hS)))
end Go.Proofs.Ytjcilknfhkpepaa.Mem
/- batch: Texts. -/
namespace Go.Proofs.Ytjcilknfhkpepaa.Bat
open Go.RowKit Go.Shelf Go.Proofs.Ytjcilknfhkpepaa.Mem Go.Proofs.Ytjcilknfhkpepaa.X Go.Proofs.Ytjcilknfhkpepaa.Aid Go.Proofs.YtjcilknfhkpepaaW.PrintWords Go.Proofs.YtjcilknfhkpepaaW.PrintLast
attribute [local go_sem] Oper.semAt_some
set_option linter.unusedVariables false
set_option linter.unusedSimpArgs false
theorem info_s : (Try.prog.info? 9).map (fun i => (i.zero, i.size, i.bytes)) = some (some (.string ⟨#[]⟩), 1, 16) := by kernel_rfl
def txI (w : World) (tx : Ch → ByteArray) (pre : List Ch) (W : World) : Prop := ∃ v', Blk W w.heap.size 47 #[v'] ∧ Sl W 9 1 v' pre.length (pre.map fun c => .string (tx c)) ∧ (∀ k, own v' k → w.heap.size + 4 ≤ k) ∧ Below w.heap.size w W
def txAct (p b : Nat) (w : World) (x : Ch) : Act := { tmps := #[.pointer (some ⟨p, 0, none⟩), undef, .slice none 0 0, .pointer (some ⟨w.heap.size, 0, none⟩), .pointer (some ⟨b, 0, none⟩), .pointer (some ⟨p, 0, none⟩), .func (.func 40) #[] #[.pointer (some ⟨w.heap.size + 1, 0, none⟩)], .agg #[.string x.key, .string x.value, .bool x.gone], undef, undef, undef, undef, undef, undef], defers := [] }
set_option maxHeartbeats 8000000 in
set_option maxRecDepth 100000 in
theorem texts_calls (k : Nat) (w : World) (p : Nat) (v : Value) (l : List Ch) (tx : Ch → ByteArray) (h : Bt w p v l) (hn : l.length ≤ 100000) (hw : ∀ c ∈ l, batch_Write.f k c.key c.value c.gone = some (tx c)) :
    Calls Try.prog 22 #[.pointer (some ⟨p, 0, none⟩)] w fun e w' => ∃ v', e = .returned v' ∧ Sl w' 9 1 v' l.length (l.map fun c => .string (tx c)) ∧ (∀ k, own v' k → w.heap.size ≤ k) ∧ Below w.heap.size w w' := by
  have hlt0 := h.blk.lt
  have hrow : ∀ k, own v k → k < w.heap.size := fun k hk => h.row.lt hk
  have HW := Lib.hid hw
  have HR := Lib.hid hrow
  have HN := Lib.hid hn
  clear hw hrow hn
  refine (callsIn_wide (n := 3)).1 ?_
  refine callsIn_of_wp_marks Try.func22 rfl trivial ?_ rfl
  simp only [Try.ntmps22, List.size_toArray, List.length_cons, List.length_nil, Nat.reduceAdd, Nat.reduceSub, Array.replicate_succ, Array.replicate_zero, List.push_toArray, List.append_toArray, List.nil_append, List.cons_append]
  have hB0 := Blk.new w 47 #[.slice none 0 0]
  have hBA : Below w.heap.size w (w.alloc (.cells #[.slice none 0 0] 47)) := (Below.refl _ w).alloc (Nat.le_refl _) _
  have hsA : (w.alloc (.cells #[.slice none 0 0] 47)).heap.size = w.heap.size + 1 := World.size_alloc ..
  gi_wp2_with fail
  refine ⟨trivial, ?_⟩
  refine (callsIn_wide.2 (all_calls _ p)).mono ?_
  rintro e w1 ⟨rfl, bt, rfl⟩
  have hbox := Blk.new (w.alloc (.cells #[.slice none 0 0] 47)) bt #[.pointer (some ⟨p, 0, none⟩)]
  have hB1 := hBA.alloc (hBA.size) (.cells #[.pointer (some ⟨p, 0, none⟩)] bt)
  have hs1 : ((w.alloc (.cells #[.slice none 0 0] 47)).alloc (.cells #[.pointer (some ⟨p, 0, none⟩)] bt)).heap.size = w.heap.size + 2 := by simp [hsA]
  have hB0 := hB0.alloc (.cells #[.pointer (some ⟨p, 0, none⟩)] bt)
  rw [hsA] at hbox
  obtain ⟨w1, hw1⟩ : ∃ x, (w.alloc (.cells #[.slice none 0 0] 47)).alloc (.cells #[.pointer (some ⟨p, 0, none⟩)] bt) = x := ⟨_, rfl⟩
  simp only [hw1, hsA] at hB0 hbox hB1 hs1 ⊢
  clear hw1 hBA hsA
  have ht1 := h.below hB1
  have hseq := all_seq 2 bt (w.heap.size + 1) p v l HN.out w1 (w.heap.size + 1) hbox ht1
  gi_wp2_with fail
  refine Mem.wpIn_rangeFunc_D rfl (by decide) (gf := 40) (lb := #[.pointer (some ⟨w.heap.size + 1, 0, none⟩)]) rfl trivial (enters_of Try.func40 (by kernel_rfl) rfl)
    hseq (by omega) (fun k hk => by have := HR.out k hk; omega) (Below.refl _ _) (fun _ => rfl)
    (txI w tx) (fun _ _ _ => False) ?hI ?hIx ⟨_, hB0, Sl.nil _ _ _, fun k hk => (by cases hk), hB1⟩
    (fun x a W => ∃ b, a = txAct p b w x ∧ w.heap.size + 4 ≤ b ∧ Blk W b 31 #[.string x.key, .string x.value, .bool x.gone]) ?hAx ?assign ?body ?done ?stop
  case hI =>
    rintro pre W W' ⟨v', h1, h2, h3, h4⟩ ho
    exact ⟨v', ho.blk h1 (by omega), h2.only ho (fun k hk => by have := h3 k hk; omega), h3, h4.trans (ho.to_below h4.size fun q hq => by omega)⟩
  case hIx => exact fun _ _ _ _ h _ => h
  case hAx =>
    rintro x a W W' ⟨b, rfl, hb, h1⟩ ho
    exact ⟨b, rfl, hb, ho.blk h1 (by omega)⟩
  case assign =>
    intro l x W K hlt hK
    have hb0 := Blk.new W 31 #[.string ⟨#[]⟩, .string ⟨#[]⟩, .bool false]
    unfold vch
    gi_wp2
    exact hK _ _ ⟨W.heap.size, rfl, by omega, Blk.new _ _ _⟩ ((Only.refl _ W).alloc _)
  case body =>
    rintro lp pre x a' W hpx ⟨v', h1, h2, h3, h4⟩ ⟨b, rfl, hb, hbx⟩ hlt
    have hmem : x ∈ l := hpx.subset (by simp)
    have hpl : pre.length + 1 ≤ l.length := by have := hpx.length_le; rw [List.length_append] at this; exact this
    have HWX : Hid (batch_Write.f k x.key x.value x.gone = some (tx x)) := Lib.hid (HW.out x hmem)
    have HPL : Hid (pre.length + 1 ≤ 100000) := Lib.hid (Nat.le_trans hpl HN.out)
    have hkeep : ∀ W3 : World, Only (fun q => q = w.heap.size ∨ own v' q) W W3 → ∀ q, (own v q ∨ q = w1.heap.size ∨ q = w1.heap.size + 1) → W3.heap[q]? = W.heap[q]? := fun W3 ho q hq => by
      have hq1 : q < w.heap.size ∨ (w.heap.size + 2 ≤ q ∧ q ≤ w.heap.size + 3) := by
        rcases hq with hq | hq | hq
        · exact .inl (HR.out q hq)
        · exact .inr (by omega)
        · exact .inr (by omega)
      refine ho.block q (by omega) ?_
      rintro (e | e)
      · omega
      · have := h3 q e; omega
    have HKP := Lib.hid hkeep
    have H3 := Lib.hid h3
    have hne0 : b ≠ w.heap.size := by omega
    obtain ⟨A, cap, rfl, hnc, hml⟩ := h2.form
    clear hmem hpl hkeep h3 hpx
    unfold txAct
    gi_wp2_with fail
    refine startIn_ (n := 6) (S := fun w' => Blk w' w.heap.size 47 #[.slice A pre.length cap] ∧ Sl w' 9 1 (.slice A pre.length cap) pre.length (pre.map fun c => .string (tx c)) ∧ Blk w' b 31 #[.string x.key, .string x.value, .bool x.gone] ∧ Below W.heap.size W w') (ds := [4, 5]) #[false, false, false, false, false, false] (by kernel_rfl) (by rintro ⟨a, w, h⟩; exact h) (by kernel_rfl) rfl rfl ⟨h1.drew, h2.drew, hbx.drew, (Below.refl _ W).drew⟩ (fun hHeld => ?_)
    generalize W.drew = w3 at hHeld ⊢
    refine take_ (i := 0) (N := some 8) (v := ?_) (a' := ?_) #[true, false, false, false, false, false] rfl rfl (by kernel_rfl) (fun _ _ _ h => h) (Or.inl ⟨by rfl, ?_⟩) hHeld ?_ ?_
    rotate_left
    · rintro w' ⟨g1, g2, g3, g4⟩
      have z0 : w'.cell? ⟨w.heap.size, 0, none⟩ = some (.slice A pre.length cap) := (g1.cell 0).trans rfl
      go_simp
      with_reducible rfl
    rotate_left
    · simp only [Act.put, List.setIfInBounds_toArray, List.set_cons_zero, List.set_cons_succ]
      rfl
    refine take_ (i := 1) (N := some 9) (v := ?_) (a' := ?_) #[true, true, false, false, false, false] rfl rfl (by kernel_rfl) (fun _ _ _ h => h) (Or.inl ⟨by rfl, ?_⟩) hHeld ?_ ?_
    rotate_left
    · rintro w' ⟨g1, g2, g3, g4⟩
      have z0 : w'.cell? ⟨b, 0, none⟩ = some (.string x.key) := (g3.cell 0).trans rfl
      have z1 : w'.cell? ⟨b, 1, none⟩ = some (.string x.value) := (g3.cell 1).trans rfl
      have z2 : w'.cell? ⟨b, 2, none⟩ = some (.bool x.gone) := (g3.cell 2).trans rfl
      go_simp
      with_reducible rfl
    rotate_left
    · simp only [Act.put, List.setIfInBounds_toArray, List.set_cons_zero, List.set_cons_succ]
      rfl
    refine one_ (i := 2) (N := some 10) #[true, true, true, false, false, false] rfl rfl (by kernel_rfl) (by decide) (fun K hK => ?_)
    go_simp
    go_wp2_with (go_at_call 27; refine (batch_Write.calls k x.key x.value x.gone (tx x) _ HWX.out).mono ?_; rintro e w4 ⟨rfl, hb4⟩)
    refine hK.out _ _ ⟨hHeld.1.below hb4, hHeld.2.1.below hb4, hHeld.2.2.1.below hb4, hHeld.2.2.2.trans (hb4.mono hHeld.2.2.2.size)⟩ (fun hHeld => ?_)
    clear hK K
    refine one_ (i := 3) (N := some 11) #[true, true, true, true, false, false] rfl rfl (by kernel_rfl) (by decide) (fun K hK => ?_)
    go_simp
    have hv9 := Blk.new w4 9 #[.string (tx x)]
    refine hK.out _ _ ⟨hHeld.1.alloc _, hHeld.2.1.alloc _, hHeld.2.2.1.alloc _, hHeld.2.2.2.alloc hHeld.2.2.2.size _⟩ (fun hHeld => ?_)
    clear hK K
    have hvl : W.heap.size ≤ w4.heap.size := by
      have := hHeld.2.2.2.size
      exact Nat.le_trans (by rename_i hh; exact hh.2.2.2.size) (Nat.le_refl _)
    obtain ⟨vb, hvb⟩ : ∃ vb, w4.heap.size = vb := ⟨_, rfl⟩
    obtain ⟨w5, hw5⟩ : ∃ w5, w4.alloc (.cells #[.string (tx x)] 9) = w5 := ⟨_, rfl⟩
    rw [hw5] at hHeld hv9
    rw [hvb] at hv9 hvl
    simp only [hvb, hw5]
    clear hvb hw5
    obtain ⟨i0, hi, hz0, hz1, hz2⟩ := info_parts info_s
    refine last_ (i := 4) (N := some 12) #[true, true, true, true, true, false] rfl rfl (by kernel_rfl) (by decide) (fun K hK => ?_)
    refine step_append_sl rfl _ _ 47 47 rfl 9 i0 _ 1 16 Try.underlying47 hi hz0 hz1 hz2 rfl _ _ _ rfl hHeld.2.1 _ 1 [.string (tx x)] rfl (src_blk hv9 Try.underlying47 1 1 rfl (by simp [Value.oneCell'])) (by have := HPL.out; unfold maxLen; omega) (by have := HPL.out; omega) ?_
    intro A' cap' w6 hs6 ho6 hn6
    have hbk6 := ho6.blk hHeld.1 (fun e => by have := H3.out _ e; omega)
    have ho7 : Only (fun q => q = w.heap.size ∨ own (.slice A pre.length cap) q) W w6 := (Only.of_below hHeld.2.2.2 _).trans (ho6.mono fun k hk => .inr hk)
    have hn7 : ∀ k, own (.slice A' (pre.length + 1) cap') k → w.heap.size + 4 ≤ k := fun k hk => (hn6 k hk).elim (H3.out k) (fun e => by have := hHeld.2.2.2.size; omega)
    have h47 : Below w.heap.size w w6 := h4.trans (ho7.to_below h4.size (by
      rintro q (rfl | e)
      · exact Nat.le_refl _
      · have := H3.out q e; omega))
    have HB6 := Lib.hid (And.intro hs6 (And.intro hbk6 (And.intro ho7 (And.intro hn7 h47))))
    refine hK.out _ _ ?_
    clear hK K hHeld hs6 ho6 hn6 hv9 hbk6 ho7 hn7 h47
    refine last_ (i := 5) (N := none) #[true, true, true, true, true, true] rfl rfl (by kernel_rfl) (by decide) (fun K hK => ?_)
    have x6 : w6.cell? ⟨w.heap.size, 0, none⟩ = some (.slice A pre.length cap) := (HB6.out.2.1.cell 0).trans rfl
    have f6 := HB6.out.2.1.frozen 0
    go_simp
    refine hK.out _ _ ?_
    clear hK K
    refine done_ (by kernel_rfl) ?_
    clear x6 f6
    obtain ⟨hs6, hbk6, ho7, hn7, h47⟩ := HB6.out
    have q1 := hbk6.set_ 0 (.slice A' (pre.length + 1) cap')
    have q2 := hs6.far (p := ⟨w.heap.size, 0, none⟩) (fun e => by have := hn7 _ e; dsimp only at this; omega) (.slice A' (pre.length + 1) cap')
    have q3 := ho7.put (.inl rfl) 0 (.slice A' (pre.length + 1) cap')
    have q4 := h47.setCell (p := ⟨w.heap.size, 0, none⟩) (Nat.le_refl _) (.slice A' (pre.length + 1) cap')
    refine ⟨HKP.out _ q3, ⟨_, q1, ?_, hn7, q4⟩⟩
    rw [List.length_append, List.map_append]
    exact q2
  case done =>
    rintro W ⟨v', h1, h2, h3, h4⟩ hD
    have c1 := (h1.cell 0).trans rfl
    obtain ⟨A, cap, rfl, hnc, hml⟩ := h2.form
    clear hnc hml
    gi_wp2
    refine ⟨by simp, .inl ⟨_, _, rfl, run_takeDeferred hD, ?_⟩⟩
    have hlt2 : w1.heap.size < W.heap.size := (Array.getElem?_eq_some_iff.1 hD).1
    have ho := Only.putObj (F := fun k => k = w1.heap.size) W w1.heap.size (.deferred none) rfl
    exact ⟨_, by simp [results, Try.results22, go_sem], _, rfl, h2.only ho (fun k hk => by have := h3 k hk; omega), fun k hk => by have := h3 k hk; omega, h4.trans (ho.to_below h4.size fun q hq => by omega)⟩
  case stop => exact fun _ _ _ h _ => h.elim
end Go.Proofs.Ytjcilknfhkpepaa.Bat
/- batch: many keys, the plain part. -/
namespace Go.Proofs.Ytjcilknfhkpepaa.Bat
open Go.RowKit Go.Proofs.Ytjcilknfhkpepaa.Mem Go.Proofs.Ytjcilknfhkpepaa.X Go.Proofs.Ytjcilknfhkpepaa.Aid
set_option linter.unusedVariables false
def nk (j : Nat) : ByteArray := strOfNums [107, (wrap64 (Int.tdiv (j : Int) 256)) % 256, (Int.tmod (j : Int) 256) % 256]
theorem nk_num (j : Nat) : bulletinlaw10_number.f (j : Int) = some (nk j) := rfl
theorem nk_step : ∀ i, i < 2101 → lt (nk i) (nk (i + 1)) := by decide +kernel
theorem nk_size : ∀ i, i < 2101 → (nk i).size = 3 := by decide +kernel
theorem nk_lt : ∀ (d i : Nat), i + d + 1 ≤ 2101 → lt (nk i) (nk (i + d + 1))
  | 0, i, h => nk_step i (by omega)
  | d + 1, i, h => lt_trans (nk_lt d i (by omega)) (nk_step (i + d + 1) (by omega))
theorem nk_mono {i j : Nat} (h : i < j) (hj : j ≤ 2101) : lt (nk i) (nk j) := by
  obtain ⟨d, rfl⟩ : ∃ d, j = i + d + 1 := ⟨j - i - 1, by omega⟩
  exact nk_lt d i hj
theorem nk_inj {i j : Nat} (h : nk i = nk j) (hi : i ≤ 2101) (hj : j ≤ 2101) : i = j := by
  rcases Nat.lt_trichotomy i j with e | e | e
  · exact (lt_irrefl _ (h ▸ nk_mono e hj)).elim
  · exact e
  · exact (lt_irrefl _ (h ▸ nk_mono e hi)).elim
def mk (m : Nat) : List Ch := (List.range m).map fun j => ⟨nk j, ⟨#[118]⟩, false⟩
theorem mk_len (m : Nat) : (mk m).length = m := by simp [mk]
theorem mk_succ (m : Nat) : mk (m + 1) = mk m ++ [⟨nk m, ⟨#[118]⟩, false⟩] := by simp [mk, List.range_succ]
theorem mk_mem {m : Nat} {c : Ch} (h : c ∈ mk m) : ∃ j, j < m ∧ c.key = nk j := by
  obtain ⟨j, hj, rfl⟩ := List.mem_map.1 h
  exact ⟨j, List.mem_range.1 hj, rfl⟩
theorem put_end : ∀ (l : List Ch) (c : Ch), (∀ x ∈ l, lt x.key c.key) → put l c = l ++ [c]
  | [], c, _ => rfl
  | a :: r, c, h => by
    rw [put_cons, if_pos (h a (by simp)), put_end r c (fun x hx => h x (by simp [hx]))]
    rfl
theorem there_end : ∀ (l : List Ch) (key : ByteArray), (∀ x ∈ l, lt x.key key) → there l key = false
  | [], _, _ => rfl
  | a :: r, key, h => by
    unfold there
    rw [if_pos (h a (by simp))]
    exact there_end r key (fun x hx => h x (by simp [hx]))
theorem mk_sorted : ∀ m, m ≤ 2100 → Sorted (mk m)
  | 0, _ => List.Pairwise.nil
  | m + 1, h => by
    have hm : ∀ x ∈ mk m, lt x.key (⟨nk m, ⟨#[118]⟩, false⟩ : Ch).key := fun x hx => by
      obtain ⟨j, hj, e⟩ := mk_mem hx
      rw [e]
      exact nk_mono hj (by omega)
    rw [mk_succ, ← put_end _ _ hm]
    exact put_sorted _ _ (mk_sorted m (by omega))
theorem find_mem : ∀ (l : List Ch) (c : Ch), c ∈ l → (find l c.key).isSome = true
  | a :: r, c, h => by
    unfold find
    by_cases e : a.key = c.key
    · rw [if_pos e]; rfl
    · rw [if_neg e]
      rcases List.mem_cons.1 h with e1 | e1
      · exact (e (by rw [e1])).elim
      · exact find_mem r c e1
theorem mk_there (m j : Nat) (hm : m ≤ 2100) (hj : j ≤ 2100) : there (mk m) (nk j) = decide (j < m) := by
  rw [← find_there _ _ (mk_sorted m hm)]
  by_cases h : j < m
  · rw [decide_eq_true h]
    have : (⟨nk j, ⟨#[118]⟩, false⟩ : Ch) ∈ mk m := List.mem_map.2 ⟨j, List.mem_range.2 h, rfl⟩
    exact find_mem _ _ this
  · rw [decide_eq_false h, find_none _ _ (fun x hx e => by
      obtain ⟨i, hi, e1⟩ := mk_mem hx
      have := nk_inj (e1.symm.trans e) (by omega) (by omega)
      omega)]
    rfl
theorem nk_fits (j : Nat) (hj : j ≤ 2100) (v : ByteArray) (hv : v.size ≤ 1) (g : Bool) : fits ⟨nk j, v, g⟩ = 0 := by
  unfold fits
  rw [nk_size j (by omega), if_neg (by decide), if_neg (by dsimp only; omega)]
/-- a key is put behind the others -/
theorem many_put (i : Nat) (hi : i < 2100) : change (mk (min i 2000)) ⟨nk i, ⟨#[118]⟩, false⟩ = (mk (min (i + 1) 2000), if i < 2000 then 0 else 8) := by
  have hth := mk_there (min i 2000) i (by omega) (by omega)
  rw [decide_eq_false (by omega)] at hth
  have hf := nk_fits i (by omega) ⟨#[118]⟩ (by decide) false
  unfold change
  rw [if_neg (by rw [hf]; simp), hth, mk_len]
  by_cases h : i < 2000
  · rw [if_neg (by omega), if_pos h, Nat.min_eq_left (by omega), Nat.min_eq_left (by omega), mk_succ, put_end _ _ (fun x hx => by
      obtain ⟨j, hj, e⟩ := mk_mem hx
      rw [e]
      exact nk_mono hj (by omega))]
  · rw [if_pos ⟨rfl, by omega⟩, if_neg h, Nat.min_eq_right (by omega), Nat.min_eq_right (by omega)]
theorem getOf_find (l : List Ch) (key : ByteArray) (hs : Sorted l) : getOf l key = (find l key).getD ⟨⟨#[]⟩, ⟨#[]⟩, false⟩ := by
  rw [find_pos l key hs]
  unfold getOf
  split <;> rfl
/-- what the last change tells -/
theorem many_del (n k : Nat) (hn : n ≤ 2100) (hk : k < 2100) (T : Bool) (hT : T = decide (k < n ∧ k < 2000 ∨ n < 2000)) :
    ∃ l', change (mk (min n 2000)) ⟨nk k, ⟨#[]⟩, true⟩ = (l', if T = true then 0 else 8) ∧ Sorted l' ∧ l'.length ≤ 2000 ∧ there l' (nk k) = T ∧ (getOf l' (nk k)).gone = T := by
  have hs := mk_sorted (min n 2000) (by omega)
  have hth := mk_there (min n 2000) k (by omega) (by omega)
  have hf := nk_fits k (by omega) ⟨#[]⟩ (by decide) true
  have hcs := change_sorted (mk (min n 2000)) ⟨nk k, ⟨#[]⟩, true⟩ hs
  have hcl := change_len (mk (min n 2000)) ⟨nk k, ⟨#[]⟩, true⟩ (by rw [mk_len]; omega)
  refine ⟨_, Prod.ext rfl ?_, hcs, hcl, ?_, ?_⟩
  all_goals clear hcl
  · unfold change
    rw [if_neg (by rw [hf]; simp), hth, mk_len, hT]
    by_cases h : k < n ∧ k < 2000 ∨ n < 2000
    · rw [decide_eq_true h, if_pos rfl, if_neg (by simp; omega)]
    · rw [decide_eq_false h, if_pos ⟨decide_eq_false (by omega), by omega⟩]; rfl
  · rw [← find_there _ _ hcs]
    unfold change
    rw [if_neg (by rw [hf]; simp), hth, mk_len, hT]
    by_cases h : k < n ∧ k < 2000 ∨ n < 2000
    · rw [decide_eq_true h, if_neg (by simp; omega)]
      show (find (put _ _) _).isSome = true
      rw [find_put _ _ _ hs, if_pos rfl]; rfl
    · rw [decide_eq_false h, if_pos ⟨decide_eq_false (by omega), by omega⟩]
      show (find (mk _) _).isSome = false
      rw [find_there _ _ hs, hth]
      exact decide_eq_false (by omega)
  · rw [getOf_find _ _ hcs]
    unfold change
    rw [if_neg (by rw [hf]; simp), hth, mk_len, hT]
    by_cases h : k < n ∧ k < 2000 ∨ n < 2000
    · rw [decide_eq_true h, if_neg (by simp; omega)]
      show ((find (put _ _) _).getD _).gone = true
      rw [find_put _ _ _ hs, if_pos rfl]; rfl
    · rw [decide_eq_false h, if_pos ⟨decide_eq_false (by omega), by omega⟩]
      show ((find (mk _) _).getD _).gone = false
      have : find (mk (min n 2000)) (nk k) = none := by
        have := find_there (mk (min n 2000)) (nk k) hs
        rw [hth, decide_eq_false (by omega)] at this
        exact Option.isNone_iff_eq_none.1 (by rw [← Option.not_isSome, this]; rfl)
      rw [this]; rfl
theorem below_2100 (s : Int) : ∃ k : Nat, k < 2100 ∧ bulletinbook_Below.f s 2100 = some (k : Int) := by
  unfold bulletinbook_Below.f
  rw [if_neg (by decide)]
  have h1 := Int.tmod_lt_of_pos s (show (0 : Int) < 2100 by decide)
  have h2 : -2100 < Int.tmod s 2100 := by
    have := Int.lt_tmod_of_pos s (show (0 : Int) < 2100 by decide)
    exact this
  by_cases h : Int.tmod s 2100 < 0
  · rw [if_pos h]
    refine ⟨(Int.tmod s 2100 + 2100).toNat, by omega, ?_⟩
    rw [w64 (by omega) (by omega)]
    congr 1
    omega
  · rw [if_neg h]
    exact ⟨(Int.tmod s 2100).toNat, by omega, by congr 1; omega⟩
end Go.Proofs.Ytjcilknfhkpepaa.Bat
/- batch: the last one holds, the plain part. -/
namespace Go.Proofs.Ytjcilknfhkpepaa.Bat
open Go.RowKit Go.Proofs.Ytjcilknfhkpepaa.Mem Go.Proofs.Ytjcilknfhkpepaa.X Go.Proofs.Ytjcilknfhkpepaa.Aid
set_option linter.unusedVariables false
def nrm (c : Ch) : Ch := if c.gone = true then ⟨c.key, ⟨#[]⟩, true⟩ else ⟨c.key, c.value, false⟩
theorem nrm_key (c : Ch) : (nrm c).key = c.key := by unfold nrm; split <;> rfl
theorem nrm_gone (c : Ch) : (nrm c).gone = c.gone := by
  unfold nrm
  cases c.gone <;> rfl
theorem there_find (l : List Ch) (key : ByteArray) (hs : Sorted l) : there l key = (find l key).isSome := (find_there l key hs).symm
theorem last_same (q : List Ch) (c : Ch) (key : ByteArray) (hs : Sorted q) (h : key ≠ c.key ∨ (change q c).2 ≠ 0) : getOf (change q c).1 key = getOf q key ∧ there (change q c).1 key = there q key := by
  have hcs := change_sorted q c hs
  rw [getOf_find _ _ hcs, getOf_find _ _ hs, there_find _ _ hcs, there_find _ _ hs]
  unfold change at h ⊢
  by_cases h1 : fits c ≠ 0
  · rw [if_pos h1]; exact ⟨rfl, rfl⟩
  · rw [if_neg h1] at h ⊢
    by_cases h2 : there q c.key = false ∧ 2000 ≤ q.length
    · rw [if_pos h2]; exact ⟨rfl, rfl⟩
    · rw [if_neg h2] at h ⊢
      have hk : ¬ c.key = key := by
        rcases h with h | h
        · exact fun e => h e.symm
        · exact (h rfl).elim
      dsimp only
      rw [find_put _ _ _ hs, if_neg hk]
      exact ⟨rfl, rfl⟩
theorem last_new (q : List Ch) (c : Ch) (hs : Sorted q) (h : (change q c).2 = 0) : getOf (change q c).1 c.key = c ∧ there (change q c).1 c.key = true := by
  have hcs := change_sorted q c hs
  rw [getOf_find _ _ hcs, there_find _ _ hcs]
  unfold change at h ⊢
  by_cases h1 : fits c ≠ 0
  · rw [if_pos h1] at h; exact (h1 h).elim
  · rw [if_neg h1] at h ⊢
    by_cases h2 : there q c.key = false ∧ 2000 ≤ q.length
    · rw [if_pos h2] at h; exact absurd (show (8 : Int) = 0 from h) (by decide)
    · rw [if_neg h2]
      dsimp only
      rw [find_put _ _ _ hs, if_pos rfl]
      exact ⟨rfl, rfl⟩
def toCh (x : S24) : Ch := ⟨x.f0, x.f1, x.f2⟩
/-- the batch behind some changes -/
def after (l : List S24) : List Ch := l.foldl (fun q x => (change q (nrm (toCh x))).1) []
theorem after_succ (l : List S24) (i : Nat) (h : i < l.length) : after (l.take (i + 1)) = (change (after (l.take i)) (nrm (toCh l[i]))).1 := by
  unfold after
  rw [List.take_add_one, List.getElem?_eq_getElem h, List.foldl_append]
  rfl
theorem fold_ok : ∀ (l : List S24) (q : List Ch), Sorted q → q.length ≤ 2000 → Sorted (l.foldl (fun q x => (change q (nrm (toCh x))).1) q) ∧ (l.foldl (fun q x => (change q (nrm (toCh x))).1) q).length ≤ 2000
  | [], q, h1, h2 => ⟨h1, h2⟩
  | x :: r, q, h1, h2 => fold_ok r _ (change_sorted _ _ h1) (change_len _ _ h2)
theorem after_ok (l : List S24) : Sorted (after l) ∧ (after l).length ≤ 2000 := fold_ok l [] List.Pairwise.nil (by simp)
theorem light_some (l : List S24) : ∀ (d i : Nat), 40 - i = d → i ≤ 40 → ∃ b, bulletinlaw10_Light.l0 (2 * d + 2) l (i : Int) = some b
  | 0, i, hd, hi => by
    have : i = 40 := by omega
    subst this
    refine ⟨decide ((l.length : Int) ≤ 40), ?_⟩
    show (if ((40 : Nat) : Int) < (l.length : Int) then bulletinlaw10_Light.j1 1 l ((40 : Nat) : Int) (decide (((40 : Nat) : Int) < 40)) else bulletinlaw10_Light.j1 1 l ((40 : Nat) : Int) false) = _
    split <;> rfl
  | d + 1, i, hd, hi => by
    obtain ⟨b, hb⟩ := light_some l d (i + 1) (by omega) (by omega)
    by_cases h : (i : Int) < (l.length : Int)
    · have e : bulletinlaw10_Light.l0 (2 * (d + 1) + 2) l (i : Int) = bulletinlaw10_Light.j1 (2 * d + 3) l (i : Int) true := by
        show (if (i : Int) < (l.length : Int) then bulletinlaw10_Light.j1 (2 * d + 3) l (i : Int) (decide ((i : Int) < 40)) else bulletinlaw10_Light.j1 (2 * d + 3) l (i : Int) false) = _
        rw [if_pos h, decide_eq_true (show (i : Int) < 40 by omega)]
      have e2 : bulletinlaw10_Light.j1 (2 * d + 3) l (i : Int) true = (if 0 ≤ (i : Int) then (if (i : Int) < (l.length : Int) then (if (((rd_T24 l (i : Int)).f0).size : Int) > 300 then (some false) else (if (((rd_T24 l (i : Int)).f1).size : Int) > 1000 then (some false) else (bulletinlaw10_Light.l0 (2 * d + 2) l (wrap64 ((i : Int) + 1))))) else none) else none) := rfl
      rw [e, e2, if_pos (by omega), if_pos h]
      by_cases h3 : (((rd_T24 l (i : Int)).f0).size : Int) > 300
      · rw [if_pos h3]; exact ⟨_, rfl⟩
      · rw [if_neg h3]
        by_cases h4 : (((rd_T24 l (i : Int)).f1).size : Int) > 1000
        · rw [if_pos h4]; exact ⟨_, rfl⟩
        · rw [if_neg h4, w64 (by omega) (by omega)]
          exact ⟨b, hb⟩
    · have e : bulletinlaw10_Light.l0 (2 * (d + 1) + 2) l (i : Int) = bulletinlaw10_Light.j1 (2 * d + 3) l (i : Int) false := by
        show (if (i : Int) < (l.length : Int) then bulletinlaw10_Light.j1 (2 * d + 3) l (i : Int) (decide ((i : Int) < 40)) else bulletinlaw10_Light.j1 (2 * d + 3) l (i : Int) false) = _
        rw [if_neg h]
      rw [e]
      exact ⟨_, rfl⟩
theorem light_f (l : List S24) : ∃ b, bulletinlaw10_Light.f 82 l = some b := light_some l 40 0 rfl (by omega)
end Go.Proofs.Ytjcilknfhkpepaa.Bat
/- batch: one and works of the laws. -/
namespace Go.Proofs.Ytjcilknfhkpepaa.Bat
open Go.RowKit Go.Proofs.Ytjcilknfhkpepaa.Mem Go.Proofs.Ytjcilknfhkpepaa.X Go.Proofs.YtjcilknfhkpepaaW.PrintWords Go.Proofs.YtjcilknfhkpepaaW.PrintLast Go.Proofs.YtjcilknfhkpepaaW.PrintMore Go.Proofs.Ytjcilknfhkpepaa.Aid
set_option linter.unusedVariables false
set_option linter.unusedSimpArgs false
set_option maxHeartbeats 4000000 in
set_option maxRecDepth 100000 in
theorem one_calls (w : World) (p : Nat) (v : Value) (l : List Ch) (c : Ch) (h : Bt w p v l) (hs : Sorted l) (hn : l.length ≤ 2000) :
    Calls Try.prog 11 #[.pointer (some ⟨p, 0, none⟩), vch c] w fun e w' => ∃ v', e = .returned (.int .i64 (change l (nrm c)).2) ∧ Bt w' p v' (change l (nrm c)).1 ∧ Only (fun k => k = p ∨ own v k) w w' ∧ ∀ k, own v' k → own v k ∨ w.heap.size ≤ k := by
  obtain ⟨ck, cv, cg⟩ := c
  have h1 := h.alloc (.cells #[.string ck, .string cv, .bool cg] 24)
  have ho : Only (fun k => k = p ∨ own v k) w (w.alloc (.cells #[.string ck, .string cv, .bool cg] 24)) := (Only.refl _ w).alloc _
  have hz : w.heap.size ≤ (w.alloc (.cells #[.string ck, .string cv, .bool cg] 24)).heap.size := ho.size
  cases cg with
  | true =>
    have hc := del_calls _ p v l ck h1 hs hn
    clear h hs hn h1
    unfold vch
    go_enter Try.func11, Try.ntmps11
    go_wp2_with fail
    refine hc.mono ?_
    rintro e w' ⟨v', rfl, h1, h2, h3⟩
    clear hc
    go_wp2
    go_ret
    exact ⟨v', rfl, h1, ho.trans h2, fun k hk => (h3 k hk).imp id fun e => Nat.le_trans hz e⟩
  | false =>
    have hc := put_calls _ p v l ck cv h1 hs hn
    clear h hs hn h1
    unfold vch
    go_enter Try.func11, Try.ntmps11
    go_wp2_with fail
    refine hc.mono ?_
    rintro e w' ⟨v', rfl, h1, h2, h3⟩
    clear hc
    go_wp2
    go_ret
    exact ⟨v', rfl, h1, ho.trans h2, fun k hk => (h3 k hk).imp id fun e => Nat.le_trans hz e⟩
theorem equalIn_func (P : Program) (w : World) (d : Nat) (t : TypeId) (ps rs : Array TypeId) (b : Bool) (f : Fn) (x y : Array Value) (h : P.underlying t = some (.func ps rs b)) : (Op.equalIn (d + 1) t (.func f x y) .nilFunc).run P w = .ok false w := by
  simp [Op.equalIn, run_underlying h]
theorem equal_func (P : Program) (w : World) (t : TypeId) (ps rs : Array TypeId) (b : Bool) (f : Fn) (x y : Array Value) (h : P.underlying t = some (.func ps rs b)) : (Op.equal t (.func f x y) .nilFunc).run P w = .ok false w := equalIn_func P w 9999 t ps rs b f x y h
theorem neq_func (P : Program) (w : World) (t : TypeId) (ps rs : Array TypeId) (b : Bool) (f : Fn) (x y : Array Value) (h : P.underlying t = some (.func ps rs b)) : (binOp .neq t (.func f x y) .nilFunc).run P w = .ok (.bool true) w := by
  simp only [binOp]
  simp [equal_func P w t ps rs b f x y h]
theorem write_ab : batch_Write.f 40 ⟨#[97]⟩ ⟨#[98]⟩ false = some ⟨#[49, 58, 43, 44, 49, 58, 97, 44, 49, 58, 98, 44]⟩ := by decide +kernel
set_option maxHeartbeats 8000000 in
set_option maxRecDepth 100000 in
theorem works_calls (w : World) : Calls Try.prog 8 #[] w fun e w' => e = .returned (.bool true) ∧ Below w.heap.size w w' := by
  go_enter Try.func8, Try.ntmps8
  go_wp2_with fail
  refine (new_calls w).mono ?_
  rintro e w1 ⟨rfl, h1, hb1⟩
  have hs0 : Sorted [] := List.Pairwise.nil
  have hc := put_calls w1 w.heap.size _ [] ⟨#[97]⟩ ⟨#[98]⟩ h1 hs0 (by simp)
  obtain ⟨p, hp⟩ : ∃ p, w.heap.size = p := ⟨_, rfl⟩
  have HP := Lib.hid hp
  rw [hp] at h1 hb1 hc
  simp only [hp]
  clear hp
  go_wp2_with fail
  refine hc.mono ?_
  rintro e w2 ⟨v', rfl, h2, ho2, hn2⟩
  have hch : change [] ⟨⟨#[97]⟩, ⟨#[98]⟩, false⟩ = ([⟨⟨#[97]⟩, ⟨#[98]⟩, false⟩], 0) := by kernel_rfl
  rw [hch] at h2
  simp only [hch]
  have hb2 := hb1.trans (ho2.to_below (by rw [← HP.out]; exact hb1.size) (by
    rintro k (rfl | e)
    · exact Nat.le_refl _
    · cases e))
  clear hch hc ho2 hn2 h1 hb1
  have hs2 : Sorted [⟨⟨#[97]⟩, ⟨#[98]⟩, false⟩] := by simp [Sorted]
  have hg := get_calls w2 p v' _ ⟨#[97]⟩ h2 hs2 (by simp)
  have e1 : getOf [⟨⟨#[97]⟩, ⟨#[98]⟩, false⟩] ⟨#[97]⟩ = ⟨⟨#[97]⟩, ⟨#[98]⟩, false⟩ := by kernel_rfl
  have e2 : there [⟨⟨#[97]⟩, ⟨#[98]⟩, false⟩] ⟨#[97]⟩ = true := by decide +kernel
  rw [e1, e2] at hg
  unfold vch at hg
  clear e1 e2
  go_wp2_with fail
  refine hg.mono ?_
  rintro e w3 ⟨rfl, hb3⟩
  have h3 := h2.below hb3
  have hb4 := hb2.trans (hb3.mono (by rw [← HP.out]; exact hb2.size))
  have h5 := h3.alloc (.cells #[.string ⟨#[97]⟩, .string ⟨#[98]⟩, .bool false] 31)
  have hb5 := hb4.alloc (by rw [← HP.out]; exact hb4.size) (.cells #[.string ⟨#[97]⟩, .string ⟨#[98]⟩, .bool false] 31)
  have hx5 := Blk.new w3 31 #[.string ⟨#[97]⟩, .string ⟨#[98]⟩, .bool false]
  clear hg h2 hb2 hb3 h3 hb4
  go_wp2_with fail
  obtain ⟨bx, hbx⟩ : ∃ x, w3.heap.size = x := ⟨_, rfl⟩
  obtain ⟨w4, hw4⟩ : ∃ x, w3.alloc (.cells #[.string ⟨#[97]⟩, .string ⟨#[98]⟩, .bool false] 31) = x := ⟨_, rfl⟩
  rw [hw4] at h5 hb5 hx5
  rw [hbx] at hx5
  simp only [hw4, hbx]
  clear hw4 hbx
  have ht := texts_calls 40 w4 p v' _ (fun _ => ⟨#[49, 58, 43, 44, 49, 58, 97, 44, 49, 58, 98, 44]⟩) h5 (by simp) (fun c hc => by
    have : c = ⟨⟨#[97]⟩, ⟨#[98]⟩, false⟩ := by simpa using hc
    rw [this]; exact write_ab)
  refine ht.mono ?_
  rintro e w5 ⟨v5, rfl, hs5, hn5, hb6⟩
  have hx6 := hx5.below hb6
  have hb7 := hb5.trans (hb6.mono (by rw [← HP.out]; exact hb5.size))
  obtain ⟨g, off, cap, cur, hv, z2, z3, z4, z5, z6⟩ := hs5.form_pos (by simp)
  have c0 := hs5.cell hv (j := 0) (by simp)
  subst hv
  clear z2 z3 z4 z5 z6 hn5 hb6 ht h5 hb5 hx5 hs5
  have y1 : w5.cell? ⟨bx, 1, none⟩ = some (.string ⟨#[98]⟩) := (hx6.cell 1).trans rfl
  simp only [List.map_cons, List.map_nil, List.length_cons, List.length_nil, List.getElem?_cons_zero, Nat.zero_add, Nat.add_zero] at c0 ⊢
  go_wp2_with fail
  refine (all_calls w5 p).mono ?_
  rintro e w6 ⟨rfl, bt, rfl⟩
  have hb8 := hb7.alloc (by rw [← HP.out]; exact hb7.size) (.cells #[.pointer (some ⟨p, 0, none⟩)] bt)
  have hne := fun w => neq_func Try.prog w _ _ _ _ (.func 40) #[] #[.pointer (some ⟨w5.heap.size, 0, none⟩)] Try.underlying61
  go_wp2
  go_ret
  exact ⟨rfl, by rw [HP.out]; exact hb8⟩
end Go.Proofs.Ytjcilknfhkpepaa.Bat
/- Plain lemmas on decimal digits and on texts behind their lengths (nets), on lists of bytes: no program. -/
namespace Go.Proofs.Ytjcilknfhkpepaa.Nets
open Go.Proofs.Ytjcilknfhkpepaa.Aid
set_option linter.unusedVariables false
set_option linter.unusedSimpArgs false

/-- a byte for a number -/
abbrev B (n : Nat) : UInt8 := UInt8.ofNat n
theorem B_toNat {n : Nat} (h : n < 256) : (B n).toNat = n := by simp [B, Nat.mod_eq_of_lt h]
theorem B_of_toNat (c : UInt8) : B c.toNat = c := by simp [B]

/-- decimal digits -/
def digL (n : Nat) : List UInt8 := if n < 10 then [B (48 + n)] else digL (n / 10) ++ [B (48 + n % 10)]
theorem digL_small {n : Nat} (h : n < 10) : digL n = [B (48 + n)] := by rw [digL, if_pos h]
theorem digL_big {n : Nat} (h : ¬ n < 10) : digL n = digL (n / 10) ++ [B (48 + n % 10)] := by rw [digL, if_neg h]

def isD (c : UInt8) : Bool := decide (48 ≤ c.toNat) && decide (c.toNat ≤ 57)
theorem isD_iff (c : UInt8) : isD c = true ↔ 48 ≤ c.toNat ∧ c.toNat ≤ 57 := by simp [isD]
theorem isD_B {n : Nat} (h : n < 10) : isD (B (48 + n)) = true := by
  rw [isD_iff, B_toNat (by omega)]; omega
def val (d : List UInt8) : Nat := d.foldl (fun a c => 10 * a + (c.toNat - 48)) 0
theorem val_nil : val [] = 0 := rfl
theorem val_snoc (d : List UInt8) (c : UInt8) : val (d ++ [c]) = 10 * val d + (c.toNat - 48) := by simp [val]

theorem digL_ne (n : Nat) : digL n ≠ [] := by
  rw [digL]; split <;> simp
theorem digL_all (n : Nat) : ∀ c ∈ digL n, isD c = true := by
  induction n using Nat.strongRecOn with
  | _ n ih =>
    intro c hc
    by_cases h : n < 10
    · rw [digL_small h] at hc
      simp only [List.mem_singleton] at hc
      rw [hc]; exact isD_B h
    · rw [digL_big h, List.mem_append] at hc
      rcases hc with hc | hc
      · exact ih (n / 10) (by omega) c hc
      · simp only [List.mem_singleton] at hc
        rw [hc]; exact isD_B (by omega)
theorem val_digL (n : Nat) : val (digL n) = n := by
  induction n using Nat.strongRecOn with
  | _ n ih =>
    by_cases h : n < 10
    · rw [digL_small h]
      simp [val]
      omega
    · rw [digL_big h, val_snoc, ih _ (by omega), B_toNat (by omega)]
      omega
theorem digL_len (k : Nat) : ∀ n, 1 ≤ k → n < 10 ^ k → (digL n).length ≤ k := by
  induction k with
  | zero => intro n h; omega
  | succ k ih =>
    intro n _ hn
    by_cases h : n < 10
    · rw [digL_small h]; simp
    · rw [digL_big h, List.length_append]
      have hk : 1 ≤ k := by
        rcases Nat.eq_zero_or_pos k with h0 | h0
        · subst h0; simp at hn; omega
        · exact h0
      have := ih (n / 10) hk (by rw [Nat.pow_succ] at hn; omega)
      simp; omega
theorem digL_head (n : Nat) : 1 ≤ n → (digL n).head? ≠ some 48 := by
  induction n using Nat.strongRecOn with
  | _ n ih =>
    intro h1
    by_cases h : n < 10
    · rw [digL_small h]
      simp only [List.head?_cons]
      intro e
      have := congrArg (fun c => UInt8.toNat c) (Option.some.inj e)
      simp only [B_toNat (show 48 + n < 256 by omega)] at this
      simp at this
      omega
    · rw [digL_big h, List.head?_append]
      have := ih (n / 10) (by omega) (by omega)
      cases hd : (digL (n / 10)).head? with
      | none => exact absurd (List.head?_eq_none_iff.1 hd) (digL_ne _)
      | some c => rw [hd] at this; exact this
/-- digits as a number is written: no nought ahead -/
def canon (d : List UInt8) : Prop := ¬ (1 < d.length ∧ d.head? = some 48)
theorem canon_digL (n : Nat) : canon (digL n) := by
  rintro ⟨h1, h2⟩
  rcases Nat.eq_zero_or_pos n with h0 | h0
  · subst h0
    rw [digL_small (by omega)] at h1
    simp at h1
  · exact digL_head n h0 h2
theorem val_pos (k : Nat) : ∀ d : List UInt8, d.length = k → d ≠ [] → (∀ c ∈ d, isD c = true) → d.head? ≠ some 48 → 1 ≤ val d := by
  induction k with
  | zero => intro d h hne; exact absurd (List.length_eq_zero_iff.1 h) hne
  | succ k ih =>
    intro d hl hne hall hh
    obtain ⟨d', c, rfl⟩ : ∃ d' c, d = d' ++ [c] := by
      rcases List.eq_nil_or_concat d with h | ⟨d', c, h⟩
      · exact absurd h hne
      · exact ⟨d', c, by simpa using h⟩
    rw [val_snoc]
    by_cases hd : d' = []
    · subst hd
      have hc := (isD_iff c).1 (hall c (by simp))
      simp only [List.nil_append, List.head?_cons, ne_eq, Option.some.injEq] at hh
      have : c.toNat ≠ 48 := fun e => hh (UInt8.toNat_inj.1 (by simpa using e))
      omega
    · have := ih d' (by simp at hl; omega) hd (fun x hx => hall x (by simp [hx])) (by
        rw [List.head?_append] at hh
        cases h : d'.head? with
        | none => exact absurd (List.head?_eq_none_iff.1 h) hd
        | some x => rw [h] at hh; simpa using hh)
      omega
theorem digL_val (k : Nat) : ∀ d : List UInt8, d.length = k → d ≠ [] → (∀ c ∈ d, isD c = true) → canon d → digL (val d) = d := by
  induction k with
  | zero => intro d h hne; exact absurd (List.length_eq_zero_iff.1 h) hne
  | succ k ih =>
    intro d hl hne hall hcan
    obtain ⟨d', c, rfl⟩ : ∃ d' c, d = d' ++ [c] := by
      rcases List.eq_nil_or_concat d with h | ⟨d', c, h⟩
      · exact absurd h hne
      · exact ⟨d', c, by simpa using h⟩
    have hc := (isD_iff c).1 (hall c (by simp))
    rw [val_snoc]
    by_cases hd : d' = []
    · subst hd
      rw [val_nil, digL_small (by omega), show 48 + (10 * 0 + (c.toNat - 48)) = c.toNat from by omega, B_of_toNat]
      rfl
    · have hpos : 0 < d'.length := by
        rcases Nat.eq_zero_or_pos d'.length with h | h
        · exact absurd (List.length_eq_zero_iff.1 h) hd
        · exact h
      have hh : d'.head? ≠ some 48 := by
        intro e
        refine hcan ⟨by simp; omega, ?_⟩
        rw [List.head?_append, e]
        rfl
      have hall' : ∀ x ∈ d', isD x = true := fun x hx => hall x (by simp [hx])
      have h1 := val_pos _ d' rfl hd hall' hh
      have h2 := ih d' (by simp at hl; omega) hd hall' (fun h => hh h.2)
      rw [digL_big (by omega), show (10 * val d' + (c.toNat - 48)) / 10 = val d' from by omega, show 48 + (10 * val d' + (c.toNat - 48)) % 10 = c.toNat from by omega, h2, B_of_toNat]
theorem val_lt (k : Nat) : ∀ d : List UInt8, d.length ≤ k → (∀ c ∈ d, isD c = true) → val d < 10 ^ k := by
  induction k with
  | zero =>
    intro d h _
    rw [List.length_eq_zero_iff.1 (by omega : d.length = 0)]
    simp [val]
  | succ k ih =>
    intro d hl hall
    rcases List.eq_nil_or_concat d with h | ⟨d', c, h⟩
    · subst h; rw [val_nil]; exact Nat.pow_pos (by omega)
    · have h : d = d' ++ [c] := by simpa using h
      subst h
      have hc := (isD_iff c).1 (hall c (by simp))
      have := ih d' (by simp at hl; omega) (fun x hx => hall x (by simp [hx]))
      rw [val_snoc, Nat.pow_succ]
      omega

/-! ### the digits ahead -/
theorem tw_take {α : Type} (p : α → Bool) (l : List α) : l.takeWhile p = l.take (l.takeWhile p).length := by
  induction l with
  | nil => simp
  | cons x xs ih =>
    by_cases h : p x = true
    · simp only [List.takeWhile_cons, h, if_true, List.length_cons, List.take_succ_cons]
      rw [← ih]
    · simp [List.takeWhile_cons, h]
theorem tw_all {α : Type} (p : α → Bool) (l : List α) : ∀ x ∈ l.takeWhile p, p x = true := by
  induction l with
  | nil => simp
  | cons y ys ih =>
    intro x hx
    by_cases h : p y = true
    · simp only [List.takeWhile_cons, h, if_true, List.mem_cons] at hx
      rcases hx with rfl | hx
      · exact h
      · exact ih x hx
    · simp [List.takeWhile_cons, h] at hx
theorem tw_le {α : Type} (p : α → Bool) (l : List α) : (l.takeWhile p).length ≤ l.length := by
  rw [tw_take, List.length_take]; omega
theorem tw_stop {α : Type} (p : α → Bool) (l : List α) : ∀ h : (l.takeWhile p).length < l.length, p (l[(l.takeWhile p).length]'h) = false := by
  induction l with
  | nil => intro h; simp at h
  | cons y ys ih =>
    intro h
    by_cases hy : p y = true
    · simp only [List.takeWhile_cons, hy, if_true, List.length_cons, Nat.succ_lt_succ_iff] at h ⊢
      exact ih h
    · simp only [List.takeWhile_cons, hy]
      simpa using hy
theorem tw_get {α : Type} (p : α → Bool) (l : List α) (i : Nat) (h : i < (l.takeWhile p).length) : p (l[i]'(Nat.lt_of_lt_of_le h (tw_le p l))) = true := by
  have h1 := tw_all p l ((l.takeWhile p)[i]) (List.getElem_mem h)
  have h2 : (l.takeWhile p)[i] = l[i]'(Nat.lt_of_lt_of_le h (tw_le p l)) := by
    have := tw_take p l
    rw [List.getElem_of_eq this h, List.getElem_take]
  rw [← h2]; exact h1
theorem tw_app {α : Type} (p : α → Bool) (a : List α) (x : α) (b : List α) (ha : ∀ y ∈ a, p y = true) (hx : p x = false) : (a ++ x :: b).takeWhile p = a := by
  induction a with
  | nil => simp [List.takeWhile_cons, hx]
  | cons y ys ih =>
    simp only [List.cons_append, List.takeWhile_cons, ha y (by simp), if_true]
    rw [ih (fun z hz => ha z (by simp [hz]))]

/-! ### nets -/
def pre (l : List UInt8) : List UInt8 := l.takeWhile isD
def putL (l : List UInt8) : List UInt8 := digL l.length ++ [58] ++ l ++ [44]
/-- the text that nets begin with -/
def takeL (l : List UInt8) : List UInt8 × List UInt8 × Int :=
  if l = [] then ([], [], 9)
  else if (pre l).length = 0 then ([], [], 3)
  else if 9 < (pre l).length then ([], [], 2)
  else if (pre l).length = l.length then ([], [], 9)
  else if l.getD (pre l).length 0 ≠ 58 ∨ (1 < (pre l).length ∧ l.getD 0 0 = 48) then ([], [], 3)
  else if (l.drop ((pre l).length + 1)).length ≤ val (pre l) then ([], [], 9)
  else if (l.drop ((pre l).length + 1)).getD (val (pre l)) 0 ≠ 44 then ([], [], 3)
  else ((l.drop ((pre l).length + 1)).take (val (pre l)), (l.drop ((pre l).length + 1)).drop (val (pre l) + 1), 0)

theorem pre_put (l b : List UInt8) : pre (putL l ++ b) = digL l.length := by
  unfold pre putL
  rw [show digL l.length ++ [58] ++ l ++ [44] ++ b = digL l.length ++ 58 :: (l ++ [44] ++ b) from by simp]
  exact tw_app isD _ _ _ (digL_all _) (by decide)
theorem take_put (l b : List UInt8) (h : l.length < 1000000000) : takeL (putL l ++ b) = (l, b, 0) := by
  have hp := pre_put l b
  have hl9 := digL_len 9 l.length (by omega) (by omega)
  have hne := digL_ne l.length
  have hl0 : (digL l.length).length ≠ 0 := fun e => hne (List.length_eq_zero_iff.1 e)
  have heq : putL l ++ b = digL l.length ++ (58 :: (l ++ (44 :: b))) := by simp [putL]
  have hlen : (putL l ++ b).length = (digL l.length).length + (l.length + b.length + 2) := by rw [heq]; simp; omega
  have hget : (putL l ++ b).getD (digL l.length).length 0 = 58 := by
    rw [heq]; simp [List.getD_eq_getElem?_getD, List.getElem?_append_right]
  have hdrop : (putL l ++ b).drop ((digL l.length).length + 1) = l ++ (44 :: b) := by
    rw [heq, List.drop_append]
    simp
  have hcan := canon_digL l.length
  have h0 : (putL l ++ b).getD 0 0 = (digL l.length).head?.getD 0 := by
    rw [heq]
    cases hd : digL l.length with
    | nil => exact absurd hd hne
    | cons c cs => simp
  have hh : (digL l.length).head? = some ((digL l.length).head?.getD 0) := by
    cases hd : digL l.length with
    | nil => exact absurd hd hne
    | cons c cs => simp
  unfold takeL
  rw [hp, val_digL, hdrop, hget, h0]
  rw [if_neg (by intro e; rw [e] at hlen; simp at hlen), if_neg hl0, if_neg (by omega), if_neg (by omega)]
  rw [if_neg (by
    rintro (e | ⟨e1, e2⟩)
    · exact e rfl
    · exact hcan ⟨e1, by rw [hh, e2]⟩)]
  rw [if_neg (by simp), if_neg (by simp [List.getD_eq_getElem?_getD])]
  simp [List.drop_append]
theorem put_take (b u r : List UInt8) (h : takeL b = (u, r, 0)) : putL u ++ r = b := by
  unfold takeL at h
  by_cases h1 : b = []
  · simp [h1] at h
  rw [if_neg h1] at h
  by_cases h2 : (pre b).length = 0
  · rw [if_pos h2] at h; simp at h
  rw [if_neg h2] at h
  by_cases h3 : 9 < (pre b).length
  · rw [if_pos h3] at h; simp at h
  rw [if_neg h3] at h
  by_cases h4 : (pre b).length = b.length
  · rw [if_pos h4] at h; simp at h
  rw [if_neg h4] at h
  by_cases h5 : b.getD (pre b).length 0 ≠ 58 ∨ (1 < (pre b).length ∧ b.getD 0 0 = 48)
  · rw [if_pos h5] at h; simp at h
  rw [if_neg h5] at h
  by_cases h6 : (b.drop ((pre b).length + 1)).length ≤ val (pre b)
  · rw [if_pos h6] at h; simp at h
  rw [if_neg h6] at h
  by_cases h7 : (b.drop ((pre b).length + 1)).getD (val (pre b)) 0 ≠ 44
  · rw [if_pos h7] at h; simp at h
  rw [if_neg h7] at h
  simp only [Prod.mk.injEq, and_true] at h
  obtain ⟨hu, hr⟩ := h
  have hle := tw_le isD b
  have hlt : (pre b).length < b.length := by unfold pre at h4 ⊢; omega
  have hpt := tw_take isD b
  have hcan : canon (pre b) := by
    rintro ⟨e1, e2⟩
    refine h5 (Or.inr ⟨e1, ?_⟩)
    cases hb : b with
    | nil => exact absurd hb h1
    | cons c cs =>
      have : (pre b).head? = some c := by
        have h0 : 0 < (pre b).length := by omega
        rw [List.head?_eq_getElem?, List.getElem?_eq_getElem h0]
        have := List.getElem_of_eq hpt h0
        unfold pre
        rw [this, List.getElem_take]
        simp [hb]
      rw [this] at e2
      simpa using e2
  have hne : pre b ≠ [] := fun e => h2 (by rw [e]; rfl)
  have hd := digL_val _ (pre b) rfl hne (tw_all isD b) hcan
  have hul : u.length = val (pre b) := by rw [← hu, List.length_take]; omega
  have h58 : b[(pre b).length] = 58 := by
    have : ¬ b.getD (pre b).length 0 ≠ 58 := fun e => h5 (Or.inl e)
    simpa [List.getD_eq_getElem?_getD, List.getElem?_eq_getElem hlt] using this
  have h44 : (b.drop ((pre b).length + 1))[val (pre b)]'(by omega) = 44 := by
    have : ¬ (b.drop ((pre b).length + 1)).getD (val (pre b)) 0 ≠ 44 := h7
    rw [List.getD_eq_getElem?_getD, List.getElem?_eq_getElem (by omega : val (pre b) < (b.drop ((pre b).length + 1)).length)] at this
    simpa using this
  unfold putL
  rw [hul, hd]
  have e1 : b = pre b ++ 58 :: b.drop ((pre b).length + 1) := by
    rw [← h58, ← List.drop_eq_getElem_cons hlt]
    have : pre b = b.take (pre b).length := hpt
    conv => lhs; rw [← List.take_append_drop (pre b).length b]
    rw [← this]
  have e2 : b.drop ((pre b).length + 1) = u ++ 44 :: r := by
    have hq : val (pre b) < (b.drop ((pre b).length + 1)).length := by omega
    conv => lhs; rw [← List.take_append_drop (val (pre b)) (b.drop ((pre b).length + 1))]
    rw [List.drop_eq_getElem_cons hq, h44, hu, hr]
  conv => rhs; rw [e1, e2]
  simp
theorem take_fail (b u r : List UInt8) (c : Int) (h : takeL b = (u, r, c)) (hc : c ≠ 0) : u = [] ∧ r = [] := by
  unfold takeL at h
  repeat (first | (split at h) | (simp only [Prod.mk.injEq] at h; obtain ⟨rfl, rfl, rfl⟩ := h; first | exact ⟨rfl, rfl⟩ | exact absurd rfl hc))
theorem take_less (b u r : List UInt8) (h : takeL b = (u, r, 0)) : r.length + 3 ≤ b.length := by
  have := put_take b u r h
  rw [← this]
  have hl0 : (digL u.length).length ≠ 0 := fun e => digL_ne u.length (List.length_eq_zero_iff.1 e)
  simp [putL]
  omega

/-- the nets of texts -/
def rowL : List (List UInt8) → List UInt8
  | [] => []
  | x :: xs => putL x ++ rowL xs
/-- the texts of nets -/
def textsL : Nat → List UInt8 → List (List UInt8) → List (List UInt8) × Int
  | 0, _, acc => (acc, 0)
  | k + 1, l, acc => if l = [] then (acc, 0) else if (takeL l).2.2 = 0 then textsL k (takeL l).2.1 (acc ++ [(takeL l).1]) else ([], (takeL l).2.2)
theorem putL_ne (l r : List UInt8) : putL l ++ r ≠ [] := by simp [putL]
theorem row_inj : ∀ (a b : List (List UInt8)), (∀ x ∈ a, x.length < 1000000000) → (∀ x ∈ b, x.length < 1000000000) → rowL a = rowL b → a = b
  | [], [], _, _, _ => rfl
  | [], y :: ys, _, _, h => absurd h.symm (putL_ne y (rowL ys))
  | x :: xs, [], _, _, h => absurd h (putL_ne x (rowL xs))
  | x :: xs, y :: ys, ha, hb, h => by
    have h1 := take_put x (rowL xs) (ha x (by simp))
    have h2 := take_put y (rowL ys) (hb y (by simp))
    have h3 : putL x ++ rowL xs = putL y ++ rowL ys := h
    rw [h3, h2] at h1
    simp only [Prod.mk.injEq, and_true] at h1
    obtain ⟨rfl, h4⟩ := h1
    rw [row_inj xs ys (fun z hz => ha z (by simp [hz])) (fun z hz => hb z (by simp [hz])) h4.symm]
theorem rowL_app (a b : List (List UInt8)) : rowL (a ++ b) = rowL a ++ rowL b := by
  induction a with
  | nil => simp [rowL]
  | cons x xs ih => simp [rowL, ih]
theorem row_texts (k : Nat) : ∀ l acc r, l.length ≤ k → textsL k l acc = (r, 0) → rowL r = rowL acc ++ l := by
  induction k with
  | zero =>
    intro l acc r hl h
    simp only [textsL, Prod.mk.injEq] at h
    rw [← h.1, List.length_eq_zero_iff.1 (by omega : l.length = 0)]; simp
  | succ k ih =>
    intro l acc r hl h
    simp only [textsL] at h
    by_cases h1 : l = []
    · rw [if_pos h1] at h
      simp only [Prod.mk.injEq] at h
      rw [← h.1, h1]; simp
    · rw [if_neg h1] at h
      by_cases h2 : (takeL l).2.2 = 0
      · rw [if_pos h2] at h
        have hq : takeL l = ((takeL l).1, (takeL l).2.1, 0) := by rw [← h2]
        have h3 := put_take _ _ _ hq
        have h4 := take_less _ _ _ hq
        have h5 := ih _ _ _ (by omega) h
        rw [h5, rowL_app]
        conv => rhs; rw [← h3]
        simp [rowL]
      · rw [if_neg h2] at h
        simp only [Prod.mk.injEq] at h
        exact absurd h.2 h2
theorem texts_enough (k : Nat) : ∀ m l acc, l.length ≤ k → k ≤ m → textsL m l acc = textsL k l acc := by
  induction k with
  | zero =>
    intro m l acc hl hm
    have : l = [] := List.length_eq_zero_iff.1 (by omega)
    subst this
    cases m <;> simp [textsL]
  | succ k ih =>
    intro m l acc hl hm
    obtain ⟨m, rfl⟩ : ∃ q, m = q + 1 := ⟨m - 1, by omega⟩
    simp only [textsL]
    by_cases h1 : l = []
    · rw [if_pos h1, if_pos h1]
    · rw [if_neg h1, if_neg h1]
      by_cases h2 : (takeL l).2.2 = 0
      · rw [if_pos h2, if_pos h2]
        have hq : takeL l = ((takeL l).1, (takeL l).2.1, 0) := by rw [← h2]
        have h4 := take_less _ _ _ hq
        exact ih _ _ _ (by omega) (by omega)
      · rw [if_neg h2, if_neg h2]
theorem texts_fail (k : Nat) : ∀ l acc r c, textsL k l acc = (r, c) → c ≠ 0 → r = [] := by
  induction k with
  | zero => intro l acc r c h hc; simp only [textsL, Prod.mk.injEq] at h; exact absurd h.2.symm hc
  | succ k ih =>
    intro l acc r c h hc
    simp only [textsL] at h
    by_cases h1 : l = []
    · rw [if_pos h1] at h
      simp only [Prod.mk.injEq] at h
      exact absurd h.2.symm hc
    · rw [if_neg h1] at h
      by_cases h2 : (takeL l).2.2 = 0
      · rw [if_pos h2] at h
        exact ih _ _ _ _ h hc
      · rw [if_neg h2] at h
        simp only [Prod.mk.injEq] at h
        exact h.1.symm
end Go.Proofs.Ytjcilknfhkpepaa.Nets
/- What the printed functions of package nets and of its reference tell, as functions on lists of bytes. -/
namespace Go.Proofs.Ytjcilknfhkpepaa.Nets
open Go.RowKit Go.Proofs.Ytjcilknfhkpepaa.X Go.Proofs.YtjcilknfhkpepaaW.PrintWords Go.Proofs.YtjcilknfhkpepaaW.PrintLast Go.Proofs.Ytjcilknfhkpepaa.Aid
set_option linter.unusedVariables false
set_option linter.unusedSimpArgs false

theorem numB (n : Nat) (h : n < 10) : strOfNums [wrap64 (48 + (n : Int)) % 256] = S [B (48 + n)] := by
  rw [nums_eq, w64 (by omega) (by omega)]
  simp only [List.map_cons, List.map_nil]
  rw [show ((48 + (n : Int)) % 256).toNat = 48 + n from by omega]
theorem digits_ev (n : Nat) (hn : n ≤ 4611686018427387904) : Ev (fun k => nets_digits.f k (n : Int)) (S (digL n)) := by
  induction n using Nat.strongRecOn with
  | _ n ih =>
    refine up ?_
    simp only [nets_digits.f]
    by_cases h : n < 10
    · refine pos (by omega) (now' ?_)
      rw [numB n h, digL_small h]
    · refine neg (by omega) ?_
      have e1 : wrap64 (Int.tdiv (n : Int) 10) = ((n / 10 : Nat) : Int) := by
        rw [Int.tdiv_eq_ediv_of_nonneg (by omega), w64 (by omega) (by omega)]
        rfl
      have e2 : Int.tmod (n : Int) 10 = ((n % 10 : Nat) : Int) := by
        rw [Int.tmod_eq_emod_of_nonneg (by omega)]
        rfl
      simp only [e1, e2]
      refine Ev.bind (ih (n / 10) (by omega) (by omega)) ?_
      refine sbind ?_
      rw [numB _ (by omega)]
      have := digL_len 19 (n / 10) (by omega) (by omega)
      refine pos (by simp only [sz, L_S]; simp; omega) (now' ?_)
      rw [S_app, digL_big h]
theorem put_ev (s : ByteArray) (h : s.size ≤ 140737488351232) : Ev (fun k => nets_Put.f k s) (S (putL (L s))) := by
  unfold nets_Put.f
  have hl := digL_len 19 s.size (by omega) (by omega)
  refine Ev.bind (digits_ev s.size (by omega)) ?_
  have h1 : (S (digL s.size)).size = (digL s.size).length := by rw [sz, L_S]
  have e1 : L (⟨#[58]⟩ : ByteArray) = [58] := L_lit [58]
  have e2 : L (⟨#[44]⟩ : ByteArray) = [44] := L_lit [44]
  refine pos (by omega) ?_
  have z1 : (⟨#[58]⟩ : ByteArray).size = 1 := rfl
  refine pos (by rw [ByteArray.size_append, h1, z1]; omega) ?_
  refine pos (by rw [ByteArray.size_append, ByteArray.size_append, h1, z1]; omega) (now' ?_)
  apply L_inj
  rw [L_app, L_app, L_app, L_S, L_S, e1, e2, sz]
  rfl
theorem digit_eq (c : UInt8) : nets_digit.f (c.toNat : Int) = some (isD c) := by
  unfold nets_digit.f isD
  by_cases h : 48 ≤ c.toNat
  · rw [if_pos (by omega)]
    simp [h]
    omega
  · rw [if_neg (by omega)]
    simp [h]
theorem size_l1 (s : ByteArray) (m : Nat) (hm : m ≤ 9) (hl : m ≤ (L s).length) (hs : (L s).length ≤ 140737488351232) (hd : ∀ i (h : i < m), isD ((L s)[i]'(by omega)) = true) (d : Nat) : ∀ i : Nat, i ≤ m → m - i = d →
    Ev (fun k => nets_size.l1 k s (val ((L s).take i) : Nat) m m i) ((val ((L s).take m) : Nat), ((m + 1 : Nat) : Int), 0) := by
  induction d with
  | zero =>
    intro i hi hd0
    obtain rfl : i = m := by omega
    refine up ?_
    simp only [nets_size.l1]
    refine neg (by omega) (now' ?_)
    rw [w64 (by omega) (by omega)]
    rfl
  | succ d ih =>
    intro i hi hd0
    refine up ?_
    simp only [nets_size.l1]
    have hil : i < (L s).length := by omega
    refine pos (by omega) (pos (by omega) (pos (by rw [sz]; omega) ?_))
    have hc := (isD_iff _).1 (hd i (by omega))
    have hv := val_lt i ((L s).take i) (by rw [List.length_take]; omega) (by
      intro c hc
      obtain ⟨j, hj, rfl⟩ := List.getElem_of_mem hc
      rw [List.getElem_take]
      rw [List.length_take] at hj
      exact hd j (by omega))
    have hp : 10 ^ i ≤ 10 ^ 8 := Nat.pow_le_pow_right (by omega) (by omega)
    have hv' : val ((L s).take i) < 100000000 := Nat.lt_of_lt_of_le hv (Nat.le_trans hp (by decide))
    clear hv hp
    have e1 : wrap64 (wrap64 (((val ((L s).take i) : Nat) : Int) * 10) + ((bt s (i : Int)) - 48) % 256) = ((val ((L s).take (i + 1)) : Nat) : Int) := by
      rw [btn s i hil, List.take_succ_eq_append_getElem hil, val_snoc, w64 (x := ((val ((L s).take i) : Nat) : Int) * 10) (by omega) (by omega)]
      rw [w64 (by omega) (by omega)]
      omega
    have e2 : wrap64 ((i : Int) + 1) = ((i + 1 : Nat) : Int) := by rw [w64 (by omega) (by omega)]; rfl
    rw [e1, e2]
    exact ih (i + 1) (by omega) (by omega)
theorem pre_le (l : List UInt8) : (pre l).length ≤ l.length := tw_le isD l
theorem size_l0 (s : ByteArray) (hs : (L s).length ≤ 140737488351232) {r : Int × Int × Int} (hr : Ev (fun k => nets_size.j1 k s 0 ((pre (L s)).length : Nat)) r) (d : Nat) : ∀ i : Nat, i ≤ (pre (L s)).length → (pre (L s)).length - i = d →
    Ev (fun k => nets_size.l0 k s 0 i) r := by
  have hle := pre_le (L s)
  induction d with
  | zero =>
    intro i hi hd0
    obtain rfl : i = (pre (L s)).length := by omega
    refine up ?_
    simp only [nets_size.l0]
    by_cases h : (pre (L s)).length < (L s).length
    · refine pos (by rw [sz]; omega) (pos (by omega) ?_)
      have hst := tw_stop isD (L s) h
      rw [btn s _ h]
      refine cbind (digit_eq _) (neg (fun e => ?_) hr)
      have : isD ((L s)[(pre (L s)).length]) = false := hst
      rw [this] at e
      cases e
    · exact neg (by rw [sz]; omega) hr
  | succ d ih =>
    intro i hi hd0
    refine up ?_
    simp only [nets_size.l0]
    have hil : i < (L s).length := by omega
    refine pos (by rw [sz]; omega) (pos (by omega) ?_)
    rw [btn s i hil]
    refine cbind (digit_eq _) (pos (tw_get isD (L s) i (by unfold pre at hi hd0; omega)) ?_)
    have e2 : wrap64 ((i : Int) + 1) = ((i + 1 : Nat) : Int) := by rw [w64 (by omega) (by omega)]; rfl
    rw [e2]
    exact ih (i + 1) (by omega) (by omega)
/-- what Take tells -/
def takeT (s : ByteArray) : ByteArray × ByteArray × Int := (S (takeL (L s)).1, S (takeL (L s)).2.1, (takeL (L s)).2.2)
theorem take_ev (s : ByteArray) (h : s.size ≤ 140737488351232) : Ev (fun k => nets_Take.f k s) (takeT s) := by
  have hs : (L s).length ≤ 140737488351232 := by rw [← sz]; exact h
  have hle := pre_le (L s)
  have fail : ∀ c : Int, c ≠ 0 → Ev (fun k => nets_size.f k s) (0, 0, c) → takeL (L s) = ([], [], c) → Ev (fun k => nets_Take.f k s) (takeT s) := by
    intro c hc hev ht
    unfold nets_Take.f
    refine Ev.bind hev (neg hc (now' ?_))
    simp [takeT, ht, S]
  have hsize : L s ≠ [] → ∀ {r : Int × Int × Int}, Ev (fun k => nets_size.j1 k s 0 ((pre (L s)).length : Nat)) r → Ev (fun k => nets_size.f k s) r := by
    intro hne r hr
    unfold nets_size.f
    exact neg (by rw [eq_nil_iff]; exact hne) (size_l0 s hs hr _ 0 (by omega) rfl)
  by_cases h1 : L s = []
  · refine fail 9 (by decide) ?_ (by simp [takeL, h1])
    unfold nets_size.f
    exact pos (by rw [eq_nil_iff]; exact h1) (now' rfl)
  have hj : ∀ {r : Int × Int × Int}, Ev (fun k => nets_size.j1 k s 0 ((pre (L s)).length : Nat)) r → Ev (fun k => nets_size.f k s) r := hsize h1
  by_cases h2 : (pre (L s)).length = 0
  · refine fail 3 (by decide) (hj (up ?_)) (by unfold takeL; rw [if_neg h1, if_pos h2])
    simp only [nets_size.j1]
    exact pos (by omega) (now' rfl)
  by_cases h3 : 9 < (pre (L s)).length
  · refine fail 2 (by decide) (hj (up ?_)) (by unfold takeL; rw [if_neg h1, if_neg h2, if_pos h3])
    simp only [nets_size.j1]
    exact neg (by omega) (pos (by omega) (now' rfl))
  by_cases h4 : (pre (L s)).length = (L s).length
  · refine fail 9 (by decide) (hj (up ?_)) (by unfold takeL; rw [if_neg h1, if_neg h2, if_neg h3, if_pos h4])
    simp only [nets_size.j1]
    exact neg (by omega) (neg (by omega) (pos (by rw [sz]; omega) (now' rfl)))
  have h4' : (pre (L s)).length < (L s).length := by omega
  have hb0 : bt s 0 = (((L s).getD 0 0).toNat : Int) := btd s 0
  by_cases h5 : (L s).getD (pre (L s)).length 0 ≠ 58 ∨ (1 < (pre (L s)).length ∧ (L s).getD 0 0 = 48)
  · refine fail 3 (by decide) (hj (up ?_)) (by unfold takeL; rw [if_neg h1, if_neg h2, if_neg h3, if_neg h4, if_pos h5])
    simp only [nets_size.j1]
    refine neg (by omega) (neg (by omega) (neg (by rw [sz]; omega) (pos (by omega) (pos (by rw [sz]; omega) ?_))))
    rw [btd]
    refine ite_ev (fun e => ?_) (fun e => now' rfl)
    have e58 : (L s).getD (pre (L s)).length 0 = 58 := u8i e
    rcases h5 with h5 | ⟨h5, h6⟩
    · exact absurd e58 h5
    · refine pos (by omega) (pos (by rw [sz]; omega) ?_)
      rw [hb0, h6]
      exact pos (by decide) (now' rfl)
  · have e58 : (L s).getD (pre (L s)).length 0 = 58 := Classical.byContradiction fun e => h5 (Or.inl e)
    have hall := tw_all isD (L s)
    have hv0 := val_lt 9 (pre (L s)) (by omega) hall
    have hv : val (pre (L s)) < 1000000000 := Nat.lt_of_lt_of_le hv0 (by decide)
    clear hv0
    have hok : Ev (fun k => nets_size.f k s) ((val (pre (L s)) : Nat), (((pre (L s)).length + 1 : Nat) : Int), 0) := by
      refine hj (up ?_)
      have hl1 := size_l1 s (pre (L s)).length (by omega) hle hs (fun i hi => tw_get isD (L s) i hi) _ 0 (by omega) rfl
      have hpt : (L s).take (pre (L s)).length = pre (L s) := (tw_take isD (L s)).symm
      rw [hpt] at hl1
      simp only [List.take_zero, val_nil] at hl1
      simp only [nets_size.j1]
      refine neg (by omega) (neg (by omega) (neg (by rw [sz]; omega) (pos (by omega) (pos (by rw [sz]; omega) ?_))))
      rw [btd, e58]
      refine pos (by decide) ?_
      refine ite_ev (fun e => ?_) (fun e => ?_)
      · refine pos (by rw [sz]; omega) ?_
        rw [hb0]
        refine neg (fun e' => h5 (Or.inr ⟨by omega, u8i e'⟩)) (up ?_)
        simp only [nets_size.j2]
        exact hl1
      · refine up ?_
        simp only [nets_size.j2]
        exact hl1
    have htl : takeL (L s) = if (List.drop ((pre (L s)).length + 1) (L s)).length ≤ val (pre (L s)) then ([], [], 9) else if (List.drop ((pre (L s)).length + 1) (L s)).getD (val (pre (L s))) 0 ≠ 44 then ([], [], 3) else ((List.drop ((pre (L s)).length + 1) (L s)).take (val (pre (L s))), (List.drop ((pre (L s)).length + 1) (L s)).drop (val (pre (L s)) + 1), 0) := by
      conv => lhs; unfold takeL
      rw [if_neg h1, if_neg h2, if_neg h3, if_neg h4, if_neg h5]
    unfold takeT
    rw [htl]
    have hex : ∀ q : ByteArray, q = s.extract ((pre (L s)).length + 1) s.size → L q = (L s).drop ((pre (L s)).length + 1) := by
      rintro q rfl; exact L_to_end _ _
    unfold nets_Take.f
    refine Ev.bind hok ?_
    simp only [Int.toNat_natCast]
    obtain ⟨q, hq⟩ : ∃ q, q = s.extract ((pre (L s)).length + 1) s.size := ⟨_, rfl⟩
    have hLq := hex q hq
    rw [← hq, ← hLq]
    have hql : (L q).length < 140737488351233 := by rw [hLq, List.length_drop]; omega
    refine pos trivial (pos (by omega) (pos (by rw [sz]; omega) ?_))
    by_cases h6 : (L q).length ≤ val (pre (L s))
    · rw [if_pos h6]
      exact pos (by rw [sz]; omega) (now' rfl)
    · rw [if_neg h6]
      refine neg (by rw [sz]; omega) (pos (by omega) (pos (by rw [sz]; omega) ?_))
      rw [btd]
      by_cases h7 : (L q).getD (val (pre (L s))) 0 ≠ 44
      · rw [if_pos h7]
        exact neg (fun e => h7 (u8i e)) (now' rfl)
      · rw [if_neg h7]
        have h7' : (L q).getD (val (pre (L s))) 0 = 44 := Classical.byContradiction h7
        rw [h7']
        have e3 : wrap64 (((val (pre (L s)) : Nat) : Int) + 1) = ((val (pre (L s)) + 1 : Nat) : Int) := by rw [w64 (by omega) (by omega)]; rfl
        rw [e3]
        refine pos (by decide) (pos (by rw [sz]; omega) (pos (by omega) (pos (by rw [sz]; omega) (now' ?_))))
        simp only [Int.toNat_natCast, Prod.mk.injEq, and_true]
        constructor
        · apply L_inj; rw [L_S, L_from_start]
        · apply L_inj; rw [L_S, L_to_end]

/-! ### the reference -/
theorem refdig_l0 (d : Nat) : ∀ (n j : Nat) (acc : List UInt8), n < 10 ^ d → n ≤ 4611686018427387904 → j + d ≤ 20 → j + acc.length ≤ 60 → (j = 0 → 1 ≤ d) → acc.length = j →
    Ev (fun k => bulletinref01_Digits.l0 k (n : Int) (S acc) (j : Int)) (S ((if n = 0 ∧ 0 < j then [] else digL n) ++ acc)) := by
  induction d with
  | zero =>
    intro n j acc hn _ hj _ h0 hl
    have hn0 : n = 0 := by simpa using hn
    subst hn0
    have hj0 : 0 < j := by
      rcases Nat.eq_zero_or_pos j with h | h
      · exact absurd (h0 h) (by omega)
      · exact h
    refine up ?_
    simp only [bulletinref01_Digits.l0]
    refine neg (by omega) (neg (by omega) (now' ?_))
    rw [if_pos ⟨trivial, hj0⟩, List.nil_append]
  | succ d ih =>
    intro n j acc hn hnm hj hq h0 hl
    have hstep : Ev (fun k => (some (([(wrap64 (48 + (Int.tmod (n : Int) 10))) % 256] : List Int) : List Int)).bind fun y => (if (strOfNums y).size + (S acc).size ≤ 9223372036854775807 then (bulletinref01_Digits.l0 k (wrap64 (Int.tdiv (n : Int) 10)) ((strOfNums y) ++ S acc) (wrap64 ((j : Int) + 1))) else (none))) (S (digL n ++ acc)) := by
      have e1 : wrap64 (Int.tdiv (n : Int) 10) = ((n / 10 : Nat) : Int) := by
        rw [Int.tdiv_eq_ediv_of_nonneg (by omega), w64 (by omega) (by omega)]
        rfl
      have e2 : Int.tmod (n : Int) 10 = ((n % 10 : Nat) : Int) := by
        rw [Int.tmod_eq_emod_of_nonneg (by omega)]
        rfl
      have e3 : wrap64 ((j : Int) + 1) = ((j + 1 : Nat) : Int) := by rw [w64 (by omega) (by omega)]; rfl
      simp only [e1, e2, e3]
      refine sbind ?_
      rw [numB _ (by omega)]
      have z1 : (S [B (48 + n % 10)]).size = 1 := rfl
      have z2 : (S acc).size = acc.length := by rw [sz, L_S]
      refine pos (by rw [z1, z2]; omega) ?_
      rw [S_app]
      have hn' : n / 10 < 10 ^ d := by rw [Nat.pow_succ] at hn; omega
      have := ih (n / 10) (j + 1) ([B (48 + n % 10)] ++ acc) hn' (by omega) (by omega) (by simp; omega) (by omega) (by simp; omega)
      refine cast (congrArg _ ?_) this
      congr 1
      by_cases h : n < 10
      · rw [if_pos ⟨by omega, by omega⟩, digL_small h, show n % 10 = n from by omega]
        simp
      · rw [if_neg (by omega), digL_big h]
        simp
    refine up ?_
    simp only [bulletinref01_Digits.l0]
    by_cases hj0 : j = 0
    · rw [if_neg (by omega)]
      exact pos (by omega) hstep
    · by_cases hn0 : n = 0
      · rw [if_pos ⟨hn0, by omega⟩]
        exact neg (by omega) (neg (by omega) (now' (by simp)))
      · rw [if_neg (by omega)]
        exact neg (by omega) (pos (by omega) (pos (by omega) hstep))
theorem refdigits_ev (n : Nat) (hn : n ≤ 4611686018427387904) : Ev (fun k => bulletinref01_Digits.f k (n : Int)) (S (digL n)) := by
  unfold bulletinref01_Digits.f
  have hb : n < 10 ^ 20 := Nat.lt_of_le_of_lt hn (by decide)
  have := refdig_l0 20 n 0 [] hb hn (by omega) (by simp) (by omega) rfl
  rw [if_neg (by omega), List.append_nil] at this
  exact this
theorem refput_ev (s : ByteArray) (h : s.size ≤ 140737488351232) : Ev (fun k => bulletinref01_Put.f k s) (S (putL (L s))) := by
  unfold bulletinref01_Put.f
  have hl := digL_len 19 s.size (by omega) (by omega)
  refine Ev.bind (refdigits_ev s.size (by omega)) ?_
  have h1 : (S (digL s.size)).size = (digL s.size).length := by rw [sz, L_S]
  have e1 : L (⟨#[58]⟩ : ByteArray) = [58] := L_lit [58]
  have e2 : L (⟨#[44]⟩ : ByteArray) = [44] := L_lit [44]
  refine pos (by omega) ?_
  have z1 : (⟨#[58]⟩ : ByteArray).size = 1 := rfl
  refine pos (by rw [ByteArray.size_append, h1, z1]; omega) ?_
  refine pos (by rw [ByteArray.size_append, ByteArray.size_append, h1, z1]; omega) (now' ?_)
  apply L_inj
  rw [L_app, L_app, L_app, L_S, L_S, e1, e2, sz]
  rfl
/-- the number that the first nine digits tell -/
theorem refl0 (s : ByteArray) (hs : (L s).length ≤ 140737488351232) {r : ByteArray × ByteArray × Int}
    (hr : Ev (fun k => bulletinref01_Take.j1 k s ((pre (L s)).length : Nat) ((val ((pre (L s)).take 9) : Nat) : Int) false) r) (d : Nat) : ∀ i : Nat, i ≤ (pre (L s)).length → (pre (L s)).length - i = d →
    Ev (fun k => bulletinref01_Take.l0 k s (i : Int) ((val (((L s).take i).take 9) : Nat) : Int)) r := by
  have hle := pre_le (L s)
  have hpt : (L s).take (pre (L s)).length = pre (L s) := (tw_take isD (L s)).symm
  induction d with
  | zero =>
    intro i hi hd0
    obtain rfl : i = (pre (L s)).length := by omega
    rw [hpt]
    refine up ?_
    simp only [bulletinref01_Take.l0]
    by_cases h : (pre (L s)).length < (L s).length
    · refine pos (by rw [sz]; omega) (pos (by omega) ?_)
      have hst : isD ((L s)[(pre (L s)).length]) = false := tw_stop isD (L s) h
      rw [btn s _ h]
      refine ite_ev (fun e => ?_) (fun e => hr)
      have : decide ((((L s)[(pre (L s)).length]).toNat : Int) ≤ 57) = false := by
        simp only [isD, Bool.and_eq_false_iff, decide_eq_false_iff_not] at hst
        simp only [decide_eq_false_iff_not]
        omega
      rw [this]
      exact hr
    · exact neg (by rw [sz]; omega) hr
  | succ d ih =>
    intro i hi hd0
    have hil : i < (L s).length := by omega
    have hc := (isD_iff _).1 (tw_get isD (L s) i (by unfold pre at hi hd0; omega))
    have e2 : wrap64 ((i : Int) + 1) = ((i + 1 : Nat) : Int) := by rw [w64 (by omega) (by omega)]; rfl
    have hnext := ih (i + 1) (by omega) (by omega)
    refine up ?_
    simp only [bulletinref01_Take.l0]
    refine pos (by rw [sz]; omega) (pos (by omega) ?_)
    rw [btn s i hil]
    refine pos (by omega) ?_
    have : decide ((((L s)[i]).toNat : Int) ≤ 57) = true := by simp only [decide_eq_true_eq]; omega
    rw [this]
    refine up ?_
    simp only [bulletinref01_Take.j1]
    refine pos trivial ?_
    by_cases h9 : i < 9
    · refine pos (by omega) (pos (by omega) (pos (by rw [sz]; omega) ?_))
      have ht : ((L s).take i).take 9 = (L s).take i := by rw [List.take_take]; congr 1; omega
      have ht1 : ((L s).take (i + 1)).take 9 = (L s).take (i + 1) := by rw [List.take_take]; congr 1; omega
      rw [ht1] at hnext
      have hv0 := val_lt i ((L s).take i) (by rw [List.length_take]; omega) (by
        intro c hc
        obtain ⟨j, hj, rfl⟩ := List.getElem_of_mem hc
        rw [List.getElem_take]
        rw [List.length_take] at hj
        exact tw_get isD (L s) j (by unfold pre at hi hd0; omega))
      have hp : 10 ^ i ≤ 10 ^ 8 := Nat.pow_le_pow_right (by omega) (by omega)
      have hv : val ((L s).take i) < 100000000 := Nat.lt_of_lt_of_le hv0 (Nat.le_trans hp (by decide))
      clear hv0 hp
      have e1 : wrap64 (wrap64 (wrap64 (10 * ((val (((L s).take i).take 9) : Nat) : Int)) + wrap64 (bt s (i : Int))) - 48) = ((val ((L s).take (i + 1)) : Nat) : Int) := by
        rw [ht, btn s i hil, List.take_succ_eq_append_getElem hil, val_snoc, w64 (x := 10 * ((val ((L s).take i) : Nat) : Int)) (by omega) (by omega)]
        have hb := UInt8.toNat_lt ((L s)[i])
        rw [w64 (x := (((L s)[i]).toNat : Int)) (by omega) (by omega), w64 (x := 10 * ((val ((L s).take i) : Nat) : Int) + _) (by omega) (by omega), w64 (by omega) (by omega)]
        omega
      rw [e1, e2]
      exact hnext
    · refine neg (by omega) ?_
      rw [e2]
      have ht : ((L s).take i).take 9 = ((L s).take (i + 1)).take 9 := by rw [List.take_take, List.take_take]; congr 1; omega
      rw [ht]
      exact hnext
theorem reftake_ev (s : ByteArray) (h : s.size ≤ 140737488351232) : Ev (fun k => bulletinref01_Take.f k s) (takeT s) := by
  have hs : (L s).length ≤ 140737488351232 := by rw [← sz]; exact h
  have hle := pre_le (L s)
  have nil : S [] = (⟨#[]⟩ : ByteArray) := rfl
  have hT : ∀ c : Int, takeL (L s) = ([], [], c) → ((⟨#[]⟩ : ByteArray), (⟨#[]⟩ : ByteArray), c) = takeT s := by
    intro c hc
    unfold takeT
    rw [hc]
    rfl
  unfold bulletinref01_Take.f
  by_cases h1 : L s = []
  · exact pos (by rw [eq_nil_iff]; exact h1) (now' (hT 9 (by simp [takeL, h1])))
  refine neg (by rw [eq_nil_iff]; exact h1) ?_
  refine refl0 s hs (i := 0) (d := (pre (L s)).length) (up ?_) (by omega) (by omega)
  simp only [bulletinref01_Take.j1]
  refine neg (by simp) ?_
  by_cases h2 : (pre (L s)).length = 0
  · exact pos (by omega) (now' (hT 3 (by unfold takeL; rw [if_neg h1, if_pos h2])))
  refine neg (by omega) ?_
  by_cases h3 : 9 < (pre (L s)).length
  · exact pos (by omega) (now' (hT 2 (by unfold takeL; rw [if_neg h1, if_neg h2, if_pos h3])))
  refine neg (by omega) ?_
  by_cases h4 : (pre (L s)).length = (L s).length
  · exact pos (by rw [sz]; omega) (now' (hT 9 (by unfold takeL; rw [if_neg h1, if_neg h2, if_neg h3, if_pos h4])))
  have h4' : (pre (L s)).length < (L s).length := by omega
  refine neg (by rw [sz]; omega) (pos (by omega) (pos (by rw [sz]; omega) ?_))
  have hpt : (L s).take (pre (L s)).length = pre (L s) := (tw_take isD (L s)).symm
  have h9 : (pre (L s)).take 9 = pre (L s) := List.take_of_length_le (by omega)
  have hall := tw_all isD (L s)
  have hv0 := val_lt 9 (pre (L s)) (by omega) hall
  have hv : val (pre (L s)) < 1000000000 := Nat.lt_of_lt_of_le hv0 (by decide)
  clear hv0
  rw [btd, h9]
  have hne : pre (L s) ≠ [] := fun e => h2 (by rw [e]; rfl)
  have hhead : (pre (L s)).head? = some ((L s).getD 0 0) := by
    have h0 : 0 < (pre (L s)).length := by omega
    rw [List.head?_eq_getElem?, List.getElem?_eq_getElem h0]
    have e := List.getElem_of_eq hpt.symm h0
    rw [e, List.getElem_take, List.getD_eq_getElem?_getD, List.getElem?_eq_getElem (by omega)]
    rfl
  by_cases h58 : (L s).getD (pre (L s)).length 0 = 58
  · rw [h58]
    refine pos (by decide) (pos (by rw [sz]; omega) ?_)
    refine Ev.bind (refdigits_ev (val (pre (L s))) (by omega)) ?_
    simp only [Int.toNat_natCast]
    have hb : ((s.extract 0 (pre (L s)).length).toList != (S (digL (val (pre (L s))))).toList) = decide ((1 < (pre (L s)).length ∧ (L s).getD 0 0 = 48)) := by
      rw [tl, tl, L_from_start, L_S, hpt]
      rw [Bool.eq_iff_iff]
      simp only [bne_iff_ne, ne_eq, decide_eq_true_eq]
      constructor
      · intro hnq
        refine Classical.byContradiction fun hcan => hnq ?_
        exact (digL_val _ (pre (L s)) rfl hne hall (fun hx => hcan ⟨hx.1, by have := hx.2; rw [hhead] at this; exact Option.some.inj this⟩)).symm
      · rintro ⟨ha, hb⟩ heq
        have := canon_digL (val (pre (L s)))
        rw [← heq] at this
        exact this ⟨ha, by rw [hhead, hb]⟩
    rw [hb]
    refine up ?_
    simp only [bulletinref01_Take.j2]
    by_cases h5 : 1 < (pre (L s)).length ∧ (L s).getD 0 0 = 48
    · exact pos (by simpa using h5) (now' (hT 3 (by unfold takeL; rw [if_neg h1, if_neg h2, if_neg h3, if_neg h4, if_pos (Or.inr h5)])))
    have h5' : ¬ ((L s).getD (pre (L s)).length 0 ≠ 58 ∨ (1 < (pre (L s)).length ∧ (L s).getD 0 0 = 48)) := by
      rintro (e | e)
      · exact e h58
      · exact h5 e
    refine neg (by simpa using h5) ?_
    have e3 : wrap64 (((pre (L s)).length : Int) + 1) = (((pre (L s)).length + 1 : Nat) : Int) := by rw [w64 (by omega) (by omega)]; rfl
    have e4 : wrap64 (((val (pre (L s)) : Nat) : Int) + 1) = ((val (pre (L s)) + 1 : Nat) : Int) := by rw [w64 (by omega) (by omega)]; rfl
    simp only [e3, e4, Int.toNat_natCast]
    obtain ⟨q, hq⟩ : ∃ q, q = s.extract ((pre (L s)).length + 1) s.size := ⟨_, rfl⟩
    have hLq : L q = (L s).drop ((pre (L s)).length + 1) := by rw [hq]; exact L_to_end _ _
    have htl : takeL (L s) = if (L q).length ≤ val (pre (L s)) then ([], [], 9) else if (L q).getD (val (pre (L s))) 0 ≠ 44 then ([], [], 3) else ((L q).take (val (pre (L s))), (L q).drop (val (pre (L s)) + 1), 0) := by
      conv => lhs; unfold takeL
      rw [if_neg h1, if_neg h2, if_neg h3, if_neg h4, if_neg h5', ← hLq]
    rw [← hq]
    have hql : (L q).length < 140737488351233 := by rw [hLq, List.length_drop]; omega
    refine pos (by omega) (pos (by rw [sz]; omega) ?_)
    by_cases h6 : (L q).length ≤ val (pre (L s))
    · exact pos (by rw [sz]; omega) (now' (hT 9 (by rw [htl, if_pos h6])))
    refine neg (by rw [sz]; omega) (pos (by omega) (pos (by rw [sz]; omega) ?_))
    rw [btd]
    by_cases h7 : (L q).getD (val (pre (L s))) 0 ≠ 44
    · exact neg (fun e => h7 (u8i e)) (now' (hT 3 (by rw [htl, if_neg h6, if_pos h7])))
    have h7' : (L q).getD (val (pre (L s))) 0 = 44 := Classical.byContradiction h7
    rw [h7']
    refine pos (by decide) (pos (by rw [sz]; omega) (pos (by omega) (pos (by rw [sz]; omega) (now' ?_))))
    unfold takeT
    rw [htl, if_neg h6, if_neg h7]
    simp only [Prod.mk.injEq, and_true]
    constructor
    · apply L_inj; rw [L_S, L_from_start]
    · apply L_inj; rw [L_S, L_to_end]
  · refine neg (fun e => h58 (u8i e)) (up ?_)
    simp only [bulletinref01_Take.j2]
    exact pos trivial (now' (hT 3 (by unfold takeL; rw [if_neg h1, if_neg h2, if_neg h3, if_neg h4, if_pos (Or.inl h58)])))

/-! ### rows and texts -/
/-- all of a row's nets together are short enough -/
theorem row_g (N M : Nat) (hM : N + 30 ≤ M) : ∀ (l : List ByteArray) (acc : List UInt8), (∀ x ∈ l, x.size ≤ N) → N ≤ 1000000 → l.length ≤ 1000000 → acc.length + l.length * M ≤ 140737488355328 →
    Ev (fun k => nets_Row.g k l (S acc)) (S (acc ++ rowL (l.map L)))
  | [], acc, _, _, _, _ => by
    simp only [nets_Row.g, List.map_nil, rowL, List.append_nil]
    exact Ev.now _
  | x :: xs, acc, h, hN, hl, hq => by
    simp only [nets_Row.g]
    have hx := h x (by simp)
    have hd := digL_len 19 (L x).length (by omega) (by rw [← sz]; omega)
    refine Ev.bind (put_ev x (by omega)) ?_
    have z1 : (S acc).size = acc.length := by rw [sz, L_S]
    have z2 : (S (putL (L x))).size = (putL (L x)).length := by rw [sz, L_S]
    have z3 : (putL (L x)).length ≤ M := by
      rw [sz] at hx
      unfold putL
      simp only [List.length_append, List.length_cons, List.length_nil]
      omega
    simp only [List.length_cons, Nat.succ_mul] at hq
    refine pos (by rw [z1, z2]; omega) ?_
    rw [S_app]
    have := row_g N M hM xs (acc ++ putL (L x)) (fun y hy => h y (by simp [hy])) hN (by simp at hl; omega) (by rw [List.length_append]; omega)
    rw [List.append_assoc] at this
    exact this
theorem row_ev (l : List ByteArray) (N : Nat) (h : ∀ x ∈ l, x.size ≤ N) (hN : N ≤ 1000000) (hl : l.length ≤ 1000000) : Ev (fun k => nets_Row.f k l) (S (rowL (l.map L))) := by
  unfold nets_Row.f
  have hm : l.length * 1000030 ≤ 1000000 * 1000030 := Nat.mul_le_mul_right _ hl
  refine pos (by omega) ?_
  have := row_g N 1000030 (by omega) l [] h hN hl (by simp only [List.length_nil]; omega)
  rw [List.nil_append] at this
  exact this
theorem texts_l0 (n : Nat) : ∀ (s : ByteArray) (acc : List ByteArray), (L s).length ≤ n → n ≤ 1000000 → acc.length + n ≤ 1000000 →
    Ev (fun k => nets_Texts.l0 k s acc) (((textsL n (L s) (acc.map L)).1.map S), (textsL n (L s) (acc.map L)).2) := by
  induction n with
  | zero =>
    intro s acc hl _ _
    have h0 : L s = [] := List.length_eq_zero_iff.1 (by omega)
    refine up ?_
    simp only [nets_Texts.l0, textsL]
    refine pos (by rw [eq_nil_iff]; exact h0) (now' ?_)
    simp [S_L, Function.comp_def]
  | succ n ih =>
    intro s acc hl hn ha
    refine up ?_
    simp only [nets_Texts.l0, textsL]
    by_cases h1 : L s = []
    · rw [if_pos h1]
      refine pos (by rw [eq_nil_iff]; exact h1) (now' ?_)
      simp [S_L, Function.comp_def]
    rw [if_neg h1]
    refine neg (by rw [eq_nil_iff]; exact h1) ?_
    refine Ev.bind (take_ev s (by rw [sz]; omega)) ?_
    simp only [takeT]
    by_cases h2 : (takeL (L s)).2.2 = 0
    · rw [if_pos h2]
      refine pos h2 (pos (by omega) ?_)
      have hq : takeL (L s) = ((takeL (L s)).1, (takeL (L s)).2.1, 0) := by rw [← h2]
      have h4 := take_less _ _ _ hq
      have := ih (S (takeL (L s)).2.1) (acc ++ [S (takeL (L s)).1]) (by rw [L_S]; omega) (by omega) (by simp; omega)
      simpa using this
    · rw [if_neg h2]
      exact neg h2 (now' (by simp))
theorem texts_ev (s : ByteArray) (h : (L s).length ≤ 500000) : Ev (fun k => nets_Texts.f k s) (((textsL (L s).length (L s) []).1.map S), (textsL (L s).length (L s) []).2) := by
  unfold nets_Texts.f
  exact texts_l0 (L s).length s [] (Nat.le_refl _) (by omega) (by simp; omega)
theorem reftexts_l0 (n : Nat) : ∀ (s : ByteArray) (acc : List ByteArray) (i : Nat), (L s).length ≤ n → n ≤ 50000 → acc.length + n ≤ 60000 → i + n < 100000 →
    Ev (fun k => bulletinref01_Texts.l0 k s acc (i : Int)) (((textsL n (L s) (acc.map L)).1.map S), (textsL n (L s) (acc.map L)).2) := by
  induction n with
  | zero =>
    intro s acc i hl _ _ _
    have h0 : L s = [] := List.length_eq_zero_iff.1 (by omega)
    refine up ?_
    simp only [bulletinref01_Texts.l0, textsL]
    refine pos (by rw [eq_nil_iff]; exact h0) (up ?_)
    simp only [bulletinref01_Texts.j1]
    refine neg (by simp) (now' ?_)
    simp [S_L, Function.comp_def]
  | succ n ih =>
    intro s acc i hl hn ha hi
    refine up ?_
    simp only [bulletinref01_Texts.l0, textsL]
    by_cases h1 : L s = []
    · rw [if_pos h1]
      refine pos (by rw [eq_nil_iff]; exact h1) (up ?_)
      simp only [bulletinref01_Texts.j1]
      refine neg (by simp) (now' ?_)
      simp [S_L, Function.comp_def]
    rw [if_neg h1]
    refine neg (by rw [eq_nil_iff]; exact h1) (up ?_)
    simp only [bulletinref01_Texts.j1]
    refine pos (by simp only [decide_eq_true_eq]; omega) ?_
    refine Ev.bind (reftake_ev s (by rw [sz]; omega)) ?_
    simp only [takeT]
    by_cases h2 : (takeL (L s)).2.2 = 0
    · rw [if_pos h2]
      refine pos h2 (pos (by omega) ?_)
      have hq : takeL (L s) = ((takeL (L s)).1, (takeL (L s)).2.1, 0) := by rw [← h2]
      have h4 := take_less _ _ _ hq
      have e : wrap64 ((i : Int) + 1) = ((i + 1 : Nat) : Int) := by rw [w64 (by omega) (by omega)]; rfl
      rw [e]
      have := ih (S (takeL (L s)).2.1) (acc ++ [S (takeL (L s)).1]) (i + 1) (by rw [L_S]; omega) (by omega) (by simp; omega) (by omega)
      simpa using this
    · rw [if_neg h2]
      exact neg h2 (now' (by simp))
theorem reftexts_ev (s : ByteArray) (h : (L s).length ≤ 3000) : Ev (fun k => bulletinref01_Texts.f k s) (((textsL (L s).length (L s) []).1.map S), (textsL (L s).length (L s) []).2) := by
  unfold bulletinref01_Texts.f
  exact reftexts_l0 (L s).length s [] 0 (Nat.le_refl _) (by omega) (by simp; omega) (by omega)
theorem refrow_l0 (l : List ByteArray) (N : Nat) (h : ∀ x ∈ l, x.size ≤ N) (hN : N ≤ 1000000) (hl : l.length ≤ 1000000) (M : Nat) (hM : N + 30 ≤ M) (hM2 : M ≤ 1000030) (d : Nat) : ∀ (i : Nat) (acc : List UInt8), i ≤ l.length → l.length - i = d → acc.length ≤ i * M →
    Ev (fun k => bulletinref01_Row.l0 k l (S acc) (i : Int)) (S (acc ++ rowL ((l.drop i).map L))) := by
  induction d with
  | zero =>
    intro i acc hi hd _
    refine up ?_
    simp only [bulletinref01_Row.l0]
    refine neg (by omega) (now' ?_)
    rw [List.drop_eq_nil_of_le (by omega)]
    simp [rowL]
  | succ d ih =>
    intro i acc hi hd ha
    have hil : i < l.length := by omega
    have hi2 : l.length - (i + 1) = d := by omega
    have hx := h l[i] (List.getElem_mem hil)
    refine up ?_
    simp only [bulletinref01_Row.l0]
    refine pos (by omega) (pos (by omega) ?_)
    rw [rdOf_nat _ _ _ hil]
    refine Ev.bind (refput_ev _ (by omega)) ?_
    have hdl := digL_len 19 (L l[i]).length (by omega) (by rw [← sz]; omega)
    have z1 : (S acc).size = acc.length := by rw [sz, L_S]
    have z2 : (S (putL (L l[i]))).size = (putL (L l[i])).length := by rw [sz, L_S]
    have z3 : (putL (L l[i])).length ≤ M := by
      rw [sz] at hx
      unfold putL
      simp only [List.length_append, List.length_cons, List.length_nil]
      omega
    have hm : i * M ≤ 1000000 * 1000030 := Nat.mul_le_mul (by omega) hM2
    refine pos (by rw [z1, z2]; omega) ?_
    have e : wrap64 ((i : Int) + 1) = ((i + 1 : Nat) : Int) := by rw [w64 (by omega) (by omega)]; rfl
    rw [S_app, e]
    have hle : (acc ++ putL (L l[i])).length ≤ (i + 1) * M := by
      rw [List.length_append, Nat.succ_mul]
      exact Nat.add_le_add ha z3
    have := ih (i + 1) (acc ++ putL (L l[i])) hil hi2 hle
    rw [List.drop_eq_getElem_cons hil]
    rw [List.append_assoc] at this
    exact this
theorem refrow_ev (l : List ByteArray) (N : Nat) (h : ∀ x ∈ l, x.size ≤ N) (hN : N ≤ 1000000) (hl : l.length ≤ 1000000) : Ev (fun k => bulletinref01_Row.f k l) (S (rowL (l.map L))) := by
  unfold bulletinref01_Row.f
  have := refrow_l0 l N h hN hl 1000030 (by omega) (by omega) l.length 0 [] (by omega) (by omega) (by simp)
  rw [List.nil_append, List.drop_zero] at this
  exact this
end Go.Proofs.Ytjcilknfhkpepaa.Nets
/- batch: the change of a text, and the text of a change, on both sides, plain. -/
namespace Go.Proofs.Ytjcilknfhkpepaa.Bat
open Go.RowKit Go.Proofs.Ytjcilknfhkpepaa.Mem Go.Proofs.Ytjcilknfhkpepaa.X Go.Proofs.YtjcilknfhkpepaaW.PrintWords Go.Proofs.YtjcilknfhkpepaaW.PrintLast Go.Proofs.YtjcilknfhkpepaaW.PrintMore Go.Proofs.Ytjcilknfhkpepaa.Aid Go.Proofs.Ytjcilknfhkpepaa.Nets
set_option linter.unusedVariables false
theorem ref_fits_eq (k v : ByteArray) (g : Bool) : bulletinref10_Fits.f k v g = some (fits ⟨k, v, g⟩) := by
  unfold bulletinref10_Fits.f fits
  by_cases h0 : k.size = 0
  · rw [if_pos (by rw [tl]; exact List.eq_nil_of_length_eq_zero (by rw [← sz]; exact h0)), if_pos h0]
  · rw [if_neg (by rw [tl]; intro e; apply h0; rw [sz, e]; rfl), if_neg h0]
    by_cases h1 : 200 < k.size
    · rw [if_pos (by omega), if_pos (.inl h1)]
    · rw [if_neg (by omega)]
      by_cases h2 : 1048576 < v.size
      · rw [if_pos (by omega), if_pos (.inr h2)]
      · rw [if_neg (by omega), if_neg (fun e => e.elim h1 h2)]
def mkR (c : Ch) : ByteArray × ByteArray × Bool × Int := if fits c = 0 then (c.key, c.value, c.gone, 0) else (⟨#[]⟩, ⟨#[]⟩, false, fits c)
def rdT : List ByteArray → ByteArray × ByteArray × Bool × Int
  | [a, b] => if (a.toList == ([45] : List UInt8)) = true then mkR ⟨b, ⟨#[]⟩, true⟩ else (⟨#[]⟩, ⟨#[]⟩, false, 3)
  | [a, b, c] => if (a.toList == ([43] : List UInt8)) = true then mkR ⟨b, c, false⟩ else (⟨#[]⟩, ⟨#[]⟩, false, 3)
  | _ => (⟨#[]⟩, ⟨#[]⟩, false, 3)
theorem fits_nil : fits ⟨⟨#[]⟩, ⟨#[]⟩, false⟩ = 3 := rfl
theorem read_j1 (k : Nat) (ts : List ByteArray) (h : (ts.length : Int) ≠ 3) : batch_Read.j1 (k + 1) ts false ⟨#[]⟩ ⟨#[]⟩ false = some (⟨#[]⟩, ⟨#[]⟩, false, 3) := by
  simp only [batch_Read.j1, fits_eq, Option.bind_some, fits_nil]
  rfl
theorem read_j0 (k : Nat) : ∀ ts : List ByteArray, (if (ts.length : Int) = 2 then (if 0 < (ts.length : Int) then (batch_Read.j0 (k + 2) ts ((rdOf ByteArray.empty ts 0).toList == ([45] : List UInt8)) (⟨#[]⟩ : ByteArray) (⟨#[]⟩ : ByteArray) false) else (none)) else (batch_Read.j0 (k + 2) ts false (⟨#[]⟩ : ByteArray) (⟨#[]⟩ : ByteArray) false)) = some (rdT ts)
  | [] => by simp [batch_Read.j0, batch_Read.j1, fits_eq, fits_nil, rdT]
  | [a] => by simp [batch_Read.j0, batch_Read.j1, fits_eq, fits_nil, rdT]
  | [a, b] => by
    cases h : (a.toList == ([45] : List UInt8)) with
    | true =>
      have e0 : rdOf ByteArray.empty [a, b] 0 = a := rfl
      have e1 : rdOf ByteArray.empty [a, b] 1 = b := rfl
      simp only [List.length_cons, List.length_nil, e0, h, batch_Read.j0, e1, fits_eq, Option.bind_some, rdT, mkR]
      simp
      split <;> rfl
    | false =>
      have e0 : rdOf ByteArray.empty [a, b] 0 = a := rfl
      simp only [List.length_cons, List.length_nil, e0, h, batch_Read.j0, batch_Read.j1, fits_eq, fits_nil, Option.bind_some, rdT]
      simp
  | [a, b, c] => by
    have e0 : rdOf ByteArray.empty [a, b, c] 0 = a := rfl
    have e1 : rdOf ByteArray.empty [a, b, c] 1 = b := rfl
    have e2 : rdOf ByteArray.empty [a, b, c] 2 = c := rfl
    cases h : (a.toList == ([43] : List UInt8)) with
    | true =>
      simp only [List.length_cons, List.length_nil, e0, h, batch_Read.j0, batch_Read.j1, e1, e2, fits_eq, Option.bind_some, rdT, mkR]
      simp
      split <;> rfl
    | false =>
      simp only [List.length_cons, List.length_nil, e0, h, batch_Read.j0, batch_Read.j1, fits_eq, fits_nil, Option.bind_some, rdT]
      simp
  | a :: b :: c :: d :: t => by
    have h2 : ¬ (((a :: b :: c :: d :: t).length : Int) = 2) := by simp only [List.length_cons]; omega
    have h3 : ¬ (((a :: b :: c :: d :: t).length : Int) = 3) := by simp only [List.length_cons]; omega
    rw [if_neg h2]
    simp only [batch_Read.j0, if_neg h3, batch_Read.j1, fits_eq, fits_nil, Option.bind_some, rdT]
    rfl
theorem ref_j0 (k : Nat) : ∀ ts : List ByteArray, (if (ts.length : Int) = 2 then (if 0 < (ts.length : Int) then (bulletinref10_Read.j0 (k + 2) ts ((rdOf ByteArray.empty ts 0).toList == ([45] : List UInt8)) (⟨#[]⟩ : ByteArray) (⟨#[]⟩ : ByteArray) false) else (none)) else (bulletinref10_Read.j0 (k + 2) ts false (⟨#[]⟩ : ByteArray) (⟨#[]⟩ : ByteArray) false)) = some (rdT ts)
  | [] => by simp [bulletinref10_Read.j0, bulletinref10_Read.j1, rdT]
  | [a] => by simp [bulletinref10_Read.j0, bulletinref10_Read.j1, rdT]
  | [a, b] => by
    cases h : (a.toList == ([45] : List UInt8)) with
    | true =>
      have e0 : rdOf ByteArray.empty [a, b] 0 = a := rfl
      have e1 : rdOf ByteArray.empty [a, b] 1 = b := rfl
      simp only [List.length_cons, List.length_nil, e0, h, bulletinref10_Read.j0, e1, ref_fits_eq, Option.bind_some, rdT, mkR]
      simp
      split <;> rfl
    | false =>
      have e0 : rdOf ByteArray.empty [a, b] 0 = a := rfl
      simp only [List.length_cons, List.length_nil, e0, h, bulletinref10_Read.j0, bulletinref10_Read.j1, rdT]
      simp
  | [a, b, c] => by
    have e0 : rdOf ByteArray.empty [a, b, c] 0 = a := rfl
    have e1 : rdOf ByteArray.empty [a, b, c] 1 = b := rfl
    have e2 : rdOf ByteArray.empty [a, b, c] 2 = c := rfl
    cases h : (a.toList == ([43] : List UInt8)) with
    | true =>
      simp only [List.length_cons, List.length_nil, e0, h, bulletinref10_Read.j0, bulletinref10_Read.j1, e1, e2, ref_fits_eq, Option.bind_some, rdT, mkR]
      simp
      split <;> rfl
    | false =>
      simp only [List.length_cons, List.length_nil, e0, h, bulletinref10_Read.j0, bulletinref10_Read.j1, rdT]
      simp
  | a :: b :: c :: d :: t => by
    have h2 : ¬ (((a :: b :: c :: d :: t).length : Int) = 2) := by simp only [List.length_cons]; omega
    have h3 : ¬ (((a :: b :: c :: d :: t).length : Int) = 3) := by simp only [List.length_cons]; omega
    rw [if_neg h2]
    simp only [bulletinref10_Read.j0, if_neg h3, bulletinref10_Read.j1, rdT]
    rfl
theorem read_ev (s : ByteArray) (h : (L s).length ≤ 3000) : ∃ r, Ev (fun k => batch_Read.f k s) r ∧ Ev (fun k => bulletinref10_Read.f k s) r := by
  have h1 := texts_ev s (by omega)
  have h2 := reftexts_ev s h
  obtain ⟨⟨ts, e⟩, ht⟩ : ∃ x, (((textsL (L s).length (L s) []).1.map S), (textsL (L s).length (L s) []).2) = x := ⟨_, rfl⟩
  rw [ht] at h1 h2
  by_cases he : e = 0
  · refine ⟨rdT ts, ?_, ?_⟩
    · unfold batch_Read.f
      refine Ev.bind h1 ?_
      dsimp only
      refine Aid.pos he ?_
      exact up (up (Eq.mpr (congrArg (fun g => Ev g (rdT ts)) (funext fun k => read_j0 k ts)) (Ev.now _)))
    · unfold bulletinref10_Read.f
      refine Ev.bind h2 ?_
      dsimp only
      refine Aid.pos he ?_
      exact up (up (Eq.mpr (congrArg (fun g => Ev g (rdT ts)) (funext fun k => ref_j0 k ts)) (Ev.now _)))
  · refine ⟨(⟨#[]⟩, ⟨#[]⟩, false, e), ?_, ?_⟩
    · unfold batch_Read.f
      refine Ev.bind h1 ?_
      dsimp only
      exact neg he (Ev.now _)
    · unfold bulletinref10_Read.f
      refine Ev.bind h2 ?_
      dsimp only
      exact neg he (Ev.now _)
theorem write_ev (a b : ByteArray) (g : Bool) (ha : a.size ≤ 1000000) (hb : b.size ≤ 1000000) : ∃ r, Ev (fun k => batch_Write.f k a b g) r ∧ Ev (fun k => bulletinref10_Write.f k a b g) r := by
  cases g with
  | true =>
    have hm : ∀ x ∈ [(⟨#[45]⟩ : ByteArray), a], x.size ≤ 1000000 := by
      intro x hx
      simp only [List.mem_cons, List.not_mem_nil, or_false] at hx
      rcases hx with rfl | rfl
      · decide
      · exact ha
    exact ⟨_, Aid.pos (by rfl) (Ev.bind (row_ev _ 1000000 hm (by omega) (by simp)) (Ev.now _)), Aid.pos (by rfl) (Ev.bind (refrow_ev _ 1000000 hm (by omega) (by simp)) (Ev.now _))⟩
  | false =>
    have hm : ∀ x ∈ [(⟨#[43]⟩ : ByteArray), a, b], x.size ≤ 1000000 := by
      intro x hx
      simp only [List.mem_cons, List.not_mem_nil, or_false] at hx
      rcases hx with rfl | rfl | rfl
      · decide
      · exact ha
      · exact hb
    exact ⟨_, neg (by simp) (Ev.bind (row_ev _ 1000000 hm (by omega) (by simp)) (Ev.now _)), neg (by simp) (Ev.bind (refrow_ev _ 1000000 hm (by omega) (by simp)) (Ev.now _))⟩
end Go.Proofs.Ytjcilknfhkpepaa.Bat
/- batch: BatchTexts, walked (region printed by tools/genbatu.py). -/
namespace Go.Proofs.Ytjcilknfhkpepaa.Bat
open Go.RowKit Go.Proofs.Ytjcilknfhkpepaa.Mem Go.Proofs.Ytjcilknfhkpepaa.X Go.Proofs.YtjcilknfhkpepaaW.PrintWords Go.Proofs.YtjcilknfhkpepaaW.PrintLast Go.Proofs.YtjcilknfhkpepaaW.PrintMore Go.Proofs.Ytjcilknfhkpepaa.Aid
set_option linter.unusedVariables false
set_option linter.unusedSimpArgs false
set_option maxHeartbeats 16000000 in
set_option maxRecDepth 100000 in
theorem txt_calls (w : World) (a b : ByteArray) (g : Bool) (s : ByteArray) : Calls Try.prog 6 #[.agg #[.string a, .string b, .bool g], .string s] w fun e w' => e = .returned (.bool true) ∧ Below w.heap.size w w' := by
  have hx0 := Blk.new w 24 #[.string a, .string b, .bool g]
  have hB0 : Below w.heap.size w (w.alloc (.cells #[.string a, .string b, .bool g] 24)) := (Below.refl _ w).alloc (Nat.le_refl _) _
  have x0 : (w.alloc (.cells #[.string a, .string b, .bool g] 24)).cell? ⟨w.heap.size, 0, none⟩ = some (.string a) := (hx0.cell 0).trans rfl
  have x1 : (w.alloc (.cells #[.string a, .string b, .bool g] 24)).cell? ⟨w.heap.size, 1, none⟩ = some (.string b) := (hx0.cell 1).trans rfl
  by_cases ha : (3000 : Int) < (a.size : Int)
  · go_enter Try.func6, Try.ntmps6
    go_wp2_with fail
    refine (works_calls _).mono ?_
    rintro e w1 ⟨rfl, hb1⟩
    go_wp2
    go_ret
    exact ⟨rfl, hB0.trans (hb1.mono hB0.size)⟩
  by_cases hb : (3000 : Int) < (b.size : Int)
  · go_enter Try.func6, Try.ntmps6
    go_wp2_with fail
    refine (works_calls _).mono ?_
    rintro e w1 ⟨rfl, hb1⟩
    go_wp2
    go_ret
    exact ⟨rfl, hB0.trans (hb1.mono hB0.size)⟩
  by_cases hs : (3000 : Int) < (s.size : Int)
  · go_enter Try.func6, Try.ntmps6
    go_wp2_with fail
    refine (works_calls _).mono ?_
    rintro e w1 ⟨rfl, hb1⟩
    go_wp2
    go_ret
    exact ⟨rfl, hB0.trans (hb1.mono hB0.size)⟩
  obtain ⟨⟨r1, r2, r3, r4⟩, hr1, hr2⟩ := read_ev s (by rw [← sz]; omega)
  obtain ⟨tx, ht1, ht2⟩ := write_ev a b g (by omega) (by omega)
  obtain ⟨k1, hh1⟩ := hr1
  have h1 := hh1 k1 (Nat.le_refl _)
  obtain ⟨k2, hh2⟩ := hr2
  have h2 := hh2 k2 (Nat.le_refl _)
  obtain ⟨k3, hh3⟩ := ht1
  have h3 := hh3 k3 (Nat.le_refl _)
  obtain ⟨k4, hh4⟩ := ht2
  have h4 := hh4 k4 (Nat.le_refl _)
  have H1 := Lib.hid h1
  have H2 := Lib.hid h2
  have H3 := Lib.hid h3
  have H4 := Lib.hid h4
  clear hh1 hh2 hh3 hh4 h1 h2 h3 h4
  go_enter Try.func6, Try.ntmps6
  go_wp2_with fail
  refine (batch_Read.calls k1 s r1 r2 r3 r4 _ H1.out).mono ?_
  rintro e w1 ⟨rfl, hb1⟩
  have hx1 := hx0.below hb1
  have hB1 := hB0.trans (hb1.mono hB0.size)
  have h51 := (Blk.new w1 31 #[.string r1, .string r2, .bool r3])
  have hx2 := hx1.alloc (.cells #[.string r1, .string r2, .bool r3] 31)
  have hB2 := hB1.alloc hB1.size (.cells #[.string r1, .string r2, .bool r3] 31)
  obtain ⟨bx, hbx⟩ : ∃ x, w.heap.size = x := ⟨_, rfl⟩
  have HBX := Lib.hid hbx
  have hB0z : bx ≤ w.heap.size := by omega
  rw [hbx] at hx2 hB2
  simp only [hbx]
  clear hx0 hB0 x0 x1 hb1 hx1 hB1 hbx ha hb hs
  go_wp2_with fail
  obtain ⟨b5, hb5⟩ : ∃ x, w1.heap.size = x := ⟨_, rfl⟩
  obtain ⟨w2, hw2⟩ : ∃ x, w1.alloc (.cells #[.string r1, .string r2, .bool r3] 31) = x := ⟨_, rfl⟩
  rw [hw2] at h51 hx2 hB2
  rw [hb5] at h51
  simp only [hw2, hb5]
  clear hw2 hb5
  refine (bulletinref10_Read.calls k2 s r1 r2 r3 r4 _ H2.out).mono ?_
  rintro e w3 ⟨rfl, hb3⟩
  have hx3 := hx2.below hb3
  have h53 := h51.below hb3
  have hB3 := hB2.trans (hb3.mono (Nat.le_trans hB0z hB2.size))
  have h76 := (Blk.new w3 24 #[.string r1, .string r2, .bool r3])
  have hx6 := hx3.alloc (.cells #[.string r1, .string r2, .bool r3] 24)
  have h56 := h53.alloc (.cells #[.string r1, .string r2, .bool r3] 24)
  have hB6 := hB3.alloc (Nat.le_trans hB0z hB3.size) (.cells #[.string r1, .string r2, .bool r3] 24)
  clear h51 hx2 hB2 hb3 hx3 h53 hB3
  go_wp2_with fail
  obtain ⟨b7, hb7⟩ : ∃ x, w3.heap.size = x := ⟨_, rfl⟩
  obtain ⟨w6, hw6⟩ : ∃ x, w3.alloc (.cells #[.string r1, .string r2, .bool r3] 24) = x := ⟨_, rfl⟩
  rw [hw6] at h76 hx6 h56 hB6
  rw [hb7] at h76
  simp only [hw6, hb7]
  clear hw6 hb7
  refine start_ (n := 21) (S := fun w' => Blk w' bx 24 #[.string a, .string b, .bool g] ∧ Blk w' b5 31 #[.string r1, .string r2, .bool r3] ∧ Blk w' b7 24 #[.string r1, .string r2, .bool r3] ∧ Below bx w w') (ds := []) #[false, false, false, false, false, false, false, false, false, false, false, false, false, false, false, false, false, false, false, false, false] (by kernel_rfl) rfl rfl ⟨hx6.drew, h56.drew, h76.drew, hB6.drew⟩ (fun hHeld => ?_)
  generalize w6.drew = u0 at hHeld ⊢
  refine take_ (i := 0) (N := some 35) (v := ?_) (a' := ?_) #[true, false, false, false, false, false, false, false, false, false, false, false, false, false, false, false, false, false, false, false, false] rfl rfl (by kernel_rfl) (fun _ _ _ h => h) (Or.inl ⟨by rfl, ?_⟩) hHeld ?_ ?_
  rotate_left
  · rintro w' ⟨g1, g2, g3, g4⟩
    have z0 : w'.cell? ⟨bx, 0, none⟩ = some (.string a) := (g1.cell 0).trans rfl
    have z1 : w'.cell? ⟨bx, 1, none⟩ = some (.string b) := (g1.cell 1).trans rfl
    have z2 : w'.cell? ⟨bx, 2, none⟩ = some (.bool g) := (g1.cell 2).trans rfl
    go_simp
    with_reducible rfl
  rotate_left
  · simp only [Act.put, List.setIfInBounds_toArray, List.set_cons_zero, List.set_cons_succ]
    rfl
  refine take_ (i := 3) (N := some 38) (v := ?_) (a' := ?_) #[true, false, false, true, false, false, false, false, false, false, false, false, false, false, false, false, false, false, false, false, false] rfl rfl (by kernel_rfl) (fun _ _ _ h => h) (Or.inl ⟨by rfl, ?_⟩) hHeld ?_ ?_
  rotate_left
  · rintro w' ⟨g1, g2, g3, g4⟩
    have z0 : w'.cell? ⟨bx, 0, none⟩ = some (.string a) := (g1.cell 0).trans rfl
    have z1 : w'.cell? ⟨bx, 1, none⟩ = some (.string b) := (g1.cell 1).trans rfl
    have z2 : w'.cell? ⟨bx, 2, none⟩ = some (.bool g) := (g1.cell 2).trans rfl
    go_simp
    with_reducible rfl
  rotate_left
  · simp only [Act.put, List.setIfInBounds_toArray, List.set_cons_zero, List.set_cons_succ]
    rfl
  refine one_ (i := 1) (N := some 36) #[true, true, false, true, false, false, false, false, false, false, false, false, false, false, false, false, false, false, false, false, false] rfl rfl (by kernel_rfl) (by decide) (fun K hK => ?_)
  go_simp
  go_wp2_with (go_at_call 28; refine (bulletinlaw10_To.calls a b g a b g _ rfl).mono ?_; rintro e u1 ⟨rfl, hb⟩)
  refine hK.out _ _ ⟨hHeld.1.below hb, hHeld.2.1.below hb, hHeld.2.2.1.below hb, hHeld.2.2.2.trans (hb.mono (Nat.le_trans hB0z hHeld.2.2.2.size))⟩ (fun hHeld => ?_)
  clear hK K
  clear hb
  refine one_ (i := 2) (N := some 37) #[true, true, true, true, false, false, false, false, false, false, false, false, false, false, false, false, false, false, false, false, false] rfl rfl (by kernel_rfl) (by decide) (fun K hK => ?_)
  go_simp
  go_wp2_with (go_at_call 27; refine (batch_Write.calls k3 a b g tx _ H3.out).mono ?_; rintro e u2 ⟨rfl, hb⟩)
  refine hK.out _ _ ⟨hHeld.1.below hb, hHeld.2.1.below hb, hHeld.2.2.1.below hb, hHeld.2.2.2.trans (hb.mono (Nat.le_trans hB0z hHeld.2.2.2.size))⟩ (fun hHeld => ?_)
  clear hK K
  clear hb
  refine one_ (i := 4) (N := some 39) #[true, true, true, true, true, false, false, false, false, false, false, false, false, false, false, false, false, false, false, false, false] rfl rfl (by kernel_rfl) (by decide) (fun K hK => ?_)
  go_simp
  go_wp2_with (go_at_call 29; refine (bulletinref10_Write.calls k4 a b g tx _ H4.out).mono ?_; rintro e u3 ⟨rfl, hb⟩)
  refine hK.out _ _ ⟨hHeld.1.below hb, hHeld.2.1.below hb, hHeld.2.2.1.below hb, hHeld.2.2.2.trans (hb.mono (Nat.le_trans hB0z hHeld.2.2.2.size))⟩ (fun hHeld => ?_)
  clear hK K
  clear hb
  refine pure_ (i := 5) (N := some 40) (v := ?_) (a' := ?_) #[true, true, true, true, true, true, false, false, false, false, false, false, false, false, false, false, false, false, false, false, false] rfl rfl (by kernel_rfl) (fun _ _ _ h => h) (Or.inl ⟨by rfl, ?_⟩) ?_ ?_
  rotate_left
  · intro w'
    go_simp
    with_reducible rfl
  rotate_left
  · simp only [Act.put, List.setIfInBounds_toArray, List.set_cons_zero, List.set_cons_succ]
    rfl
  refine pure_ (i := 6) (N := some 41) (v := ?_) (a' := ?_) #[true, true, true, true, true, true, true, false, false, false, false, false, false, false, false, false, false, false, false, false, false] rfl rfl (by kernel_rfl) (fun _ _ _ h => h) (Or.inl ⟨by rfl, ?_⟩) ?_ ?_
  rotate_left
  · intro w'
    go_simp
    with_reducible rfl
  rotate_left
  · simp only [Act.put, List.setIfInBounds_toArray, List.set_cons_zero, List.set_cons_succ]
    rfl
  refine take_ (i := 7) (N := some 42) (v := ?_) (a' := ?_) #[true, true, true, true, true, true, true, true, false, false, false, false, false, false, false, false, false, false, false, false, false] rfl rfl (by kernel_rfl) (fun _ _ _ h => h) (Or.inl ⟨by rfl, ?_⟩) hHeld ?_ ?_
  rotate_left
  · rintro w' ⟨g1, g2, g3, g4⟩
    have z0 : w'.cell? ⟨b5, 0, none⟩ = some (.string r1) := (g2.cell 0).trans rfl
    have z1 : w'.cell? ⟨b5, 1, none⟩ = some (.string r2) := (g2.cell 1).trans rfl
    have z2 : w'.cell? ⟨b5, 2, none⟩ = some (.bool r3) := (g2.cell 2).trans rfl
    go_simp
    with_reducible rfl
  rotate_left
  · simp only [Act.put, List.setIfInBounds_toArray, List.set_cons_zero, List.set_cons_succ]
    rfl
  refine take_ (i := 9) (N := some 44) (v := ?_) (a' := ?_) #[true, true, true, true, true, true, true, true, false, true, false, false, false, false, false, false, false, false, false, false, false] rfl rfl (by kernel_rfl) (fun _ _ _ h => h) (Or.inl ⟨by rfl, ?_⟩) hHeld ?_ ?_
  rotate_left
  · rintro w' ⟨g1, g2, g3, g4⟩
    have z0 : w'.cell? ⟨b7, 0, none⟩ = some (.string r1) := (g3.cell 0).trans rfl
    have z1 : w'.cell? ⟨b7, 1, none⟩ = some (.string r2) := (g3.cell 1).trans rfl
    have z2 : w'.cell? ⟨b7, 2, none⟩ = some (.bool r3) := (g3.cell 2).trans rfl
    go_simp
    with_reducible rfl
  rotate_left
  · simp only [Act.put, List.setIfInBounds_toArray, List.set_cons_zero, List.set_cons_succ]
    rfl
  refine one_ (i := 8) (N := some 43) #[true, true, true, true, true, true, true, true, true, true, false, false, false, false, false, false, false, false, false, false, false] rfl rfl (by kernel_rfl) (by decide) (fun K hK => ?_)
  go_simp
  go_wp2_with (go_at_call 20; refine (bulletinlaw10_Of.calls r1 r2 r3 r1 r2 r3 _ rfl).mono ?_; rintro e u4 ⟨rfl, hb⟩)
  refine hK.out _ _ ⟨hHeld.1.below hb, hHeld.2.1.below hb, hHeld.2.2.1.below hb, hHeld.2.2.2.trans (hb.mono (Nat.le_trans hB0z hHeld.2.2.2.size))⟩ (fun hHeld => ?_)
  clear hK K
  clear hb
  refine pure_ (i := 10) (N := some 45) (v := ?_) (a' := ?_) #[true, true, true, true, true, true, true, true, true, true, true, false, false, false, false, false, false, false, false, false, false] rfl rfl (by kernel_rfl) (fun _ _ _ h => h) (Or.inl ⟨by rfl, ?_⟩) ?_ ?_
  rotate_left
  · intro w'
    go_simp
    with_reducible rfl
  rotate_left
  · simp only [Act.put, List.setIfInBounds_toArray, List.set_cons_zero, List.set_cons_succ]
    rfl
  refine pure_ (i := 11) (N := some 46) (v := ?_) (a' := ?_) #[true, true, true, true, true, true, true, true, true, true, true, true, false, false, false, false, false, false, false, false, false] rfl rfl (by kernel_rfl) (fun _ _ _ h => h) (Or.inl ⟨by rfl, ?_⟩) ?_ ?_
  rotate_left
  · intro w'
    go_simp
    with_reducible rfl
  rotate_left
  · simp only [Act.put, List.setIfInBounds_toArray, List.set_cons_zero, List.set_cons_succ]
    rfl
  refine pure_ (i := 12) (N := some 47) (v := ?_) (a' := ?_) #[true, true, true, true, true, true, true, true, true, true, true, true, true, false, false, false, false, false, false, false, false] rfl rfl (by kernel_rfl) (fun _ _ _ h => h) (Or.inl ⟨by rfl, ?_⟩) ?_ ?_
  rotate_left
  · intro w'
    go_simp
    with_reducible rfl
  rotate_left
  · simp only [Act.put, List.setIfInBounds_toArray, List.set_cons_zero, List.set_cons_succ]
    rfl
  refine pure_ (i := 13) (N := some 48) (v := ?_) (a' := ?_) #[true, true, true, true, true, true, true, true, true, true, true, true, true, true, false, false, false, false, false, false, false] rfl rfl (by kernel_rfl) (fun _ _ _ h => h) (Or.inl ⟨by rfl, ?_⟩) ?_ ?_
  rotate_left
  · intro w'
    go_simp
    with_reducible rfl
  rotate_left
  · simp only [Act.put, List.setIfInBounds_toArray, List.set_cons_zero, List.set_cons_succ]
    rfl
  refine pure_ (i := 14) (N := some 49) (v := ?_) (a' := ?_) #[true, true, true, true, true, true, true, true, true, true, true, true, true, true, true, false, false, false, false, false, false] rfl rfl (by kernel_rfl) (fun _ _ _ h => h) (Or.inl ⟨by rfl, ?_⟩) ?_ ?_
  rotate_left
  · intro w'
    go_simp
    with_reducible rfl
  rotate_left
  · simp only [Act.put, List.setIfInBounds_toArray, List.set_cons_zero, List.set_cons_succ]
    rfl
  refine pure_ (i := 15) (N := some 50) (v := ?_) (a' := ?_) #[true, true, true, true, true, true, true, true, true, true, true, true, true, true, true, true, false, false, false, false, false] rfl rfl (by kernel_rfl) (fun _ _ _ h => h) (Or.inl ⟨by rfl, ?_⟩) ?_ ?_
  rotate_left
  · intro w'
    go_simp
    with_reducible rfl
  rotate_left
  · simp only [Act.put, List.setIfInBounds_toArray, List.set_cons_zero, List.set_cons_succ]
    rfl
  refine pure_ (i := 16) (N := some 51) (v := ?_) (a' := ?_) #[true, true, true, true, true, true, true, true, true, true, true, true, true, true, true, true, true, false, false, false, false] rfl rfl (by kernel_rfl) (fun _ _ _ h => h) (Or.inl ⟨by rfl, ?_⟩) ?_ ?_
  rotate_left
  · intro w'
    go_simp
    with_reducible rfl
  rotate_left
  · simp only [Act.put, List.setIfInBounds_toArray, List.set_cons_zero, List.set_cons_succ]
    rfl
  refine pure_ (i := 17) (N := some 52) (v := ?_) (a' := ?_) #[true, true, true, true, true, true, true, true, true, true, true, true, true, true, true, true, true, true, false, false, false] rfl rfl (by kernel_rfl) (fun _ _ _ h => h) (Or.inl ⟨by rfl, ?_⟩) ?_ ?_
  rotate_left
  · intro w'
    go_simp
    with_reducible rfl
  rotate_left
  · simp only [Act.put, List.setIfInBounds_toArray, List.set_cons_zero, List.set_cons_succ]
    rfl
  refine one_ (i := 18) (N := some 53) #[true, true, true, true, true, true, true, true, true, true, true, true, true, true, true, true, true, true, true, false, false] rfl rfl (by kernel_rfl) (by decide) (fun K hK => ?_)
  go_simp
  go_wp2_with (go_at_call 8; refine (works_calls _).mono ?_; rintro e u5 ⟨rfl, hb⟩)
  refine hK.out _ _ ⟨hHeld.1.below hb, hHeld.2.1.below hb, hHeld.2.2.1.below hb, hHeld.2.2.2.trans (hb.mono (Nat.le_trans hB0z hHeld.2.2.2.size))⟩ (fun hHeld => ?_)
  clear hK K
  clear hb
  refine pure_ (i := 19) (N := some 54) (v := ?_) (a' := ?_) #[true, true, true, true, true, true, true, true, true, true, true, true, true, true, true, true, true, true, true, true, false] rfl rfl (by kernel_rfl) (fun _ _ _ h => h) (Or.inl ⟨by rfl, ?_⟩) ?_ ?_
  rotate_left
  · intro w'
    go_simp
    with_reducible rfl
  rotate_left
  · simp only [Act.put, List.setIfInBounds_toArray, List.set_cons_zero, List.set_cons_succ]
    rfl
  refine pure_ (i := 20) (N := some 4) (v := ?_) (a' := ?_) #[true, true, true, true, true, true, true, true, true, true, true, true, true, true, true, true, true, true, true, true, true] rfl rfl (by kernel_rfl) (fun _ _ _ h => h) (Or.inl ⟨by rfl, ?_⟩) ?_ ?_
  rotate_left
  · intro w'
    go_simp
    with_reducible rfl
  rotate_left
  · simp only [Act.put, List.setIfInBounds_toArray, List.set_cons_zero, List.set_cons_succ]
    rfl
  refine done_ (by kernel_rfl) ?_
  go_wp2
  go_ret
  exact ⟨rfl, by rw [HBX.out]; exact hHeld.2.2.2⟩
end Go.Proofs.Ytjcilknfhkpepaa.Bat
/- bulletin/bulletinlaw10.BatchTexts, as its row asks for it. -/
namespace Go.Proofs.Ytjcilknfhkpepaa.X
open Go.RowKit Go.Proofs.YtjcilknfhkpepaaW.PrintWords Go.Proofs.YtjcilknfhkpepaaW.PrintLast Go.Proofs.YtjcilknfhkpepaaW.PrintMore
set_option linter.unusedVariables false
def bulletinlaw10_BatchTexts.f (k : Nat) (a0_0 : ByteArray) (a0_1 : ByteArray) (a0_2 : Bool) (a1 : ByteArray) : Option Bool := some true
theorem bulletinlaw10_BatchTexts.calls (k : Nat) (a0_0 : ByteArray) (a0_1 : ByteArray) (a0_2 : Bool) (a1 : ByteArray) (r : Bool) (w : World) (h : bulletinlaw10_BatchTexts.f k a0_0 a0_1 a0_2 a1 = some r) :
    Calls Try.prog 6 #[.agg #[.string a0_0, .string a0_1, .bool a0_2], .string a1] w fun e w' => e = .returned (.bool r) ∧ Below w.heap.size w w' := by
  obtain rfl : true = r := Option.some.inj h
  exact Bat.txt_calls w a0_0 a0_1 a0_2 a1
end Go.Proofs.Ytjcilknfhkpepaa.X
namespace Go.Proofs.Ytjcilknfhkpepaa.Row
open Go.RowKit Go.Proofs.YtjcilknfhkpepaaW.PrintWords Go.Proofs.YtjcilknfhkpepaaW.PrintLast
set_option linter.unusedVariables false
theorem txt_ev (a0_0 : ByteArray) (a0_1 : ByteArray) (a0_2 : Bool) (a1 : ByteArray) (h1 : a1.size ≤ 140737488351232) : Ev (fun k => X.bulletinlaw10_BatchTexts.f k a0_0 a0_1 a0_2 a1) true := Ev.now _
end Go.Proofs.Ytjcilknfhkpepaa.Row
