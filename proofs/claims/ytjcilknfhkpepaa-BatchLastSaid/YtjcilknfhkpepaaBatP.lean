/- batch: changes sorted by their keys, as plain values. -/
import Derived.Test.YtjcilknfhkpepaaAid
namespace Go.Proofs.Ytjcilknfhkpepaa.Bat
open Go.RowKit Go.Proofs.Ytjcilknfhkpepaa.Aid
structure Ch where
  key : ByteArray
  value : ByteArray
  gone : Bool
theorem Ch.ext' {a b : Ch} (h1 : a.key = b.key) (h2 : a.value = b.value) (h3 : a.gone = b.gone) : a = b := by
  cases a; cases b; simp_all
def fits (c : Ch) : Int := if c.key.size = 0 then 3 else if 200 < c.key.size ∨ 1048576 < c.value.size then 2 else 0
def lt (a b : ByteArray) : Prop := L a < L b
instance (a b : ByteArray) : Decidable (lt a b) := inferInstanceAs (Decidable (L a < L b))
theorem lt_irrefl (a : ByteArray) : ¬ lt a a := List.lt_irrefl (L a)
theorem lt_trans {a b c : ByteArray} (h : lt a b) (k : lt b c) : lt a c := List.lt_trans h k
theorem lt_asymm {a b : ByteArray} (h : lt a b) : ¬ lt b a := fun k => lt_irrefl a (lt_trans h k)
theorem lt_tri {a b : ByteArray} (h : ¬ lt a b) : a = b ∨ lt b a := by
  by_cases hb : lt b a
  · exact .inr hb
  · left
    apply L_inj
    exact List.le_antisymm (List.not_lt.1 hb) (List.not_lt.1 h)
theorem not_lt_trans {a b c : ByteArray} (h : ¬ lt b a) (k : lt b c) : lt a c := by
  rcases lt_tri h with e | e
  · exact e ▸ k
  · exact lt_trans e k
/-- how many stand ahead of a key -/
def pos : List Ch → ByteArray → Nat
  | [], _ => 0
  | a :: r, key => if lt a.key key then pos r key + 1 else 0
def there : List Ch → ByteArray → Bool
  | [], _ => false
  | a :: r, key => if lt a.key key then there r key else decide (a.key = key)
def Sorted (l : List Ch) : Prop := l.Pairwise fun a b => lt a.key b.key
theorem pos_le : ∀ (l : List Ch) (key : ByteArray), pos l key ≤ l.length
  | [], _ => Nat.le_refl _
  | a :: r, key => by
    unfold pos
    have := pos_le r key
    split <;> simp <;> omega
theorem at_pos : ∀ (l : List Ch) (key : ByteArray), there l key = (match l[pos l key]? with | some c => decide (c.key = key) | none => false)
  | [], _ => rfl
  | a :: r, key => by
    unfold there pos
    by_cases h : lt a.key key
    · rw [if_pos h, if_pos h, at_pos r key]
      rfl
    · rw [if_neg h, if_neg h]
      rfl
theorem ahead : ∀ (l : List Ch) (key : ByteArray), Sorted l → ∀ i (hi : i < l.length), lt l[i].key key ↔ i < pos l key
  | [], _, _, i, hi => by simp at hi
  | a :: r, key, hs, i, hi => by
    have hs' := List.pairwise_cons.1 hs
    unfold pos
    by_cases h : lt a.key key
    · rw [if_pos h]
      cases i with
      | zero => simp [h]
      | succ i =>
        have := ahead r key hs'.2 i (by simpa using hi)
        simp only [List.getElem_cons_succ]
        rw [this]
        omega
    · rw [if_neg h]
      simp only [Nat.not_lt_zero, iff_false]
      cases i with
      | zero => exact h
      | succ i =>
        simp only [List.getElem_cons_succ]
        intro hk
        exact h (lt_trans (hs'.1 _ (List.getElem_mem (by simpa using hi))) hk)
/-- the list with a change in it -/
def put (l : List Ch) (c : Ch) : List Ch := l.take (pos l c.key) ++ c :: l.drop (pos l c.key + if there l c.key then 1 else 0)
theorem put_nil (c : Ch) : put [] c = [c] := rfl
theorem put_cons (a : Ch) (r : List Ch) (c : Ch) : put (a :: r) c = if lt a.key c.key then a :: put r c else c :: (if a.key = c.key then r else a :: r) := by
  unfold put
  by_cases h : lt a.key c.key
  · rw [if_pos h]
    have e1 : pos (a :: r) c.key = pos r c.key + 1 := by rw [pos, if_pos h]
    have e2 : there (a :: r) c.key = there r c.key := by rw [there, if_pos h]
    rw [e1, e2, List.take_succ_cons, Nat.add_right_comm, List.drop_succ_cons]
    rfl
  · rw [if_neg h]
    have e1 : pos (a :: r) c.key = 0 := by rw [pos, if_neg h]
    have e2 : there (a :: r) c.key = decide (a.key = c.key) := by rw [there, if_neg h]
    rw [e1, e2]
    by_cases hk : a.key = c.key <;> simp [hk]
theorem put_mem : ∀ (l : List Ch) (c x : Ch), x ∈ put l c → x = c ∨ x ∈ l
  | [], c, x, h => by rw [put_nil] at h; exact .inl (by simpa using h)
  | a :: r, c, x, h => by
    rw [put_cons] at h
    split at h
    · rcases List.mem_cons.1 h with e | e
      · exact .inr (e ▸ List.mem_cons_self ..)
      · rcases put_mem r c x e with e | e
        · exact .inl e
        · exact .inr (List.mem_cons_of_mem _ e)
    · rcases List.mem_cons.1 h with e | e
      · exact .inl e
      · split at e
        · exact .inr (List.mem_cons_of_mem _ e)
        · exact .inr e
theorem put_sorted : ∀ (l : List Ch) (c : Ch), Sorted l → Sorted (put l c)
  | [], c, _ => by rw [put_nil]; exact List.pairwise_singleton ..
  | a :: r, c, h => by
    have h' := List.pairwise_cons.1 h
    rw [put_cons]
    by_cases hl : lt a.key c.key
    · rw [if_pos hl]
      refine List.pairwise_cons.2 ⟨fun x hx => ?_, put_sorted r c h'.2⟩
      rcases put_mem r c x hx with e | e
      · rw [e]; exact hl
      · exact h'.1 x e
    · rw [if_neg hl]
      by_cases hk : a.key = c.key
      · rw [if_pos hk]
        exact List.pairwise_cons.2 ⟨fun x hx => hk ▸ h'.1 x hx, h'.2⟩
      · rw [if_neg hk]
        have hca : lt c.key a.key := (lt_tri hl).resolve_left hk
        refine List.pairwise_cons.2 ⟨fun x hx => ?_, h⟩
        rcases List.mem_cons.1 hx with e | e
        · rw [e]; exact hca
        · exact lt_trans hca (h'.1 x e)
/-- a change, made -/
def change (l : List Ch) (c : Ch) : List Ch × Int :=
  if fits c ≠ 0 then (l, fits c) else if there l c.key = false ∧ 2000 ≤ l.length then (l, 8) else (put l c, 0)
/-- a key's change -/
def find : List Ch → ByteArray → Option Ch
  | [], _ => none
  | a :: r, key => if a.key = key then some a else find r key
theorem find_none : ∀ (l : List Ch) (key : ByteArray), (∀ x ∈ l, x.key ≠ key) → find l key = none
  | [], _, _ => rfl
  | a :: r, key, h => by rw [find, if_neg (h a (List.mem_cons_self ..)), find_none r key fun x hx => h x (List.mem_cons_of_mem _ hx)]
theorem find_pos : ∀ (l : List Ch) (key : ByteArray), Sorted l → find l key = if there l key then l[pos l key]? else none
  | [], _, _ => rfl
  | a :: r, key, hs => by
    have hs' := List.pairwise_cons.1 hs
    by_cases hl : lt a.key key
    · rw [find, if_neg (fun e => by rw [e] at hl; exact lt_irrefl _ hl), there, if_pos hl, pos, if_pos hl, find_pos r key hs'.2]
      simp
    · rw [find, there, if_neg hl, pos, if_neg hl]
      by_cases hk : a.key = key
      · simp [hk]
      · rw [if_neg hk, find_none]
        · simp [hk]
        · intro x hx e
          have := (lt_tri hl).resolve_left hk
          exact lt_irrefl _ (e ▸ lt_trans this (hs'.1 x hx))
theorem find_there (l : List Ch) (key : ByteArray) (hs : Sorted l) : (find l key).isSome = there l key := by
  rw [find_pos l key hs]
  cases ht : there l key
  · rfl
  · rw [at_pos] at ht
    cases he : l[pos l key]? with
    | none => rw [he] at ht; cases ht
    | some c => simp
theorem find_put : ∀ (l : List Ch) (c : Ch) (key : ByteArray), Sorted l → find (put l c) key = if c.key = key then some c else find l key
  | [], c, key, _ => rfl
  | a :: r, c, key, hs => by
    have hs' := List.pairwise_cons.1 hs
    rw [put_cons]
    by_cases hl : lt a.key c.key
    · rw [if_pos hl, find, find_put r c key hs'.2]
      by_cases hk : c.key = key
      · rw [if_pos hk, if_pos hk, if_neg (fun e => by rw [e, hk] at hl; exact lt_irrefl _ hl)]
      · rw [if_neg hk, if_neg hk]
        rfl
    · rw [if_neg hl, find]
      by_cases hk : c.key = key
      · rw [if_pos hk, if_pos hk]
      · rw [if_neg hk, if_neg hk]
        by_cases ha : a.key = c.key
        · rw [if_pos ha, find, if_neg (fun e => hk (ha ▸ e))]
        · rw [if_neg ha]
theorem change_sorted (l : List Ch) (c : Ch) (h : Sorted l) : Sorted (change l c).1 := by
  unfold change
  split
  · exact h
  · split
    · exact h
    · exact put_sorted l c h
theorem put_len (l : List Ch) (c : Ch) : (put l c).length = if there l c.key then l.length else l.length + 1 := by
  have h := pos_le l c.key
  unfold put
  rw [List.length_append, List.length_take, List.length_cons, List.length_drop]
  by_cases ht : there l c.key = true
  · rw [if_pos ht, if_pos ht]
    have : pos l c.key < l.length := by
      rw [at_pos] at ht
      rcases Nat.lt_or_ge (pos l c.key) l.length with h1 | h1
      · exact h1
      · rw [List.getElem?_eq_none h1] at ht; cases ht
    omega
  · rw [if_neg ht, if_neg ht]
    omega
theorem change_len (l : List Ch) (c : Ch) (h : l.length ≤ 2000) : (change l c).1.length ≤ 2000 := by
  unfold change
  split
  · exact h
  · split
    · exact h
    · rename_i h2
      show (put l c).length ≤ 2000
      rw [put_len]
      split
      · exact h
      · rename_i h3
        have : ¬ 2000 ≤ l.length := fun e => h2 ⟨by simpa using h3, e⟩
        omega
/-- each change that is there fits -/
def Fit (l : List Ch) : Prop := ∀ c ∈ l, fits c = 0
theorem change_fit (l : List Ch) (c : Ch) (h : Fit l) : Fit (change l c).1 := by
  unfold change
  split
  · exact h
  · rename_i h1
    split
    · exact h
    · intro x hx
      rcases put_mem l c x hx with e | e
      · rw [e]; exact Decidable.of_not_not h1
      · exact h x e
end Go.Proofs.Ytjcilknfhkpepaa.Bat
