/- disk: what a crash leaves, byte by byte; what is read is what lands. -/
import Derived.Test.YtohflbmmglmhhaaDiskP
namespace Go.Proofs.Ytohflbmmglmhhaa.Dk
open Go.RowKit Go.Proofs.Ytohflbmmglmhhaa.Aid
def by_ (l : List ByteArray) (i k : Nat) : Option UInt8 := (L (l.getD i ⟨#[]⟩))[k]?
theorem getD_set (l : List ByteArray) (a : Nat) (s : ByteArray) (i : Nat) : (l.set a s).getD i ⟨#[]⟩ = if a = i ∧ i < l.length then s else l.getD i ⟨#[]⟩ := by
  rw [List.getD_eq_getElem?_getD, List.getD_eq_getElem?_getD, List.getElem?_set]
  by_cases h : a = i
  · subst h
    by_cases h2 : a < l.length
    · simp [h2]
    · simp [h2]
  · simp [h]
theorem by_set (l : List ByteArray) (a : Nat) (s : ByteArray) (i k : Nat) : by_ (l.set a s) i k = if a = i ∧ i < l.length then (L s)[k]? else by_ l i k := by
  unfold by_
  rw [getD_set]
  split <;> rfl
/-- each byte as it was, or as some write had it -/
def Oon (C : List (Nat × ByteArray)) (l0 l : List ByteArray) : Prop := ∀ i k, by_ l i k = by_ l0 i k ∨ ∃ w ∈ C, w.1 = i ∧ (L w.2)[k]? = by_ l i k
theorem Oon.refl (C : List (Nat × ByteArray)) (l : List ByteArray) : Oon C l l := fun _ _ => .inl rfl
theorem Oon.set {C : List (Nat × ByteArray)} {l0 l : List ByteArray} (h : Oon C l0 l) {w : Nat × ByteArray} (hw : w ∈ C) : Oon C l0 (l.set w.1 w.2) := by
  intro i k
  rw [by_set]
  by_cases hc : w.1 = i ∧ i < l.length
  · rw [if_pos hc]
    exact .inr ⟨w, hw, hc.1, rfl⟩
  · rw [if_neg hc]
    exact h i k
theorem tear_by (size : Nat) (torn : Int) (l : List ByteArray) (w : Nat × ByteArray) (hs : w.2.size = size) (k : Nat) : (L (tear size torn l w))[k]? = (L w.2)[k]? ∨ (L (tear size torn l w))[k]? = by_ l w.1 k := by
  unfold tear
  by_cases ht : 0 ≤ torn ∧ torn < size
  · rw [if_pos ht, L_app, L_from_start, L_to_end]
    have hl : (L w.2).length = size := by rw [← sz]; exact hs
    have hlen : ((L w.2).take torn.toNat).length = torn.toNat := by rw [List.length_take]; omega
    by_cases hk : k < torn.toNat
    · left
      rw [List.getElem?_append_left (by omega), List.getElem?_take_of_lt hk]
    · right
      rw [List.getElem?_append_right (by omega), List.getElem?_drop, hlen, Nat.add_sub_cancel' (by omega)]
      rfl
  · rw [if_neg ht]
    exact .inl rfl
theorem Oon.tear_ {C : List (Nat × ByteArray)} {l0 l : List ByteArray} (h : Oon C l0 l) {w : Nat × ByteArray} (hw : w ∈ C) (size : Nat) (torn : Int) (hs : w.2.size = size) : Oon C l0 (l.set w.1 (tear size torn l w)) := by
  intro i k
  rw [by_set]
  by_cases hc : w.1 = i ∧ i < l.length
  · rw [if_pos hc]
    rcases tear_by size torn l w hs k with e | e
    · exact .inr ⟨w, hw, hc.1, e.symm⟩
    · rw [e, hc.1]
      exact h i k
  · rw [if_neg hc]
    exact h i k
theorem landsT_oon (C : List (Nat × ByteArray)) (size : Nat) (torn : Int) (l0 : List ByteArray) : ∀ (ws : List (Nat × ByteArray)) (l : List ByteArray), (∀ w ∈ ws, w ∈ C ∧ w.2.size = size) → Oon C l0 l → Oon C l0 (landsT size torn l ws)
  | [], l, _, h => h
  | [w], l, hw, h => h.tear_ (hw w (by simp)).1 size torn (hw w (by simp)).2
  | w :: v :: r, l, hw, h => by
    show Oon C l0 (landsT size torn (l.set w.1 w.2) (v :: r))
    exact landsT_oon C size torn l0 (v :: r) _ (fun x hx => hw x (List.mem_cons_of_mem _ hx)) (h.set (hw w (List.mem_cons_self ..)).1)
theorem alive_sub (cache : List (Nat × ByteArray)) (keep : List Bool) : ∀ x ∈ alive cache keep, x ∈ cache := by
  intro x hx
  unfold alive at hx
  obtain ⟨⟨y, b⟩, hy, rfl⟩ := List.mem_map.1 hx
  exact (List.of_mem_zip (List.mem_filter.1 hy).1).1
/-- behind a crash each byte is as it was durable, or as a write of the cache had it -/
theorem crash_oon (d : D) (keep : List Bool) (torn : Int) (h : ∀ w ∈ d.cache, w.2.size = d.size) : Oon d.cache d.l (crash d keep torn).l :=
  landsT_oon _ _ _ _ _ _ (fun w hw => ⟨alive_sub _ _ w hw, h w (alive_sub _ _ w hw)⟩) (Oon.refl _ _)
theorem crash_by (d : D) (keep : List Bool) (torn : Int) (h : ∀ w ∈ d.cache, w.2.size = d.size) (i k : Nat) (v : UInt8) (h0 : by_ d.l i k = some v) (h1 : ∀ w ∈ d.cache, w.1 = i → (L w.2)[k]? = some v) : by_ (crash d keep torn).l i k = some v := by
  rcases crash_oon d keep torn h i k with e | ⟨w, hw, hi, e⟩
  · rw [e, h0]
  · rw [← e, h1 w hw hi]
theorem landsT_none (size : Nat) (torn : Int) (ht : torn < 0) : ∀ (ws : List (Nat × ByteArray)) (l : List ByteArray), landsT size torn l ws = lands l ws
  | [], l => rfl
  | [w], l => by
    show l.set w.1 (tear size torn l w) = l.set w.1 w.2
    unfold tear
    rw [if_neg (by omega)]
  | w :: v :: r, l => by
    show landsT size torn (l.set w.1 w.2) (v :: r) = _
    rw [landsT_none size torn ht (v :: r)]
    rfl
theorem alive_all (cache : List (Nat × ByteArray)) (b : Bool) : alive cache (List.replicate cache.length b) = if b then cache else [] := by
  induction cache with
  | nil => cases b <;> rfl
  | cons a r ih =>
    unfold alive at ih ⊢
    cases b <;> simp_all [List.replicate_succ]
theorem lands_length (ws : List (Nat × ByteArray)) : ∀ l : List ByteArray, (lands l ws).length = l.length := by
  induction ws with
  | nil => intro l; rfl
  | cons a ws ih => intro l; show (lands (l.set a.1 a.2) ws).length = _; rw [ih]; simp
/-- what is read is what would land -/
theorem look_lands : ∀ (ws : List (Nat × ByteArray)) (l : List ByteArray) (i : Nat), i < l.length → look ws i (l.getD i ⟨#[]⟩) = (lands l ws).getD i ⟨#[]⟩
  | [], l, i, _ => rfl
  | (a, x) :: r, l, i, h => by
    show look r i (if a = i then x else l.getD i ⟨#[]⟩) = (lands (l.set a x) r).getD i ⟨#[]⟩
    rw [← look_lands r (l.set a x) i (by simpa using h), getD_set]
    by_cases ha : a = i
    · rw [if_pos ha, if_pos ⟨ha, h⟩]
    · rw [if_neg ha, if_neg (fun e => ha e.1)]
theorem landsT_length (size : Nat) (torn : Int) : ∀ (ws : List (Nat × ByteArray)) (l : List ByteArray), (landsT size torn l ws).length = l.length
  | [], l => rfl
  | [w], l => by show (l.set w.1 _).length = _; simp
  | w :: v :: r, l => by show (landsT size torn (l.set w.1 w.2) (v :: r)).length = _; rw [landsT_length size torn (v :: r)]; simp
theorem crash_len (d : D) (keep : List Bool) (torn : Int) : (crash d keep torn).l.length = d.l.length := landsT_length _ _ _ _
theorem lands_sizes (n : Nat) : ∀ (ws : List (Nat × ByteArray)) (l : List ByteArray), (∀ s ∈ l, s.size = n) → (∀ x ∈ ws, x.2.size = n) → ∀ s ∈ lands l ws, s.size = n
  | [], l, h, _ => h
  | a :: r, l, h, hw => by
    show ∀ s ∈ lands (l.set a.1 a.2) r, s.size = n
    refine lands_sizes n r _ (fun s hs => ?_) (fun x hx => hw x (List.mem_cons_of_mem _ hx))
    rcases List.mem_or_eq_of_mem_set hs with h1 | h1
    · exact h s h1
    · rw [h1]; exact hw a (List.mem_cons_self ..)
theorem tear_size (size : Nat) (torn : Int) (l : List ByteArray) (w : Nat × ByteArray) (hw : w.2.size = size) (hl : ∀ s ∈ l, s.size = size) (h : w.1 < l.length) : (tear size torn l w).size = size := by
  unfold tear
  split
  · rw [sz, L_app, L_from_start, L_to_end, List.length_append, List.length_take, List.length_drop, ← sz, ← sz, hw, List.getD_eq_getElem?_getD, List.getElem?_eq_getElem h, Option.getD_some, hl _ (List.getElem_mem h)]
    omega
  · exact hw
theorem landsT_sizes (size : Nat) (torn : Int) : ∀ (ws : List (Nat × ByteArray)) (l : List ByteArray), (∀ s ∈ l, s.size = size) → (∀ x ∈ ws, x.1 < l.length ∧ x.2.size = size) → ∀ s ∈ landsT size torn l ws, s.size = size
  | [], l, h, _ => h
  | [w], l, h, hw => by
    show ∀ s ∈ l.set w.1 (tear size torn l w), s.size = size
    intro s hs
    rcases List.mem_or_eq_of_mem_set hs with h1 | h1
    · exact h s h1
    · rw [h1]; exact tear_size size torn l w (hw w (by simp)).2 h (hw w (by simp)).1
  | w :: v :: r, l, h, hw => by
    show ∀ s ∈ landsT size torn (l.set w.1 w.2) (v :: r), s.size = size
    refine landsT_sizes size torn (v :: r) _ (fun s hs => ?_) (fun x hx => ?_)
    · rcases List.mem_or_eq_of_mem_set hs with h1 | h1
      · exact h s h1
      · rw [h1]; exact (hw w (List.mem_cons_self ..)).2
    · rw [List.length_set]
      exact hw x (List.mem_cons_of_mem _ hx)
theorem crash_fine (d : D) (keep : List Bool) (torn : Int) (h : Fine d) : Fine (crash d keep torn) where
  each := landsT_sizes d.size torn _ _ h.each (fun x hx => h.wat x (alive_sub _ _ x hx))
  wat := fun w hw => by cases hw
  size := h.size
  len := by rw [crash_len]; exact h.len
  left := by show 0 ≤ 9223372036854775807; omega
theorem oper_fine (d : D) (h : Fine d) : Fine (oper d).1 := by
  obtain ⟨h1, h2, h3, h4, h5, h6⟩ := oper_l d
  exact ⟨by rw [h1, h3]; exact h.each, by rw [h1, h2, h3]; exact h.wat, by rw [h3]; exact h.size, by rw [h1]; exact h.len, Nat.le_trans h6 h.left⟩
theorem put_fine (d : D) (at_ : Int) (s : ByteArray) (h : Fine d) : Fine (put d at_ s).1 := by
  have ho := oper_fine d h
  obtain ⟨h1, h2, h3, h4, h5, h6⟩ := oper_l d
  unfold put
  split
  · exact h
  · rename_i hc
    split
    · exact h
    · split
      · exact ho
      · refine ⟨ho.each, fun w hw => ?_, ho.size, ho.len, ho.left⟩
        show w.1 < (oper d).1.l.length ∧ w.2.size = (oper d).1.size
        rw [h1, h3]
        rcases List.mem_append.1 hw with e | e
        · exact h.wat w e
        · have : w = (at_.toNat, s) := by simpa using e
          subst this
          exact ⟨by show at_.toNat < d.l.length; omega, by show s.size = d.size; omega⟩
theorem flush_fine (d : D) (h : Fine d) : Fine (flush d).1 := by
  have ho := oper_fine d h
  unfold flush
  split
  · exact h
  · split
    · exact ho
    · refine ⟨lands_sizes d.size _ _ h.each (fun x hx => (h.wat x hx).2) |> fun k => ?_, fun w hw => (by cases hw), ho.size, ?_, ho.left⟩
      · show ∀ s ∈ lands d.l d.cache, s.size = (oper d).1.size
        rw [(oper_l d).2.2.1]
        exact k
      · show (lands d.l d.cache).length ≤ 4096
        rw [lands_length]
        exact h.len
theorem cut_fine (d : D) (n : Int) (hn : n ≤ 9223372036854775807) (h : Fine d) : Fine (cut d n) := ⟨h.each, h.wat, h.size, h.len, by show (max n 0).toNat ≤ _; omega⟩
theorem fill_fine (d : D) (b : Bool) (h : Fine d) : Fine (fill d b) := ⟨h.each, h.wat, h.size, h.len, h.left⟩
theorem new_fine (n size : Nat) (h1 : n ≤ 4096) (h2 : size ≤ 256) : Fine (new n size) := by
  refine ⟨fun s hs => ?_, fun w hw => (by cases hw), h2, ?_, by show 0 ≤ 9223372036854775807; omega⟩
  · have := List.eq_of_mem_replicate hs
    rw [this, sz, L_S, List.length_replicate]
    rfl
  · show (List.replicate n _).length ≤ 4096
    rw [List.length_replicate]
    exact h1
/-- how many operations, and writes under way, there may be -/
def Few (d : D) (n : Nat) : Prop := d.ops ≤ n ∧ d.cache.length ≤ n
theorem oper_few (d : D) (n : Nat) (h : Few d n) : Few (oper d).1 (n + 1) := by
  obtain ⟨h1, h2, h3, h4, h5, h6⟩ := oper_l d
  exact ⟨by rw [h5]; have := h.1; omega, by rw [h2]; have := h.2; omega⟩
theorem put_few (d : D) (at_ : Int) (s : ByteArray) (n : Nat) (h : Few d n) : Few (put d at_ s).1 (n + 1) := by
  have ho := oper_few d n h
  have hd : Few d (n + 1) := ⟨Nat.le_succ_of_le h.1, Nat.le_succ_of_le h.2⟩
  unfold put
  split
  · exact hd
  · split
    · exact hd
    · split
      · exact ho
      · refine ⟨ho.1, ?_⟩
        show (d.cache ++ [(at_.toNat, s)]).length ≤ n + 1
        rw [List.length_append]
        exact Nat.succ_le_succ h.2
theorem flush_few (d : D) (n : Nat) (h : Few d n) : Few (flush d).1 (n + 1) := by
  have ho := oper_few d n h
  have hd : Few d (n + 1) := ⟨Nat.le_succ_of_le h.1, Nat.le_succ_of_le h.2⟩
  unfold flush
  split
  · exact hd
  · split
    · exact ho
    · exact ⟨ho.1, Nat.zero_le _⟩
theorem crash_few (d : D) (keep : List Bool) (torn : Int) (n : Nat) (h : Few d n) : Few (crash d keep torn) n := ⟨h.1, Nat.zero_le _⟩
end Go.Proofs.Ytohflbmmglmhhaa.Dk
