/- Words for memory: blocks known whole, slices that own their elements, and what may have turned. They speak of no program. -/
import Derived.WalkKit
import Derived.Deep.AppendSrc
import Derived.Deep.Draws
import Derived.Laws.IdiomStrings
import Derived.Laws.BytesArg
namespace Go.Proofs.Ytjcilknfhkpepaa.Mem
open Go.RowKit

/-! ### a block known whole -/
def Blk (w : World) (g : Nat) (t : TypeId) (cs : Array Value) : Prop := w.heap[g]? = some (.cells cs t (0, 0))
section
variable {w w' : World} {g : Nat} {t : TypeId} {cs : Array Value}
theorem Blk.lt (h : Blk w g t cs) : g < w.heap.size := by
  rcases Nat.lt_or_ge g w.heap.size with hlt | hge
  · exact hlt
  · unfold Blk at h; rw [Array.getElem?_eq_none hge] at h; cases h
theorem Blk.cell (h : Blk w g t cs) (i : Nat) : w.cell? ⟨g, i, none⟩ = cs[i]? := cell_of_row w g i cs t (0, 0) h
theorem Blk.frozen (h : Blk w g t cs) (i : Nat) : w.frozen? ⟨g, i, none⟩ = false := by
  unfold Blk at h
  simp [World.frozen?, h]
theorem Blk.new (w : World) (t : TypeId) (cs : Array Value) : Blk (w.alloc (.cells cs t)) w.heap.size t cs := heap_alloc_new w _
theorem Blk.drew (h : Blk w g t cs) : Blk w.drew g t cs := h
theorem Blk.drewN (h : Blk w g t cs) (n : Nat) : Blk (w.drewN n) g t cs := h
theorem Blk.alloc (h : Blk w g t cs) (o : Obj) : Blk (w.alloc o) g t cs := (Below.heap_alloc w o g h.lt).trans h
theorem Blk.set_ (h : Blk w g t cs) (i : Nat) (u : Value) : Blk (w.setCell ⟨g, i, none⟩ u) g t (cs.setIfInBounds i u) := by
  unfold Blk at h ⊢
  simp [World.setCell, Array.getElem?_modify, h]
theorem Blk.far (h : Blk w g t cs) {p : Addr} (hp : g ≠ p.block) (u : Value) : Blk (w.setCell p u) g t cs := (Below.heap_setCell w p u g hp).trans h
theorem Blk.same (h : Blk w g t cs) (hk : w'.heap[g]? = w.heap[g]?) : Blk w' g t cs := hk.trans h
theorem Blk.below (h : Blk w g t cs) (hb : Below w.heap.size w w') : Blk w' g t cs := h.same (hb.block g h.lt)
theorem Blk.type_ne {g' : Nat} {t' : TypeId} {cs' : Array Value} (h : Blk w g t cs) (h' : Blk w g' t' cs') (ht : t ≠ t') : g ≠ g' := by
  rintro rfl
  unfold Blk at h h'
  rw [h] at h'
  injection h' with h'
  injection h' with _ h' _
  exact ht h'
theorem Blk.inj {t' : TypeId} {cs' : Array Value} (h : Blk w g t cs) (h' : Blk w g t' cs') : cs = cs' ∧ t = t' := by
  unfold Blk at h h'
  rw [h] at h'
  injection h' with h'
  injection h' with h1 h2 _
  exact ⟨h1, h2⟩
end
/-- cells written one behind the other -/
def putMany (cs : Array Value) : Nat → List Value → Array Value
  | _, [] => cs
  | o, v :: r => putMany (cs.setIfInBounds o v) (o + 1) r
theorem putMany_size : ∀ (vs : List Value) (o : Nat) (cs : Array Value), (putMany cs o vs).size = cs.size
  | [], _, _ => rfl
  | v :: r, o, cs => by rw [putMany, putMany_size r]; simp
theorem putMany_list : ∀ (vs : List Value) (o : Nat) (cs : Array Value), o + vs.length ≤ cs.size → (putMany cs o vs).toList = cs.toList.take o ++ vs ++ cs.toList.drop (o + vs.length)
  | [], o, cs, _ => by simp [putMany]
  | v :: r, o, cs, h => by
    simp only [List.length_cons] at h
    rw [putMany, putMany_list r (o + 1) _ (by simp; omega)]
    have hlt : o < cs.toList.length := by simp; omega
    simp only [Array.toList_setIfInBounds, List.length_cons]
    rw [List.take_set, List.drop_set_of_lt (by omega), List.take_succ_eq_append_getElem hlt]
    rw [List.set_append_right _ _ (by rw [List.length_take]; omega), List.length_take, Nat.min_eq_left (by omega)]
    simp [Nat.add_comm, Nat.add_left_comm]
theorem Blk.many {g : Nat} {t : TypeId} : ∀ (vs : List Value) (o : Nat) {w : World} {cs : Array Value}, Blk w g t cs → Blk (w.setCells g o vs) g t (putMany cs o vs)
  | [], _, _, _, h => h
  | v :: r, o, _, _, h => by rw [World.setCells, putMany]; exact Blk.many r (o + 1) (h.set_ o v)
theorem setCells_heap_ne (g : Nat) : ∀ (vs : List Value) (o : Nat) (w : World) (k : Nat), k ≠ g → (w.setCells g o vs).heap[k]? = w.heap[k]?
  | [], _, _, _, _ => rfl
  | v :: r, o, w, k, h => by rw [World.setCells, setCells_heap_ne g r _ _ _ h]; exact Below.heap_setCell w _ v k h
theorem setCells_size (g : Nat) : ∀ (vs : List Value) (o : Nat) (w : World), (w.setCells g o vs).heap.size = w.heap.size
  | [], _, _ => rfl
  | v :: r, o, w => by rw [World.setCells, setCells_size g r]; simp [World.setCell]
theorem setCells_os (g : Nat) : ∀ (vs : List Value) (o : Nat) (w : World), (w.setCells g o vs).os = w.os ∧ (w.setCells g o vs).tape = w.tape ∧ (w.setCells g o vs).output = w.output
  | [], _, _ => ⟨rfl, rfl, rfl⟩
  | v :: r, o, w => by rw [World.setCells]; exact setCells_os g r (o + 1) _

/-! ### what may have turned -/
/-- the blocks of F, and new ones, may have turned: nothing else has -/
structure Only (F : Nat → Prop) (w w' : World) : Prop where
  os : w'.os = w.os
  tape : w'.tape = w.tape
  output : w'.output = w.output
  size : w.heap.size ≤ w'.heap.size
  block : ∀ k, k < w.heap.size → ¬ F k → w'.heap[k]? = w.heap[k]?
/-- F, and what has been made since -/
def ext (F : Nat → Prop) (w w' : World) (k : Nat) : Prop := F k ∨ (w.heap.size ≤ k ∧ k < w'.heap.size)
def none_ (_ : Nat) : Prop := False
/-- the block of a slice -/
def own (v : Value) (k : Nat) : Prop := v.ownBlock = some k
section
variable {F G : Nat → Prop} {a b c w w' : World}
theorem Only.refl (F : Nat → Prop) (w : World) : Only F w w := ⟨rfl, rfl, rfl, Nat.le_refl _, fun _ _ _ => rfl⟩
theorem Only.mono (h : Only F a b) (hG : ∀ k, F k → G k) : Only G a b := ⟨h.os, h.tape, h.output, h.size, fun k hk hn => h.block k hk (fun e => hn (hG k e))⟩
theorem Only.trans (h : Only F a b) (k : Only F b c) : Only F a c :=
  ⟨k.os.trans h.os, k.tape.trans h.tape, k.output.trans h.output, Nat.le_trans h.size k.size, fun i hi hn => (k.block i (Nat.lt_of_lt_of_le hi h.size) hn).trans (h.block i hi hn)⟩
theorem Only.trans' (h : Only F a b) (k : Only G b c) (hG : ∀ i, G i → F i ∨ a.heap.size ≤ i) : Only F a c :=
  ⟨k.os.trans h.os, k.tape.trans h.tape, k.output.trans h.output, Nat.le_trans h.size k.size, fun i hi hn => (k.block i (Nat.lt_of_lt_of_le hi h.size) (fun e => (hG i e).elim hn (by omega))).trans (h.block i hi hn)⟩
theorem Only.ext_ (h : Only F a b) (k : Only (ext F a b) b c) : Only F a c := h.trans' k fun i hi => by
  rcases hi with hi | ⟨hi, _⟩
  · exact .inl hi
  · exact .inr hi
theorem Only.drew (h : Only F a w) : Only F a w.drew := ⟨h.os, h.tape, h.output, h.size, h.block⟩
theorem Only.drewN (h : Only F a w) (n : Nat) : Only F a (w.drewN n) := ⟨h.os, h.tape, h.output, h.size, h.block⟩
theorem Only.alloc (h : Only F a w) (o : Obj) : Only F a (w.alloc o) :=
  ⟨h.os, h.tape, h.output, Nat.le_trans h.size (by simp), fun k hk hn => (Below.heap_alloc w o k (Nat.lt_of_lt_of_le hk h.size)).trans (h.block k hk hn)⟩
theorem Only.setCell (h : Only F a w) {p : Addr} (hp : F p.block ∨ a.heap.size ≤ p.block) (u : Value) : Only F a (w.setCell p u) :=
  ⟨h.os, h.tape, h.output, by simpa [World.setCell] using h.size, fun k hk hn => (Below.heap_setCell w p u k (by
    rintro rfl
    rcases hp with hp | hp
    · exact hn hp
    · omega)).trans (h.block k hk hn)⟩
theorem Only.put (h : Only F a w) {b : Nat} (hb : F b) (i : Nat) (u : Value) : Only F a (w.setCell ⟨b, i, none⟩ u) := h.setCell (p := ⟨b, i, none⟩) (.inl hb) u
theorem Only.below (h : Only F a w) (hb : Below w.heap.size w w') : Only F a w' :=
  ⟨hb.os.trans h.os, hb.tape.trans h.tape, hb.output.trans h.output, Nat.le_trans h.size hb.size, fun k hk hn => (hb.block k (Nat.lt_of_lt_of_le hk h.size)).trans (h.block k hk hn)⟩
theorem Only.of_below (hb : Below w.heap.size w w') (F : Nat → Prop) : Only F w w' := (Only.refl F w).below hb
theorem Only.to_below (h : Only F a b) {B : Nat} (hB : B ≤ a.heap.size) (hF : ∀ k, F k → B ≤ k) : Below B a b :=
  ⟨h.os, h.tape, h.output, h.size, fun k hk => h.block k (by omega) (fun e => by have := hF k e; omega)⟩
theorem Only.blk (h : Only F a b) {g : Nat} {t : TypeId} {cs : Array Value} (hb : Blk a g t cs) (hn : ¬ F g) : Blk b g t cs := hb.same (h.block g hb.lt hn)
theorem Only.grown (h : Only F a w) {row : Option Nat} (hg : w.grownBy w' row) (hr : ∀ k, row = some k → F k ∨ a.heap.size ≤ k) : Only F a w' :=
  ⟨hg.os.trans h.os, hg.tape.trans h.tape, hg.output.trans h.output, Nat.le_trans h.size hg.size, fun k hk hn => (hg.block k (Nat.lt_of_lt_of_le hk h.size) (fun e => (hr k e.symm).elim hn (by omega))).trans (h.block k hk hn)⟩
theorem ext_lt (hF : ∀ k, F k → k < w.heap.size) (hs : w.heap.size ≤ w'.heap.size) : ∀ k, ext F w w' k → k < w'.heap.size := by
  rintro k (h | h)
  · exact Nat.lt_of_lt_of_le (hF k h) hs
  · exact h.2
theorem ext_more (h : b.heap.size ≤ c.heap.size) : ∀ k, ext F a b k → ext F a c k := by
  rintro k (h' | h')
  · exact .inl h'
  · exact .inr ⟨h'.1, by omega⟩
theorem ext_join {d : World} (h1 : a.heap.size ≤ b.heap.size) (h2 : b.heap.size ≤ c.heap.size) (h3 : c.heap.size ≤ d.heap.size) : ∀ k, ext (ext F a b) c d k → ext F a d k := by
  rintro k ((h | h) | h)
  · exact .inl h
  · exact .inr ⟨h.1, by omega⟩
  · exact .inr ⟨by omega, h.2⟩
theorem ext_ext (h1 : a.heap.size ≤ b.heap.size) (h2 : b.heap.size ≤ c.heap.size) : ∀ k, ext (ext F a b) b c k ↔ ext F a c k := by
  intro k
  constructor
  · rintro ((h | h) | h)
    · exact .inl h
    · exact .inr ⟨h.1, by omega⟩
    · exact .inr ⟨by omega, h.2⟩
  · rintro (h | h)
    · exact .inl (.inl h)
    · rcases Nat.lt_or_ge k b.heap.size with hk | hk
      · exact .inl (.inr ⟨h.1, hk⟩)
      · exact .inr ⟨hk, h.2⟩
end

/-- what has been made from B on -/
def mine (B : Nat) (w : World) (k : Nat) : Prop := B ≤ k ∧ k < w.heap.size
theorem mine_lt {B : Nat} {w : World} : ∀ k, mine B w k → k < w.heap.size := fun _ h => h.2
theorem mine_ext {B : Nat} {a b : World} {F : Nat → Prop} (hF : ∀ k, F k → mine B a k) (hB : B ≤ a.heap.size) (hs : a.heap.size ≤ b.heap.size) : ∀ k, ext F a b k → mine B b k := by
  rintro k (h | h)
  · exact ⟨(hF k h).1, Nat.lt_of_lt_of_le (hF k h).2 hs⟩
  · exact ⟨by omega, h.2⟩
theorem mine_more {B : Nat} {a b : World} (hs : a.heap.size ≤ b.heap.size) : ∀ k, mine B a k → mine B b k := fun k h => ⟨h.1, by have := h.2; omega⟩
theorem Only.below_mine {B : Nat} {a b c : World} {F : Nat → Prop} (h : Only F b c) (hF : ∀ k, F k → B ≤ k) (hB : B ≤ b.heap.size) (h0 : Below B a b) : Below B a c := h0.trans (h.to_below hB hF)

/-! ### a slice that owns its elements -/
/-- v is a slice of n elements of type e (size cells each), in a row of its own: the cells xs -/
def Sl (w : World) (e : TypeId) (size : Nat) (v : Value) (n : Nat) (xs : List Value) : Prop :=
  xs.length = n * size ∧ ((v = .slice none 0 0 ∧ n = 0) ∨
    ∃ g off cap cur, v = .slice (some ⟨g, off, none⟩) n cap ∧ Blk w g e cur ∧ n ≤ cap ∧ cap ≤ maxLen ∧ off + cap * size ≤ cur.size ∧ (cur.toList.drop off).take (n * size) = xs)
section
variable {w w' : World} {e : TypeId} {size : Nat} {v : Value} {n : Nat} {xs : List Value}
theorem Sl.nil (w : World) (e : TypeId) (size : Nat) : Sl w e size (.slice none 0 0) 0 [] := ⟨by simp, .inl ⟨rfl, rfl⟩⟩
theorem Sl.len (h : Sl w e size v n xs) : xs.length = n * size := h.1
theorem Sl.lt (h : Sl w e size v n xs) {k : Nat} (hk : own v k) : k < w.heap.size := by
  rcases h.2 with ⟨rfl, _⟩ | ⟨g, off, cap, cur, rfl, hb, _⟩
  · cases hk
  · cases hk; exact hb.lt
theorem Sl.keep (h : Sl w e size v n xs) (hk : ∀ k, own v k → w'.heap[k]? = w.heap[k]?) : Sl w' e size v n xs := by
  refine ⟨h.1, ?_⟩
  rcases h.2 with h | ⟨g, off, cap, cur, rfl, hb, h⟩
  · exact .inl h
  · exact .inr ⟨g, off, cap, cur, rfl, hb.same (hk g rfl), h⟩
theorem Sl.only {F : Nat → Prop} (h : Sl w e size v n xs) (ho : Only F w w') (hn : ∀ k, own v k → ¬ F k) : Sl w' e size v n xs :=
  h.keep fun k hk => ho.block k (h.lt hk) (hn k hk)
theorem Sl.below (h : Sl w e size v n xs) (hb : Below w.heap.size w w') : Sl w' e size v n xs := h.keep fun k hk => hb.block k (h.lt hk)
theorem Sl.alloc (h : Sl w e size v n xs) (o : Obj) : Sl (w.alloc o) e size v n xs := h.keep fun k hk => Below.heap_alloc w o k (h.lt hk)
theorem Sl.drew (h : Sl w e size v n xs) : Sl w.drew e size v n xs := h
theorem Sl.drewN (h : Sl w e size v n xs) (m : Nat) : Sl (w.drewN m) e size v n xs := h
theorem Sl.far (h : Sl w e size v n xs) {p : Addr} (hp : ¬ own v p.block) (u : Value) : Sl (w.setCell p u) e size v n xs :=
  h.keep fun k hk => Below.heap_setCell w p u k (fun e => hp (e ▸ hk))
/-- a slice is a slice -/
theorem Sl.form (h : Sl w e size v n xs) : ∃ A cap, v = .slice A n cap ∧ n ≤ cap ∧ cap ≤ maxLen := by
  rcases h.2 with ⟨rfl, rfl⟩ | ⟨g, off, cap, cur, rfl, hb, h1, h2, _⟩
  · exact ⟨none, 0, rfl, Nat.le_refl _, Nat.zero_le _⟩
  · exact ⟨_, _, rfl, h1, h2⟩
theorem Sl.form_pos (h : Sl w e size v n xs) (hn : 0 < n) : ∃ g off cap cur, v = .slice (some ⟨g, off, none⟩) n cap ∧ Blk w g e cur ∧ n ≤ cap ∧ cap ≤ maxLen ∧ off + cap * size ≤ cur.size ∧ (cur.toList.drop off).take (n * size) = xs := by
  rcases h.2 with ⟨_, h0⟩ | h
  · omega
  · exact h
theorem Sl.type_ne {g : Nat} {t : TypeId} {cs : Array Value} (h : Sl w e size v n xs) (hb : Blk w g t cs) (ht : t ≠ e) : ¬ own v g := by
  intro hk
  rcases h.2 with ⟨rfl, _⟩ | ⟨g, off, cap, cur, rfl, hb', _⟩
  · cases hk
  · cases hk; exact hb.type_ne hb' ht rfl
theorem Sl.apart {e' : TypeId} {size' n' : Nat} {v' : Value} {xs' : List Value} (h : Sl w e size v n xs) (h' : Sl w e' size' v' n' xs') (ht : e ≠ e') : ∀ k, own v k → ¬ own v' k := by
  intro k hk
  rcases h.2 with ⟨rfl, _⟩ | ⟨g, off, cap, cur, rfl, hb, _⟩
  · cases hk
  · cases hk; exact h'.type_ne hb ht
/-- a cell of an element -/
theorem Sl.cell (h : Sl w e size v n xs) {g off cap : Nat} (hv : v = .slice (some ⟨g, off, none⟩) n cap) {j : Nat} (hj : j < n * size) : w.cell? ⟨g, off + j, none⟩ = xs[j]? := by
  rcases h.2 with ⟨rfl, h0⟩ | ⟨g', off', cap', cur, hv', hb, h1, h2, h3, h4⟩
  · subst h0; omega
  · rw [hv] at hv'
    injection hv' with e1 e2 e3
    injection e1 with e1
    injection e1 with e1 e4
    subst e1 e4
    rw [hb.cell, ← h4, List.getElem?_take_of_lt hj, List.getElem?_drop]
    simp
theorem Sl.frozen (h : Sl w e size v n xs) {g off cap : Nat} (hv : v = .slice (some ⟨g, off, none⟩) n cap) (j : Nat) : w.frozen? ⟨g, j, none⟩ = false := by
  rcases h.2 with ⟨rfl, h0⟩ | ⟨g', off', cap', cur, hv', hb, _⟩
  · cases hv
  · rw [hv] at hv'
    injection hv' with e1 e2 e3
    injection e1 with e1
    injection e1 with e1 e4
    subst e1
    exact hb.frozen j
theorem Sl.set_ (h : Sl w e size v n xs) {g off cap : Nat} (hv : v = .slice (some ⟨g, off, none⟩) n cap) {j : Nat} (hj : j < n * size) (u : Value) : Sl (w.setCell ⟨g, off + j, none⟩ u) e size v n (xs.set j u) := by
  refine ⟨by simp [h.1], ?_⟩
  rcases h.2 with ⟨rfl, h0⟩ | ⟨g', off', cap', cur, hv', hb, h1, h2, h3, h4⟩
  · cases hv
  · rw [hv] at hv'
    injection hv' with e1 e2 e3
    injection e1 with e1
    injection e1 with e1 e4
    subst e1 e4 e3
    refine .inr ⟨g, off, cap, _, hv, hb.set_ (off + j) u, h1, h2, by simpa using h3, ?_⟩
    rw [← h4, Array.toList_setIfInBounds]
    apply List.ext_getElem?
    intro i
    by_cases hi : i < n * size
    · rw [List.getElem?_take_of_lt hi, List.getElem?_drop, List.getElem?_set, List.getElem?_set]
      by_cases hij : j = i
      · subst hij
        have : off + j < cur.toList.length := by
          have : n * size ≤ cap * size := Nat.mul_le_mul_right _ h1
          simp; omega
        rw [if_pos rfl, if_pos rfl, if_pos this, if_pos (by rw [List.length_take, List.length_drop]; omega)]
      · rw [if_neg (by omega), if_neg hij, List.getElem?_take_of_lt hi, List.getElem?_drop]
    · rw [List.getElem?_take_eq_none (by omega), List.getElem?_eq_none (by rw [List.length_set, List.length_take]; omega)]
/-- s[k:] -/
theorem Sl.cut {A : Option Addr} {cap k : Nat} (h : Sl w e size (.slice A n cap) n xs) (hk : k ≤ n) :
    Sl w e size (.slice (if cap = k then A else A.map (·.add (k * size))) (n - k) (cap - k)) (n - k) (xs.drop (k * size)) := by
  refine ⟨by rw [List.length_drop, h.1, Nat.sub_mul], ?_⟩
  rcases h.2 with ⟨hv, h0⟩ | ⟨g', off', cap', cur, hv', hb, h1, h2, h3, h4⟩
  · injection hv with e1 e2 e3
    subst e1 e3
    left
    have : k = 0 := by omega
    subst this
    simp [h0]
  · injection hv' with e1 e2 e3
    subst e1 e3
    right
    have hadd : (⟨g', off', none⟩ : Addr).add (k * size) = ⟨g', off' + k * size, none⟩ := by unfold Addr.add; split <;> simp_all
    have hm : (cap - k) * size = cap * size - k * size := Nat.sub_mul ..
    have hle : k * size ≤ cap * size := Nat.mul_le_mul_right _ (by omega)
    by_cases hc : cap = k
    · subst hc
      refine ⟨g', off', cap - cap, cur, by rw [if_pos rfl], hb, by omega, by omega, by simp; omega, ?_⟩
      have : n = cap := by omega
      subst this
      rw [Nat.sub_self, Nat.zero_mul, List.take_zero, List.drop_eq_nil_of_le (by rw [h.1]; omega)]
    · refine ⟨g', off' + k * size, cap - k, cur, by rw [if_neg hc]; simp [hadd], hb, by omega, by omega, by omega, ?_⟩
      rw [← h4, List.drop_take, List.drop_drop, Nat.sub_mul]
/-- s[:k] -/
theorem Sl.upto {A : Option Addr} {cap k : Nat} (h : Sl w e size (.slice A n cap) n xs) (hk : k ≤ n) :
    Sl w e size (.slice A k cap) k (xs.take (k * size)) := by
  have hle : k * size ≤ n * size := Nat.mul_le_mul_right _ hk
  refine ⟨by rw [List.length_take, h.1]; omega, ?_⟩
  rcases h.2 with ⟨hv, h0⟩ | ⟨g', off', cap', cur, hv', hb, h1, h2, h3, h4⟩
  · injection hv with e1 e2 e3
    subst e1 e3
    left
    have : k = 0 := by omega
    subst this
    simp
  · injection hv' with e1 e2 e3
    subst e1 e3
    right
    refine ⟨g', off', cap, cur, rfl, hb, by omega, h2, h3, ?_⟩
    rw [← h4, List.take_take, Nat.min_eq_left hle]
/-- a new row, whole -/
theorem Sl.made (w : World) (e : TypeId) (size n : Nat) (cs : Array Value) (hs : cs.size = n * size) (hm : n ≤ maxLen) : Sl (w.alloc (.cells cs e)) e size (.slice (some ⟨w.heap.size, 0, none⟩) n n) n cs.toList :=
  ⟨by simpa using hs, .inr ⟨w.heap.size, 0, n, cs, rfl, Blk.new w e cs, Nat.le_refl _, hm, by omega, by rw [List.drop_zero, List.take_of_length_le]; simp [hs]⟩⟩
/-- a row that has no more than these -/
theorem Sl.of_blk {g : Nat} {cs : Array Value} {cap : Nat} (hb : Blk w g e cs) (h1 : n ≤ cap) (hm : cap ≤ maxLen) (hs : cap * size ≤ cs.size) : Sl w e size (.slice (some ⟨g, 0, none⟩) n cap) n (cs.toList.take (n * size)) := by
  have hle : n * size ≤ cap * size := Nat.mul_le_mul_right _ h1
  exact ⟨by rw [List.length_take]; simp; omega, .inr ⟨g, 0, cap, cs, rfl, hb, h1, hm, by omega, by rw [List.drop_zero]⟩⟩
/-- the cells, for what reads a slice -/
theorem Sl.src {P : Program} {tx e' : TypeId} (h : Sl w e size v n xs) (hk : P.underlying tx = some (.slice e')) (h1 : ∀ u ∈ xs, u.oneCell' = true) : Src P size tx v n xs w := by
  rcases h.2 with ⟨rfl, rfl⟩ | ⟨g, off, cap, cur, rfl, hb, h2, h3, h4, h5⟩
  · have : xs = [] := List.eq_nil_of_length_eq_zero (by simpa using h.1)
    subst this
    exact Src.ofNil w hk 0
  · refine Src.ofSlice w hk ⟨g, off, none⟩ n cap xs h.1 (fun j u hu => ?_) h1
    have hadd : (⟨g, off, none⟩ : Addr).add j = ⟨g, off + j, none⟩ := by unfold Addr.add; split <;> simp_all
    rw [hadd, h.cell rfl (by rw [← h.1]; exact (List.getElem?_eq_some_iff.1 hu).1), hu]
/-- one new element, laid in a block of its own ahead of the append -/
theorem src_blk {P : Program} {tx e' : TypeId} {g : Nat} {t : TypeId} {cs : Array Value} (hb : Blk w g t cs) (hk : P.underlying tx = some (.slice e')) (c m : Nat) (hm : cs.size = m * size) (h1 : ∀ u ∈ cs.toList, u.oneCell' = true) : Src P size tx (.slice (some ⟨g, 0, none⟩) m c) m cs.toList w :=
  Src.ofSlice w hk ⟨g, 0, none⟩ m c cs.toList (by simpa using hm) (fun j u hu => by
    have hadd : (⟨g, 0, none⟩ : Addr).add j = ⟨g, j, none⟩ := by unfold Addr.add; split <;> simp_all
    rw [hadd, hb.cell]
    simpa using hu) h1
end

/-- 'string(b)', b's bytes the list l -/
theorem Sl.str {P : Program} {w : World} {v : Value} {l : List UInt8} {src dst e : TypeId} (h : Sl w e 1 v l.length (l.map fun c => .int .u8 (c.toNat : Int))) (hs : P.underlying src = some (.slice e)) (he : P.underlying e = some (.int .u8)) (hd : P.underlying dst = some .string) :
    (convert src dst v).run P w = .ok (.string ⟨l.toArray⟩) w := by
  rcases h.2 with ⟨rfl, h0⟩ | ⟨g, off, cap, cur, rfl, hb, h2, h3, h4, h5⟩
  · obtain rfl := List.eq_nil_of_length_eq_zero h0
    exact run_convert_bytes_nil (P := P) w src e hs he 0 0 dst hd
  · refine run_convert_bytes_back w src dst e ⟨g, off, none⟩ cap l hs he hd fun j hj => ?_
    have hadd : (⟨g, off, none⟩ : Addr).add j = ⟨g, off + j, none⟩ := by unfold Addr.add; split <;> simp_all
    rw [hadd, h.cell rfl (by omega)]
    simp [hj]

/-- 'make([]T, n)' -/
theorem run_make_sl {P : Program} (t e : TypeId) (i : TypeInfo) (z : Value) (ht : P.underlying t = some (.slice e)) (hi : P.info? e = some i) (hz : i.zero = some z)
    (kl kc : IntKind) (n : Nat) (hbytes : i.bytes * n ≤ 281474976710656) (h63 : n ≤ 9223372036854775807) (w : World) :
    (Instr.makeSlice t (.int kl (n : Int)) (.int kc (n : Int))).run P w = .ok (.slice (some ⟨w.heap.size, 0, none⟩) n n) (w.alloc (.cells (madeCells z.cells (n * i.size)) e)) := by
  have hb : (i.bytes : Int) * (n : Int) ≤ 281474976710656 := by
    have h : ((i.bytes * n : Nat) : Int) ≤ 281474976710656 := by omega
    rwa [Int.natCast_mul] at h
  have hr := run_make (P := P) w t e i z ht hi hz kl kc n n (by omega) (by omega) hb (by omega)
  simp only [Int.toNat_natCast] at hr
  exact hr
theorem madeCells_one (v : Value) (n : Nat) : madeCells #[v] n = Array.replicate n v := by
  apply Array.ext
  · simp [madeCells]
  · intro i h1 h2
    simp [madeCells, Nat.mod_one]

/-! ### append -/
section
variable {P : Program} {w : World}
theorem run_append_sl (t tx ty e : TypeId) (i : TypeInfo) (z : Value) (size bytes : Nat) (ht : P.underlying t = some (.slice e)) (hi : P.info? e = some i) (hz : i.zero = some z)
    (hsize : i.size = size) (hby : i.bytes = bytes) (hzs : z.cells.size = size)
    {v : Value} {n : Nat} {xs : List Value} (h : Sl w e size v n xs) {x : Value} {m : Nat} {news : List Value} (hs : Src P size tx x m news w)
    (h63 : n + m ≤ maxLen) (hbytes : (n + m) * bytes ≤ 140737488355328) :
    ∃ A cap w', (Builtin.append_ #[t, tx] ty #[v, x]).run P w = .ok (.slice A (n + m) cap) w' ∧ Sl w' e size (.slice A (n + m) cap) (n + m) (xs ++ news) ∧ Only (own v) w w' ∧
      (∀ k, own (.slice A (n + m) cap) k → own v k ∨ k = w.heap.size) := by
  subst hsize hby
  have hlen : (xs ++ news).length = (n + m) * i.size := by rw [List.length_append, h.1, hs.newsLen, Nat.add_mul]
  have hsmall : n + m ≤ 9223372036854775807 := by simpa only [maxLen] using h63
  have hone : (∃ b, ∃ sCap, v = .slice b n sCap ∧ (Builtin.firstCells i.size n v).run P w.drew = .ok xs.toArray w.drew) := by
    rcases h.2 with ⟨rfl, rfl⟩ | ⟨g, off, cap, cur, rfl, hb, h2, h3, h4, h5⟩
    · have : xs = [] := List.eq_nil_of_length_eq_zero (by simpa using h.1)
      subst this
      exact ⟨none, 0, rfl, run_firstCells_none w.drew i.size 0 0 0⟩
    · refine ⟨_, cap, rfl, run_firstCells_some w.drew i.size n ⟨g, off, none⟩ n cap xs h.1 (fun j u hu => ?_)⟩
      have hadd : (⟨g, off, none⟩ : Addr).add j = ⟨g, off + j, none⟩ := by unfold Addr.add; split <;> simp_all
      rw [hadd]
      show w.cell? _ = _
      rw [h.cell rfl (by rw [← h.1]; exact (List.getElem?_eq_some_iff.1 hu).1), hu]
  obtain ⟨b, sCap, hv, hold⟩ := hone
  by_cases hroom : n + m ≤ sCap
  · rcases h.2 with ⟨hv', rfl⟩ | ⟨g, off, cap, cur, hv', hb, h2, h3, h4, h5⟩
    · rw [hv] at hv'
      injection hv' with e1 e2 e3
      subst e1 e3
      have hm : m = 0 := by omega
      subst hm
      have hn : news = [] := List.eq_nil_of_length_eq_zero (by simpa using hs.newsLen)
      subst hn
      have hx : xs = [] := List.eq_nil_of_length_eq_zero (by simpa using h.1)
      subst hx
      refine ⟨none, 0, w, ?_, by simpa using Sl.nil w e i.size, Only.refl _ _, fun k hk => by cases hk⟩
      subst hv
      rcases hs.kind with ⟨e', hk⟩ | hk <;> simp [Builtin.append_, run_underlying ht, run_underlying hk, sizeOf, typeInfo, hi, hs.len, hs.cells]
    · rw [hv] at hv'
      injection hv' with e1 e2 e3
      subst e1 e3
      subst hv
      have hle : (n + m) * i.size ≤ sCap * i.size := Nat.mul_le_mul_right _ hroom
      have hle2 : (n + m) * i.size = n * i.size + m * i.size := Nat.add_mul ..
      have hin : off + n * i.size + news.length ≤ cur.size := by rw [hs.newsLen]; omega
      have hr := run_append_room_src (P := P) w t tx ty e i ht hi g off n sCap x m news hs hroom
        (fun j hj => by rw [hb.cell, Array.getElem?_eq_getElem (by omega)]; rfl) (fun j _ => hb.frozen _)
      refine ⟨some ⟨g, off, none⟩, sCap, _, hr, ⟨hlen, .inr ⟨g, off, sCap, _, rfl, hb.many news (off + n * i.size), hroom, h3, by rw [putMany_size]; exact h4, ?_⟩⟩, ?_, fun k hk => .inl hk⟩
      · rw [putMany_list _ _ _ hin, List.append_assoc, List.drop_append_of_le_length (by rw [List.length_take]; simp; omega), List.drop_take, Nat.add_sub_cancel_left, h5, ← List.append_assoc, List.take_append_of_le_length (by rw [hlen]; exact Nat.le_refl _), List.take_of_length_le (by rw [hlen]; exact Nat.le_refl _)]
      · obtain ⟨o1, o2, o3⟩ := setCells_os g news (off + n * i.size) w
        exact ⟨o1, o2, o3, by rw [setCells_size]; exact Nat.le_refl _, fun k _ hk => setCells_heap_ne g news _ w k (fun e => hk (by rw [e]; rfl))⟩
  · have hge := grownCap_ge w (n + m) sCap e
    have hcm : grownCap w (n + m) sCap e ≤ maxLen := grownCap_le_maxLen w (n + m) sCap e h63
    subst hv
    have hr := run_append_grow_src (P := P) w t tx ty e i z ht hi hz b n sCap xs hold x m news hs (by omega) (by omega) (growslice_fits (by omega) hbytes)
    refine ⟨_, _, _, hr, ⟨hlen, .inr ⟨w.heap.size, 0, _, _, rfl, Blk.new w.drew e _, hge, hcm, ?_, ?_⟩⟩, (Only.refl _ w).drew.alloc _, fun k hk => .inr (by cases hk; rfl)⟩
    · simp only [Array.size_append, List.size_toArray, size_zeroCells, hzs, hlen, Nat.zero_add]
      rw [← Nat.add_mul]
      exact Nat.le_of_eq (by congr 1; omega)
    · simp only [Array.toList_append, List.drop_zero]
      rw [← hlen]
      exact List.take_left
theorem wp_append_sl {o : Oper} {a : Act} {K : Act → World → Prop} {Q : Exit → Act → World → Prop} (s x : Operand) (t tx : TypeId)
    (ho : o.op = .call { callee := .builtin .append, args := #[s, x], argTypes := #[t, tx] })
    (e : TypeId) (i : TypeInfo) (z : Value) (size bytes : Nat) (ht : P.underlying t = some (.slice e)) (hi : P.info? e = some i) (hz : i.zero = some z)
    (hsize : i.size = size) (hby : i.bytes = bytes) (hzs : z.cells.size = size)
    (v : Value) (n : Nat) (xs : List Value) (hv : a.eval s = v) (h : Sl w e size v n xs) (y : Value) (m : Nat) (news : List Value) (hy : a.eval x = y) (hs : Src P size tx y m news w)
    (h63 : n + m ≤ maxLen) (hbytes : (n + m) * bytes ≤ 140737488355328)
    (hK : ∀ A cap w', Sl w' e size (.slice A (n + m) cap) (n + m) (xs ++ news) → Only (own v) w w' → (∀ k, own (.slice A (n + m) cap) k → own v k ∨ k = w.heap.size) → K (a.put o.dst (.slice A (n + m) cap)) w') : o.wp P a w K Q := by
  obtain ⟨A, cap, w', hr, h2, h3, h4⟩ := run_append_sl (P := P) t tx o.type e i z size bytes ht hi hz hsize hby hzs h hs h63 hbytes
  unfold Oper.wp execOp
  simp only [ho, resolve, invoke, builtin, Sem.run_bind, Sem.run_pure, Result.andThen_ok, List.map_toArray, List.map_cons, List.map_nil, hv, hy, hr]
  exact hK A cap w' h2 h3 h4
theorem wpList_append_sl {ops : Array Oper} {rest : List Oper} {o : Oper} {a : Act} {Q : Exit → Act → World → Prop} (hgd : o.guard = none) (s x : Operand) (t tx : TypeId)
    (ho : o.op = .call { callee := .builtin .append, args := #[s, x], argTypes := #[t, tx] })
    (e : TypeId) (i : TypeInfo) (z : Value) (size bytes : Nat) (ht : P.underlying t = some (.slice e)) (hi : P.info? e = some i) (hz : i.zero = some z)
    (hsize : i.size = size) (hby : i.bytes = bytes) (hzs : z.cells.size = size)
    (v : Value) (n : Nat) (xs : List Value) (hv : a.eval s = v) (h : Sl w e size v n xs) (y : Value) (m : Nat) (news : List Value) (hy : a.eval x = y) (hs : Src P size tx y m news w)
    (h63 : n + m ≤ maxLen) (hbytes : (n + m) * bytes ≤ 140737488355328)
    (hK : ∀ A cap w', Sl w' e size (.slice A (n + m) cap) (n + m) (xs ++ news) → Only (own v) w w' → (∀ k, own (.slice A (n + m) cap) k → own v k ∨ k = w.heap.size) → wpList P ops Q rest (a.put o.dst (.slice A (n + m) cap)) w') :
    wpList P ops Q (o :: rest) a w :=
  wpList_plain hgd fun _ hK' => wp_append_sl s x t tx ho e i z size bytes ht hi hz hsize hby hzs v n xs hv h y m news hy hs h63 hbytes fun A cap w' h2 h3 h4 => hK' _ _ (hK A cap w' h2 h3 h4)
/-- at a step of a region that draws its order -/
theorem step_append_sl {ops : Array Oper} {o : Oper} {a : Act} {K : Act → World → Prop} {Q : Exit → Act → World → Prop} {E : Prop} (hgd : o.guard = none) (s x : Operand) (t tx : TypeId)
    (ho : o.op = .call { callee := .builtin .append, args := #[s, x], argTypes := #[t, tx] })
    (e : TypeId) (i : TypeInfo) (z : Value) (size bytes : Nat) (ht : P.underlying t = some (.slice e)) (hi : P.info? e = some i) (hz : i.zero = some z)
    (hsize : i.size = size) (hby : i.bytes = bytes) (hzs : z.cells.size = size)
    (v : Value) (n : Nat) (xs : List Value) (hv : a.eval s = v) (h : Sl w e size v n xs) (y : Value) (m : Nat) (news : List Value) (hy : a.eval x = y) (hs : Src P size tx y m news w)
    (h63 : n + m ≤ maxLen) (hbytes : (n + m) * bytes ≤ 140737488355328)
    (hK : ∀ A cap w', Sl w' e size (.slice A (n + m) cap) (n + m) (xs ++ news) → Only (own v) w w' → (∀ k, own (.slice A (n + m) cap) k → own v k ∨ k = w.heap.size) → K (a.put o.dst (.slice A (n + m) cap)) w') :
    if Region.wanted o (yielded ops a.tmps) = true then Oper.wp P o a w K Q else E := by
  have hw : Region.wanted o (yielded ops a.tmps) = true := by simp [Region.wanted, hgd]
  rw [if_pos hw]
  exact wp_append_sl s x t tx ho e i z size bytes ht hi hz hsize hby hzs v n xs hv h y m news hy hs h63 hbytes hK
end
end Go.Proofs.Ytjcilknfhkpepaa.Mem
