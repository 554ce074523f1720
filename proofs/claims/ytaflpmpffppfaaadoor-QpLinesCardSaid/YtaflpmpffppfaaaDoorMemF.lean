/- Words for memory: a row of bytes of one's own, its head frozen (what a strings.Builder has told). They speak of no program. -/
import Derived.Test.YtaflpmpffppfaaaDoorMem
import Derived.Lib.FrozenHead
import Derived.Lib.UnsafeStr
namespace Go.Proofs.YtaflpmpffppfaaaDoor.Mem
open Go.RowKit
def byteV (c : UInt8) : Value := .int .u8 (c.toNat : Int)
/-- v is nil, or a row of its own that begins with the bytes l; what is frozen of it lies among these -/
def SlF (w : World) (e : TypeId) (v : Value) (l : List UInt8) : Prop :=
  (v = .slice none 0 0 ∧ l = []) ∨ ∃ g cap cur fz, v = .slice (some ⟨g, 0, none⟩) l.length cap ∧ w.heap[g]? = some (.cells cur e fz) ∧ fz.2 ≤ l.length ∧ l.length ≤ cap ∧ cap ≤ maxLen ∧ cur.size = cap ∧ cur.toList.take l.length = l.map byteV
section
variable {w w' : World} {e : TypeId} {v : Value} {l : List UInt8}
theorem SlF.nil (w : World) (e : TypeId) : SlF w e (.slice none 0 0) [] := .inl ⟨rfl, rfl⟩
theorem heap_lt {w : World} {g : Nat} {o : Obj} (h : w.heap[g]? = some o) : g < w.heap.size := (Array.getElem?_eq_some_iff.1 h).1
theorem SlF.lt (h : SlF w e v l) {k : Nat} (hk : own v k) : k < w.heap.size := by
  rcases h with ⟨rfl, _⟩ | ⟨g, cap, cur, fz, rfl, hb, _⟩
  · cases hk
  · cases hk; exact heap_lt hb
theorem SlF.keep (h : SlF w e v l) (hk : ∀ k, own v k → w'.heap[k]? = w.heap[k]?) : SlF w' e v l := by
  rcases h with h | ⟨g, cap, cur, fz, rfl, hb, h⟩
  · exact .inl h
  · exact .inr ⟨g, cap, cur, fz, rfl, (hk g rfl).trans hb, h⟩
theorem SlF.only {F : Nat → Prop} (h : SlF w e v l) (ho : Only F w w') (hn : ∀ k, own v k → ¬ F k) : SlF w' e v l :=
  h.keep fun k hk => ho.block k (h.lt hk) (hn k hk)
theorem SlF.below (h : SlF w e v l) (hb : Below w.heap.size w w') : SlF w' e v l := h.keep fun k hk => hb.block k (h.lt hk)
theorem SlF.alloc (h : SlF w e v l) (o : Obj) : SlF (w.alloc o) e v l := h.keep fun k hk => Below.heap_alloc w o k (h.lt hk)
theorem SlF.drew (h : SlF w e v l) : SlF w.drew e v l := h
theorem SlF.far (h : SlF w e v l) {p : Addr} (hp : ¬ own v p.block) (u : Value) : SlF (w.setCell p u) e v l :=
  h.keep fun k hk => Below.heap_setCell w p u k (fun e => hp (e ▸ hk))
theorem SlF.form (h : SlF w e v l) : ∃ A cap, v = .slice A l.length cap := by
  rcases h with ⟨rfl, rfl⟩ | ⟨g, cap, cur, fz, rfl, _⟩
  · exact ⟨none, 0, rfl⟩
  · exact ⟨_, _, rfl⟩
theorem SlF.type_ne {g : Nat} {t : TypeId} {cs : Array Value} (h : SlF w e v l) (hb : Blk w g t cs) (ht : t ≠ e) : ¬ own v g := by
  intro hk
  rcases h with ⟨rfl, _⟩ | ⟨g', cap, cur, fz, rfl, hb', _⟩
  · cases hk
  · cases hk
    unfold Blk at hb
    rw [hb] at hb'
    injection hb' with hb'
    injection hb' with _ hb' _
    exact ht hb'
theorem SlF.ownsF (h : SlF w e v l) : w.ownsRowF 0 e 1 v l.length (l.map byteV) := by
  refine ⟨by simp, ?_⟩
  rcases h with ⟨rfl, rfl⟩ | ⟨g, cap, cur, fz, rfl, hb, h1, h2, h3, h4, h5⟩
  · exact .inl ⟨rfl, rfl⟩
  · exact .inr ⟨g, cap, cur, fz, rfl, Nat.zero_le _, hb, by omega, h2, h3, by omega, by rw [Nat.mul_one]; exact h5⟩
theorem strCells_byteV (s : ByteArray) : Lib.strCells s = s.data.toList.map byteV := rfl
theorem run_append_slF {P : Program} (t u ty : TypeId) (i : TypeInfo) (ht : P.underlying t = some (.slice e)) (hu : P.underlying u = some .string) (hi : P.info? e = some i) (hz : i.zero = some (.int .u8 0)) (hsize : i.size = 1) (hby : i.bytes = 1)
    (h : SlF w e v l) (s : ByteArray) (hlen : l.length + s.size ≤ 140737488355328) :
    ∃ v' w', (Builtin.append_ #[t, u] ty #[v, .string s]).run P w = .ok v' w' ∧ SlF w' e v' (l ++ s.data.toList) ∧ Only (own v) w w' ∧ (∀ k, own v' k → own v k ∨ k = w.heap.size) ∧ (s.size = 0 → v' = v) := by
  have hss : s.data.toList.length = s.size := by simp
  have hlen2 : (l ++ s.data.toList).length = l.length + s.size := by rw [List.length_append, hss]
  have hmap : l.map byteV ++ Lib.strCells s = (l ++ s.data.toList).map byteV := by rw [strCells_byteV, List.map_append]
  have hone : ∃ b sCap, v = .slice b l.length sCap ∧ (Builtin.firstCells i.size l.length v).run P w.drew = .ok (l.map byteV).toArray w.drew := by
    rw [hsize]
    rcases h with ⟨rfl, rfl⟩ | ⟨g, cap, cur, fz, rfl, hb, h1, h2, h3, h4, h5⟩
    · exact ⟨none, 0, rfl, run_firstCells_none w.drew 1 0 0 0⟩
    · refine ⟨_, cap, rfl, run_firstCells_some w.drew 1 l.length ⟨g, 0, none⟩ l.length cap (l.map byteV) (by simp) (fun j u hu => ?_)⟩
      have hadd : (⟨g, 0, none⟩ : Addr).add j = ⟨g, j, none⟩ := by unfold Addr.add; split <;> simp_all
      rw [hadd]
      show w.cell? _ = _
      rw [cell_of_row w g j cur e fz hb]
      rw [← h5, List.getElem?_take] at hu
      split at hu
      · simpa using hu
      · cases hu
  obtain ⟨b, sCap, hv, hold⟩ := hone
  by_cases hroom : l.length + s.size ≤ sCap
  · rcases h with ⟨hv', rfl⟩ | ⟨g, cap, cur, fz, hv', hb, h1, h2, h3, h4, h5⟩
    · rw [hv] at hv'
      injection hv' with e1 e2 e3
      subst e1 e3 hv
      have h0 : s.size = 0 := by simpa using hroom
      have hs0 : s.data.toList = [] := List.eq_nil_of_length_eq_zero (by rw [hss]; exact h0)
      refine ⟨.slice none 0 0, w, ?_, by rw [hs0]; exact .inl ⟨rfl, rfl⟩, Only.refl _ _, (fun k hk => by cases hk), fun _ => rfl⟩
      simp [Builtin.append_, run_underlying ht, run_underlying hu, sizeOf, typeInfo, hi, hsize, Builtin.lenOf, h0, Builtin.firstCells]
    · rw [hv] at hv'
      injection hv' with e1 e2 e3
      subst e1 e3 hv
      have hr := Lib.run_append_room_stringF (P := P) w t u ty e i ht hu hi hsize g l.length sCap cur fz hb h1 s hroom (by omega)
      refine ⟨_, _, hr, .inr ⟨g, sCap, _, fz, by rw [hlen2], setRow_heap w g cur _ e _ hb, by omega, by omega, h3, ?_, ?_⟩, ⟨rfl, rfl, rfl, by simp, fun k _ hk => setRow_other w g k _ (fun e => hk (by rw [e]; rfl))⟩, (fun k hk => .inl hk), fun e0 => by rw [e0, Nat.add_zero]⟩
      · simp only [List.size_toArray, List.length_append, List.length_take, List.length_drop, Array.length_toList, Lib.strCells_length]
        omega
      · rw [h5, hmap, show (l ++ s.data.toList).length = ((l ++ s.data.toList).map byteV).length by simp]
        exact List.take_left
  · have hm : maxLen = 9223372036854775807 := rfl
    have hge := grownCap_ge w (l.length + s.size) sCap e
    have hcm : grownCap w (l.length + s.size) sCap e ≤ maxLen := grownCap_le_maxLen w (l.length + s.size) sCap e (by omega)
    subst hv
    have hr := run_append_grow_src (P := P) w t u ty e i (.int .u8 0) ht hi hz b l.length sCap (l.map byteV) hold (.string s) s.size (byteCells s) (by rw [hsize]; exact Src.ofString w hu s) (by omega) (by omega) (growslice_fits (by omega) (by rw [hby]; omega))
    refine ⟨_, _, hr, .inr ⟨w.heap.size, _, _, (0, 0), by rw [hlen2], heap_alloc_new w.drew _, Nat.zero_le _, by rw [hlen2]; exact hge, hcm, ?_, ?_⟩, (Only.refl _ w).drew.alloc _, (fun k hk => .inr (by cases hk; rfl)), fun e0 => absurd (show l.length + s.size ≤ sCap from ?_) hroom⟩
    · have hz1 : (Value.int IntKind.u8 0).cells.size = 1 := rfl
      simp only [Array.size_append, List.size_toArray, size_zeroCells, hz1, List.length_append, List.length_map, byteCells_length]
      omega
    · simp only [Array.toList_append]
      have e2 : l.map byteV ++ byteCells s = (l ++ s.data.toList).map byteV := by rw [List.map_append]; rfl
      rw [e2, show (l ++ s.data.toList).length = ((l ++ s.data.toList).map byteV).length by simp]
      exact List.take_left
    · rcases h with ⟨hv', rfl⟩ | ⟨g, cap, cur, fz, hv', hb, h1, h2, h3, h4, h5⟩
      · rw [e0]; exact Nat.zero_le _
      · cases hv'; omega
theorem wpList_append_slF {P : Program} {ops : Array Oper} {rest : List Oper} {o : Oper} {a : Act} {Q : Exit → Act → World → Prop} (hgd : o.guard = none) (sl x : Operand) (t u : TypeId)
    (ho : o.op = .call { callee := .builtin .append, args := #[sl, x], argTypes := #[t, u] })
    (i : TypeInfo) (ht : P.underlying t = some (.slice e)) (hu : P.underlying u = some .string) (hi : P.info? e = some i) (hz : i.zero = some (.int .u8 0)) (hsize : i.size = 1) (hby : i.bytes = 1)
    (hs : a.eval sl = v) (h : SlF w e v l) (s : ByteArray) (hx : a.eval x = .string s) (hlen : l.length + s.size ≤ 140737488355328)
    (hK : ∀ v' w', SlF w' e v' (l ++ s.data.toList) → Only (own v) w w' → (∀ k, own v' k → own v k ∨ k = w.heap.size) → (s.size = 0 → v' = v) → wpList P ops Q rest (a.put o.dst v') w') : wpList P ops Q (o :: rest) a w := by
  refine wpList_plain hgd fun K hK' => ?_
  obtain ⟨v', w', hr, h2, h3, h4, h5⟩ := run_append_slF (P := P) t u o.type i ht hu hi hz hsize hby h s hlen
  unfold Oper.wp execOp
  simp only [ho, resolve, invoke, builtin, Sem.run_bind, Sem.run_pure, Result.andThen_ok, List.map_toArray, List.map_cons, List.map_nil, hs, hx, hr]
  exact hK' _ _ (hK v' w' h2 h3 h4 h5)
/-- what was told is frozen -/
theorem SlF.froze {g cap : Nat} (h : SlF w e (.slice (some ⟨g, 0, none⟩) l.length cap) l) : SlF (w.freeze ⟨g, 0, none⟩ l.length) e (.slice (some ⟨g, 0, none⟩) l.length cap) l ∧ Only (own (.slice (some ⟨g, 0, none⟩) l.length cap)) w (w.freeze ⟨g, 0, none⟩ l.length) := by
  have ho : Only (own (.slice (some ⟨g, 0, none⟩) l.length cap)) w (w.freeze ⟨g, 0, none⟩ l.length) := by
    unfold World.freeze
    split
    · exact Only.refl _ _
    · refine ⟨rfl, rfl, rfl, by simp, fun k _ hk => ?_⟩
      simp only [Array.getElem?_modify]
      rw [if_neg (fun e => hk (by rw [← e]; rfl))]
  refine ⟨?_, ho⟩
  rcases h with ⟨hv, _⟩ | ⟨g', cap', cur, fz, hv, hb, h1, h2, h3, h4, h5⟩
  · cases hv
  · cases hv
    unfold World.freeze
    split
    · exact .inr ⟨g, cap, cur, fz, rfl, hb, h1, h2, h3, h4, h5⟩
    · obtain ⟨lo, hi⟩ := fz
      refine .inr ⟨g, cap, cur, (if (lo == hi) = true then (0, 0 + l.length) else (min lo 0, max hi (0 + l.length))), rfl, ?_, ?_, h2, h3, h4, h5⟩
      · simp only [Array.getElem?_modify, if_true]
        rw [hb]
        rfl
      · split
        · simp
        · simp only at h1 ⊢
          omega
end
end Go.Proofs.YtaflpmpffppfaaaDoor.Mem
