/- the reference's sum: padded. -/
import Derived.Test.YtjmahkpmnajmfaaDoorShaR1
import Derived.ArgAppend
namespace Go.Proofs.YtjmahkpmnajmfaaDoor.Sha
open Go.RowKit Go.Proofs.YtjmahkpmnajmfaaDoor.Mem Go.Proofs.YtjmahkpmnajmfaaDoor.X Go.Proofs.YtjmahkpmnajmfaaDoorW.PrintWords Go.Proofs.YtjmahkpmnajmfaaDoorW.PrintLast Go.Proofs.YtjmahkpmnajmfaaDoorW.PrintMore Go.Proofs.YtjmahkpmnajmfaaDoor.Aid
set_option linter.unusedVariables false
set_option linter.unusedSimpArgs false
/-- a slice that holds these bytes, in a row of one's own, wherever that came from -/
def Rw (w : World) (base : Nat) (v : Value) (l : List UInt8) : Prop :=
  ∃ g off cap, v = .slice (some ⟨g, off, none⟩) l.length cap ∧ base ≤ g ∧ g < w.heap.size ∧ l.length ≤ cap ∧
    (∀ j (hj : j < l.length), w.cell? ⟨g, off + j, none⟩ = some (bv l[j])) ∧ (∀ j, j < cap → (w.cell? ⟨g, off + j, none⟩).isSome = true ∧ w.frozen? ⟨g, off + j, none⟩ = false)
theorem Rw.below {w w' : World} {base : Nat} {v : Value} {l : List UInt8} (h : Rw w base v l) (hb : Below w.heap.size w w') : Rw w' base v l := by
  obtain ⟨g, off, cap, hv, h1, h2, h3, h4, h5⟩ := h
  refine ⟨g, off, cap, hv, h1, Nat.lt_of_lt_of_le h2 hb.size, h3, fun j hj => (hb.cell (p := ⟨g, off + j, none⟩) h2).trans (h4 j hj), fun j hj => ?_⟩
  refine ⟨by rw [hb.cell (p := ⟨g, off + j, none⟩) h2]; exact (h5 j hj).1, ?_⟩
  have e : w'.frozen? ⟨g, off + j, none⟩ = w.frozen? ⟨g, off + j, none⟩ := by
    unfold World.frozen?
    rw [hb.block g h2]
  rw [e]; exact (h5 j hj).2
theorem Rw.conv (w : World) (base : Nat) (s : ByteArray) (hb : base ≤ w.heap.size) :
    Rw (w.drew.alloc (.cells (bytesRow s (grownCap w s.size 0 5)) 5 ((bytesRow s (grownCap w s.size 0 5)).size, (bytesRow s (grownCap w s.size 0 5)).size + 1))) base
      (.slice (some ⟨w.heap.size, 0, none⟩) s.size (grownCap w s.size 0 5)) (L s) := by
  have hge := grownCap_ge w s.size 0 5
  obtain ⟨cap, hcap⟩ : ∃ c, grownCap w s.size 0 5 = c := ⟨_, rfl⟩
  rw [hcap] at hge ⊢
  have hcs : (bytesRow s cap).size = cap := by
    unfold bytesRow
    have : s.data.size = s.size := rfl
    simp; omega
  have hblk : (w.drew.alloc (.cells (bytesRow s cap) 5 ((bytesRow s cap).size, (bytesRow s cap).size + 1))).heap[w.heap.size]? = some (.cells (bytesRow s cap) 5 ((bytesRow s cap).size, (bytesRow s cap).size + 1)) := by
    show (w.heap.push _)[w.heap.size]? = _
    simp
  obtain ⟨W, hW⟩ : ∃ W, (w.drew.alloc (.cells (bytesRow s cap) 5 ((bytesRow s cap).size, (bytesRow s cap).size + 1))) = W := ⟨_, rfl⟩
  rw [hW] at hblk ⊢
  have hcell : ∀ j, W.cell? ⟨w.heap.size, 0 + j, none⟩ = (bytesRow s cap)[j]? := fun j => by simp [World.cell?, hblk]
  refine ⟨w.heap.size, 0, cap, by rw [← sz], hb, (Array.getElem?_eq_some_iff.1 hblk).1, by rw [← sz]; exact hge, fun j hj => ?_, fun j hj => ?_⟩
  · rw [hcell j]
    have hj' : j < s.data.size := by rw [← sz] at hj; exact hj
    unfold bytesRow
    rw [Array.getElem?_append_left (by simpa using hj')]
    simp only [Array.getElem?_map, Array.getElem?_eq_getElem hj', Option.map_some]
    rfl
  · refine ⟨by rw [hcell j, Array.getElem?_eq_getElem (by rw [hcs]; exact hj)]; rfl, ?_⟩
    simp [World.frozen?, hblk, hcs]
    omega
theorem setCells_one (w : World) (g o : Nat) (x : Value) : w.setCells g o [x] = w.setCell ⟨g, o, none⟩ x := rfl
theorem wpList_append_rw {ops : Array Oper} {rest : List Oper} {o : Oper} {a : Act} {w w0 : World} {Q : Exit → Act → World → Prop} (hgd : o.guard = none) (s x : Operand)
    (ho : o.op = .call { callee := .builtin .append, args := #[s, x], argTypes := #[30, 30] }) (v : Value) (hv : a.eval s = v) (l : List UInt8) (base : Nat) (h : Rw w base v l) (c : UInt8) (gx : Nat)
    (hx : a.eval x = .slice (some ⟨gx, 0, none⟩) 1 1) (hc : w.cell? ⟨gx, 0, none⟩ = some (bv c)) (hb : Below base w0 w) (hbs : base ≤ w.heap.size) (hl : l.length ≤ 1000000000)
    (hK : ∀ v' w', Rw w' base v' (l ++ [c]) → Below base w0 w' → base ≤ w'.heap.size → wpList Tryd.prog ops Q rest (a.put o.dst v') w') : wpList Tryd.prog ops Q (o :: rest) a w := by
  obtain ⟨g, off, cap, hveq, hbg, hg, hn, hcell, hsp⟩ := h
  obtain ⟨i0, hi, hz0, hz1, hz2⟩ := info_parts info_u8
  have hadd : (⟨gx, 0, none⟩ : Addr).add 0 = ⟨gx, 0, none⟩ := by unfold Addr.add; split <;> simp_all
  refine wpList_append_arg (P := Tryd.prog) w hgd s x 30 ho 5 i0 (.int .u8 0) 1 1 Tryd.underlying30 hi hz0 hz1 hz2 rfl (by decide) g off l.length cap (l.map bv) (by rw [hv]; exact hveq) (by simp) ?_ ⟨gx, 0, none⟩ 1 1 [bv c] hx rfl ?_ ?_ ?_ ?_ ?_ ?_ ?_
  · intro j u hu
    have hj : j < l.length := by
      have := (List.getElem?_eq_some_iff.1 hu).1
      simpa using this
    rw [List.getElem?_map, List.getElem?_eq_getElem hj] at hu
    rw [hcell j hj]; exact hu
  · intro j u hu
    cases j with
    | zero => rw [hadd, hc]; exact hu
    | succ j => simp at hu
  · intro u hu
    rw [List.mem_singleton] at hu
    subst hu; rfl
  · intro hr j hj
    have : j = 0 := by simpa using hj
    subst this
    have := hsp l.length (by omega)
    simpa using this
  · unfold maxLen; omega
  · omega
  · intro hr
    rw [setCells_one, Nat.mul_one]
    refine hK _ _ ⟨g, off, cap, by simp, hbg, by simpa using hg, by simpa using hr, fun j hj => ?_, fun j hj => ?_⟩ (hb.setCell (p := ⟨g, off + l.length, none⟩) hbg _) (by simpa using hbs)
    · by_cases hjl : j < l.length
      · rw [World.cell?_setCells_out g [bv c] (off + l.length) w ⟨g, off + j, none⟩ (fun _ _ => .inl (by simp; omega)) |> (fun e => (show (w.setCell ⟨g, off + l.length, none⟩ (bv c)).cell? ⟨g, off + j, none⟩ = w.cell? ⟨g, off + j, none⟩ from e)), hcell j hjl, List.getElem_append_left hjl]
      · have hje : j = l.length := by simp at hj; omega
        subst hje
        have e := World.cell?_setCells_in g [bv c] (off + l.length) w (fun i hi => by
          have : i = 0 := by simpa using hi
          subst this
          have := (hsp l.length (by omega)).1
          simpa using this) 0 (by simp)
        have e' : (w.setCell ⟨g, off + l.length, none⟩ (bv c)).cell? ⟨g, off + l.length, none⟩ = some (bv c) := by simpa [setCells_one] using e
        rw [e']; simp
    · have hf : (w.setCell ⟨g, off + l.length, none⟩ (bv c)).frozen? ⟨g, off + j, none⟩ = w.frozen? ⟨g, off + j, none⟩ := World.frozen?_setCells g [bv c] (off + l.length) w _
      refine ⟨?_, by rw [hf]; exact (hsp j hj).2⟩
      by_cases hjl : j = l.length
      · subst hjl
        have e := World.cell?_setCells_in g [bv c] (off + l.length) w (fun i hi => by
          have : i = 0 := by simpa using hi
          subst this
          have := (hsp l.length hj).1
          simpa using this) 0 (by simp)
        have e' : (w.setCell ⟨g, off + l.length, none⟩ (bv c)).cell? ⟨g, off + l.length, none⟩ = some (bv c) := by simpa [setCells_one] using e
        rw [e']; rfl
      · have e := World.cell?_setCells_out g [bv c] (off + l.length) w ⟨g, off + j, none⟩ (fun _ _ => by simp; omega)
        rw [show (w.setCell ⟨g, off + l.length, none⟩ (bv c)).cell? ⟨g, off + j, none⟩ = w.cell? ⟨g, off + j, none⟩ from e]
        exact (hsp j hj).1
  · intro hr v' w' hown hgr
    have hb' := hb.grown hgr hbs (fun k hk => by cases hk)
    obtain ⟨hlen, hcase⟩ := hown
    rcases hcase with ⟨_, h0⟩ | ⟨g', cap', cur, rfl, hg', hblk, hn', hm', hsz, htk⟩
    · omega
    · have hB : Blk w' g' 5 cur := hblk
      refine hK _ _ ⟨g', 0, cap', by simp, Nat.le_trans hbs hg', hB.lt, by simpa using hn', fun j hj => ?_, fun j hj => ⟨?_, hB.frozen _⟩⟩ hb' (Nat.le_trans hbs hgr.size)
      · rw [hB.cell, Nat.zero_add]
        have e : (cur.toList.take ((l.length + 1) * 1))[j]? = (l.map bv ++ [bv c])[j]? := by rw [htk]
        rw [List.getElem?_take, if_pos (by simpa using hj)] at e
        rw [← Array.getElem?_toList, e, show l.map bv ++ [bv c] = (l ++ [c]).map bv from by simp, List.getElem?_map, List.getElem?_eq_getElem hj]
        rfl
      · rw [hB.cell, Nat.zero_add, Array.getElem?_eq_getElem (by omega)]; rfl
theorem Rw.str {w : World} {base : Nat} {v : Value} {l : List UInt8} (h : Rw w base v l) : (convert 30 9 v).run Tryd.prog w = .ok (.string (S l)) w := by
  obtain ⟨g, off, cap, rfl, _, _, _, hc, _⟩ := h
  refine run_convert_bytes_back w 30 9 5 ⟨g, off, none⟩ cap l Tryd.underlying30 Tryd.underlying5 Tryd.underlying9 fun j hj => ?_
  have hadd : (⟨g, off, none⟩ : Addr).add j = ⟨g, off + j, none⟩ := by unfold Addr.add; split <;> simp_all
  rw [hadd]; exact hc j hj
end Go.Proofs.YtjmahkpmnajmfaaDoor.Sha
