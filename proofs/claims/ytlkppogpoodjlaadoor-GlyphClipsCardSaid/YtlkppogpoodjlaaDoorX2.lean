-- Written by a program (print.py's text, with contracts of this session's own put in). Not trusted: Lean checks it.
import Derived.Test.YtlkppogpoodjlaaDoorX0
import Derived.Test.YtlkppogpoodjlaaDoorX1
namespace Go.Proofs.YtlkppogpoodjlaaDoor.X
open Go.RowKit Go.Proofs.YtlkppogpoodjlaaDoorW.PrintWords Go.Proofs.YtlkppogpoodjlaaDoorW.PrintLast Go.Proofs.YtlkppogpoodjlaaDoorW.PrintMore
attribute [local go_sem] max2_int min2_int max_two min_two max_three min_three max_four min_four   -- for this text's walks alone
set_option linter.unusedVariables false
set_option linter.unusedSimpArgs false

/-! ### glyph_Clean: function 8, a contract written by hand -/
-- IMPORT Derived.Lib.OthersKept
def glyph_Clean.l0 : Nat → ByteArray → List UInt8 → Nat → Option ByteArray
  | 0, _, _, _ => none
  | k + 1, s, acc, p => if p < s.size then (if acc.length + 4 ≤ 140737488355328 then (glyph_control.f ((Utf8.decode s p).1 : Int)).bind fun b => if b = true then glyph_Clean.l0 k s (acc ++ Lib.encodeRune 32) (p + (Utf8.decode s p).2) else glyph_Clean.l0 k s (acc ++ Lib.encodeRune ((Utf8.decode s p).1 : Int)) (p + (Utf8.decode s p).2) else none) else some ⟨acc.toArray⟩
def glyph_Clean.f (k : Nat) (a0 : ByteArray) : Option ByteArray := glyph_Clean.l0 k a0 [] 0
theorem glyph_Clean.mono_l : ∀ k, (∀ y0 y1 y2, LeO (glyph_Clean.l0 k y0 y1 y2) (glyph_Clean.l0 (k + 1) y0 y1 y2))
  | 0 => fun _ _ _ r h => by simp [glyph_Clean.l0] at h
  | k + 1 => fun y0 y1 y2 => by
    have ih := glyph_Clean.mono_l k
    unfold glyph_Clean.l0
    exact LeO.ite (LeO.ite (LeO.bind (LeO.refl _) (fun _ => LeO.ite (ih _ _ _) (ih _ _ _))) (LeO.refl _)) (LeO.refl _)
theorem glyph_Clean.mono : ∀ a0 k, LeO (glyph_Clean.f k a0) (glyph_Clean.f (k + 1) a0) := fun a0 k => glyph_Clean.mono_l k a0 _ _
set_option maxHeartbeats 4000000 in
set_option maxRecDepth 100000 in
theorem glyph_Clean.calls (k : Nat) (a0 : ByteArray) (r : ByteArray) (w : World) (h : glyph_Clean.f k a0 = some r) : Calls Tryd.prog 8 #[.string a0] w fun e w' => e = .returned (.string r) ∧ Below w.heap.size w w' := by
  have H := Aside0.mk (show glyph_Clean.l0 k a0 [] 0 = some r from h)
  clear h
  go_enter Tryd.func8, Tryd.ntmps8
  go_wp2
  go_loopg [] k (fun kq wr => ∃ (p : Nat) (acc : List UInt8), Aside0 (glyph_Clean.l0 kq a0 acc p = some r) ∧ Lib.IsBuilderF 37 5 w.heap.size w.heap.size (Lib.byteCells acc) wr ∧ wr.heap[w.heap.size + 1]? = some (.stringIter a0 p) ∧ Below w.heap.size w wr)
  case atStart =>
    refine ⟨0, [], H, (Lib.IsBuilderF.of (Lib.fresh_isBuilder _ _ w)).alloc _, ?_, ((Below.refl _ w).alloc (Nat.le_refl _) _).alloc (by simp) _⟩
    have := World.iter_heap (w.alloc (.cells #[.pointer none, .slice none 0 0] 37)) a0 0
    simpa using this
  case round =>
    clear H
    obtain ⟨p, acc, HA, hI, hit, hB⟩ := hrel
    cases gk with
    | zero => exact absurd HA.out (by simp [glyph_Clean.l0])
    | succ k1 =>
      have hg := HA.out
      clear HA
      simp only [glyph_Clean.l0] at hg
      have hszl := hB.size
      by_cases hp : p < a0.size
      · rw [if_pos hp] at hg
        by_cases hl : acc.length + 4 ≤ 140737488355328
        · rw [if_pos hl] at hg
          obtain ⟨b, hb, hg⟩ := Option.bind_eq_some_iff.mp hg
          have HBD := Aside0.mk hb
          have HG := Aside0.mk hg
          clear hb hg
          have HL := Aside0.mk (show (Lib.byteCells acc).length + 4 ≤ 140737488355328 by rw [Lib.byteCells_length]; exact hl)
          clear hl
          have hnx : ∀ ty, (Instr.next (.pointer (some ⟨w.heap.size + 1, 0, none⟩)) true ty).run Tryd.prog wr = _ := fun ty => Lib.run_next_any_at wr (w.heap.size + 1) a0 p ty hit hp
          have hd1 := decode_le a0 p
          have hI2 := hI.iterAt hit (p + (Utf8.decode a0 p).2)
          have hit2 := Lib.iterAt_heap wr (w.heap.size + 1) a0 p (p + (Utf8.decode a0 p).2) hit
          have hB2 := Lib.below_iterAt hB (k := w.heap.size + 1) (by omega) a0 (p + (Utf8.decode a0 p).2)
          have HD := Aside0.mk hd1
          go_wp2_with fail
          refine (glyph_control.calls _ b _ HBD.out).mono ?_
          rintro e w1 ⟨rfl, hd⟩
          have hb1 := hd.below
          have hit3 := (hb1.block _ (blk_lt hit2)).trans hit2
          have hB3 := hB2.trans (hb1.mono hB2.size)
          have hI3 := bldF_below hI2 hb1
          have hsz3 := hB3.size
          cases b with
          | true =>
            have HG2 : glyph_Clean.l0 k1 a0 (acc ++ Lib.encodeRune 32) (p + (Utf8.decode a0 p).2) = some r := HG.out
            have HG3 := Aside0.mk HG2
            clear HG HG2
            go_wp2_with fail
            refine (bld_WriteRune w.heap.size w.heap.size _ _ (by omega) (by omega) _ hI3 HL.out hsz3).mono ?_
            rintro e w2 ⟨rfl, h2, hb2, hk2⟩
            go_wp2
            go_roundg k1
            case measure => omega
            case rel => exact ⟨_, _, HG3, by rw [Lib.byteCells_append, Lib.byteCells_encodeRune]; exact Or.inr h2, hk2.iter hit3 (by omega), hB3.trans hb2⟩
          | false =>
            have HG2 : glyph_Clean.l0 k1 a0 (acc ++ Lib.encodeRune ((Utf8.decode a0 p).1 : Int)) (p + (Utf8.decode a0 p).2) = some r := HG.out
            have HG3 := Aside0.mk HG2
            clear HG HG2
            go_wp2_with fail
            refine (bld_WriteRune w.heap.size w.heap.size _ _ (by have := HD.out; omega) (by have := HD.out; omega) _ hI3 HL.out hsz3).mono ?_
            rintro e w2 ⟨rfl, h2, hb2, hk2⟩
            go_wp2
            go_roundg k1
            case measure => omega
            case rel => exact ⟨_, _, HG3, by rw [Lib.byteCells_append, Lib.byteCells_encodeRune]; exact Or.inr h2, hk2.iter hit3 (by omega), hB3.trans hb2⟩
        · rw [if_neg hl] at hg
          exact absurd hg (by simp)
      · rw [if_neg hp] at hg
        obtain rfl := Option.some.inj hg
        have hnx : ∀ ty, (Instr.next (.pointer (some ⟨w.heap.size + 1, 0, none⟩)) true ty).run Tryd.prog wr = _ := fun ty => Lib.run_next_end_at wr (w.heap.size + 1) a0 p ty hit hp
        go_wp2_with fail
        refine (bld_String w.heap.size w.heap.size acc _ hI hszl).mono ?_
        rintro e w1 ⟨rfl, _, hb1, _⟩
        go_wp2
        go_ret
        exact ⟨rfl, hB.trans hb1⟩

/-! ### strings_Builder_WriteByte: function 26, a contract written by hand -/
set_option maxHeartbeats 2000000 in
set_option maxRecDepth 100000 in
theorem bld_WriteByte (B b : Nat) (bs : List Value) (c : Int) (w : World) (h : Lib.IsBuilderF 37 5 B b bs w) (hlen : bs.length + 1 ≤ 140737488355328) (hBw : B ≤ w.heap.size) :
    Calls Tryd.prog 26 #[.pointer (some ⟨b, 0, none⟩), .int .u8 c] w fun e w' => e = .returned .nilIface ∧ (Lib.BuilderAtF 37 5 B b (.pointer (some ⟨b, 0, none⟩)) (bs ++ [.int .u8 c]) w' ∧ Below B w w' ∧ Lib.OthersKept 5 (some b) w w') := by
  obtain ⟨i0, hi, hz0, hz1, hz2⟩ := info_parts bld_byte
  go_enter Tryd.func26, Tryd.ntmps26
  go_wp2_with (go_at_call 36; refine (bld_copyCheck B b bs _ h).mono ?_)
  rintro e w1 ⟨rfl, h1, hb1, hk1⟩
  obtain ⟨hB, v, hbk, hown, hne⟩ := h1
  have c0 : w1.cell? ⟨b, 0, none⟩ = some (.pointer (some ⟨b, 0, none⟩)) := by rw [Lib.cell_of_heap hbk]; rfl
  have c1 : w1.cell? ⟨b, 1, none⟩ = some v := by rw [Lib.cell_of_heap hbk]; rfl
  go_wp2_with (at_builtin; refine wpList_append_ownF _ rfl _ _ 35 rfl B 5 i0 (.int .u8 0) 1 1 Tryd.underlying35 hi hz0 hz1 hz2 rfl (by decide) _ _ _ rfl (hown.alloc _) ⟨w1.heap.size, 0, none⟩ 1 1 [.int .u8 c] rfl rfl ?c1 ?c2 ?c3 ?c4 ?c5 ?_)
  case c1 =>
    intro j u hj
    match j, hj with
    | 0, hj => simp at hj; subst hj; simp [Addr.add]
  case c2 => intro u hu; simp at hu; subst hu; rfl
  case c3 => unfold maxLen; omega
  case c4 => omega
  case c5 => have := hb1.size; simp; omega
  intro v' w2 hown' hgrow _
  have hlt : b < w1.heap.size := by
    rcases Nat.lt_or_ge b w1.heap.size with h' | h'
    · exact h'
    · simp [Array.getElem?_eq_none h'] at hbk
  have hb2 : w2.heap[b]? = some (.cells #[.pointer (some ⟨b, 0, none⟩), v] 37 (0, 0)) := by
    rw [hgrow.block b (by simp; omega) (fun e => hne e.symm), Lib.alloc_old w1 _ b hlt]
    exact hbk
  have d0 : w2.cell? ⟨b, 0, none⟩ = some (.pointer (some ⟨b, 0, none⟩)) := by rw [Lib.cell_of_heap hb2]; rfl
  have d1 : w2.cell? ⟨b, 1, none⟩ = some v := by rw [Lib.cell_of_heap hb2]; rfl
  have f1 : w2.frozen? ⟨b, 1, none⟩ = false := Lib.frozen_of_heap hb2 1
  obtain ⟨g, cap, rfl⟩ : ∃ g cap, v' = .slice (some ⟨g, 0, none⟩) (bs.length + 1) cap := by
    rcases hown'.2 with ⟨_, h0⟩ | ⟨g, cap, cur, fz, hv, _⟩
    · omega
    · exact ⟨g, cap, hv⟩
  go_wp2
  go_ret
  refine ⟨rfl, ?_, ?_, ((hk1.alloc _).grown hgrow (Lib.ownsRowF_kind (hown.alloc _))).setCell ⟨b, 1, none⟩ rfl _⟩
  · exact Lib.BuilderAtF.put (T := 37) (e := 5) hB hb2 (bs' := bs ++ [.int .u8 c]) (by simpa using hown') bld_ne
  · exact ((hb1.alloc (by have := hb1.size; omega) _).grown hgrow (by have := hb1.size; simp; omega) (fun k hk => (hown.lt k hk).1)).setCell (p := ⟨b, 1, none⟩) hB _

/-! ### glyph_Fold: function 9, a contract written by hand -/
def glyph_low (c : Int) : Int := if c ≥ 65 then (if c ≤ 90 then (c + 32) % 256 else c) else c
def glyph_Fold.l0 : Nat → ByteArray → List Int → Nat → Option ByteArray
  | 0, _, _, _ => none
  | k + 1, s, acc, i => if i < s.size then (if acc.length + 1 ≤ 140737488355328 then glyph_Fold.l0 k s (acc ++ [glyph_low (bt s (i : Int))]) (i + 1) else none) else some (strOfNums acc)
def glyph_Fold.f (k : Nat) (a0 : ByteArray) : Option ByteArray := glyph_Fold.l0 k a0 [] 0
theorem glyph_Fold.mono_l : ∀ k, (∀ y0 y1 y2, LeO (glyph_Fold.l0 k y0 y1 y2) (glyph_Fold.l0 (k + 1) y0 y1 y2))
  | 0 => fun _ _ _ r h => by simp [glyph_Fold.l0] at h
  | k + 1 => fun y0 y1 y2 => by
    have ih := glyph_Fold.mono_l k
    unfold glyph_Fold.l0
    exact LeO.ite (LeO.ite (ih _ _ _) (LeO.refl _)) (LeO.refl _)
theorem glyph_Fold.mono : ∀ a0 k, LeO (glyph_Fold.f k a0) (glyph_Fold.f (k + 1) a0) := fun a0 k => glyph_Fold.mono_l k a0 _ _
theorem bld_nums (xs : List Int) (h : ∀ x ∈ xs, 0 ≤ x ∧ x < 256) : Lib.byteCells ((strOfNums xs).data.toList) = xs.map (Value.int .u8) := by
  simp only [strOfNums, Lib.byteCells, List.map_map]
  apply List.map_congr_left
  intro x hx
  have := h x hx
  have e : ((x.toNat % 256 : Nat) : Int) = x := by omega
  simp [Function.comp, e]
theorem glyph_low_range (c : Int) (h0 : 0 ≤ c) (h1 : c ≤ 255) : 0 ≤ glyph_low c ∧ glyph_low c < 256 := by
  unfold glyph_low
  split
  · split <;> omega
  · omega
set_option maxHeartbeats 4000000 in
set_option maxRecDepth 100000 in
theorem glyph_Fold.calls (k : Nat) (a0 : ByteArray) (r : ByteArray) (w : World) (h : glyph_Fold.f k a0 = some r) : Calls Tryd.prog 9 #[.string a0] w fun e w' => e = .returned (.string r) ∧ Below w.heap.size w w' := by
  have H := Aside0.mk (show glyph_Fold.l0 k a0 [] 0 = some r from h)
  clear h
  go_enter Tryd.func9, Tryd.ntmps9
  go_wp2
  go_loopg [8] k (fun kq v0 wr => ∃ (i : Nat) (acc : List Int), v0 = .int .i64 i ∧ acc.length = i ∧ i ≤ a0.size ∧ (∀ x ∈ acc, 0 ≤ x ∧ x < 256) ∧ Aside0 (glyph_Fold.l0 kq a0 acc i = some r) ∧ Lib.IsBuilderF 37 5 w.heap.size w.heap.size (acc.map (Value.int .u8)) wr ∧ Below w.heap.size w wr)
  case atStart => exact ⟨0, [], rfl, rfl, Nat.zero_le _, by simp, H, Lib.IsBuilderF.of (Lib.fresh_isBuilder _ _ w), (Below.refl _ w).alloc (Nat.le_refl _) _⟩
  case round =>
    clear H
    obtain ⟨i, acc, rfl, hai, hi, hacc, HA, hI, hB⟩ := hrel
    cases gk with
    | zero => exact absurd HA.out (by simp [glyph_Fold.l0])
    | succ k1 =>
      have hg := HA.out
      clear HA
      simp only [glyph_Fold.l0] at hg
      have hszl := hB.size
      by_cases hp : i < a0.size
      · rw [if_pos hp] at hg
        by_cases hl : acc.length + 1 ≤ 140737488355328
        · rw [if_pos hl] at hg
          have HG := Aside0.mk hg
          clear hg
          have HW := Aside0.mk (show wrap64 ((i : Int) + 1) = ((i + 1 : Nat) : Int) by unfold wrap64; omega)
          have HAI := Aside0.mk hai
          clear hai
          have hx := bt_range a0 (i : Int)
          have HACC := Aside0.mk hacc
          clear hacc
          have hll : (acc.map (Value.int .u8)).length + 1 ≤ 140737488355328 := by rw [List.length_map]; exact hl
          have hbe : ((a0[i]'hp).toNat : Int) = bt a0 (i : Int) := by simp [bt, hp]
          have HLL := Aside0.mk hll
          clear hll hl
          obtain ⟨c, hc⟩ : ∃ c, bt a0 (i : Int) = c := ⟨_, rfl⟩
          rw [hc] at hbe hx
          have HC := Aside0.mk hc
          clear hc
          have fin : ∀ (w2 : World) (d : Int), d = glyph_low c → Lib.BuilderAtF 37 5 w.heap.size w.heap.size (.pointer (some ⟨w.heap.size, 0, none⟩)) (acc.map (Value.int .u8) ++ [.int .u8 d]) w2 → Below w.heap.size wr w2 →
              ∃ (i' : Nat) (acc : List Int), Value.int .i64 (wrap64 ((i : Int) + 1)) = .int .i64 i' ∧ acc.length = i' ∧ i' ≤ a0.size ∧ (∀ x ∈ acc, 0 ≤ x ∧ x < 256) ∧ Aside0 (glyph_Fold.l0 k1 a0 acc i' = some r) ∧ Lib.IsBuilderF 37 5 w.heap.size w.heap.size (acc.map (Value.int .u8)) w2 ∧ Below w.heap.size w w2 := by
            intro w2 d hd h2 hb2
            refine ⟨i + 1, acc ++ [glyph_low (bt a0 (i : Int))], by rw [HW.out], by rw [List.length_append, HAI.out]; rfl, by omega, ?_, HG, Or.inr ?_, hB.trans hb2⟩
            · intro x hx2
              rw [List.mem_append] at hx2
              rcases hx2 with hx2 | hx2
              · exact HACC.out x hx2
              · rw [List.mem_singleton] at hx2
                rw [hx2, HC.out]
                exact glyph_low_range c hx.1 hx.2
            · rw [List.map_append, List.map_singleton, HC.out, ← hd]
              exact h2
          have HF := Aside0.mk fin
          clear fin
          by_cases h1 : c ≥ 65
          · have h1d := decide_eq_true h1
            by_cases h2 : c ≤ 90
            · have h2d := decide_eq_true h2
              go_wp2_with fail
              refine (bld_WriteByte w.heap.size w.heap.size _ _ _ hI HLL.out hszl).mono ?_
              rintro e w2 ⟨rfl, hb, hb2, _⟩
              go_wp2
              go_roundg k1
              case measure => omega
              case rel => exact HF.out _ _ (by unfold glyph_low; (repeat (first | rw [if_pos (by omega)] | rw [if_neg (by omega)])); (try omega)) hb hb2
            · have h2d := decide_eq_false h2
              go_wp2_with fail
              refine (bld_WriteByte w.heap.size w.heap.size _ _ _ hI HLL.out hszl).mono ?_
              rintro e w2 ⟨rfl, hb, hb2, _⟩
              go_wp2
              go_roundg k1
              case measure => omega
              case rel => exact HF.out _ _ (by unfold glyph_low; (repeat (first | rw [if_pos (by omega)] | rw [if_neg (by omega)])); (try omega)) hb hb2
          · have h1d := decide_eq_false h1
            go_wp2_with fail
            refine (bld_WriteByte w.heap.size w.heap.size _ _ _ hI HLL.out hszl).mono ?_
            rintro e w2 ⟨rfl, hb, hb2, _⟩
            go_wp2
            go_roundg k1
            case measure => omega
            case rel => exact HF.out _ _ (by unfold glyph_low; (repeat (first | rw [if_pos (by omega)] | rw [if_neg (by omega)])); (try omega)) hb hb2
        · rw [if_neg hl] at hg
          exact absurd hg (by simp)
      · rw [if_neg hp] at hg
        obtain rfl := Option.some.inj hg
        rw [← bld_nums acc hacc] at hI
        go_wp2_with fail
        refine (bld_String w.heap.size w.heap.size _ _ hI hszl).mono ?_
        rintro e w1 ⟨rfl, _, hb1, _⟩
        go_wp2
        go_ret
        exact ⟨rfl, hB.trans hb1⟩

-- NOT PRINTED: function 42 (utf8_decodeRuneInStringSlow)

/-! ### utf8_DecodeRuneInString: function 38, a contract written by hand -/
def utf8_DecodeRuneInString.f (a0 : ByteArray) : Option (Int × Int) := some (((Lib.decodeGo a0).1 : Int), ((Lib.decodeGo a0).2 : Int))
theorem utf8_DecodeRuneInString.calls (a0 : ByteArray) (r1 r2 : Int) (w : World) (hT0 : Aside0 (Tabs w)) (h : utf8_DecodeRuneInString.f a0 = some (r1, r2)) : Calls Tryd.prog 38 #[.string a0] w fun e w' => e = .returned (.tuple #[.int .i32 r1, .int .i64 r2]) ∧ Below w.heap.size w w' := by
  have h' := Prod.mk.inj (Option.some.inj h)
  rw [← h'.1, ← h'.2]
  exact Tryd.utf8_DecodeRuneInString a0 w hT0.out

end Go.Proofs.YtlkppogpoodjlaaDoor.X
