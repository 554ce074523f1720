-- Written by a program (print.py's text, with contracts of this session's own put in). Not trusted: Lean checks it.
import Derived.Test.YtcdhpknjinonhaaDoorX0
import Derived.Test.YtcdhpknjinonhaaDoorX5
namespace Go.Proofs.YtcdhpknjinonhaaDoor.X
open Go.RowKit Go.Proofs.YtcdhpknjinonhaaDoorW.PrintWords Go.Proofs.YtcdhpknjinonhaaDoorW.PrintLast Go.Proofs.YtcdhpknjinonhaaDoorW.PrintMore
attribute [local go_sem] max2_int min2_int max_two min_two max_three min_three max_four min_four   -- for this text's walks alone
set_option linter.unusedVariables false
set_option linter.unusedSimpArgs false

/-! ### mac_Same: function 24 -/
def mac_Same.l0 : Nat → ByteArray → ByteArray → Int → Int → Int → Option (Bool)
  | 0, _, _, _, _, _ => none
  | k + 1, x0, x1, x5, x13, x14 => if x14 < x13 then (if 0 ≤ x14 then (if x14 < (x0.size : Int) then (if x14 < (x1.size : Int) then (mac_Same.l0 k x0 x1 (Go.bits .or .u8 x5 (Go.bits .xor .u8 (bt x0 x14) (bt x1 x14))) x13 (wrap64 (x14 + 1))) else (none)) else (none)) else (none)) else (some (x5 == 0))
def mac_Same.f (k : Nat) (a0 : ByteArray) (a1 : ByteArray) : Option (Bool) := if (a0.size : Int) = (a1.size : Int) then (mac_Same.l0 k a0 a1 0 (a0.size : Int) 0) else (some false)
theorem mac_Same.mono_l : ∀ k, (∀ y0 y1 y2 y3 y4, LeO (mac_Same.l0 k y0 y1 y2 y3 y4) (mac_Same.l0 (k + 1) y0 y1 y2 y3 y4))
  | 0 => fun _ _ _ _ _ r h => by simp [mac_Same.l0] at h
  | k + 1 => by
    have ih0 := mac_Same.mono_l k
    · intro y0 y1 y2 y3 y4
      unfold mac_Same.l0
      repeat' first
      | (with_reducible exact ih0 _ _ _ _ _)
      | (with_reducible exact LeO.refl _)
      | (with_reducible exact LeO.none _)
      | (with_reducible refine LeO.ite ?_ ?_)
      | (with_reducible refine LeO.bind ?_ (fun _ => ?_))
      | exact ih0 _ _ _ _ _
      | exact LeO.none _
      | refine LeO.ite ?_ ?_
      | refine LeO.bind ?_ (fun _ => ?_)
theorem mac_Same.mono : ∀ a0 a1 k, LeO (mac_Same.f k a0 a1) (mac_Same.f (k + 1) a0 a1) := by
  intro a0 a1 k
  have ih0 := mac_Same.mono_l k
  unfold mac_Same.f
  repeat' first
      | (with_reducible exact ih0 _ _ _ _ _)
      | (with_reducible exact LeO.refl _)
      | (with_reducible exact LeO.none _)
      | (with_reducible refine LeO.ite ?_ ?_)
      | (with_reducible refine LeO.bind ?_ (fun _ => ?_))
      | exact ih0 _ _ _ _ _
      | exact LeO.none _
      | refine LeO.ite ?_ ?_
      | refine LeO.bind ?_ (fun _ => ?_)
set_option maxHeartbeats 8000000 in
set_option maxRecDepth 100000 in
theorem mac_Same.calls (k : Nat) (a0 : ByteArray) (a1 : ByteArray) (r : Bool) (w : World) (h : mac_Same.f k a0 a1 = some r) :
    Calls Tryd.prog 24 #[.string a0, .string a1] w fun e w' => e = .returned (.bool r) ∧ Drawn0 w w' := by
  have H : (if (a0.size : Int) = (a1.size : Int) then (mac_Same.l0 k a0 a1 0 (a0.size : Int) 0) else (some false)) = some r := h
  clear h
  by_cases c3 : (a0.size : Int) = (a1.size : Int)
  · rw [if_pos c3] at H
    have c3b0 : ((a0.size : Int) == (a1.size : Int)) = true := beq_iff_eq.mpr c3
    have c3b1 : ((a0.size : Int) != (a1.size : Int)) = false := bne_eq_false_iff_eq.mpr c3
    have c3b2 : (a0.size == a1.size) = true := by first | simpa using c3 | (simp at c3 ⊢; omega)
    clear c3
    have H' := Aside0.mk H
    clear H
    go_enter Tryd.func24, Tryd.ntmps24
    go_wp2
    repeat (go_quiet (fail); try go_wp2)
    go_loopg [5, 14] k (fun kq v5 v14 w' => ∃ (x5_1 : Int) (x14_1 : Int), v5 = .int .u8 x5_1 ∧ v14 = .int .i64 x14_1 ∧ Aside0 (mac_Same.l0 kq a0 a1 x5_1 (a0.size : Int) x14_1 = some r) ∧ Aside0 (kq ≤ k) ∧ Drawn0 w w')
    case atStart => exact ⟨(0), (0), (by first | rfl | (simp; done) | (simp [*]; done) | (simp [IntKind.wrap_u8, IntKind.wrap_i64, wrap64]; done)), (by first | rfl | (simp; done) | (simp [*]; done) | (simp [IntKind.wrap_u8, IntKind.wrap_i64, wrap64]; done)), H', ⟨Nat.le_refl _⟩, by repeat (first | exact Drawn0.refl _ | apply Drawn0.step)⟩
    case round =>
      clear H'
      try clear c2
      try clear p2
      try clear c3
      try clear c3b0
      try clear c3b1
      try clear c3b2
      obtain ⟨x5_1, x14_1, rfl, rfl, HA, HK1, ⟨m1, rfl⟩⟩ := hrel
      cases gk with
      | zero => exact absurd HA.out (by simp [mac_Same.l0])
      | succ k1 =>
        have H := HA.out
        clear HA
        simp only [mac_Same.l0] at H
        by_cases c4 : x14_1 < (a0.size : Int)
        · rw [if_pos c4] at H
          have c4b0 : decide (x14_1 < (a0.size : Int)) = true := decide_eq_true c4
          clear c4
          by_cases c5 : 0 ≤ x14_1
          · rw [if_pos c5] at H
            have c5b0 : decide (0 ≤ x14_1) = true := decide_eq_true c5
            clear c5
            by_cases c6 : x14_1 < (a0.size : Int)
            · rw [if_pos c6] at H
              have c6b0 : decide (x14_1 < (a0.size : Int)) = true := decide_eq_true c6
              clear c6
              by_cases c8 : x14_1 < (a1.size : Int)
              · rw [if_pos c8] at H
                have c8b0 : decide (x14_1 < (a1.size : Int)) = true := decide_eq_true c8
                clear c8
                have H' := Aside0.mk H
                clear H
                have p7 : 0 ≤ (x14_1 : Int) := of_decide_eq_true (by first | (with_reducible assumption) | assumption)
                have q7 : x14_1 < (a0.size : Int) := of_decide_eq_true (by first | (with_reducible assumption) | assumption)
                have hx7 := bt_at a0 x14_1
                replace p7 := eq_true p7
                replace q7 := eq_true q7; (try (have qs7 := q7; simp only [ByteArray.size_append, ByteArray.size_extract, Nat.min_self, Xsize_mk, List.size_toArray, List.length_cons, List.length_nil, Nat.zero_add, Nat.reduceAdd, List.length_append, List.length_drop, List.length_take] at qs7))
                have p9 : 0 ≤ (x14_1 : Int) := of_decide_eq_true (by first | (with_reducible assumption) | assumption)
                have q9 : x14_1 < (a1.size : Int) := of_decide_eq_true (by first | (with_reducible assumption) | assumption)
                have hx9 := bt_at a1 x14_1
                replace p9 := eq_true p9
                replace q9 := eq_true q9; (try (have qs9 := q9; simp only [ByteArray.size_append, ByteArray.size_extract, Nat.min_self, Xsize_mk, List.size_toArray, List.length_cons, List.length_nil, Nat.zero_add, Nat.reduceAdd, List.length_append, List.length_drop, List.length_take] at qs9))
                go_wp2
                repeat (go_quiet (fail); try go_wp2)
                go_roundg k1
                case measure => have := HK1.out; omega
                case rel => exact ⟨(Go.bits .or .u8 x5_1 (Go.bits .xor .u8 (bt a0 x14_1) (bt a1 x14_1))), (wrap64 (x14_1 + 1)), (by first | rfl | (simp; done) | (simp [*]; done) | (simp [IntKind.wrap_u8, IntKind.wrap_i64, wrap64]; done)), (by first | rfl | (simp; done) | (simp [*]; done) | (simp [IntKind.wrap_u8, IntKind.wrap_i64, wrap64]; done)), H', ⟨by have := HK1.out; omega⟩, by repeat (first | exact Drawn0.refl _ | apply Drawn0.step)⟩
              · rw [if_neg c8] at H
                exact absurd H (by simp)
            · rw [if_neg c6] at H
              exact absurd H (by simp)
          · rw [if_neg c5] at H
            exact absurd H (by simp)
        · rw [if_neg c4] at H
          have c4b0 : decide (x14_1 < (a0.size : Int)) = false := decide_eq_false c4
          clear c4
          obtain rfl := Option.some.inj H
          go_wp2
          repeat (go_quiet (fail); try go_wp2)
          go_ret
          exact ⟨by first | rfl | (simp; done) | (simp [*]; done) | (simp [IntKind.wrap_u8, IntKind.wrap_i64, wrap64]; done), by repeat (first | exact Drawn0.refl _ | apply Drawn0.step)⟩
  · rw [if_neg c3] at H
    have c3b0 : ((a0.size : Int) == (a1.size : Int)) = false := beq_eq_false_iff_ne.mpr c3
    have c3b1 : ((a0.size : Int) != (a1.size : Int)) = true := bne_iff_ne.mpr c3
    have c3b2 : (a0.size == a1.size) = false := by first | simpa using c3 | (simp at c3 ⊢; omega)
    obtain rfl := Option.some.inj H
    go_enter Tryd.func24, Tryd.ntmps24
    go_wp2
    repeat (go_quiet (fail); try go_wp2)
    go_ret
    exact ⟨by first | rfl | (simp; done) | (simp [*]; done) | (simp [IntKind.wrap_u8, IntKind.wrap_i64, wrap64]; done), by repeat (first | exact Drawn0.refl _ | apply Drawn0.step)⟩

/-! ### glyph_Fold: function 25, a contract written by hand -/
def glyph_low (c : Int) : Int := if c ≥ 65 then (if c ≤ 90 then (c + 32) % 256 else c) else c
def glyph_Fold.l0 : Nat → ByteArray → List Int → Nat → Option ByteArray
  | 0, _, _, _ => none
  | k + 1, s, acc, i => if i < s.size then (if acc.length + 1 ≤ 140737488355328 then glyph_Fold.l0 k s (acc ++ [glyph_low (bt s (i : Int))]) (i + 1) else none) else some (strOfNums acc)
def glyph_Fold.f (k : Nat) (a0 : ByteArray) : Option ByteArray := glyph_Fold.l0 k a0 [] 0
theorem glyph_Fold.mono_l : ∀ k, (∀ y0 y1 y2, LeO (glyph_Fold.l0 k y0 y1 y2) (glyph_Fold.l0 (k + 1) y0 y1 y2))
  | 0 => fun _ _ _ r h => by simp [glyph_Fold.l0] at h
  | k + 1 => fun y0 y1 y2 => by
    have ih := glyph_Fold.mono_l k
    unfold glyph_Fold.l0
    exact LeO.ite (LeO.ite (ih _ _ _) (LeO.refl _)) (LeO.refl _)
theorem glyph_Fold.mono : ∀ a0 k, LeO (glyph_Fold.f k a0) (glyph_Fold.f (k + 1) a0) := fun a0 k => glyph_Fold.mono_l k a0 _ _
theorem bld_nums (xs : List Int) (h : ∀ x ∈ xs, 0 ≤ x ∧ x < 256) : Lib.byteCells ((strOfNums xs).data.toList) = xs.map (Value.int .u8) := by
  simp only [strOfNums, Lib.byteCells, List.map_map]
  apply List.map_congr_left
  intro x hx
  have := h x hx
  have e : ((x.toNat % 256 : Nat) : Int) = x := by omega
  simp [Function.comp, e]
theorem glyph_low_range (c : Int) (h0 : 0 ≤ c) (h1 : c ≤ 255) : 0 ≤ glyph_low c ∧ glyph_low c < 256 := by
  unfold glyph_low
  split
  · split <;> omega
  · omega
set_option maxHeartbeats 4000000 in
set_option maxRecDepth 100000 in
theorem glyph_Fold.calls (k : Nat) (a0 : ByteArray) (r : ByteArray) (w : World) (h : glyph_Fold.f k a0 = some r) : Calls Tryd.prog 25 #[.string a0] w fun e w' => e = .returned (.string r) ∧ Below w.heap.size w w' := by
  have H := Aside0.mk (show glyph_Fold.l0 k a0 [] 0 = some r from h)
  clear h
  go_enter Tryd.func25, Tryd.ntmps25
  go_wp2
  go_loopg [8] k (fun kq v0 wr => ∃ (i : Nat) (acc : List Int), v0 = .int .i64 i ∧ acc.length = i ∧ i ≤ a0.size ∧ (∀ x ∈ acc, 0 ≤ x ∧ x < 256) ∧ Aside0 (glyph_Fold.l0 kq a0 acc i = some r) ∧ Lib.IsBuilderF 55 5 w.heap.size w.heap.size (acc.map (Value.int .u8)) wr ∧ Below w.heap.size w wr)
  case atStart => exact ⟨0, [], rfl, rfl, Nat.zero_le _, by simp, H, Lib.IsBuilderF.of (Lib.fresh_isBuilder _ _ w), (Below.refl _ w).alloc (Nat.le_refl _) _⟩
  case round =>
    clear H
    obtain ⟨i, acc, rfl, hai, hi, hacc, HA, hI, hB⟩ := hrel
    cases gk with
    | zero => exact absurd HA.out (by simp [glyph_Fold.l0])
    | succ k1 =>
      have hg := HA.out
      clear HA
      simp only [glyph_Fold.l0] at hg
      have hszl := hB.size
      by_cases hp : i < a0.size
      · rw [if_pos hp] at hg
        by_cases hl : acc.length + 1 ≤ 140737488355328
        · rw [if_pos hl] at hg
          have HG := Aside0.mk hg
          clear hg
          have HW := Aside0.mk (show wrap64 ((i : Int) + 1) = ((i + 1 : Nat) : Int) by unfold wrap64; omega)
          have HAI := Aside0.mk hai
          clear hai
          have hx := bt_range a0 (i : Int)
          have HACC := Aside0.mk hacc
          clear hacc
          have hll : (acc.map (Value.int .u8)).length + 1 ≤ 140737488355328 := by rw [List.length_map]; exact hl
          have hbe : ((a0[i]'hp).toNat : Int) = bt a0 (i : Int) := by simp [bt, hp]
          have HLL := Aside0.mk hll
          clear hll hl
          obtain ⟨c, hc⟩ : ∃ c, bt a0 (i : Int) = c := ⟨_, rfl⟩
          rw [hc] at hbe hx
          have HC := Aside0.mk hc
          clear hc
          have fin : ∀ (w2 : World) (d : Int), d = glyph_low c → Lib.BuilderAtF 55 5 w.heap.size w.heap.size (.pointer (some ⟨w.heap.size, 0, none⟩)) (acc.map (Value.int .u8) ++ [.int .u8 d]) w2 → Below w.heap.size wr w2 →
              ∃ (i' : Nat) (acc : List Int), Value.int .i64 (wrap64 ((i : Int) + 1)) = .int .i64 i' ∧ acc.length = i' ∧ i' ≤ a0.size ∧ (∀ x ∈ acc, 0 ≤ x ∧ x < 256) ∧ Aside0 (glyph_Fold.l0 k1 a0 acc i' = some r) ∧ Lib.IsBuilderF 55 5 w.heap.size w.heap.size (acc.map (Value.int .u8)) w2 ∧ Below w.heap.size w w2 := by
            intro w2 d hd h2 hb2
            refine ⟨i + 1, acc ++ [glyph_low (bt a0 (i : Int))], by rw [HW.out], by rw [List.length_append, HAI.out]; rfl, by omega, ?_, HG, Or.inr ?_, hB.trans hb2⟩
            · intro x hx2
              rw [List.mem_append] at hx2
              rcases hx2 with hx2 | hx2
              · exact HACC.out x hx2
              · rw [List.mem_singleton] at hx2
                rw [hx2, HC.out]
                exact glyph_low_range c hx.1 hx.2
            · rw [List.map_append, List.map_singleton, HC.out, ← hd]
              exact h2
          have HF := Aside0.mk fin
          clear fin
          by_cases h1 : c ≥ 65
          · have h1d := decide_eq_true h1
            by_cases h2 : c ≤ 90
            · have h2d := decide_eq_true h2
              go_wp2_with fail
              refine (bld_WriteByte w.heap.size w.heap.size _ _ _ hI HLL.out hszl).mono ?_
              rintro e w2 ⟨rfl, hb, hb2, _⟩
              go_wp2
              go_roundg k1
              case measure => omega
              case rel => exact HF.out _ _ (by unfold glyph_low; (repeat (first | rw [if_pos (by omega)] | rw [if_neg (by omega)])); (try omega)) hb hb2
            · have h2d := decide_eq_false h2
              go_wp2_with fail
              refine (bld_WriteByte w.heap.size w.heap.size _ _ _ hI HLL.out hszl).mono ?_
              rintro e w2 ⟨rfl, hb, hb2, _⟩
              go_wp2
              go_roundg k1
              case measure => omega
              case rel => exact HF.out _ _ (by unfold glyph_low; (repeat (first | rw [if_pos (by omega)] | rw [if_neg (by omega)])); (try omega)) hb hb2
          · have h1d := decide_eq_false h1
            go_wp2_with fail
            refine (bld_WriteByte w.heap.size w.heap.size _ _ _ hI HLL.out hszl).mono ?_
            rintro e w2 ⟨rfl, hb, hb2, _⟩
            go_wp2
            go_roundg k1
            case measure => omega
            case rel => exact HF.out _ _ (by unfold glyph_low; (repeat (first | rw [if_pos (by omega)] | rw [if_neg (by omega)])); (try omega)) hb hb2
        · rw [if_neg hl] at hg
          exact absurd hg (by simp)
      · rw [if_neg hp] at hg
        obtain rfl := Option.some.inj hg
        rw [← bld_nums acc hacc] at hI
        go_wp2_with fail
        refine (bld_String w.heap.size w.heap.size _ _ hI hszl).mono ?_
        rintro e w1 ⟨rfl, _, hb1, _⟩
        go_wp2
        go_ret
        exact ⟨rfl, hB.trans hb1⟩

-- NOT PRINTED: function 11 (token_Fits)

-- NOT PRINTED: function 74 (bytealg_IndexByteString)

-- NOT PRINTED: function 63 (stringslite_IndexByte)

-- NOT PRINTED: function 64 (bytealg_IndexString)

-- NOT PRINTED: function 65 (bytealg_Cutover)

-- NOT PRINTED: function 75 (bytealg_hashStr_string)

-- NOT PRINTED: function 66 (bytealg_IndexRabinKarp_string)

-- NOT PRINTED: function 53 (stringslite_Index)

-- NOT PRINTED: function 43 (stringslite_Cut)

end Go.Proofs.YtcdhpknjinonhaaDoor.X
