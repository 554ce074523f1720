-- Written by a program (print.py's text, with contracts of this session's own put in). Not trusted: Lean checks it.
import Derived.Test.YtaamnpomclenpaaDoorX0
import Derived.Test.YtaamnpomclenpaaDoorX2
namespace Go.Proofs.YtaamnpomclenpaaDoor.X
open Go.RowKit Go.Proofs.YtaamnpomclenpaaDoorW.PrintWords Go.Proofs.YtaamnpomclenpaaDoorW.PrintLast Go.Proofs.YtaamnpomclenpaaDoorW.PrintMore
attribute [local go_sem] max2_int min2_int max_two min_two max_three min_three max_four min_four   -- for this text's walks alone
set_option linter.unusedVariables false
set_option linter.unusedSimpArgs false

/-! ### glyph_Fold: function 15, a contract written by hand -/
def glyph_low (c : Int) : Int := if c ≥ 65 then (if c ≤ 90 then (c + 32) % 256 else c) else c
def glyph_Fold.l0 : Nat → ByteArray → List Int → Nat → Option ByteArray
  | 0, _, _, _ => none
  | k + 1, s, acc, i => if i < s.size then (if acc.length + 1 ≤ 140737488355328 then glyph_Fold.l0 k s (acc ++ [glyph_low (bt s (i : Int))]) (i + 1) else none) else some (strOfNums acc)
def glyph_Fold.f (k : Nat) (a0 : ByteArray) : Option ByteArray := glyph_Fold.l0 k a0 [] 0
theorem glyph_Fold.mono_l : ∀ k, (∀ y0 y1 y2, LeO (glyph_Fold.l0 k y0 y1 y2) (glyph_Fold.l0 (k + 1) y0 y1 y2))
  | 0 => fun _ _ _ r h => by simp [glyph_Fold.l0] at h
  | k + 1 => fun y0 y1 y2 => by
    have ih := glyph_Fold.mono_l k
    unfold glyph_Fold.l0
    exact LeO.ite (LeO.ite (ih _ _ _) (LeO.refl _)) (LeO.refl _)
theorem glyph_Fold.mono : ∀ a0 k, LeO (glyph_Fold.f k a0) (glyph_Fold.f (k + 1) a0) := fun a0 k => glyph_Fold.mono_l k a0 _ _
theorem bld_nums (xs : List Int) (h : ∀ x ∈ xs, 0 ≤ x ∧ x < 256) : Lib.byteCells ((strOfNums xs).data.toList) = xs.map (Value.int .u8) := by
  simp only [strOfNums, Lib.byteCells, List.map_map]
  apply List.map_congr_left
  intro x hx
  have := h x hx
  have e : ((x.toNat % 256 : Nat) : Int) = x := by omega
  simp [Function.comp, e]
theorem glyph_low_range (c : Int) (h0 : 0 ≤ c) (h1 : c ≤ 255) : 0 ≤ glyph_low c ∧ glyph_low c < 256 := by
  unfold glyph_low
  split
  · split <;> omega
  · omega
set_option maxHeartbeats 4000000 in
set_option maxRecDepth 100000 in
theorem glyph_Fold.calls (k : Nat) (a0 : ByteArray) (r : ByteArray) (w : World) (h : glyph_Fold.f k a0 = some r) : Calls Tryd.prog 15 #[.string a0] w fun e w' => e = .returned (.string r) ∧ Below w.heap.size w w' := by
  have H := Aside0.mk (show glyph_Fold.l0 k a0 [] 0 = some r from h)
  clear h
  go_enter Tryd.func15, Tryd.ntmps15
  go_wp2
  go_loopg [8] k (fun kq v0 wr => ∃ (i : Nat) (acc : List Int), v0 = .int .i64 i ∧ acc.length = i ∧ i ≤ a0.size ∧ (∀ x ∈ acc, 0 ≤ x ∧ x < 256) ∧ Aside0 (glyph_Fold.l0 kq a0 acc i = some r) ∧ Lib.IsBuilderF 54 5 w.heap.size w.heap.size (acc.map (Value.int .u8)) wr ∧ Below w.heap.size w wr)
  case atStart => exact ⟨0, [], rfl, rfl, Nat.zero_le _, by simp, H, Lib.IsBuilderF.of (Lib.fresh_isBuilder _ _ w), (Below.refl _ w).alloc (Nat.le_refl _) _⟩
  case round =>
    clear H
    obtain ⟨i, acc, rfl, hai, hi, hacc, HA, hI, hB⟩ := hrel
    cases gk with
    | zero => exact absurd HA.out (by simp [glyph_Fold.l0])
    | succ k1 =>
      have hg := HA.out
      clear HA
      simp only [glyph_Fold.l0] at hg
      have hszl := hB.size
      by_cases hp : i < a0.size
      · rw [if_pos hp] at hg
        by_cases hl : acc.length + 1 ≤ 140737488355328
        · rw [if_pos hl] at hg
          have HG := Aside0.mk hg
          clear hg
          have HW := Aside0.mk (show wrap64 ((i : Int) + 1) = ((i + 1 : Nat) : Int) by unfold wrap64; omega)
          have HAI := Aside0.mk hai
          clear hai
          have hx := bt_range a0 (i : Int)
          have HACC := Aside0.mk hacc
          clear hacc
          have hll : (acc.map (Value.int .u8)).length + 1 ≤ 140737488355328 := by rw [List.length_map]; exact hl
          have hbe : ((a0[i]'hp).toNat : Int) = bt a0 (i : Int) := by simp [bt, hp]
          have HLL := Aside0.mk hll
          clear hll hl
          obtain ⟨c, hc⟩ : ∃ c, bt a0 (i : Int) = c := ⟨_, rfl⟩
          rw [hc] at hbe hx
          have HC := Aside0.mk hc
          clear hc
          have fin : ∀ (w2 : World) (d : Int), d = glyph_low c → Lib.BuilderAtF 54 5 w.heap.size w.heap.size (.pointer (some ⟨w.heap.size, 0, none⟩)) (acc.map (Value.int .u8) ++ [.int .u8 d]) w2 → Below w.heap.size wr w2 →
              ∃ (i' : Nat) (acc : List Int), Value.int .i64 (wrap64 ((i : Int) + 1)) = .int .i64 i' ∧ acc.length = i' ∧ i' ≤ a0.size ∧ (∀ x ∈ acc, 0 ≤ x ∧ x < 256) ∧ Aside0 (glyph_Fold.l0 k1 a0 acc i' = some r) ∧ Lib.IsBuilderF 54 5 w.heap.size w.heap.size (acc.map (Value.int .u8)) w2 ∧ Below w.heap.size w w2 := by
            intro w2 d hd h2 hb2
            refine ⟨i + 1, acc ++ [glyph_low (bt a0 (i : Int))], by rw [HW.out], by rw [List.length_append, HAI.out]; rfl, by omega, ?_, HG, Or.inr ?_, hB.trans hb2⟩
            · intro x hx2
              rw [List.mem_append] at hx2
              rcases hx2 with hx2 | hx2
              · exact HACC.out x hx2
              · rw [List.mem_singleton] at hx2
                rw [hx2, HC.out]
                exact glyph_low_range c hx.1 hx.2
            · rw [List.map_append, List.map_singleton, HC.out, ← hd]
              exact h2
          have HF := Aside0.mk fin
          clear fin
          by_cases h1 : c ≥ 65
          · have h1d := decide_eq_true h1
            by_cases h2 : c ≤ 90
            · have h2d := decide_eq_true h2
              go_wp2_with fail
              refine (bld_WriteByte w.heap.size w.heap.size _ _ _ hI HLL.out hszl).mono ?_
              rintro e w2 ⟨rfl, hb, hb2, _⟩
              go_wp2
              go_roundg k1
              case measure => omega
              case rel => exact HF.out _ _ (by unfold glyph_low; (repeat (first | rw [if_pos (by omega)] | rw [if_neg (by omega)])); (try omega)) hb hb2
            · have h2d := decide_eq_false h2
              go_wp2_with fail
              refine (bld_WriteByte w.heap.size w.heap.size _ _ _ hI HLL.out hszl).mono ?_
              rintro e w2 ⟨rfl, hb, hb2, _⟩
              go_wp2
              go_roundg k1
              case measure => omega
              case rel => exact HF.out _ _ (by unfold glyph_low; (repeat (first | rw [if_pos (by omega)] | rw [if_neg (by omega)])); (try omega)) hb hb2
          · have h1d := decide_eq_false h1
            go_wp2_with fail
            refine (bld_WriteByte w.heap.size w.heap.size _ _ _ hI HLL.out hszl).mono ?_
            rintro e w2 ⟨rfl, hb, hb2, _⟩
            go_wp2
            go_roundg k1
            case measure => omega
            case rel => exact HF.out _ _ (by unfold glyph_low; (repeat (first | rw [if_pos (by omega)] | rw [if_neg (by omega)])); (try omega)) hb hb2
        · rw [if_neg hl] at hg
          exact absurd hg (by simp)
      · rw [if_neg hp] at hg
        obtain rfl := Option.some.inj hg
        rw [← bld_nums acc hacc] at hI
        go_wp2_with fail
        refine (bld_String w.heap.size w.heap.size _ _ hI hszl).mono ?_
        rintro e w1 ⟨rfl, _, hb1, _⟩
        go_wp2
        go_ret
        exact ⟨rfl, hB.trans hb1⟩

/-! ### verb_known: function 11, a contract written by hand -/
def verb_known.l0 : Nat → ByteArray → Nat → Option Int
  | 0, _, _ => none
  | k + 1, s, i => if i < 10 then (if 0 < i then (glyph_Fold.f k (wordOf i)).bind fun a => (glyph_Fold.f k s).bind fun b => if a.toList = b.toList then some (i : Int) else verb_known.l0 k s (i + 1) else verb_known.l0 k s (i + 1)) else some 0
def verb_known.f (k : Nat) (a0 : ByteArray) : Option Int := verb_known.l0 k a0 0
theorem verb_known.mono_l : ∀ k, (∀ y0 y1, LeO (verb_known.l0 k y0 y1) (verb_known.l0 (k + 1) y0 y1))
  | 0 => fun _ _ r h => by simp [verb_known.l0] at h
  | k + 1 => fun y0 y1 => by
    have ih := verb_known.mono_l k
    unfold verb_known.l0
    exact LeO.ite (LeO.ite (LeO.bind (glyph_Fold.mono _ _) (fun _ => LeO.bind (glyph_Fold.mono _ _) (fun _ => LeO.ite (LeO.refl _) (ih _ _)))) (ih _ _)) (LeO.refl _)
theorem verb_known.mono : ∀ a0 k, LeO (verb_known.f k a0) (verb_known.f (k + 1) a0) := fun a0 k => verb_known.mono_l k a0 _
def verb_arr : Array Value := #[.string (wordOf 0), .string (wordOf 1), .string (wordOf 2), .string (wordOf 3), .string (wordOf 4), .string (wordOf 5), .string (wordOf 6), .string (wordOf 7), .string (wordOf 8), .string (wordOf 9)]
theorem verb_index (i : Nat) (hi : i < 10) (v : Value) (hv : verb_arr[i]? = some v) (w : World) : (Instr.index 43 (.agg verb_arr) (.int .i64 (i : Int))).run Tryd.prog w = .ok v w := by
  have hr : 0 ≤ (i : Int) ∧ (i : Int) < 10 := by omega
  simp [Instr.index, run_underlying Tryd.underlying43, asIntOf, hr, go_sem, part, hv, Tryd.sizeOf9]
  intro h
  omega
set_option maxHeartbeats 4000000 in
set_option maxRecDepth 100000 in
theorem verb_known.calls (k : Nat) (a0 : ByteArray) (r : Int) (w : World) (hT0 : Aside0 (Tabs w)) (h : verb_known.f k a0 = some r) : Calls Tryd.prog 11 #[.string a0] w fun e w' => e = .returned (.int .i64 r) ∧ Below w.heap.size w w' := by
  have H := Aside0.mk (show verb_known.l0 k a0 0 = some r from h)
  clear h
  have q0 := hT0.out.words 0 (by decide)
  have q1 := hT0.out.words 1 (by decide)
  have q2 := hT0.out.words 2 (by decide)
  have q3 := hT0.out.words 3 (by decide)
  have q4 := hT0.out.words 4 (by decide)
  have q5 := hT0.out.words 5 (by decide)
  have q6 := hT0.out.words 6 (by decide)
  have q7 := hT0.out.words 7 (by decide)
  have q8 := hT0.out.words 8 (by decide)
  have q9 := hT0.out.words 9 (by decide)
  go_enter Tryd.func11, Tryd.ntmps11
  go_wp2
  go_loopg [6] k (fun kq v6 wr => ∃ (i : Nat), v6 = .int .i64 i ∧ Aside0 (verb_known.l0 kq a0 i = some r) ∧ Below w.heap.size w wr)
  case atStart => exact ⟨0, rfl, H, Below.refl _ _⟩
  case round =>
    clear H
    obtain ⟨i, rfl, HA, hB⟩ := hrel
    have x0 : ∀ w : World, (Instr.index 43 (.agg #[.string (wordOf 0), .string (wordOf 1), .string (wordOf 2), .string (wordOf 3), .string (wordOf 4), .string (wordOf 5), .string (wordOf 6), .string (wordOf 7), .string (wordOf 8), .string (wordOf 9)]) (.int .i64 0)).run Tryd.prog w = .ok (.string (wordOf 0)) w := verb_index 0 (by decide) _ rfl
    have x1 : ∀ w : World, (Instr.index 43 (.agg #[.string (wordOf 0), .string (wordOf 1), .string (wordOf 2), .string (wordOf 3), .string (wordOf 4), .string (wordOf 5), .string (wordOf 6), .string (wordOf 7), .string (wordOf 8), .string (wordOf 9)]) (.int .i64 1)).run Tryd.prog w = .ok (.string (wordOf 1)) w := verb_index 1 (by decide) _ rfl
    have x2 : ∀ w : World, (Instr.index 43 (.agg #[.string (wordOf 0), .string (wordOf 1), .string (wordOf 2), .string (wordOf 3), .string (wordOf 4), .string (wordOf 5), .string (wordOf 6), .string (wordOf 7), .string (wordOf 8), .string (wordOf 9)]) (.int .i64 2)).run Tryd.prog w = .ok (.string (wordOf 2)) w := verb_index 2 (by decide) _ rfl
    have x3 : ∀ w : World, (Instr.index 43 (.agg #[.string (wordOf 0), .string (wordOf 1), .string (wordOf 2), .string (wordOf 3), .string (wordOf 4), .string (wordOf 5), .string (wordOf 6), .string (wordOf 7), .string (wordOf 8), .string (wordOf 9)]) (.int .i64 3)).run Tryd.prog w = .ok (.string (wordOf 3)) w := verb_index 3 (by decide) _ rfl
    have x4 : ∀ w : World, (Instr.index 43 (.agg #[.string (wordOf 0), .string (wordOf 1), .string (wordOf 2), .string (wordOf 3), .string (wordOf 4), .string (wordOf 5), .string (wordOf 6), .string (wordOf 7), .string (wordOf 8), .string (wordOf 9)]) (.int .i64 4)).run Tryd.prog w = .ok (.string (wordOf 4)) w := verb_index 4 (by decide) _ rfl
    have x5 : ∀ w : World, (Instr.index 43 (.agg #[.string (wordOf 0), .string (wordOf 1), .string (wordOf 2), .string (wordOf 3), .string (wordOf 4), .string (wordOf 5), .string (wordOf 6), .string (wordOf 7), .string (wordOf 8), .string (wordOf 9)]) (.int .i64 5)).run Tryd.prog w = .ok (.string (wordOf 5)) w := verb_index 5 (by decide) _ rfl
    have x6 : ∀ w : World, (Instr.index 43 (.agg #[.string (wordOf 0), .string (wordOf 1), .string (wordOf 2), .string (wordOf 3), .string (wordOf 4), .string (wordOf 5), .string (wordOf 6), .string (wordOf 7), .string (wordOf 8), .string (wordOf 9)]) (.int .i64 6)).run Tryd.prog w = .ok (.string (wordOf 6)) w := verb_index 6 (by decide) _ rfl
    have x7 : ∀ w : World, (Instr.index 43 (.agg #[.string (wordOf 0), .string (wordOf 1), .string (wordOf 2), .string (wordOf 3), .string (wordOf 4), .string (wordOf 5), .string (wordOf 6), .string (wordOf 7), .string (wordOf 8), .string (wordOf 9)]) (.int .i64 7)).run Tryd.prog w = .ok (.string (wordOf 7)) w := verb_index 7 (by decide) _ rfl
    have x8 : ∀ w : World, (Instr.index 43 (.agg #[.string (wordOf 0), .string (wordOf 1), .string (wordOf 2), .string (wordOf 3), .string (wordOf 4), .string (wordOf 5), .string (wordOf 6), .string (wordOf 7), .string (wordOf 8), .string (wordOf 9)]) (.int .i64 8)).run Tryd.prog w = .ok (.string (wordOf 8)) w := verb_index 8 (by decide) _ rfl
    have x9 : ∀ w : World, (Instr.index 43 (.agg #[.string (wordOf 0), .string (wordOf 1), .string (wordOf 2), .string (wordOf 3), .string (wordOf 4), .string (wordOf 5), .string (wordOf 6), .string (wordOf 7), .string (wordOf 8), .string (wordOf 9)]) (.int .i64 9)).run Tryd.prog w = .ok (.string (wordOf 9)) w := verb_index 9 (by decide) _ rfl
    cases gk with
    | zero => exact absurd HA.out (by simp [verb_known.l0])
    | succ k1 =>
      have hg := HA.out
      clear HA
      simp only [verb_known.l0] at hg
      by_cases h10 : i < 10
      · rw [if_pos h10] at hg
        have hcase : i = 0 ∨ i = 1 ∨ i = 2 ∨ i = 3 ∨ i = 4 ∨ i = 5 ∨ i = 6 ∨ i = 7 ∨ i = 8 ∨ i = 9 := by omega
        clear h10
        rcases hcase with rfl | rfl | rfl | rfl | rfl | rfl | rfl | rfl | rfl | rfl
        · rw [if_neg (by decide)] at hg
          have HG := Aside0.mk hg
          clear hg
          go_wp2
          go_roundg k1
          case measure => omega
          case rel => exact ⟨1, rfl, HG, hB⟩
        all_goals
          rw [if_pos (by decide)] at hg
          obtain ⟨a, ha, hg⟩ := Option.bind_eq_some_iff.mp hg
          obtain ⟨b, hb, hg⟩ := Option.bind_eq_some_iff.mp hg
          have HA := Aside0.mk ha
          have HBB := Aside0.mk hb
          clear ha hb
          have hszl := hB.size
          by_cases hab : a.toList = b.toList
          · rw [if_pos hab] at hg
            obtain rfl := Option.some.inj hg
            have hab1 : (a.toList == b.toList) = true := beq_iff_eq.mpr hab
            clear hab
            go_wp2_with fail
            refine (glyph_Fold.calls k1 _ a _ HA.out).mono ?_
            rintro e w1 ⟨rfl, hb1⟩
            have hB1 := hB.trans (hb1.mono hszl)
            have hszl1 := hB1.size
            go_wp2_with fail
            refine (glyph_Fold.calls k1 _ b _ HBB.out).mono ?_
            rintro e w2 ⟨rfl, hb2⟩
            have hB2 := hB1.trans (hb2.mono hszl1)
            go_wp2
            go_ret
            exact ⟨rfl, hB2⟩
          · rw [if_neg hab] at hg
            have hab1 : (a.toList == b.toList) = false := beq_eq_false_iff_ne.mpr hab
            clear hab
            have HG := Aside0.mk hg
            clear hg
            go_wp2_with fail
            refine (glyph_Fold.calls k1 _ a _ HA.out).mono ?_
            rintro e w1 ⟨rfl, hb1⟩
            have hB1 := hB.trans (hb1.mono hszl)
            have hszl1 := hB1.size
            go_wp2_with fail
            refine (glyph_Fold.calls k1 _ b _ HBB.out).mono ?_
            rintro e w2 ⟨rfl, hb2⟩
            have hB2 := hB1.trans (hb2.mono hszl1)
            go_wp2
            go_roundg k1
            case measure => omega
            case rel => exact ⟨_, rfl, HG, hB2⟩
      · rw [if_neg h10] at hg
        obtain rfl := Option.some.inj hg
        go_wp2
        go_ret
        exact ⟨rfl, hB⟩

/-! ### glyph_plain: function 22 -/
def glyph_plain.f (a0 : Int) : Option (Bool) := if a0 ≥ 32 then (some (decide (a0 ≤ 126))) else (some false)
set_option maxHeartbeats 8000000 in
set_option maxRecDepth 100000 in
theorem glyph_plain.calls (a0 : Int) (r : Bool) (w : World) (h : glyph_plain.f a0 = some r) :
    Calls Tryd.prog 22 #[.int .i32 a0] w fun e w' => e = .returned (.bool r) ∧ Drawn0 w w' := by
  have H : (if a0 ≥ 32 then (some (decide (a0 ≤ 126))) else (some false)) = some r := h
  clear h
  by_cases c2 : a0 ≥ 32
  · rw [if_pos c2] at H
    have c2b0 : decide (32 ≤ a0) = true := decide_eq_true c2
    clear c2
    obtain rfl := Option.some.inj H
    go_enter Tryd.func22, Tryd.ntmps22
    go_wp2
    go_ret
    exact ⟨by first | rfl | (simp; done) | (simp [*]; done), by repeat (first | exact Drawn0.refl _ | apply Drawn0.step)⟩
  · rw [if_neg c2] at H
    have c2b0 : decide (32 ≤ a0) = false := decide_eq_false c2
    clear c2
    obtain rfl := Option.some.inj H
    go_enter Tryd.func22, Tryd.ntmps22
    go_wp2
    go_ret
    exact ⟨by first | rfl | (simp; done) | (simp [*]; done), by repeat (first | exact Drawn0.refl _ | apply Drawn0.step)⟩

end Go.Proofs.YtaamnpomclenpaaDoor.X
