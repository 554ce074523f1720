-- Written by a program (print.py's text, with contracts of this session's own put in). Not trusted: Lean checks it.
import Derived.Test.YtgbkjgngpceeiaaDoorX0
import Derived.Test.YtgbkjgngpceeiaaDoorX1
import Derived.Test.YtgbkjgngpceeiaaDoorX2
namespace Go.Proofs.YtgbkjgngpceeiaaDoor.X
open Go.RowKit Go.Proofs.YtgbkjgngpceeiaaDoorW.PrintWords Go.Proofs.YtgbkjgngpceeiaaDoorW.PrintLast Go.Proofs.YtgbkjgngpceeiaaDoorW.PrintMore
attribute [local go_sem] max2_int min2_int max_two min_two max_three min_three max_four min_four   -- for this text's walks alone
set_option linter.unusedVariables false
set_option linter.unusedSimpArgs false

/-! ### b64_Plain: function 9, a contract written by hand -/
/-- the letters of bytes, three at a time -/
def b64_Plain.l0 : Nat → ByteArray → ByteArray → Option ByteArray
  | 0, _, _ => none
  | k + 1, s, acc => if s.size = 0 then some acc else (b64_group.f (s.extract 0 (min 3 s.size))).bind fun t => if acc.size + t.size ≤ 140737488355328 then b64_Plain.l0 k (s.extract (min 3 s.size) s.size) (acc ++ t) else none
def b64_Plain.f (k : Nat) (a0 : ByteArray) : Option ByteArray := b64_Plain.l0 k a0 ⟨#[]⟩
theorem b64_Plain.mono_l : ∀ k, (∀ y0 y1, LeO (b64_Plain.l0 k y0 y1) (b64_Plain.l0 (k + 1) y0 y1))
  | 0 => fun _ _ r h => by simp [b64_Plain.l0] at h
  | k + 1 => fun y0 y1 => by
    have ih := b64_Plain.mono_l k
    unfold b64_Plain.l0
    exact LeO.ite (LeO.refl _) (LeO.bind (LeO.refl _) (fun _ => LeO.ite (ih _ _) (LeO.none _)))
theorem b64_Plain.mono : ∀ a0 k, LeO (b64_Plain.f k a0) (b64_Plain.f (k + 1) a0) := fun a0 k => b64_Plain.mono_l k a0 _
set_option maxHeartbeats 4000000 in
set_option maxRecDepth 100000 in
theorem b64_Plain.calls (k : Nat) (a0 : ByteArray) (r : ByteArray) (w : World) (h : b64_Plain.f k a0 = some r) : Calls Tryd.prog 9 #[.string a0] w fun e w' => e = .returned (.string r) ∧ Below w.heap.size w w' := by
  have H := Aside0.mk (show b64_Plain.l0 k a0 ⟨#[]⟩ = some r from h)
  clear h
  go_enter Tryd.func9, Tryd.ntmps9
  go_wp2
  go_loopg [0] k (fun kq v0 wr => ∃ (s acc : ByteArray), v0 = .string s ∧ Aside0 (b64_Plain.l0 kq s acc = some r) ∧ Lib.IsBuilderF 40 5 w.heap.size w.heap.size (Lib.byteCells acc.data.toList) wr ∧ Below w.heap.size w wr)
  case atStart => exact ⟨a0, ⟨#[]⟩, rfl, H, Lib.IsBuilderF.of (Lib.fresh_isBuilder _ _ w), (Below.refl _ w).alloc (Nat.le_refl _) _⟩
  case round =>
    clear H
    obtain ⟨s, acc, rfl, HA, hI, hB⟩ := hrel
    cases gk with
    | zero => exact absurd HA.out (by simp [b64_Plain.l0])
    | succ k1 =>
      have hg := HA.out
      clear HA
      simp only [b64_Plain.l0] at hg
      have hszl := hB.size
      by_cases hz : s.size = 0
      · rw [if_pos hz] at hg
        obtain rfl := Option.some.inj hg
        have hs : (!s.toList.isEmpty) = false := by rw [bld_empty s, hz]; rfl
        go_wp2_with fail
        refine (bld_String w.heap.size w.heap.size acc.data.toList _ hI hszl).mono ?_
        rintro e w1 ⟨rfl, _, hb1, _⟩
        go_wp2
        go_ret
        exact ⟨rfl, hB.trans hb1⟩
      · rw [if_neg hz] at hg
        obtain ⟨t, ht, hg⟩ := Option.bind_eq_some_iff.mp hg
        by_cases hsz : acc.size + t.size ≤ 140737488355328
        · rw [if_pos hsz] at hg
          have hne : (!s.toList.isEmpty) = true := by rw [bld_empty s]; simpa using hz
          by_cases h3 : s.size < 3
          · rw [show min 3 s.size = s.size from by omega] at ht hg
            have e1 : s.extract 0 s.size = s := bld_all s
            have e2 : s.extract s.size s.size = ⟨#[]⟩ := bld_none s
            rw [e1] at ht
            rw [e2] at hg
            have HT := Aside0.mk ht
            have HG := Aside0.mk hg
            clear ht hg e1 e2
            have hd : decide (s.size < 3) = true := decide_eq_true h3
            have hi : decide ((s.size : Int) < 3) = true := decide_eq_true (by omega)
            go_wp2_with fail
            refine (b64_group.calls _ t _ HT.out).mono ?_
            rintro e w1 ⟨rfl, hb1⟩
            have hI1 : Lib.IsBuilderF 40 5 w.heap.size w.heap.size (Lib.byteCells acc.data.toList) w1 := bldF_below hI hb1
            have hB1 := hB.trans (hb1.mono hszl)
            have hszl1 := hB1.size
            go_wp2_with fail
            refine (bld_WriteString w.heap.size w.heap.size _ t _ hI1 (by rw [Lib.byteCells_length]; exact hsz) hszl1).mono ?_
            rintro e w2 ⟨rfl, h2, hb2, _⟩
            go_wp2
            go_roundg k1
            case measure => omega
            case rel => exact ⟨_, acc ++ t, rfl, HG, by rw [bld_cells_append]; exact Or.inr h2, hB1.trans hb2⟩
          · rw [show min 3 s.size = 3 from by omega] at ht hg
            have HT := Aside0.mk ht
            have HG := Aside0.mk hg
            clear ht hg
            have hd : decide (s.size < 3) = false := decide_eq_false h3
            have hi : decide ((s.size : Int) < 3) = false := decide_eq_false (by omega)
            go_wp2_with fail
            refine (b64_group.calls _ t _ HT.out).mono ?_
            rintro e w1 ⟨rfl, hb1⟩
            have hI1 : Lib.IsBuilderF 40 5 w.heap.size w.heap.size (Lib.byteCells acc.data.toList) w1 := bldF_below hI hb1
            have hB1 := hB.trans (hb1.mono hszl)
            have hszl1 := hB1.size
            go_wp2_with fail
            refine (bld_WriteString w.heap.size w.heap.size _ t _ hI1 (by rw [Lib.byteCells_length]; exact hsz) hszl1).mono ?_
            rintro e w2 ⟨rfl, h2, hb2, _⟩
            go_wp2
            go_roundg k1
            case measure => omega
            case rel => exact ⟨_, acc ++ t, rfl, HG, by rw [bld_cells_append]; exact Or.inr h2, hB1.trans hb2⟩
        · rw [if_neg hsz] at hg
          exact absurd hg (by simp)

/-! ### b64_white: function 24 -/
def b64_white.f (a0 : Int) : Option (Bool) := if a0 = 32 then (some true) else (if a0 = 9 then (some true) else (if a0 = 13 then (some true) else (some (a0 == 10))))
set_option maxHeartbeats 8000000 in
set_option maxRecDepth 100000 in
theorem b64_white.calls (a0 : Int) (r : Bool) (w : World) (h : b64_white.f a0 = some r) :
    Calls Tryd.prog 24 #[.int .u8 a0] w fun e w' => e = .returned (.bool r) ∧ Drawn0 w w' := by
  have H : (if a0 = 32 then (some true) else (if a0 = 9 then (some true) else (if a0 = 13 then (some true) else (some (a0 == 10))))) = some r := h
  clear h
  by_cases c2 : a0 = 32
  · rw [if_pos c2] at H
    have c2b0 : (a0 == 32) = true := beq_iff_eq.mpr c2
    have c2b1 : (a0 != 32) = false := bne_eq_false_iff_eq.mpr c2
    clear c2
    obtain rfl := Option.some.inj H
    go_enter Tryd.func24, Tryd.ntmps24
    go_wp2
    go_ret
    exact ⟨by first | rfl | (simp; done) | (simp [*]; done), by repeat (first | exact Drawn0.refl _ | apply Drawn0.step)⟩
  · rw [if_neg c2] at H
    have c2b0 : (a0 == 32) = false := beq_eq_false_iff_ne.mpr c2
    have c2b1 : (a0 != 32) = true := bne_iff_ne.mpr c2
    by_cases c3 : a0 = 9
    · rw [if_pos c3] at H
      have c3b0 : (a0 == 9) = true := beq_iff_eq.mpr c3
      have c3b1 : (a0 != 9) = false := bne_eq_false_iff_eq.mpr c3
      clear c3
      obtain rfl := Option.some.inj H
      go_enter Tryd.func24, Tryd.ntmps24
      go_wp2
      go_ret
      exact ⟨by first | rfl | (simp; done) | (simp [*]; done), by repeat (first | exact Drawn0.refl _ | apply Drawn0.step)⟩
    · rw [if_neg c3] at H
      have c3b0 : (a0 == 9) = false := beq_eq_false_iff_ne.mpr c3
      have c3b1 : (a0 != 9) = true := bne_iff_ne.mpr c3
      by_cases c4 : a0 = 13
      · rw [if_pos c4] at H
        have c4b0 : (a0 == 13) = true := beq_iff_eq.mpr c4
        have c4b1 : (a0 != 13) = false := bne_eq_false_iff_eq.mpr c4
        clear c4
        obtain rfl := Option.some.inj H
        go_enter Tryd.func24, Tryd.ntmps24
        go_wp2
        go_ret
        exact ⟨by first | rfl | (simp; done) | (simp [*]; done), by repeat (first | exact Drawn0.refl _ | apply Drawn0.step)⟩
      · rw [if_neg c4] at H
        have c4b0 : (a0 == 13) = false := beq_eq_false_iff_ne.mpr c4
        have c4b1 : (a0 != 13) = true := bne_iff_ne.mpr c4
        obtain rfl := Option.some.inj H
        go_enter Tryd.func24, Tryd.ntmps24
        go_wp2
        go_ret
        exact ⟨by first | rfl | (simp; done) | (simp [*]; done), by repeat (first | exact Drawn0.refl _ | apply Drawn0.step)⟩

end Go.Proofs.YtgbkjgngpceeiaaDoor.X
