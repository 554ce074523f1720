-- Written by a program (print.py's text, with contracts of this session's own put in). Not trusted: Lean checks it.
import Derived.Test.YtdjpdbdilcjakaaDoorX0
namespace Go.Proofs.YtdjpdbdilcjakaaDoor.X
open Go.RowKit Go.Proofs.YtdjpdbdilcjakaaDoorW.PrintWords Go.Proofs.YtdjpdbdilcjakaaDoorW.PrintLast Go.Proofs.YtdjpdbdilcjakaaDoorW.PrintMore
attribute [local go_sem] max2_int min2_int max_two min_two max_three min_three max_four min_four   -- for this text's walks alone
set_option linter.unusedVariables false
set_option linter.unusedSimpArgs false

/-! ### bulletinref30_For: function 21 -/
mutual
def bulletinref30_For.j0 : Nat → Int → Int → ByteArray → Option (Int × List ByteArray)
  | 0, _, _, _ => none
  | k + 1, x0, x3, x4 => if x0 = 270 then (bulletinref30_For.j1 k x0 500 (⟨#[53, 46, 53, 46, 50, 32, 110, 111, 32, 115, 117, 99, 104, 32, 99, 111, 109, 109, 97, 110, 100]⟩ : ByteArray)) else (bulletinref30_For.j1 k x0 x3 x4)
def bulletinref30_For.j1 : Nat → Int → Int → ByteArray → Option (Int × List ByteArray)
  | 0, _, _, _ => none
  | k + 1, x0, x3, x4 => if x0 = 3 then (bulletinref30_For.j2 k x0 x3 x4 true) else (bulletinref30_For.j2 k x0 x3 x4 (x0 == 7))
def bulletinref30_For.j2 : Nat → Int → Int → ByteArray → Bool → Option (Int × List ByteArray)
  | 0, _, _, _, _ => none
  | k + 1, x0, x3, x4, x14 => if x14 = true then (bulletinref30_For.j3 k x0 501 (⟨#[53, 46, 53, 46, 52, 32, 110, 111, 116, 32, 108, 105, 107, 101, 32, 116, 104, 97, 116]⟩ : ByteArray)) else (bulletinref30_For.j3 k x0 x3 x4)
def bulletinref30_For.j3 : Nat → Int → Int → ByteArray → Option (Int × List ByteArray)
  | 0, _, _, _ => none
  | k + 1, x0, x3, x4 => if x0 = 5 then (bulletinref30_For.j4 k x0 503 (⟨#[53, 46, 53, 46, 49, 32, 110, 111, 116, 32, 110, 111, 119]⟩ : ByteArray)) else (bulletinref30_For.j4 k x0 x3 x4)
def bulletinref30_For.j4 : Nat → Int → Int → ByteArray → Option (Int × List ByteArray)
  | 0, _, _, _ => none
  | k + 1, x0, x3, x4 => if x0 = 6 then (bulletinref30_For.j5 k x0 550 (⟨#[53, 46, 49, 46, 49, 32, 110, 111, 98, 111, 100, 121, 32, 104, 101, 114, 101, 32, 104, 97, 115, 32, 116, 104, 97, 116, 32, 110, 97, 109, 101]⟩ : ByteArray)) else (bulletinref30_For.j5 k x0 x3 x4)
def bulletinref30_For.j5 : Nat → Int → Int → ByteArray → Option (Int × List ByteArray)
  | 0, _, _, _ => none
  | k + 1, x0, x3, x4 => if x0 = 340 then (bulletinref30_For.j6 k x0 550 (⟨#[53, 46, 55, 46, 49, 32, 110, 111, 116, 32, 97, 108, 108, 111, 119, 101, 100]⟩ : ByteArray)) else (bulletinref30_For.j6 k x0 x3 x4)
def bulletinref30_For.j6 : Nat → Int → Int → ByteArray → Option (Int × List ByteArray)
  | 0, _, _, _ => none
  | k + 1, x0, x3, x4 => if x0 = 2 then (bulletinref30_For.j7 k x0 552 (⟨#[53, 46, 51, 46, 52, 32, 116, 111, 111, 32, 109, 117, 99, 104]⟩ : ByteArray)) else (bulletinref30_For.j7 k x0 x3 x4)
def bulletinref30_For.j7 : Nat → Int → Int → ByteArray → Option (Int × List ByteArray)
  | 0, _, _, _ => none
  | k + 1, x0, x3, x4 => if x0 = 130 then (bulletinref30_For.j8 k x0 553 (⟨#[53, 46, 49, 46, 51, 32, 110, 111, 32, 115, 117, 99, 104, 32, 97, 100, 100, 114, 101, 115, 115]⟩ : ByteArray)) else (bulletinref30_For.j8 k x0 x3 x4)
def bulletinref30_For.j8 : Nat → Int → Int → ByteArray → Option (Int × List ByteArray)
  | 0, _, _, _ => none
  | k + 1, x0, x3, x4 => if x0 = 480 then (bulletinref30_For.j9 k x0 x3 x4 true) else (if x0 = 150 then (bulletinref30_For.j9 k x0 x3 x4 true) else (bulletinref30_For.j9 k x0 x3 x4 (x0 == 200)))
def bulletinref30_For.j9 : Nat → Int → Int → ByteArray → Bool → Option (Int × List ByteArray)
  | 0, _, _, _, _ => none
  | k + 1, x0, x3, x4, x34 => if x34 = true then (bulletinref30_For.j10 k x0 554 (⟨#[53, 46, 54, 46, 48, 32, 110, 111, 32, 109, 101, 115, 115, 97, 103, 101]⟩ : ByteArray)) else (bulletinref30_For.j10 k x0 x3 x4)
def bulletinref30_For.j10 : Nat → Int → Int → ByteArray → Option (Int × List ByteArray)
  | 0, _, _, _ => none
  | k + 1, x0, x3, x4 => if x0 = 1 then (bulletinref30_For.j11 k x0 555 (⟨#[53, 46, 53, 46, 52, 32, 110, 111, 32, 115, 117, 99, 104, 32, 112, 97, 114, 97, 109, 101, 116, 101, 114]⟩ : ByteArray)) else (bulletinref30_For.j11 k x0 x3 x4)
def bulletinref30_For.j11 : Nat → Int → Int → ByteArray → Option (Int × List ByteArray)
  | 0, _, _, _ => none
  | k + 1, x0, x3, x4 => if x0 = 430 then (bulletinref30_For.j12 k x0 451 (⟨#[52, 46, 51, 46, 48, 32, 110, 111, 116, 32, 110, 111, 119, 44, 32, 116, 114, 121, 32, 97, 103, 97, 105, 110]⟩ : ByteArray)) else (bulletinref30_For.j12 k x0 x3 x4)
def bulletinref30_For.j12 : Nat → Int → Int → ByteArray → Option (Int × List ByteArray)
  | 0, _, _, _ => none
  | k + 1, x0, x3, x4 => if x0 = 8 then (bulletinref30_For.j13 k x0 x3 x4 true) else (bulletinref30_For.j13 k x0 x3 x4 (x0 == 81))
def bulletinref30_For.j13 : Nat → Int → Int → ByteArray → Bool → Option (Int × List ByteArray)
  | 0, _, _, _, _ => none
  | k + 1, x0, x3, x4, x44 => if x44 = true then (if x0 = 80 then (some (421, (([(⟨#[52, 46, 51, 46, 50, 32, 103, 111, 105, 110, 103, 32, 97, 119, 97, 121]⟩ : ByteArray)] : List ByteArray)))) else (some (452, (([(⟨#[52, 46, 51, 46, 49, 32, 110, 111, 32, 114, 111, 111, 109, 44, 32, 116, 114, 121, 32, 97, 103, 97, 105, 110]⟩ : ByteArray)] : List ByteArray))))) else (if x0 = 80 then (some (421, (([(⟨#[52, 46, 51, 46, 50, 32, 103, 111, 105, 110, 103, 32, 97, 119, 97, 121]⟩ : ByteArray)] : List ByteArray)))) else (some (x3, (([x4] : List ByteArray)))))
end
def bulletinref30_For.f (k : Nat) (a0 : Int) : Option (Int × List ByteArray) := if a0 = 0 then (bulletinref30_For.j0 k a0 250 (⟨#[50, 46, 48, 46, 48, 32, 100, 111, 110, 101]⟩ : ByteArray)) else (bulletinref30_For.j0 k a0 554 (⟨#[53, 46, 48, 46, 48, 32, 110, 111]⟩ : ByteArray))
theorem bulletinref30_For.mono_l : ∀ k, (∀ y0 y1 y2, LeO (bulletinref30_For.j0 k y0 y1 y2) (bulletinref30_For.j0 (k + 1) y0 y1 y2)) ∧ (∀ y0 y1 y2, LeO (bulletinref30_For.j1 k y0 y1 y2) (bulletinref30_For.j1 (k + 1) y0 y1 y2)) ∧ (∀ y0 y1 y2 y3, LeO (bulletinref30_For.j2 k y0 y1 y2 y3) (bulletinref30_For.j2 (k + 1) y0 y1 y2 y3)) ∧ (∀ y0 y1 y2, LeO (bulletinref30_For.j3 k y0 y1 y2) (bulletinref30_For.j3 (k + 1) y0 y1 y2)) ∧ (∀ y0 y1 y2, LeO (bulletinref30_For.j4 k y0 y1 y2) (bulletinref30_For.j4 (k + 1) y0 y1 y2)) ∧ (∀ y0 y1 y2, LeO (bulletinref30_For.j5 k y0 y1 y2) (bulletinref30_For.j5 (k + 1) y0 y1 y2)) ∧ (∀ y0 y1 y2, LeO (bulletinref30_For.j6 k y0 y1 y2) (bulletinref30_For.j6 (k + 1) y0 y1 y2)) ∧ (∀ y0 y1 y2, LeO (bulletinref30_For.j7 k y0 y1 y2) (bulletinref30_For.j7 (k + 1) y0 y1 y2)) ∧ (∀ y0 y1 y2, LeO (bulletinref30_For.j8 k y0 y1 y2) (bulletinref30_For.j8 (k + 1) y0 y1 y2)) ∧ (∀ y0 y1 y2 y3, LeO (bulletinref30_For.j9 k y0 y1 y2 y3) (bulletinref30_For.j9 (k + 1) y0 y1 y2 y3)) ∧ (∀ y0 y1 y2, LeO (bulletinref30_For.j10 k y0 y1 y2) (bulletinref30_For.j10 (k + 1) y0 y1 y2)) ∧ (∀ y0 y1 y2, LeO (bulletinref30_For.j11 k y0 y1 y2) (bulletinref30_For.j11 (k + 1) y0 y1 y2)) ∧ (∀ y0 y1 y2, LeO (bulletinref30_For.j12 k y0 y1 y2) (bulletinref30_For.j12 (k + 1) y0 y1 y2)) ∧ (∀ y0 y1 y2 y3, LeO (bulletinref30_For.j13 k y0 y1 y2 y3) (bulletinref30_For.j13 (k + 1) y0 y1 y2 y3))
  | 0 => ⟨fun _ _ _ r h => by simp [bulletinref30_For.j0] at h, fun _ _ _ r h => by simp [bulletinref30_For.j1] at h, fun _ _ _ _ r h => by simp [bulletinref30_For.j2] at h, fun _ _ _ r h => by simp [bulletinref30_For.j3] at h, fun _ _ _ r h => by simp [bulletinref30_For.j4] at h, fun _ _ _ r h => by simp [bulletinref30_For.j5] at h, fun _ _ _ r h => by simp [bulletinref30_For.j6] at h, fun _ _ _ r h => by simp [bulletinref30_For.j7] at h, fun _ _ _ r h => by simp [bulletinref30_For.j8] at h, fun _ _ _ _ r h => by simp [bulletinref30_For.j9] at h, fun _ _ _ r h => by simp [bulletinref30_For.j10] at h, fun _ _ _ r h => by simp [bulletinref30_For.j11] at h, fun _ _ _ r h => by simp [bulletinref30_For.j12] at h, fun _ _ _ _ r h => by simp [bulletinref30_For.j13] at h⟩
  | k + 1 => by
    obtain ⟨ih0, ih1, ih2, ih3, ih4, ih5, ih6, ih7, ih8, ih9, ih10, ih11, ih12, ih13⟩ := bulletinref30_For.mono_l k
    refine ⟨?_, ?_, ?_, ?_, ?_, ?_, ?_, ?_, ?_, ?_, ?_, ?_, ?_, ?_⟩
    · intro y0 y1 y2
      unfold bulletinref30_For.j0
      repeat' first
      | (with_reducible exact ih0 _ _ _)
      | (with_reducible exact ih1 _ _ _)
      | (with_reducible exact ih2 _ _ _ _)
      | (with_reducible exact ih3 _ _ _)
      | (with_reducible exact ih4 _ _ _)
      | (with_reducible exact ih5 _ _ _)
      | (with_reducible exact ih6 _ _ _)
      | (with_reducible exact ih7 _ _ _)
      | (with_reducible exact ih8 _ _ _)
      | (with_reducible exact ih9 _ _ _ _)
      | (with_reducible exact ih10 _ _ _)
      | (with_reducible exact ih11 _ _ _)
      | (with_reducible exact ih12 _ _ _)
      | (with_reducible exact ih13 _ _ _ _)
      | (with_reducible exact LeO.refl _)
      | (with_reducible exact LeO.none _)
      | (with_reducible refine LeO.ite ?_ ?_)
      | (with_reducible refine LeO.bind ?_ (fun _ => ?_))
      | exact ih0 _ _ _
      | exact ih1 _ _ _
      | exact ih2 _ _ _ _
      | exact ih3 _ _ _
      | exact ih4 _ _ _
      | exact ih5 _ _ _
      | exact ih6 _ _ _
      | exact ih7 _ _ _
      | exact ih8 _ _ _
      | exact ih9 _ _ _ _
      | exact ih10 _ _ _
      | exact ih11 _ _ _
      | exact ih12 _ _ _
      | exact ih13 _ _ _ _
      | exact LeO.none _
      | refine LeO.ite ?_ ?_
      | refine LeO.bind ?_ (fun _ => ?_)
    · intro y0 y1 y2
      unfold bulletinref30_For.j1
      repeat' first
      | (with_reducible exact ih0 _ _ _)
      | (with_reducible exact ih1 _ _ _)
      | (with_reducible exact ih2 _ _ _ _)
      | (with_reducible exact ih3 _ _ _)
      | (with_reducible exact ih4 _ _ _)
      | (with_reducible exact ih5 _ _ _)
      | (with_reducible exact ih6 _ _ _)
      | (with_reducible exact ih7 _ _ _)
      | (with_reducible exact ih8 _ _ _)
      | (with_reducible exact ih9 _ _ _ _)
      | (with_reducible exact ih10 _ _ _)
      | (with_reducible exact ih11 _ _ _)
      | (with_reducible exact ih12 _ _ _)
      | (with_reducible exact ih13 _ _ _ _)
      | (with_reducible exact LeO.refl _)
      | (with_reducible exact LeO.none _)
      | (with_reducible refine LeO.ite ?_ ?_)
      | (with_reducible refine LeO.bind ?_ (fun _ => ?_))
      | exact ih0 _ _ _
      | exact ih1 _ _ _
      | exact ih2 _ _ _ _
      | exact ih3 _ _ _
      | exact ih4 _ _ _
      | exact ih5 _ _ _
      | exact ih6 _ _ _
      | exact ih7 _ _ _
      | exact ih8 _ _ _
      | exact ih9 _ _ _ _
      | exact ih10 _ _ _
      | exact ih11 _ _ _
      | exact ih12 _ _ _
      | exact ih13 _ _ _ _
      | exact LeO.none _
      | refine LeO.ite ?_ ?_
      | refine LeO.bind ?_ (fun _ => ?_)
    · intro y0 y1 y2 y3
      unfold bulletinref30_For.j2
      repeat' first
      | (with_reducible exact ih0 _ _ _)
      | (with_reducible exact ih1 _ _ _)
      | (with_reducible exact ih2 _ _ _ _)
      | (with_reducible exact ih3 _ _ _)
      | (with_reducible exact ih4 _ _ _)
      | (with_reducible exact ih5 _ _ _)
      | (with_reducible exact ih6 _ _ _)
      | (with_reducible exact ih7 _ _ _)
      | (with_reducible exact ih8 _ _ _)
      | (with_reducible exact ih9 _ _ _ _)
      | (with_reducible exact ih10 _ _ _)
      | (with_reducible exact ih11 _ _ _)
      | (with_reducible exact ih12 _ _ _)
      | (with_reducible exact ih13 _ _ _ _)
      | (with_reducible exact LeO.refl _)
      | (with_reducible exact LeO.none _)
      | (with_reducible refine LeO.ite ?_ ?_)
      | (with_reducible refine LeO.bind ?_ (fun _ => ?_))
      | exact ih0 _ _ _
      | exact ih1 _ _ _
      | exact ih2 _ _ _ _
      | exact ih3 _ _ _
      | exact ih4 _ _ _
      | exact ih5 _ _ _
      | exact ih6 _ _ _
      | exact ih7 _ _ _
      | exact ih8 _ _ _
      | exact ih9 _ _ _ _
      | exact ih10 _ _ _
      | exact ih11 _ _ _
      | exact ih12 _ _ _
      | exact ih13 _ _ _ _
      | exact LeO.none _
      | refine LeO.ite ?_ ?_
      | refine LeO.bind ?_ (fun _ => ?_)
    · intro y0 y1 y2
      unfold bulletinref30_For.j3
      repeat' first
      | (with_reducible exact ih0 _ _ _)
      | (with_reducible exact ih1 _ _ _)
      | (with_reducible exact ih2 _ _ _ _)
      | (with_reducible exact ih3 _ _ _)
      | (with_reducible exact ih4 _ _ _)
      | (with_reducible exact ih5 _ _ _)
      | (with_reducible exact ih6 _ _ _)
      | (with_reducible exact ih7 _ _ _)
      | (with_reducible exact ih8 _ _ _)
      | (with_reducible exact ih9 _ _ _ _)
      | (with_reducible exact ih10 _ _ _)
      | (with_reducible exact ih11 _ _ _)
      | (with_reducible exact ih12 _ _ _)
      | (with_reducible exact ih13 _ _ _ _)
      | (with_reducible exact LeO.refl _)
      | (with_reducible exact LeO.none _)
      | (with_reducible refine LeO.ite ?_ ?_)
      | (with_reducible refine LeO.bind ?_ (fun _ => ?_))
      | exact ih0 _ _ _
      | exact ih1 _ _ _
      | exact ih2 _ _ _ _
      | exact ih3 _ _ _
      | exact ih4 _ _ _
      | exact ih5 _ _ _
      | exact ih6 _ _ _
      | exact ih7 _ _ _
      | exact ih8 _ _ _
      | exact ih9 _ _ _ _
      | exact ih10 _ _ _
      | exact ih11 _ _ _
      | exact ih12 _ _ _
      | exact ih13 _ _ _ _
      | exact LeO.none _
      | refine LeO.ite ?_ ?_
      | refine LeO.bind ?_ (fun _ => ?_)
    · intro y0 y1 y2
      unfold bulletinref30_For.j4
      repeat' first
      | (with_reducible exact ih0 _ _ _)
      | (with_reducible exact ih1 _ _ _)
      | (with_reducible exact ih2 _ _ _ _)
      | (with_reducible exact ih3 _ _ _)
      | (with_reducible exact ih4 _ _ _)
      | (with_reducible exact ih5 _ _ _)
      | (with_reducible exact ih6 _ _ _)
      | (with_reducible exact ih7 _ _ _)
      | (with_reducible exact ih8 _ _ _)
      | (with_reducible exact ih9 _ _ _ _)
      | (with_reducible exact ih10 _ _ _)
      | (with_reducible exact ih11 _ _ _)
      | (with_reducible exact ih12 _ _ _)
      | (with_reducible exact ih13 _ _ _ _)
      | (with_reducible exact LeO.refl _)
      | (with_reducible exact LeO.none _)
      | (with_reducible refine LeO.ite ?_ ?_)
      | (with_reducible refine LeO.bind ?_ (fun _ => ?_))
      | exact ih0 _ _ _
      | exact ih1 _ _ _
      | exact ih2 _ _ _ _
      | exact ih3 _ _ _
      | exact ih4 _ _ _
      | exact ih5 _ _ _
      | exact ih6 _ _ _
      | exact ih7 _ _ _
      | exact ih8 _ _ _
      | exact ih9 _ _ _ _
      | exact ih10 _ _ _
      | exact ih11 _ _ _
      | exact ih12 _ _ _
      | exact ih13 _ _ _ _
      | exact LeO.none _
      | refine LeO.ite ?_ ?_
      | refine LeO.bind ?_ (fun _ => ?_)
    · intro y0 y1 y2
      unfold bulletinref30_For.j5
      repeat' first
      | (with_reducible exact ih0 _ _ _)
      | (with_reducible exact ih1 _ _ _)
      | (with_reducible exact ih2 _ _ _ _)
      | (with_reducible exact ih3 _ _ _)
      | (with_reducible exact ih4 _ _ _)
      | (with_reducible exact ih5 _ _ _)
      | (with_reducible exact ih6 _ _ _)
      | (with_reducible exact ih7 _ _ _)
      | (with_reducible exact ih8 _ _ _)
      | (with_reducible exact ih9 _ _ _ _)
      | (with_reducible exact ih10 _ _ _)
      | (with_reducible exact ih11 _ _ _)
      | (with_reducible exact ih12 _ _ _)
      | (with_reducible exact ih13 _ _ _ _)
      | (with_reducible exact LeO.refl _)
      | (with_reducible exact LeO.none _)
      | (with_reducible refine LeO.ite ?_ ?_)
      | (with_reducible refine LeO.bind ?_ (fun _ => ?_))
      | exact ih0 _ _ _
      | exact ih1 _ _ _
      | exact ih2 _ _ _ _
      | exact ih3 _ _ _
      | exact ih4 _ _ _
      | exact ih5 _ _ _
      | exact ih6 _ _ _
      | exact ih7 _ _ _
      | exact ih8 _ _ _
      | exact ih9 _ _ _ _
      | exact ih10 _ _ _
      | exact ih11 _ _ _
      | exact ih12 _ _ _
      | exact ih13 _ _ _ _
      | exact LeO.none _
      | refine LeO.ite ?_ ?_
      | refine LeO.bind ?_ (fun _ => ?_)
    · intro y0 y1 y2
      unfold bulletinref30_For.j6
      repeat' first
      | (with_reducible exact ih0 _ _ _)
      | (with_reducible exact ih1 _ _ _)
      | (with_reducible exact ih2 _ _ _ _)
      | (with_reducible exact ih3 _ _ _)
      | (with_reducible exact ih4 _ _ _)
      | (with_reducible exact ih5 _ _ _)
      | (with_reducible exact ih6 _ _ _)
      | (with_reducible exact ih7 _ _ _)
      | (with_reducible exact ih8 _ _ _)
      | (with_reducible exact ih9 _ _ _ _)
      | (with_reducible exact ih10 _ _ _)
      | (with_reducible exact ih11 _ _ _)
      | (with_reducible exact ih12 _ _ _)
      | (with_reducible exact ih13 _ _ _ _)
      | (with_reducible exact LeO.refl _)
      | (with_reducible exact LeO.none _)
      | (with_reducible refine LeO.ite ?_ ?_)
      | (with_reducible refine LeO.bind ?_ (fun _ => ?_))
      | exact ih0 _ _ _
      | exact ih1 _ _ _
      | exact ih2 _ _ _ _
      | exact ih3 _ _ _
      | exact ih4 _ _ _
      | exact ih5 _ _ _
      | exact ih6 _ _ _
      | exact ih7 _ _ _
      | exact ih8 _ _ _
      | exact ih9 _ _ _ _
      | exact ih10 _ _ _
      | exact ih11 _ _ _
      | exact ih12 _ _ _
      | exact ih13 _ _ _ _
      | exact LeO.none _
      | refine LeO.ite ?_ ?_
      | refine LeO.bind ?_ (fun _ => ?_)
    · intro y0 y1 y2
      unfold bulletinref30_For.j7
      repeat' first
      | (with_reducible exact ih0 _ _ _)
      | (with_reducible exact ih1 _ _ _)
      | (with_reducible exact ih2 _ _ _ _)
      | (with_reducible exact ih3 _ _ _)
      | (with_reducible exact ih4 _ _ _)
      | (with_reducible exact ih5 _ _ _)
      | (with_reducible exact ih6 _ _ _)
      | (with_reducible exact ih7 _ _ _)
      | (with_reducible exact ih8 _ _ _)
      | (with_reducible exact ih9 _ _ _ _)
      | (with_reducible exact ih10 _ _ _)
      | (with_reducible exact ih11 _ _ _)
      | (with_reducible exact ih12 _ _ _)
      | (with_reducible exact ih13 _ _ _ _)
      | (with_reducible exact LeO.refl _)
      | (with_reducible exact LeO.none _)
      | (with_reducible refine LeO.ite ?_ ?_)
      | (with_reducible refine LeO.bind ?_ (fun _ => ?_))
      | exact ih0 _ _ _
      | exact ih1 _ _ _
      | exact ih2 _ _ _ _
      | exact ih3 _ _ _
      | exact ih4 _ _ _
      | exact ih5 _ _ _
      | exact ih6 _ _ _
      | exact ih7 _ _ _
      | exact ih8 _ _ _
      | exact ih9 _ _ _ _
      | exact ih10 _ _ _
      | exact ih11 _ _ _
      | exact ih12 _ _ _
      | exact ih13 _ _ _ _
      | exact LeO.none _
      | refine LeO.ite ?_ ?_
      | refine LeO.bind ?_ (fun _ => ?_)
    · intro y0 y1 y2
      unfold bulletinref30_For.j8
      repeat' first
      | (with_reducible exact ih0 _ _ _)
      | (with_reducible exact ih1 _ _ _)
      | (with_reducible exact ih2 _ _ _ _)
      | (with_reducible exact ih3 _ _ _)
      | (with_reducible exact ih4 _ _ _)
      | (with_reducible exact ih5 _ _ _)
      | (with_reducible exact ih6 _ _ _)
      | (with_reducible exact ih7 _ _ _)
      | (with_reducible exact ih8 _ _ _)
      | (with_reducible exact ih9 _ _ _ _)
      | (with_reducible exact ih10 _ _ _)
      | (with_reducible exact ih11 _ _ _)
      | (with_reducible exact ih12 _ _ _)
      | (with_reducible exact ih13 _ _ _ _)
      | (with_reducible exact LeO.refl _)
      | (with_reducible exact LeO.none _)
      | (with_reducible refine LeO.ite ?_ ?_)
      | (with_reducible refine LeO.bind ?_ (fun _ => ?_))
      | exact ih0 _ _ _
      | exact ih1 _ _ _
      | exact ih2 _ _ _ _
      | exact ih3 _ _ _
      | exact ih4 _ _ _
      | exact ih5 _ _ _
      | exact ih6 _ _ _
      | exact ih7 _ _ _
      | exact ih8 _ _ _
      | exact ih9 _ _ _ _
      | exact ih10 _ _ _
      | exact ih11 _ _ _
      | exact ih12 _ _ _
      | exact ih13 _ _ _ _
      | exact LeO.none _
      | refine LeO.ite ?_ ?_
      | refine LeO.bind ?_ (fun _ => ?_)
    · intro y0 y1 y2 y3
      unfold bulletinref30_For.j9
      repeat' first
      | (with_reducible exact ih0 _ _ _)
      | (with_reducible exact ih1 _ _ _)
      | (with_reducible exact ih2 _ _ _ _)
      | (with_reducible exact ih3 _ _ _)
      | (with_reducible exact ih4 _ _ _)
      | (with_reducible exact ih5 _ _ _)
      | (with_reducible exact ih6 _ _ _)
      | (with_reducible exact ih7 _ _ _)
      | (with_reducible exact ih8 _ _ _)
      | (with_reducible exact ih9 _ _ _ _)
      | (with_reducible exact ih10 _ _ _)
      | (with_reducible exact ih11 _ _ _)
      | (with_reducible exact ih12 _ _ _)
      | (with_reducible exact ih13 _ _ _ _)
      | (with_reducible exact LeO.refl _)
      | (with_reducible exact LeO.none _)
      | (with_reducible refine LeO.ite ?_ ?_)
      | (with_reducible refine LeO.bind ?_ (fun _ => ?_))
      | exact ih0 _ _ _
      | exact ih1 _ _ _
      | exact ih2 _ _ _ _
      | exact ih3 _ _ _
      | exact ih4 _ _ _
      | exact ih5 _ _ _
      | exact ih6 _ _ _
      | exact ih7 _ _ _
      | exact ih8 _ _ _
      | exact ih9 _ _ _ _
      | exact ih10 _ _ _
      | exact ih11 _ _ _
      | exact ih12 _ _ _
      | exact ih13 _ _ _ _
      | exact LeO.none _
      | refine LeO.ite ?_ ?_
      | refine LeO.bind ?_ (fun _ => ?_)
    · intro y0 y1 y2
      unfold bulletinref30_For.j10
      repeat' first
      | (with_reducible exact ih0 _ _ _)
      | (with_reducible exact ih1 _ _ _)
      | (with_reducible exact ih2 _ _ _ _)
      | (with_reducible exact ih3 _ _ _)
      | (with_reducible exact ih4 _ _ _)
      | (with_reducible exact ih5 _ _ _)
      | (with_reducible exact ih6 _ _ _)
      | (with_reducible exact ih7 _ _ _)
      | (with_reducible exact ih8 _ _ _)
      | (with_reducible exact ih9 _ _ _ _)
      | (with_reducible exact ih10 _ _ _)
      | (with_reducible exact ih11 _ _ _)
      | (with_reducible exact ih12 _ _ _)
      | (with_reducible exact ih13 _ _ _ _)
      | (with_reducible exact LeO.refl _)
      | (with_reducible exact LeO.none _)
      | (with_reducible refine LeO.ite ?_ ?_)
      | (with_reducible refine LeO.bind ?_ (fun _ => ?_))
      | exact ih0 _ _ _
      | exact ih1 _ _ _
      | exact ih2 _ _ _ _
      | exact ih3 _ _ _
      | exact ih4 _ _ _
      | exact ih5 _ _ _
      | exact ih6 _ _ _
      | exact ih7 _ _ _
      | exact ih8 _ _ _
      | exact ih9 _ _ _ _
      | exact ih10 _ _ _
      | exact ih11 _ _ _
      | exact ih12 _ _ _
      | exact ih13 _ _ _ _
      | exact LeO.none _
      | refine LeO.ite ?_ ?_
      | refine LeO.bind ?_ (fun _ => ?_)
    · intro y0 y1 y2
      unfold bulletinref30_For.j11
      repeat' first
      | (with_reducible exact ih0 _ _ _)
      | (with_reducible exact ih1 _ _ _)
      | (with_reducible exact ih2 _ _ _ _)
      | (with_reducible exact ih3 _ _ _)
      | (with_reducible exact ih4 _ _ _)
      | (with_reducible exact ih5 _ _ _)
      | (with_reducible exact ih6 _ _ _)
      | (with_reducible exact ih7 _ _ _)
      | (with_reducible exact ih8 _ _ _)
      | (with_reducible exact ih9 _ _ _ _)
      | (with_reducible exact ih10 _ _ _)
      | (with_reducible exact ih11 _ _ _)
      | (with_reducible exact ih12 _ _ _)
      | (with_reducible exact ih13 _ _ _ _)
      | (with_reducible exact LeO.refl _)
      | (with_reducible exact LeO.none _)
      | (with_reducible refine LeO.ite ?_ ?_)
      | (with_reducible refine LeO.bind ?_ (fun _ => ?_))
      | exact ih0 _ _ _
      | exact ih1 _ _ _
      | exact ih2 _ _ _ _
      | exact ih3 _ _ _
      | exact ih4 _ _ _
      | exact ih5 _ _ _
      | exact ih6 _ _ _
      | exact ih7 _ _ _
      | exact ih8 _ _ _
      | exact ih9 _ _ _ _
      | exact ih10 _ _ _
      | exact ih11 _ _ _
      | exact ih12 _ _ _
      | exact ih13 _ _ _ _
      | exact LeO.none _
      | refine LeO.ite ?_ ?_
      | refine LeO.bind ?_ (fun _ => ?_)
    · intro y0 y1 y2
      unfold bulletinref30_For.j12
      repeat' first
      | (with_reducible exact ih0 _ _ _)
      | (with_reducible exact ih1 _ _ _)
      | (with_reducible exact ih2 _ _ _ _)
      | (with_reducible exact ih3 _ _ _)
      | (with_reducible exact ih4 _ _ _)
      | (with_reducible exact ih5 _ _ _)
      | (with_reducible exact ih6 _ _ _)
      | (with_reducible exact ih7 _ _ _)
      | (with_reducible exact ih8 _ _ _)
      | (with_reducible exact ih9 _ _ _ _)
      | (with_reducible exact ih10 _ _ _)
      | (with_reducible exact ih11 _ _ _)
      | (with_reducible exact ih12 _ _ _)
      | (with_reducible exact ih13 _ _ _ _)
      | (with_reducible exact LeO.refl _)
      | (with_reducible exact LeO.none _)
      | (with_reducible refine LeO.ite ?_ ?_)
      | (with_reducible refine LeO.bind ?_ (fun _ => ?_))
      | exact ih0 _ _ _
      | exact ih1 _ _ _
      | exact ih2 _ _ _ _
      | exact ih3 _ _ _
      | exact ih4 _ _ _
      | exact ih5 _ _ _
      | exact ih6 _ _ _
      | exact ih7 _ _ _
      | exact ih8 _ _ _
      | exact ih9 _ _ _ _
      | exact ih10 _ _ _
      | exact ih11 _ _ _
      | exact ih12 _ _ _
      | exact ih13 _ _ _ _
      | exact LeO.none _
      | refine LeO.ite ?_ ?_
      | refine LeO.bind ?_ (fun _ => ?_)
    · intro y0 y1 y2 y3
      unfold bulletinref30_For.j13
      repeat' first
      | (with_reducible exact ih0 _ _ _)
      | (with_reducible exact ih1 _ _ _)
      | (with_reducible exact ih2 _ _ _ _)
      | (with_reducible exact ih3 _ _ _)
      | (with_reducible exact ih4 _ _ _)
      | (with_reducible exact ih5 _ _ _)
      | (with_reducible exact ih6 _ _ _)
      | (with_reducible exact ih7 _ _ _)
      | (with_reducible exact ih8 _ _ _)
      | (with_reducible exact ih9 _ _ _ _)
      | (with_reducible exact ih10 _ _ _)
      | (with_reducible exact ih11 _ _ _)
      | (with_reducible exact ih12 _ _ _)
      | (with_reducible exact ih13 _ _ _ _)
      | (with_reducible exact LeO.refl _)
      | (with_reducible exact LeO.none _)
      | (with_reducible refine LeO.ite ?_ ?_)
      | (with_reducible refine LeO.bind ?_ (fun _ => ?_))
      | exact ih0 _ _ _
      | exact ih1 _ _ _
      | exact ih2 _ _ _ _
      | exact ih3 _ _ _
      | exact ih4 _ _ _
      | exact ih5 _ _ _
      | exact ih6 _ _ _
      | exact ih7 _ _ _
      | exact ih8 _ _ _
      | exact ih9 _ _ _ _
      | exact ih10 _ _ _
      | exact ih11 _ _ _
      | exact ih12 _ _ _
      | exact ih13 _ _ _ _
      | exact LeO.none _
      | refine LeO.ite ?_ ?_
      | refine LeO.bind ?_ (fun _ => ?_)
theorem bulletinref30_For.mono : ∀ a0 k, LeO (bulletinref30_For.f k a0) (bulletinref30_For.f (k + 1) a0) := by
  intro a0 k
  obtain ⟨ih0, ih1, ih2, ih3, ih4, ih5, ih6, ih7, ih8, ih9, ih10, ih11, ih12, ih13⟩ := bulletinref30_For.mono_l k
  unfold bulletinref30_For.f
  repeat' first
      | (with_reducible exact ih0 _ _ _)
      | (with_reducible exact ih1 _ _ _)
      | (with_reducible exact ih2 _ _ _ _)
      | (with_reducible exact ih3 _ _ _)
      | (with_reducible exact ih4 _ _ _)
      | (with_reducible exact ih5 _ _ _)
      | (with_reducible exact ih6 _ _ _)
      | (with_reducible exact ih7 _ _ _)
      | (with_reducible exact ih8 _ _ _)
      | (with_reducible exact ih9 _ _ _ _)
      | (with_reducible exact ih10 _ _ _)
      | (with_reducible exact ih11 _ _ _)
      | (with_reducible exact ih12 _ _ _)
      | (with_reducible exact ih13 _ _ _ _)
      | (with_reducible exact LeO.refl _)
      | (with_reducible exact LeO.none _)
      | (with_reducible refine LeO.ite ?_ ?_)
      | (with_reducible refine LeO.bind ?_ (fun _ => ?_))
      | exact ih0 _ _ _
      | exact ih1 _ _ _
      | exact ih2 _ _ _ _
      | exact ih3 _ _ _
      | exact ih4 _ _ _
      | exact ih5 _ _ _
      | exact ih6 _ _ _
      | exact ih7 _ _ _
      | exact ih8 _ _ _
      | exact ih9 _ _ _ _
      | exact ih10 _ _ _
      | exact ih11 _ _ _
      | exact ih12 _ _ _
      | exact ih13 _ _ _ _
      | exact LeO.none _
      | refine LeO.ite ?_ ?_
      | refine LeO.bind ?_ (fun _ => ?_)
set_option maxHeartbeats 8000000 in
set_option maxRecDepth 100000 in
theorem bulletinref30_For.calls (k : Nat) (a0 : Int) (r1 : Int) (r2 : List ByteArray) (w : World) (h : bulletinref30_For.f k a0 = some (r1, r2)) :
    Calls Tryd.prog 21 #[.int .i64 a0] w fun e w' => ∃ v1_ : Value, e = .returned (.agg #[.int .i64 r1, v1_]) ∧ Kd.R Kd.string 9 w' w.heap.size (fun _ => True) v1_ r2 ∧ Below w.heap.size w w' := by
  have hu29 := Tryd.underlying29
  have HB := Aside0.mk (Below.refl w.heap.size w)
  have H : (if a0 = 0 then (bulletinref30_For.j0 k a0 250 (⟨#[50, 46, 48, 46, 48, 32, 100, 111, 110, 101]⟩ : ByteArray)) else (bulletinref30_For.j0 k a0 554 (⟨#[53, 46, 48, 46, 48, 32, 110, 111]⟩ : ByteArray))) = some (r1, r2) := h
  clear h
  have HC2 := Aside0.mk H
  clear H
  go_enter Tryd.func21, Tryd.ntmps21
  go_upto_if 6 with (first | ((with_reducible refine gate_dst (N := 2) rfl ?_); refine box_event ?hg (N := 2) ?hd (cs := #[.int .i64 0, .slice none 0 0]) (t := 29) ?hr ?_; (case hd => rfl); (case hg => rfl); (case hr => first | (go_simp; done) | (go_simp; rfl)); intro gb320 hg w3 hbox hb; have n0_ := Aside0.mk (below_step (by repeat (first | (with_reducible first | exact HB.out | apply below_alloc | apply pw_below_drewN | apply below_drew1) | exact HB.out)) hb); have n1_ := Aside0.mk (hbox); have n2_ := Aside0.mk ((by rw [hg]; exact (below_size (by repeat (first | (with_reducible first | exact HB.out | apply below_alloc | apply pw_below_drewN | apply below_drew1) | exact HB.out))) : w.heap.size ≤ gb320)); have n3_ := Aside0.mk ((by rw [hg]; exact (below_size (by repeat (first | (with_reducible first | exact HB.out | apply below_alloc | apply pw_below_drewN | apply below_drew1) | exact HB.out))) : w.heap.size ≤ gb320)); clear HB; have HB := n0_; have BK320 := n1_; have GW320 := n2_; have GE320 := n3_; clear n0_ n1_ n2_ n3_; clear hb hbox hg))
  (try simp only [Act.put, List.setIfInBounds_toArray, List.set_cons_zero, List.set_cons_succ])
  go_cut [3, 4] (fun v3 v4 wc => ∃ (kq : Nat) (x3_1 : Int) (x4_1 : ByteArray), v3 = .int .i64 x3_1 ∧ v4 = .string x4_1 ∧ Aside0 (bulletinref30_For.j0 kq a0 x3_1 x4_1 = some (r1, r2)) ∧ Aside0 (kq ≤ k) ∧ Aside0 (wc.heap[gb320]? = some (.cells #[.int .i64 0, (.slice none 0 0)] 29 (0, 0))) ∧ Aside0 (Below w.heap.size w wc))
  case first =>
    have H := HC2.out
    clear HC2
    by_cases c4 : a0 = 0
    · rw [if_pos c4] at H
      have c4b0 : (a0 == 0) = true := beq_iff_eq.mpr c4
      have c4b1 : (a0 != 0) = false := bne_eq_false_iff_eq.mpr c4
      clear c4
      (first | rw [c4b0] | (simp only [i64_w, i32_w]; rw [c4b0]) | skip)
      have H' := Aside0.mk H
      clear H
      go_wp2
      go_meet
      case rel => exact ⟨_, (250), ((⟨#[50, 46, 48, 46, 48, 32, 100, 111, 110, 101]⟩ : ByteArray)), (by first | rfl | (simp; done) | (simp [*]; done)), (by first | rfl | (simp; done) | (simp [*]; done)), H', ⟨by first | omega | exact Nat.le_refl _⟩, ⟨by (with_reducible repeat (first | refine blk_drewN ?_ _ | refine blk_drew ?_ | refine blk_alloc ?_ _)); exact BK320.out⟩, ⟨by repeat (first | (with_reducible first | exact HB.out | apply below_alloc | apply pw_below_drewN | apply below_drew1 | refine below_set ?_ GE320.out) | exact HB.out)⟩⟩
    · rw [if_neg c4] at H
      have c4b0 : (a0 == 0) = false := beq_eq_false_iff_ne.mpr c4
      have c4b1 : (a0 != 0) = true := bne_iff_ne.mpr c4
      (first | rw [c4b0] | (simp only [i64_w, i32_w]; rw [c4b0]) | skip)
      have H' := Aside0.mk H
      clear H
      go_wp2
      go_meet
      case rel => exact ⟨_, (554), ((⟨#[53, 46, 48, 46, 48, 32, 110, 111]⟩ : ByteArray)), (by first | rfl | (simp; done) | (simp [*]; done)), (by first | rfl | (simp; done) | (simp [*]; done)), H', ⟨by first | omega | exact Nat.le_refl _⟩, ⟨by (with_reducible repeat (first | refine blk_drewN ?_ _ | refine blk_drew ?_ | refine blk_alloc ?_ _)); exact BK320.out⟩, ⟨by repeat (first | (with_reducible first | exact HB.out | apply below_alloc | apply pw_below_drewN | apply below_drew1 | refine below_set ?_ GE320.out) | exact HB.out)⟩⟩
  case rest =>
    clear HC2
    try clear c2
    try clear p2
    try clear c4
    try clear c4b0
    try clear c4b1
    obtain ⟨kq, x3_1, x4_1, rfl, rfl, HA, HJ1, BK320, HB⟩ := hcut
    cases kq with
    | zero => exact absurd HA.out (by simp [bulletinref30_For.j0])
    | succ kj1 =>
      have H := HA.out
      clear HA
      simp only [bulletinref30_For.j0] at H
      have HC5 := Aside0.mk H
      clear H
      go_upto_if 8 with (fail)
      go_cut [3, 4] (fun v3 v4 wc => ∃ (kq : Nat) (x3_4 : Int) (x4_4 : ByteArray), v3 = .int .i64 x3_4 ∧ v4 = .string x4_4 ∧ Aside0 (bulletinref30_For.j1 kq a0 x3_4 x4_4 = some (r1, r2)) ∧ Aside0 (kq ≤ kj1) ∧ Aside0 (wc.heap[gb320]? = some (.cells #[.int .i64 0, (.slice none 0 0)] 29 (0, 0))) ∧ Aside0 (Below w.heap.size w wc))
      case first =>
        have H := HC5.out
        clear HC5
        by_cases c6 : a0 = 270
        · rw [if_pos c6] at H
          have c6b0 : (a0 == 270) = true := beq_iff_eq.mpr c6
          have c6b1 : (a0 != 270) = false := bne_eq_false_iff_eq.mpr c6
          clear c6
          (first | rw [c6b0] | (simp only [i64_w, i32_w]; rw [c6b0]) | skip)
          have H' := Aside0.mk H
          clear H
          go_wp2
          go_meet
          case rel => exact ⟨_, (500), ((⟨#[53, 46, 53, 46, 50, 32, 110, 111, 32, 115, 117, 99, 104, 32, 99, 111, 109, 109, 97, 110, 100]⟩ : ByteArray)), (by first | rfl | (simp; done) | (simp [*]; done)), (by first | rfl | (simp; done) | (simp [*]; done)), H', ⟨by have := HJ1.out; first | omega | exact Nat.le_refl _⟩, ⟨by (with_reducible repeat (first | refine blk_drewN ?_ _ | refine blk_drew ?_ | refine blk_alloc ?_ _)); exact BK320.out⟩, ⟨by repeat (first | (with_reducible first | exact HB.out | apply below_alloc | apply pw_below_drewN | apply below_drew1 | refine below_set ?_ GE320.out) | exact HB.out)⟩⟩
        · rw [if_neg c6] at H
          have c6b0 : (a0 == 270) = false := beq_eq_false_iff_ne.mpr c6
          have c6b1 : (a0 != 270) = true := bne_iff_ne.mpr c6
          (first | rw [c6b0] | (simp only [i64_w, i32_w]; rw [c6b0]) | skip)
          have H' := Aside0.mk H
          clear H
          go_wp2
          go_meet
          case rel => exact ⟨_, (x3_1), (x4_1), (by first | rfl | (simp; done) | (simp [*]; done)), (by first | rfl | (simp; done) | (simp [*]; done)), H', ⟨by have := HJ1.out; first | omega | exact Nat.le_refl _⟩, ⟨by (with_reducible repeat (first | refine blk_drewN ?_ _ | refine blk_drew ?_ | refine blk_alloc ?_ _)); exact BK320.out⟩, ⟨by repeat (first | (with_reducible first | exact HB.out | apply below_alloc | apply pw_below_drewN | apply below_drew1 | refine below_set ?_ GE320.out) | exact HB.out)⟩⟩
      case rest =>
        clear HC5
        try clear c2
        try clear p2
        try clear c4
        try clear c4b0
        try clear c4b1
        try clear c6
        try clear c6b0
        try clear c6b1
        try clear p2
        obtain ⟨kq, x3_4, x4_4, rfl, rfl, HA, HJ4, BK320, HB⟩ := hcut
        cases kq with
        | zero => exact absurd HA.out (by simp [bulletinref30_For.j1])
        | succ kj4 =>
          have H := HA.out
          clear HA
          simp only [bulletinref30_For.j1] at H
          have HC7 := Aside0.mk H
          clear H
          go_upto_region 7 with (fail)
          go_cut [14] (fun v14 wc => ∃ (kq : Nat) (x14_6 : Bool), v14 = .bool x14_6 ∧ Aside0 (bulletinref30_For.j2 kq a0 x3_4 x4_4 x14_6 = some (r1, r2)) ∧ Aside0 (kq ≤ kj4) ∧ Aside0 (wc.heap[gb320]? = some (.cells #[.int .i64 0, (.slice none 0 0)] 29 (0, 0))) ∧ Aside0 (Below w.heap.size w wc))
          case first =>
            have H := HC7.out
            clear HC7
            by_cases c8 : a0 = 3
            · rw [if_pos c8] at H
              have c8b0 : (a0 == 3) = true := beq_iff_eq.mpr c8
              have c8b1 : (a0 != 3) = false := bne_eq_false_iff_eq.mpr c8
              clear c8
              (first | rw [c8b0] | (simp only [i64_w, i32_w]; rw [c8b0]) | skip)
              have H' := Aside0.mk H
              clear H
              go_wp2
              go_meet
              case rel => exact ⟨_, (true), (by first | rfl | (simp; done) | (simp [*]; done)), H', ⟨by have := HJ1.out; have := HJ4.out; first | omega | exact Nat.le_refl _⟩, ⟨by (with_reducible repeat (first | refine blk_drewN ?_ _ | refine blk_drew ?_ | refine blk_alloc ?_ _)); exact BK320.out⟩, ⟨by repeat (first | (with_reducible first | exact HB.out | apply below_alloc | apply pw_below_drewN | apply below_drew1 | refine below_set ?_ GE320.out) | exact HB.out)⟩⟩
            · rw [if_neg c8] at H
              have c8b0 : (a0 == 3) = false := beq_eq_false_iff_ne.mpr c8
              have c8b1 : (a0 != 3) = true := bne_iff_ne.mpr c8
              (first | rw [c8b0] | (simp only [i64_w, i32_w]; rw [c8b0]) | skip)
              have H' := Aside0.mk H
              clear H
              go_wp2
              go_meet
              case rel => exact ⟨_, ((a0 == 7)), (by first | rfl | (simp; done) | (simp [*]; done)), H', ⟨by have := HJ1.out; have := HJ4.out; first | omega | exact Nat.le_refl _⟩, ⟨by (with_reducible repeat (first | refine blk_drewN ?_ _ | refine blk_drew ?_ | refine blk_alloc ?_ _)); exact BK320.out⟩, ⟨by repeat (first | (with_reducible first | exact HB.out | apply below_alloc | apply pw_below_drewN | apply below_drew1 | refine below_set ?_ GE320.out) | exact HB.out)⟩⟩
          case rest =>
            clear HC7
            try clear c2
            try clear p2
            try clear c4
            try clear c4b0
            try clear c4b1
            try clear c6
            try clear c6b0
            try clear c6b1
            try clear c8
            try clear c8b0
            try clear c8b1
            try clear p2
            obtain ⟨kq, x14_6, rfl, HA, HJ6, BK320, HB⟩ := hcut
            cases kq with
            | zero => exact absurd HA.out (by simp [bulletinref30_For.j2])
            | succ kj6 =>
              have H := HA.out
              clear HA
              simp only [bulletinref30_For.j2] at H
              have HC9 := Aside0.mk H
              clear H
              go_upto_if 14 with (fail)
              go_cut [3, 4] (fun v3 v4 wc => ∃ (kq : Nat) (x3_8 : Int) (x4_8 : ByteArray), v3 = .int .i64 x3_8 ∧ v4 = .string x4_8 ∧ Aside0 (bulletinref30_For.j3 kq a0 x3_8 x4_8 = some (r1, r2)) ∧ Aside0 (kq ≤ kj6) ∧ Aside0 (wc.heap[gb320]? = some (.cells #[.int .i64 0, (.slice none 0 0)] 29 (0, 0))) ∧ Aside0 (Below w.heap.size w wc))
              case first =>
                have H := HC9.out
                clear HC9
                by_cases c10 : x14_6 = true
                · subst c10
                  have H1 : (bulletinref30_For.j3 kj6 a0 501 (⟨#[53, 46, 53, 46, 52, 32, 110, 111, 116, 32, 108, 105, 107, 101, 32, 116, 104, 97, 116]⟩ : ByteArray)) = some (r1, r2) := by rw [if_pos rfl] at H; exact H
                  clear H
                  have H := H1
                  clear H1
                  have H' := Aside0.mk H
                  clear H
                  go_wp2
                  go_meet
                  case rel => exact ⟨_, (501), ((⟨#[53, 46, 53, 46, 52, 32, 110, 111, 116, 32, 108, 105, 107, 101, 32, 116, 104, 97, 116]⟩ : ByteArray)), (by first | rfl | (simp; done) | (simp [*]; done)), (by first | rfl | (simp; done) | (simp [*]; done)), H', ⟨by have := HJ1.out; have := HJ4.out; have := HJ6.out; first | omega | exact Nat.le_refl _⟩, ⟨by (with_reducible repeat (first | refine blk_drewN ?_ _ | refine blk_drew ?_ | refine blk_alloc ?_ _)); exact BK320.out⟩, ⟨by repeat (first | (with_reducible first | exact HB.out | apply below_alloc | apply pw_below_drewN | apply below_drew1 | refine below_set ?_ GE320.out) | exact HB.out)⟩⟩
                · replace c10 := Bool.eq_false_iff.mpr c10
                  subst c10
                  have H1 : (bulletinref30_For.j3 kj6 a0 x3_4 x4_4) = some (r1, r2) := by rw [if_neg (show ¬ (false = true) by decide)] at H; exact H
                  clear H
                  have H := H1
                  clear H1
                  have H' := Aside0.mk H
                  clear H
                  go_wp2
                  go_meet
                  case rel => exact ⟨_, (x3_4), (x4_4), (by first | rfl | (simp; done) | (simp [*]; done)), (by first | rfl | (simp; done) | (simp [*]; done)), H', ⟨by have := HJ1.out; have := HJ4.out; have := HJ6.out; first | omega | exact Nat.le_refl _⟩, ⟨by (with_reducible repeat (first | refine blk_drewN ?_ _ | refine blk_drew ?_ | refine blk_alloc ?_ _)); exact BK320.out⟩, ⟨by repeat (first | (with_reducible first | exact HB.out | apply below_alloc | apply pw_below_drewN | apply below_drew1 | refine below_set ?_ GE320.out) | exact HB.out)⟩⟩
              case rest =>
                clear HC9
                try clear c1
                try clear c2
                try clear p2
                try clear c4
                try clear c4b0
                try clear c4b1
                try clear c6
                try clear c6b0
                try clear c6b1
                try clear c8
                try clear c8b0
                try clear c8b1
                try clear c10
                try clear p2
                obtain ⟨kq, x3_8, x4_8, rfl, rfl, HA, HJ8, BK320, HB⟩ := hcut
                cases kq with
                | zero => exact absurd HA.out (by simp [bulletinref30_For.j3])
                | succ kj8 =>
                  have H := HA.out
                  clear HA
                  simp only [bulletinref30_For.j3] at H
                  have HC11 := Aside0.mk H
                  clear H
                  go_upto_if 16 with (fail)
                  go_cut [3, 4] (fun v3 v4 wc => ∃ (kq : Nat) (x3_10 : Int) (x4_10 : ByteArray), v3 = .int .i64 x3_10 ∧ v4 = .string x4_10 ∧ Aside0 (bulletinref30_For.j4 kq a0 x3_10 x4_10 = some (r1, r2)) ∧ Aside0 (kq ≤ kj8) ∧ Aside0 (wc.heap[gb320]? = some (.cells #[.int .i64 0, (.slice none 0 0)] 29 (0, 0))) ∧ Aside0 (Below w.heap.size w wc))
                  case first =>
                    have H := HC11.out
                    clear HC11
                    by_cases c12 : a0 = 5
                    · rw [if_pos c12] at H
                      have c12b0 : (a0 == 5) = true := beq_iff_eq.mpr c12
                      have c12b1 : (a0 != 5) = false := bne_eq_false_iff_eq.mpr c12
                      clear c12
                      (first | rw [c12b0] | (simp only [i64_w, i32_w]; rw [c12b0]) | skip)
                      have H' := Aside0.mk H
                      clear H
                      go_wp2
                      go_meet
                      case rel => exact ⟨_, (503), ((⟨#[53, 46, 53, 46, 49, 32, 110, 111, 116, 32, 110, 111, 119]⟩ : ByteArray)), (by first | rfl | (simp; done) | (simp [*]; done)), (by first | rfl | (simp; done) | (simp [*]; done)), H', ⟨by have := HJ1.out; have := HJ4.out; have := HJ6.out; have := HJ8.out; first | omega | exact Nat.le_refl _⟩, ⟨by (with_reducible repeat (first | refine blk_drewN ?_ _ | refine blk_drew ?_ | refine blk_alloc ?_ _)); exact BK320.out⟩, ⟨by repeat (first | (with_reducible first | exact HB.out | apply below_alloc | apply pw_below_drewN | apply below_drew1 | refine below_set ?_ GE320.out) | exact HB.out)⟩⟩
                    · rw [if_neg c12] at H
                      have c12b0 : (a0 == 5) = false := beq_eq_false_iff_ne.mpr c12
                      have c12b1 : (a0 != 5) = true := bne_iff_ne.mpr c12
                      (first | rw [c12b0] | (simp only [i64_w, i32_w]; rw [c12b0]) | skip)
                      have H' := Aside0.mk H
                      clear H
                      go_wp2
                      go_meet
                      case rel => exact ⟨_, (x3_8), (x4_8), (by first | rfl | (simp; done) | (simp [*]; done)), (by first | rfl | (simp; done) | (simp [*]; done)), H', ⟨by have := HJ1.out; have := HJ4.out; have := HJ6.out; have := HJ8.out; first | omega | exact Nat.le_refl _⟩, ⟨by (with_reducible repeat (first | refine blk_drewN ?_ _ | refine blk_drew ?_ | refine blk_alloc ?_ _)); exact BK320.out⟩, ⟨by repeat (first | (with_reducible first | exact HB.out | apply below_alloc | apply pw_below_drewN | apply below_drew1 | refine below_set ?_ GE320.out) | exact HB.out)⟩⟩
                  case rest =>
                    clear HC11
                    try clear c1
                    try clear c2
                    try clear p2
                    try clear c4
                    try clear c4b0
                    try clear c4b1
                    try clear c6
                    try clear c6b0
                    try clear c6b1
                    try clear c8
                    try clear c8b0
                    try clear c8b1
                    try clear c10
                    try clear c12
                    try clear c12b0
                    try clear c12b1
                    try clear p2
                    obtain ⟨kq, x3_10, x4_10, rfl, rfl, HA, HJ10, BK320, HB⟩ := hcut
                    cases kq with
                    | zero => exact absurd HA.out (by simp [bulletinref30_For.j4])
                    | succ kj10 =>
                      have H := HA.out
                      clear HA
                      simp only [bulletinref30_For.j4] at H
                      have HC13 := Aside0.mk H
                      clear H
                      go_upto_if 18 with (fail)
                      go_cut [3, 4] (fun v3 v4 wc => ∃ (kq : Nat) (x3_12 : Int) (x4_12 : ByteArray), v3 = .int .i64 x3_12 ∧ v4 = .string x4_12 ∧ Aside0 (bulletinref30_For.j5 kq a0 x3_12 x4_12 = some (r1, r2)) ∧ Aside0 (kq ≤ kj10) ∧ Aside0 (wc.heap[gb320]? = some (.cells #[.int .i64 0, (.slice none 0 0)] 29 (0, 0))) ∧ Aside0 (Below w.heap.size w wc))
                      case first =>
                        have H := HC13.out
                        clear HC13
                        by_cases c14 : a0 = 6
                        · rw [if_pos c14] at H
                          have c14b0 : (a0 == 6) = true := beq_iff_eq.mpr c14
                          have c14b1 : (a0 != 6) = false := bne_eq_false_iff_eq.mpr c14
                          clear c14
                          (first | rw [c14b0] | (simp only [i64_w, i32_w]; rw [c14b0]) | skip)
                          have H' := Aside0.mk H
                          clear H
                          go_wp2
                          go_meet
                          case rel => exact ⟨_, (550), ((⟨#[53, 46, 49, 46, 49, 32, 110, 111, 98, 111, 100, 121, 32, 104, 101, 114, 101, 32, 104, 97, 115, 32, 116, 104, 97, 116, 32, 110, 97, 109, 101]⟩ : ByteArray)), (by first | rfl | (simp; done) | (simp [*]; done)), (by first | rfl | (simp; done) | (simp [*]; done)), H', ⟨by have := HJ1.out; have := HJ4.out; have := HJ6.out; have := HJ8.out; have := HJ10.out; first | omega | exact Nat.le_refl _⟩, ⟨by (with_reducible repeat (first | refine blk_drewN ?_ _ | refine blk_drew ?_ | refine blk_alloc ?_ _)); exact BK320.out⟩, ⟨by repeat (first | (with_reducible first | exact HB.out | apply below_alloc | apply pw_below_drewN | apply below_drew1 | refine below_set ?_ GE320.out) | exact HB.out)⟩⟩
                        · rw [if_neg c14] at H
                          have c14b0 : (a0 == 6) = false := beq_eq_false_iff_ne.mpr c14
                          have c14b1 : (a0 != 6) = true := bne_iff_ne.mpr c14
                          (first | rw [c14b0] | (simp only [i64_w, i32_w]; rw [c14b0]) | skip)
                          have H' := Aside0.mk H
                          clear H
                          go_wp2
                          go_meet
                          case rel => exact ⟨_, (x3_10), (x4_10), (by first | rfl | (simp; done) | (simp [*]; done)), (by first | rfl | (simp; done) | (simp [*]; done)), H', ⟨by have := HJ1.out; have := HJ4.out; have := HJ6.out; have := HJ8.out; have := HJ10.out; first | omega | exact Nat.le_refl _⟩, ⟨by (with_reducible repeat (first | refine blk_drewN ?_ _ | refine blk_drew ?_ | refine blk_alloc ?_ _)); exact BK320.out⟩, ⟨by repeat (first | (with_reducible first | exact HB.out | apply below_alloc | apply pw_below_drewN | apply below_drew1 | refine below_set ?_ GE320.out) | exact HB.out)⟩⟩
                      case rest =>
                        clear HC13
                        try clear c1
                        try clear c2
                        try clear p2
                        try clear c4
                        try clear c4b0
                        try clear c4b1
                        try clear c6
                        try clear c6b0
                        try clear c6b1
                        try clear c8
                        try clear c8b0
                        try clear c8b1
                        try clear c10
                        try clear c12
                        try clear c12b0
                        try clear c12b1
                        try clear c14
                        try clear c14b0
                        try clear c14b1
                        try clear p2
                        obtain ⟨kq, x3_12, x4_12, rfl, rfl, HA, HJ12, BK320, HB⟩ := hcut
                        cases kq with
                        | zero => exact absurd HA.out (by simp [bulletinref30_For.j5])
                        | succ kj12 =>
                          have H := HA.out
                          clear HA
                          simp only [bulletinref30_For.j5] at H
                          have HC15 := Aside0.mk H
                          clear H
                          go_upto_if 20 with (fail)
                          go_cut [3, 4] (fun v3 v4 wc => ∃ (kq : Nat) (x3_14 : Int) (x4_14 : ByteArray), v3 = .int .i64 x3_14 ∧ v4 = .string x4_14 ∧ Aside0 (bulletinref30_For.j6 kq a0 x3_14 x4_14 = some (r1, r2)) ∧ Aside0 (kq ≤ kj12) ∧ Aside0 (wc.heap[gb320]? = some (.cells #[.int .i64 0, (.slice none 0 0)] 29 (0, 0))) ∧ Aside0 (Below w.heap.size w wc))
                          case first =>
                            have H := HC15.out
                            clear HC15
                            by_cases c16 : a0 = 340
                            · rw [if_pos c16] at H
                              have c16b0 : (a0 == 340) = true := beq_iff_eq.mpr c16
                              have c16b1 : (a0 != 340) = false := bne_eq_false_iff_eq.mpr c16
                              clear c16
                              (first | rw [c16b0] | (simp only [i64_w, i32_w]; rw [c16b0]) | skip)
                              have H' := Aside0.mk H
                              clear H
                              go_wp2
                              go_meet
                              case rel => exact ⟨_, (550), ((⟨#[53, 46, 55, 46, 49, 32, 110, 111, 116, 32, 97, 108, 108, 111, 119, 101, 100]⟩ : ByteArray)), (by first | rfl | (simp; done) | (simp [*]; done)), (by first | rfl | (simp; done) | (simp [*]; done)), H', ⟨by have := HJ1.out; have := HJ4.out; have := HJ6.out; have := HJ8.out; have := HJ10.out; have := HJ12.out; first | omega | exact Nat.le_refl _⟩, ⟨by (with_reducible repeat (first | refine blk_drewN ?_ _ | refine blk_drew ?_ | refine blk_alloc ?_ _)); exact BK320.out⟩, ⟨by repeat (first | (with_reducible first | exact HB.out | apply below_alloc | apply pw_below_drewN | apply below_drew1 | refine below_set ?_ GE320.out) | exact HB.out)⟩⟩
                            · rw [if_neg c16] at H
                              have c16b0 : (a0 == 340) = false := beq_eq_false_iff_ne.mpr c16
                              have c16b1 : (a0 != 340) = true := bne_iff_ne.mpr c16
                              (first | rw [c16b0] | (simp only [i64_w, i32_w]; rw [c16b0]) | skip)
                              have H' := Aside0.mk H
                              clear H
                              go_wp2
                              go_meet
                              case rel => exact ⟨_, (x3_12), (x4_12), (by first | rfl | (simp; done) | (simp [*]; done)), (by first | rfl | (simp; done) | (simp [*]; done)), H', ⟨by have := HJ1.out; have := HJ4.out; have := HJ6.out; have := HJ8.out; have := HJ10.out; have := HJ12.out; first | omega | exact Nat.le_refl _⟩, ⟨by (with_reducible repeat (first | refine blk_drewN ?_ _ | refine blk_drew ?_ | refine blk_alloc ?_ _)); exact BK320.out⟩, ⟨by repeat (first | (with_reducible first | exact HB.out | apply below_alloc | apply pw_below_drewN | apply below_drew1 | refine below_set ?_ GE320.out) | exact HB.out)⟩⟩
                          case rest =>
                            clear HC15
                            try clear c1
                            try clear c2
                            try clear p2
                            try clear c4
                            try clear c4b0
                            try clear c4b1
                            try clear c6
                            try clear c6b0
                            try clear c6b1
                            try clear c8
                            try clear c8b0
                            try clear c8b1
                            try clear c10
                            try clear c12
                            try clear c12b0
                            try clear c12b1
                            try clear c14
                            try clear c14b0
                            try clear c14b1
                            try clear c16
                            try clear c16b0
                            try clear c16b1
                            try clear p2
                            obtain ⟨kq, x3_14, x4_14, rfl, rfl, HA, HJ14, BK320, HB⟩ := hcut
                            cases kq with
                            | zero => exact absurd HA.out (by simp [bulletinref30_For.j6])
                            | succ kj14 =>
                              have H := HA.out
                              clear HA
                              simp only [bulletinref30_For.j6] at H
                              have HC17 := Aside0.mk H
                              clear H
                              go_upto_if 22 with (fail)
                              go_cut [3, 4] (fun v3 v4 wc => ∃ (kq : Nat) (x3_16 : Int) (x4_16 : ByteArray), v3 = .int .i64 x3_16 ∧ v4 = .string x4_16 ∧ Aside0 (bulletinref30_For.j7 kq a0 x3_16 x4_16 = some (r1, r2)) ∧ Aside0 (kq ≤ kj14) ∧ Aside0 (wc.heap[gb320]? = some (.cells #[.int .i64 0, (.slice none 0 0)] 29 (0, 0))) ∧ Aside0 (Below w.heap.size w wc))
                              case first =>
                                have H := HC17.out
                                clear HC17
                                by_cases c18 : a0 = 2
                                · rw [if_pos c18] at H
                                  have c18b0 : (a0 == 2) = true := beq_iff_eq.mpr c18
                                  have c18b1 : (a0 != 2) = false := bne_eq_false_iff_eq.mpr c18
                                  clear c18
                                  (first | rw [c18b0] | (simp only [i64_w, i32_w]; rw [c18b0]) | skip)
                                  have H' := Aside0.mk H
                                  clear H
                                  go_wp2
                                  go_meet
                                  case rel => exact ⟨_, (552), ((⟨#[53, 46, 51, 46, 52, 32, 116, 111, 111, 32, 109, 117, 99, 104]⟩ : ByteArray)), (by first | rfl | (simp; done) | (simp [*]; done)), (by first | rfl | (simp; done) | (simp [*]; done)), H', ⟨by have := HJ1.out; have := HJ4.out; have := HJ6.out; have := HJ8.out; have := HJ10.out; have := HJ12.out; have := HJ14.out; first | omega | exact Nat.le_refl _⟩, ⟨by (with_reducible repeat (first | refine blk_drewN ?_ _ | refine blk_drew ?_ | refine blk_alloc ?_ _)); exact BK320.out⟩, ⟨by repeat (first | (with_reducible first | exact HB.out | apply below_alloc | apply pw_below_drewN | apply below_drew1 | refine below_set ?_ GE320.out) | exact HB.out)⟩⟩
                                · rw [if_neg c18] at H
                                  have c18b0 : (a0 == 2) = false := beq_eq_false_iff_ne.mpr c18
                                  have c18b1 : (a0 != 2) = true := bne_iff_ne.mpr c18
                                  (first | rw [c18b0] | (simp only [i64_w, i32_w]; rw [c18b0]) | skip)
                                  have H' := Aside0.mk H
                                  clear H
                                  go_wp2
                                  go_meet
                                  case rel => exact ⟨_, (x3_14), (x4_14), (by first | rfl | (simp; done) | (simp [*]; done)), (by first | rfl | (simp; done) | (simp [*]; done)), H', ⟨by have := HJ1.out; have := HJ4.out; have := HJ6.out; have := HJ8.out; have := HJ10.out; have := HJ12.out; have := HJ14.out; first | omega | exact Nat.le_refl _⟩, ⟨by (with_reducible repeat (first | refine blk_drewN ?_ _ | refine blk_drew ?_ | refine blk_alloc ?_ _)); exact BK320.out⟩, ⟨by repeat (first | (with_reducible first | exact HB.out | apply below_alloc | apply pw_below_drewN | apply below_drew1 | refine below_set ?_ GE320.out) | exact HB.out)⟩⟩
                              case rest =>
                                clear HC17
                                try clear c1
                                try clear c2
                                try clear p2
                                try clear c4
                                try clear c4b0
                                try clear c4b1
                                try clear c6
                                try clear c6b0
                                try clear c6b1
                                try clear c8
                                try clear c8b0
                                try clear c8b1
                                try clear c10
                                try clear c12
                                try clear c12b0
                                try clear c12b1
                                try clear c14
                                try clear c14b0
                                try clear c14b1
                                try clear c16
                                try clear c16b0
                                try clear c16b1
                                try clear c18
                                try clear c18b0
                                try clear c18b1
                                try clear p2
                                obtain ⟨kq, x3_16, x4_16, rfl, rfl, HA, HJ16, BK320, HB⟩ := hcut
                                cases kq with
                                | zero => exact absurd HA.out (by simp [bulletinref30_For.j7])
                                | succ kj16 =>
                                  have H := HA.out
                                  clear HA
                                  simp only [bulletinref30_For.j7] at H
                                  have HC19 := Aside0.mk H
                                  clear H
                                  go_upto_if 24 with (fail)
                                  go_cut [3, 4] (fun v3 v4 wc => ∃ (kq : Nat) (x3_18 : Int) (x4_18 : ByteArray), v3 = .int .i64 x3_18 ∧ v4 = .string x4_18 ∧ Aside0 (bulletinref30_For.j8 kq a0 x3_18 x4_18 = some (r1, r2)) ∧ Aside0 (kq ≤ kj16) ∧ Aside0 (wc.heap[gb320]? = some (.cells #[.int .i64 0, (.slice none 0 0)] 29 (0, 0))) ∧ Aside0 (Below w.heap.size w wc))
                                  case first =>
                                    have H := HC19.out
                                    clear HC19
                                    by_cases c20 : a0 = 130
                                    · rw [if_pos c20] at H
                                      have c20b0 : (a0 == 130) = true := beq_iff_eq.mpr c20
                                      have c20b1 : (a0 != 130) = false := bne_eq_false_iff_eq.mpr c20
                                      clear c20
                                      (first | rw [c20b0] | (simp only [i64_w, i32_w]; rw [c20b0]) | skip)
                                      have H' := Aside0.mk H
                                      clear H
                                      go_wp2
                                      go_meet
                                      case rel => exact ⟨_, (553), ((⟨#[53, 46, 49, 46, 51, 32, 110, 111, 32, 115, 117, 99, 104, 32, 97, 100, 100, 114, 101, 115, 115]⟩ : ByteArray)), (by first | rfl | (simp; done) | (simp [*]; done)), (by first | rfl | (simp; done) | (simp [*]; done)), H', ⟨by have := HJ1.out; have := HJ4.out; have := HJ6.out; have := HJ8.out; have := HJ10.out; have := HJ12.out; have := HJ14.out; have := HJ16.out; first | omega | exact Nat.le_refl _⟩, ⟨by (with_reducible repeat (first | refine blk_drewN ?_ _ | refine blk_drew ?_ | refine blk_alloc ?_ _)); exact BK320.out⟩, ⟨by repeat (first | (with_reducible first | exact HB.out | apply below_alloc | apply pw_below_drewN | apply below_drew1 | refine below_set ?_ GE320.out) | exact HB.out)⟩⟩
                                    · rw [if_neg c20] at H
                                      have c20b0 : (a0 == 130) = false := beq_eq_false_iff_ne.mpr c20
                                      have c20b1 : (a0 != 130) = true := bne_iff_ne.mpr c20
                                      (first | rw [c20b0] | (simp only [i64_w, i32_w]; rw [c20b0]) | skip)
                                      have H' := Aside0.mk H
                                      clear H
                                      go_wp2
                                      go_meet
                                      case rel => exact ⟨_, (x3_16), (x4_16), (by first | rfl | (simp; done) | (simp [*]; done)), (by first | rfl | (simp; done) | (simp [*]; done)), H', ⟨by have := HJ1.out; have := HJ4.out; have := HJ6.out; have := HJ8.out; have := HJ10.out; have := HJ12.out; have := HJ14.out; have := HJ16.out; first | omega | exact Nat.le_refl _⟩, ⟨by (with_reducible repeat (first | refine blk_drewN ?_ _ | refine blk_drew ?_ | refine blk_alloc ?_ _)); exact BK320.out⟩, ⟨by repeat (first | (with_reducible first | exact HB.out | apply below_alloc | apply pw_below_drewN | apply below_drew1 | refine below_set ?_ GE320.out) | exact HB.out)⟩⟩
                                  case rest =>
                                    clear HC19
                                    try clear c1
                                    try clear c2
                                    try clear p2
                                    try clear c4
                                    try clear c4b0
                                    try clear c4b1
                                    try clear c6
                                    try clear c6b0
                                    try clear c6b1
                                    try clear c8
                                    try clear c8b0
                                    try clear c8b1
                                    try clear c10
                                    try clear c12
                                    try clear c12b0
                                    try clear c12b1
                                    try clear c14
                                    try clear c14b0
                                    try clear c14b1
                                    try clear c16
                                    try clear c16b0
                                    try clear c16b1
                                    try clear c18
                                    try clear c18b0
                                    try clear c18b1
                                    try clear c20
                                    try clear c20b0
                                    try clear c20b1
                                    try clear p2
                                    obtain ⟨kq, x3_18, x4_18, rfl, rfl, HA, HJ18, BK320, HB⟩ := hcut
                                    cases kq with
                                    | zero => exact absurd HA.out (by simp [bulletinref30_For.j8])
                                    | succ kj18 =>
                                      have H := HA.out
                                      clear HA
                                      simp only [bulletinref30_For.j8] at H
                                      have HC21 := Aside0.mk H
                                      clear H
                                      go_upto_region 19 with (fail)
                                      go_cut [34] (fun v34 wc => ∃ (kq : Nat) (x34_20 : Bool), v34 = .bool x34_20 ∧ Aside0 (bulletinref30_For.j9 kq a0 x3_18 x4_18 x34_20 = some (r1, r2)) ∧ Aside0 (kq ≤ kj18) ∧ Aside0 (wc.heap[gb320]? = some (.cells #[.int .i64 0, (.slice none 0 0)] 29 (0, 0))) ∧ Aside0 (Below w.heap.size w wc))
                                      case first =>
                                        have H := HC21.out
                                        clear HC21
                                        by_cases c22 : a0 = 480
                                        · rw [if_pos c22] at H
                                          have c22b0 : (a0 == 480) = true := beq_iff_eq.mpr c22
                                          have c22b1 : (a0 != 480) = false := bne_eq_false_iff_eq.mpr c22
                                          clear c22
                                          (first | rw [c22b0] | (simp only [i64_w, i32_w]; rw [c22b0]) | skip)
                                          have H' := Aside0.mk H
                                          clear H
                                          go_wp2
                                          go_meet
                                          case rel => exact ⟨_, (true), (by first | rfl | (simp; done) | (simp [*]; done)), H', ⟨by have := HJ1.out; have := HJ4.out; have := HJ6.out; have := HJ8.out; have := HJ10.out; have := HJ12.out; have := HJ14.out; have := HJ16.out; have := HJ18.out; first | omega | exact Nat.le_refl _⟩, ⟨by (with_reducible repeat (first | refine blk_drewN ?_ _ | refine blk_drew ?_ | refine blk_alloc ?_ _)); exact BK320.out⟩, ⟨by repeat (first | (with_reducible first | exact HB.out | apply below_alloc | apply pw_below_drewN | apply below_drew1 | refine below_set ?_ GE320.out) | exact HB.out)⟩⟩
                                        · rw [if_neg c22] at H
                                          have c22b0 : (a0 == 480) = false := beq_eq_false_iff_ne.mpr c22
                                          have c22b1 : (a0 != 480) = true := bne_iff_ne.mpr c22
                                          (first | rw [c22b0] | (simp only [i64_w, i32_w]; rw [c22b0]) | skip)
                                          by_cases c23 : a0 = 150
                                          · rw [if_pos c23] at H
                                            have c23b0 : (a0 == 150) = true := beq_iff_eq.mpr c23
                                            have c23b1 : (a0 != 150) = false := bne_eq_false_iff_eq.mpr c23
                                            clear c23
                                            have H' := Aside0.mk H
                                            clear H
                                            go_wp2
                                            go_meet
                                            case rel => exact ⟨_, (true), (by first | rfl | (simp; done) | (simp [*]; done)), H', ⟨by have := HJ1.out; have := HJ4.out; have := HJ6.out; have := HJ8.out; have := HJ10.out; have := HJ12.out; have := HJ14.out; have := HJ16.out; have := HJ18.out; first | omega | exact Nat.le_refl _⟩, ⟨by (with_reducible repeat (first | refine blk_drewN ?_ _ | refine blk_drew ?_ | refine blk_alloc ?_ _)); exact BK320.out⟩, ⟨by repeat (first | (with_reducible first | exact HB.out | apply below_alloc | apply pw_below_drewN | apply below_drew1 | refine below_set ?_ GE320.out) | exact HB.out)⟩⟩
                                          · rw [if_neg c23] at H
                                            have c23b0 : (a0 == 150) = false := beq_eq_false_iff_ne.mpr c23
                                            have c23b1 : (a0 != 150) = true := bne_iff_ne.mpr c23
                                            have H' := Aside0.mk H
                                            clear H
                                            go_wp2
                                            go_meet
                                            case rel => exact ⟨_, ((a0 == 200)), (by first | rfl | (simp; done) | (simp [*]; done)), H', ⟨by have := HJ1.out; have := HJ4.out; have := HJ6.out; have := HJ8.out; have := HJ10.out; have := HJ12.out; have := HJ14.out; have := HJ16.out; have := HJ18.out; first | omega | exact Nat.le_refl _⟩, ⟨by (with_reducible repeat (first | refine blk_drewN ?_ _ | refine blk_drew ?_ | refine blk_alloc ?_ _)); exact BK320.out⟩, ⟨by repeat (first | (with_reducible first | exact HB.out | apply below_alloc | apply pw_below_drewN | apply below_drew1 | refine below_set ?_ GE320.out) | exact HB.out)⟩⟩
                                      case rest =>
                                        clear HC21
                                        try clear c1
                                        try clear c2
                                        try clear p2
                                        try clear c4
                                        try clear c4b0
                                        try clear c4b1
                                        try clear c6
                                        try clear c6b0
                                        try clear c6b1
                                        try clear c8
                                        try clear c8b0
                                        try clear c8b1
                                        try clear c10
                                        try clear c12
                                        try clear c12b0
                                        try clear c12b1
                                        try clear c14
                                        try clear c14b0
                                        try clear c14b1
                                        try clear c16
                                        try clear c16b0
                                        try clear c16b1
                                        try clear c18
                                        try clear c18b0
                                        try clear c18b1
                                        try clear c20
                                        try clear c20b0
                                        try clear c20b1
                                        try clear c21
                                        try clear c22
                                        try clear c22b0
                                        try clear c22b1
                                        try clear c23
                                        try clear c23b0
                                        try clear c23b1
                                        try clear p2
                                        obtain ⟨kq, x34_20, rfl, HA, HJ20, BK320, HB⟩ := hcut
                                        cases kq with
                                        | zero => exact absurd HA.out (by simp [bulletinref30_For.j9])
                                        | succ kj20 =>
                                          have H := HA.out
                                          clear HA
                                          simp only [bulletinref30_For.j9] at H
                                          have HC24 := Aside0.mk H
                                          clear H
                                          go_upto_if 34 with (fail)
                                          go_cut [3, 4] (fun v3 v4 wc => ∃ (kq : Nat) (x3_23 : Int) (x4_23 : ByteArray), v3 = .int .i64 x3_23 ∧ v4 = .string x4_23 ∧ Aside0 (bulletinref30_For.j10 kq a0 x3_23 x4_23 = some (r1, r2)) ∧ Aside0 (kq ≤ kj20) ∧ Aside0 (wc.heap[gb320]? = some (.cells #[.int .i64 0, (.slice none 0 0)] 29 (0, 0))) ∧ Aside0 (Below w.heap.size w wc))
                                          case first =>
                                            have H := HC24.out
                                            clear HC24
                                            by_cases c25 : x34_20 = true
                                            · subst c25
                                              have H1 : (bulletinref30_For.j10 kj20 a0 554 (⟨#[53, 46, 54, 46, 48, 32, 110, 111, 32, 109, 101, 115, 115, 97, 103, 101]⟩ : ByteArray)) = some (r1, r2) := by rw [if_pos rfl] at H; exact H
                                              clear H
                                              have H := H1
                                              clear H1
                                              have H' := Aside0.mk H
                                              clear H
                                              go_wp2
                                              go_meet
                                              case rel => exact ⟨_, (554), ((⟨#[53, 46, 54, 46, 48, 32, 110, 111, 32, 109, 101, 115, 115, 97, 103, 101]⟩ : ByteArray)), (by first | rfl | (simp; done) | (simp [*]; done)), (by first | rfl | (simp; done) | (simp [*]; done)), H', ⟨by have := HJ1.out; have := HJ4.out; have := HJ6.out; have := HJ8.out; have := HJ10.out; have := HJ12.out; have := HJ14.out; have := HJ16.out; have := HJ18.out; have := HJ20.out; first | omega | exact Nat.le_refl _⟩, ⟨by (with_reducible repeat (first | refine blk_drewN ?_ _ | refine blk_drew ?_ | refine blk_alloc ?_ _)); exact BK320.out⟩, ⟨by repeat (first | (with_reducible first | exact HB.out | apply below_alloc | apply pw_below_drewN | apply below_drew1 | refine below_set ?_ GE320.out) | exact HB.out)⟩⟩
                                            · replace c25 := Bool.eq_false_iff.mpr c25
                                              subst c25
                                              have H1 : (bulletinref30_For.j10 kj20 a0 x3_18 x4_18) = some (r1, r2) := by rw [if_neg (show ¬ (false = true) by decide)] at H; exact H
                                              clear H
                                              have H := H1
                                              clear H1
                                              have H' := Aside0.mk H
                                              clear H
                                              go_wp2
                                              go_meet
                                              case rel => exact ⟨_, (x3_18), (x4_18), (by first | rfl | (simp; done) | (simp [*]; done)), (by first | rfl | (simp; done) | (simp [*]; done)), H', ⟨by have := HJ1.out; have := HJ4.out; have := HJ6.out; have := HJ8.out; have := HJ10.out; have := HJ12.out; have := HJ14.out; have := HJ16.out; have := HJ18.out; have := HJ20.out; first | omega | exact Nat.le_refl _⟩, ⟨by (with_reducible repeat (first | refine blk_drewN ?_ _ | refine blk_drew ?_ | refine blk_alloc ?_ _)); exact BK320.out⟩, ⟨by repeat (first | (with_reducible first | exact HB.out | apply below_alloc | apply pw_below_drewN | apply below_drew1 | refine below_set ?_ GE320.out) | exact HB.out)⟩⟩
                                          case rest =>
                                            clear HC24
                                            try clear c1
                                            try clear c2
                                            try clear p2
                                            try clear c4
                                            try clear c4b0
                                            try clear c4b1
                                            try clear c6
                                            try clear c6b0
                                            try clear c6b1
                                            try clear c8
                                            try clear c8b0
                                            try clear c8b1
                                            try clear c10
                                            try clear c12
                                            try clear c12b0
                                            try clear c12b1
                                            try clear c14
                                            try clear c14b0
                                            try clear c14b1
                                            try clear c16
                                            try clear c16b0
                                            try clear c16b1
                                            try clear c18
                                            try clear c18b0
                                            try clear c18b1
                                            try clear c20
                                            try clear c20b0
                                            try clear c20b1
                                            try clear c21
                                            try clear c22
                                            try clear c22b0
                                            try clear c22b1
                                            try clear c23
                                            try clear c23b0
                                            try clear c23b1
                                            try clear c25
                                            try clear p2
                                            obtain ⟨kq, x3_23, x4_23, rfl, rfl, HA, HJ23, BK320, HB⟩ := hcut
                                            cases kq with
                                            | zero => exact absurd HA.out (by simp [bulletinref30_For.j10])
                                            | succ kj23 =>
                                              have H := HA.out
                                              clear HA
                                              simp only [bulletinref30_For.j10] at H
                                              have HC26 := Aside0.mk H
                                              clear H
                                              go_upto_if 36 with (fail)
                                              go_cut [3, 4] (fun v3 v4 wc => ∃ (kq : Nat) (x3_25 : Int) (x4_25 : ByteArray), v3 = .int .i64 x3_25 ∧ v4 = .string x4_25 ∧ Aside0 (bulletinref30_For.j11 kq a0 x3_25 x4_25 = some (r1, r2)) ∧ Aside0 (kq ≤ kj23) ∧ Aside0 (wc.heap[gb320]? = some (.cells #[.int .i64 0, (.slice none 0 0)] 29 (0, 0))) ∧ Aside0 (Below w.heap.size w wc))
                                              case first =>
                                                have H := HC26.out
                                                clear HC26
                                                by_cases c27 : a0 = 1
                                                · rw [if_pos c27] at H
                                                  have c27b0 : (a0 == 1) = true := beq_iff_eq.mpr c27
                                                  have c27b1 : (a0 != 1) = false := bne_eq_false_iff_eq.mpr c27
                                                  clear c27
                                                  (first | rw [c27b0] | (simp only [i64_w, i32_w]; rw [c27b0]) | skip)
                                                  have H' := Aside0.mk H
                                                  clear H
                                                  go_wp2
                                                  go_meet
                                                  case rel => exact ⟨_, (555), ((⟨#[53, 46, 53, 46, 52, 32, 110, 111, 32, 115, 117, 99, 104, 32, 112, 97, 114, 97, 109, 101, 116, 101, 114]⟩ : ByteArray)), (by first | rfl | (simp; done) | (simp [*]; done)), (by first | rfl | (simp; done) | (simp [*]; done)), H', ⟨by have := HJ1.out; have := HJ4.out; have := HJ6.out; have := HJ8.out; have := HJ10.out; have := HJ12.out; have := HJ14.out; have := HJ16.out; have := HJ18.out; have := HJ20.out; have := HJ23.out; first | omega | exact Nat.le_refl _⟩, ⟨by (with_reducible repeat (first | refine blk_drewN ?_ _ | refine blk_drew ?_ | refine blk_alloc ?_ _)); exact BK320.out⟩, ⟨by repeat (first | (with_reducible first | exact HB.out | apply below_alloc | apply pw_below_drewN | apply below_drew1 | refine below_set ?_ GE320.out) | exact HB.out)⟩⟩
                                                · rw [if_neg c27] at H
                                                  have c27b0 : (a0 == 1) = false := beq_eq_false_iff_ne.mpr c27
                                                  have c27b1 : (a0 != 1) = true := bne_iff_ne.mpr c27
                                                  (first | rw [c27b0] | (simp only [i64_w, i32_w]; rw [c27b0]) | skip)
                                                  have H' := Aside0.mk H
                                                  clear H
                                                  go_wp2
                                                  go_meet
                                                  case rel => exact ⟨_, (x3_23), (x4_23), (by first | rfl | (simp; done) | (simp [*]; done)), (by first | rfl | (simp; done) | (simp [*]; done)), H', ⟨by have := HJ1.out; have := HJ4.out; have := HJ6.out; have := HJ8.out; have := HJ10.out; have := HJ12.out; have := HJ14.out; have := HJ16.out; have := HJ18.out; have := HJ20.out; have := HJ23.out; first | omega | exact Nat.le_refl _⟩, ⟨by (with_reducible repeat (first | refine blk_drewN ?_ _ | refine blk_drew ?_ | refine blk_alloc ?_ _)); exact BK320.out⟩, ⟨by repeat (first | (with_reducible first | exact HB.out | apply below_alloc | apply pw_below_drewN | apply below_drew1 | refine below_set ?_ GE320.out) | exact HB.out)⟩⟩
                                              case rest =>
                                                clear HC26
                                                try clear c1
                                                try clear c2
                                                try clear p2
                                                try clear c4
                                                try clear c4b0
                                                try clear c4b1
                                                try clear c6
                                                try clear c6b0
                                                try clear c6b1
                                                try clear c8
                                                try clear c8b0
                                                try clear c8b1
                                                try clear c10
                                                try clear c12
                                                try clear c12b0
                                                try clear c12b1
                                                try clear c14
                                                try clear c14b0
                                                try clear c14b1
                                                try clear c16
                                                try clear c16b0
                                                try clear c16b1
                                                try clear c18
                                                try clear c18b0
                                                try clear c18b1
                                                try clear c20
                                                try clear c20b0
                                                try clear c20b1
                                                try clear c21
                                                try clear c22
                                                try clear c22b0
                                                try clear c22b1
                                                try clear c23
                                                try clear c23b0
                                                try clear c23b1
                                                try clear c25
                                                try clear c27
                                                try clear c27b0
                                                try clear c27b1
                                                try clear p2
                                                obtain ⟨kq, x3_25, x4_25, rfl, rfl, HA, HJ25, BK320, HB⟩ := hcut
                                                cases kq with
                                                | zero => exact absurd HA.out (by simp [bulletinref30_For.j11])
                                                | succ kj25 =>
                                                  have H := HA.out
                                                  clear HA
                                                  simp only [bulletinref30_For.j11] at H
                                                  have HC28 := Aside0.mk H
                                                  clear H
                                                  go_upto_if 38 with (fail)
                                                  go_cut [3, 4] (fun v3 v4 wc => ∃ (kq : Nat) (x3_27 : Int) (x4_27 : ByteArray), v3 = .int .i64 x3_27 ∧ v4 = .string x4_27 ∧ Aside0 (bulletinref30_For.j12 kq a0 x3_27 x4_27 = some (r1, r2)) ∧ Aside0 (kq ≤ kj25) ∧ Aside0 (wc.heap[gb320]? = some (.cells #[.int .i64 0, (.slice none 0 0)] 29 (0, 0))) ∧ Aside0 (Below w.heap.size w wc))
                                                  case first =>
                                                    have H := HC28.out
                                                    clear HC28
                                                    by_cases c29 : a0 = 430
                                                    · rw [if_pos c29] at H
                                                      have c29b0 : (a0 == 430) = true := beq_iff_eq.mpr c29
                                                      have c29b1 : (a0 != 430) = false := bne_eq_false_iff_eq.mpr c29
                                                      clear c29
                                                      (first | rw [c29b0] | (simp only [i64_w, i32_w]; rw [c29b0]) | skip)
                                                      have H' := Aside0.mk H
                                                      clear H
                                                      go_wp2
                                                      go_meet
                                                      case rel => exact ⟨_, (451), ((⟨#[52, 46, 51, 46, 48, 32, 110, 111, 116, 32, 110, 111, 119, 44, 32, 116, 114, 121, 32, 97, 103, 97, 105, 110]⟩ : ByteArray)), (by first | rfl | (simp; done) | (simp [*]; done)), (by first | rfl | (simp; done) | (simp [*]; done)), H', ⟨by have := HJ1.out; have := HJ4.out; have := HJ6.out; have := HJ8.out; have := HJ10.out; have := HJ12.out; have := HJ14.out; have := HJ16.out; have := HJ18.out; have := HJ20.out; have := HJ23.out; have := HJ25.out; first | omega | exact Nat.le_refl _⟩, ⟨by (with_reducible repeat (first | refine blk_drewN ?_ _ | refine blk_drew ?_ | refine blk_alloc ?_ _)); exact BK320.out⟩, ⟨by repeat (first | (with_reducible first | exact HB.out | apply below_alloc | apply pw_below_drewN | apply below_drew1 | refine below_set ?_ GE320.out) | exact HB.out)⟩⟩
                                                    · rw [if_neg c29] at H
                                                      have c29b0 : (a0 == 430) = false := beq_eq_false_iff_ne.mpr c29
                                                      have c29b1 : (a0 != 430) = true := bne_iff_ne.mpr c29
                                                      (first | rw [c29b0] | (simp only [i64_w, i32_w]; rw [c29b0]) | skip)
                                                      have H' := Aside0.mk H
                                                      clear H
                                                      go_wp2
                                                      go_meet
                                                      case rel => exact ⟨_, (x3_25), (x4_25), (by first | rfl | (simp; done) | (simp [*]; done)), (by first | rfl | (simp; done) | (simp [*]; done)), H', ⟨by have := HJ1.out; have := HJ4.out; have := HJ6.out; have := HJ8.out; have := HJ10.out; have := HJ12.out; have := HJ14.out; have := HJ16.out; have := HJ18.out; have := HJ20.out; have := HJ23.out; have := HJ25.out; first | omega | exact Nat.le_refl _⟩, ⟨by (with_reducible repeat (first | refine blk_drewN ?_ _ | refine blk_drew ?_ | refine blk_alloc ?_ _)); exact BK320.out⟩, ⟨by repeat (first | (with_reducible first | exact HB.out | apply below_alloc | apply pw_below_drewN | apply below_drew1 | refine below_set ?_ GE320.out) | exact HB.out)⟩⟩
                                                  case rest =>
                                                    clear HC28
                                                    try clear c1
                                                    try clear c2
                                                    try clear p2
                                                    try clear c4
                                                    try clear c4b0
                                                    try clear c4b1
                                                    try clear c6
                                                    try clear c6b0
                                                    try clear c6b1
                                                    try clear c8
                                                    try clear c8b0
                                                    try clear c8b1
                                                    try clear c10
                                                    try clear c12
                                                    try clear c12b0
                                                    try clear c12b1
                                                    try clear c14
                                                    try clear c14b0
                                                    try clear c14b1
                                                    try clear c16
                                                    try clear c16b0
                                                    try clear c16b1
                                                    try clear c18
                                                    try clear c18b0
                                                    try clear c18b1
                                                    try clear c20
                                                    try clear c20b0
                                                    try clear c20b1
                                                    try clear c21
                                                    try clear c22
                                                    try clear c22b0
                                                    try clear c22b1
                                                    try clear c23
                                                    try clear c23b0
                                                    try clear c23b1
                                                    try clear c25
                                                    try clear c27
                                                    try clear c27b0
                                                    try clear c27b1
                                                    try clear c29
                                                    try clear c29b0
                                                    try clear c29b1
                                                    try clear p2
                                                    obtain ⟨kq, x3_27, x4_27, rfl, rfl, HA, HJ27, BK320, HB⟩ := hcut
                                                    cases kq with
                                                    | zero => exact absurd HA.out (by simp [bulletinref30_For.j12])
                                                    | succ kj27 =>
                                                      have H := HA.out
                                                      clear HA
                                                      simp only [bulletinref30_For.j12] at H
                                                      have HC30 := Aside0.mk H
                                                      clear H
                                                      go_upto_region 25 with (fail)
                                                      go_cut [44] (fun v44 wc => ∃ (kq : Nat) (x44_29 : Bool), v44 = .bool x44_29 ∧ Aside0 (bulletinref30_For.j13 kq a0 x3_27 x4_27 x44_29 = some (r1, r2)) ∧ Aside0 (kq ≤ kj27) ∧ Aside0 (wc.heap[gb320]? = some (.cells #[.int .i64 0, (.slice none 0 0)] 29 (0, 0))) ∧ Aside0 (Below w.heap.size w wc))
                                                      case first =>
                                                        have H := HC30.out
                                                        clear HC30
                                                        by_cases c31 : a0 = 8
                                                        · rw [if_pos c31] at H
                                                          have c31b0 : (a0 == 8) = true := beq_iff_eq.mpr c31
                                                          have c31b1 : (a0 != 8) = false := bne_eq_false_iff_eq.mpr c31
                                                          clear c31
                                                          (first | rw [c31b0] | (simp only [i64_w, i32_w]; rw [c31b0]) | skip)
                                                          have H' := Aside0.mk H
                                                          clear H
                                                          go_wp2
                                                          go_meet
                                                          case rel => exact ⟨_, (true), (by first | rfl | (simp; done) | (simp [*]; done)), H', ⟨by have := HJ1.out; have := HJ4.out; have := HJ6.out; have := HJ8.out; have := HJ10.out; have := HJ12.out; have := HJ14.out; have := HJ16.out; have := HJ18.out; have := HJ20.out; have := HJ23.out; have := HJ25.out; have := HJ27.out; first | omega | exact Nat.le_refl _⟩, ⟨by (with_reducible repeat (first | refine blk_drewN ?_ _ | refine blk_drew ?_ | refine blk_alloc ?_ _)); exact BK320.out⟩, ⟨by repeat (first | (with_reducible first | exact HB.out | apply below_alloc | apply pw_below_drewN | apply below_drew1 | refine below_set ?_ GE320.out) | exact HB.out)⟩⟩
                                                        · rw [if_neg c31] at H
                                                          have c31b0 : (a0 == 8) = false := beq_eq_false_iff_ne.mpr c31
                                                          have c31b1 : (a0 != 8) = true := bne_iff_ne.mpr c31
                                                          (first | rw [c31b0] | (simp only [i64_w, i32_w]; rw [c31b0]) | skip)
                                                          have H' := Aside0.mk H
                                                          clear H
                                                          go_wp2
                                                          go_meet
                                                          case rel => exact ⟨_, ((a0 == 81)), (by first | rfl | (simp; done) | (simp [*]; done)), H', ⟨by have := HJ1.out; have := HJ4.out; have := HJ6.out; have := HJ8.out; have := HJ10.out; have := HJ12.out; have := HJ14.out; have := HJ16.out; have := HJ18.out; have := HJ20.out; have := HJ23.out; have := HJ25.out; have := HJ27.out; first | omega | exact Nat.le_refl _⟩, ⟨by (with_reducible repeat (first | refine blk_drewN ?_ _ | refine blk_drew ?_ | refine blk_alloc ?_ _)); exact BK320.out⟩, ⟨by repeat (first | (with_reducible first | exact HB.out | apply below_alloc | apply pw_below_drewN | apply below_drew1 | refine below_set ?_ GE320.out) | exact HB.out)⟩⟩
                                                      case rest =>
                                                        clear HC30
                                                        try clear c1
                                                        try clear c2
                                                        try clear p2
                                                        try clear c3
                                                        try clear c4
                                                        try clear c4b0
                                                        try clear c4b1
                                                        try clear c6
                                                        try clear c6b0
                                                        try clear c6b1
                                                        try clear c8
                                                        try clear c8b0
                                                        try clear c8b1
                                                        try clear c10
                                                        try clear c12
                                                        try clear c12b0
                                                        try clear c12b1
                                                        try clear c14
                                                        try clear c14b0
                                                        try clear c14b1
                                                        try clear c16
                                                        try clear c16b0
                                                        try clear c16b1
                                                        try clear c18
                                                        try clear c18b0
                                                        try clear c18b1
                                                        try clear c20
                                                        try clear c20b0
                                                        try clear c20b1
                                                        try clear c21
                                                        try clear c22
                                                        try clear c22b0
                                                        try clear c22b1
                                                        try clear c23
                                                        try clear c23b0
                                                        try clear c23b1
                                                        try clear c25
                                                        try clear c27
                                                        try clear c27b0
                                                        try clear c27b1
                                                        try clear c29
                                                        try clear c29b0
                                                        try clear c29b1
                                                        try clear c31
                                                        try clear c31b0
                                                        try clear c31b1
                                                        try clear p2
                                                        obtain ⟨kq, x44_29, rfl, HA, HJ29, BK320, HB⟩ := hcut
                                                        cases kq with
                                                        | zero => exact absurd HA.out (by simp [bulletinref30_For.j13])
                                                        | succ kj29 =>
                                                          have H := HA.out
                                                          clear HA
                                                          simp only [bulletinref30_For.j13] at H
                                                          by_cases c32 : x44_29 = true
                                                          · subst c32
                                                            have H1 : (if a0 = 80 then (some (421, (([(⟨#[52, 46, 51, 46, 50, 32, 103, 111, 105, 110, 103, 32, 97, 119, 97, 121]⟩ : ByteArray)] : List ByteArray)))) else (some (452, (([(⟨#[52, 46, 51, 46, 49, 32, 110, 111, 32, 114, 111, 111, 109, 44, 32, 116, 114, 121, 32, 97, 103, 97, 105, 110]⟩ : ByteArray)] : List ByteArray))))) = some (r1, r2) := by rw [if_pos rfl] at H; exact H
                                                            clear H
                                                            have H := H1
                                                            clear H1
                                                            by_cases c33 : a0 = 80
                                                            · rw [if_pos c33] at H
                                                              have c33b0 : (a0 == 80) = true := beq_iff_eq.mpr c33
                                                              have c33b1 : (a0 != 80) = false := bne_eq_false_iff_eq.mpr c33
                                                              clear c33
                                                              obtain ⟨y321, hy321⟩ : ∃ y_ : List ByteArray, y_ = (([(⟨#[52, 46, 51, 46, 50, 32, 103, 111, 105, 110, 103, 32, 97, 119, 97, 121]⟩ : ByteArray)] : List ByteArray)) := ⟨_, rfl⟩
                                                              replace H : (some (421, y321)) = some (r1, r2) := by first | (rw [hy321]; with_reducible exact H) | (have H2_ := (Option.bind_some _ _).symm.trans H; rw [hy321]; with_reducible exact H2_) | (have H2_ := (Option.bind_some _ _).symm.trans H; with_reducible exact H2_) | with_reducible exact H | (rw [hy321]; exact H) | exact H
                                                              have Ny321 := Aside0.mk hy321
                                                              clear hy321
                                                              simp only [Option.some.injEq, Prod.mk.injEq] at H
                                                              obtain ⟨rfl, rfl⟩ := H
                                                              go_wp2_with (first | ((with_reducible refine gate_dst (N := 49) rfl ?_); refine Kd.R_lit Kd.string _ 9 ?hg (N := 49) ?hd (xs := ([(⟨#[52, 46, 51, 46, 50, 32, 103, 111, 105, 110, 103, 32, 97, 119, 97, 121]⟩ : ByteArray)] : List ByteArray)) (inner := [.string (⟨#[52, 46, 51, 46, 50, 32, 103, 111, 105, 110, 103, 32, 97, 119, 97, 121]⟩ : ByteArray)]) (ok := fun _ => True) (okp := fun _ => True) ?hr ?hp (fun _ hk => hk) trivial (Below.refl _ _) (Nat.le_refl _) (by simp) ?_; (case hd => rfl); (case hg => rfl); (case hr => first | (go_simp; done) | (go_simp; rfl)); (case hp => exact (Reps.one (show Kd.M Kd.string _ _ _ (⟨#[52, 46, 51, 46, 50, 32, 103, 111, 105, 110, 103, 32, 97, 119, 97, 121]⟩ : ByteArray) [.string (⟨#[52, 46, 51, 46, 50, 32, 103, 111, 105, 110, 103, 32, 97, 119, 97, 121]⟩ : ByteArray)] from rfl) (Reps.none _ _))); intro v322 w34 ho35 hb hg_ hnew_; clear hg_ hnew_; (first | rw [← Ny321.out] at ho35 | (simp only [Int.reduceToNat] at ho35; rw [← Ny321.out] at ho35)); have n0_ := Aside0.mk (Kd.R_lower ho35 (below_size (by repeat (first | (with_reducible first | exact HB.out | apply below_alloc | apply pw_below_drewN | apply below_drew1 | refine below_set ?_ GE320.out) | exact HB.out)))); have n1_ := Aside0.mk (blk_below (g := gb320) (o := .cells #[.int .i64 0, .slice none 0 0] 29 (0, 0)) (by (with_reducible repeat (first | refine blk_drewN ?_ _ | refine blk_drew ?_ | refine blk_alloc ?_ _)); exact BK320.out) hb); have n2_ := Aside0.mk (below_step (by repeat (first | (with_reducible first | exact HB.out | apply below_alloc | apply pw_below_drewN | apply below_drew1 | refine below_set ?_ GE320.out) | exact HB.out)) hb); clear BK320; clear HB; have HO323 := n0_; have BK320 := n1_; have HB := n2_; clear n0_ n1_ n2_; clear hb ho35; obtain ⟨Ao36, co36, eo36⟩ := Kd.R_slice HO323.out; subst eo36; have hcz37_0 : w34.cell? ⟨gb320, 0, none⟩ = some (.int .i64 0) := (blk_cell BK320.out 0).trans rfl; have hcz37_1 : w34.cell? ⟨gb320, 1, none⟩ = some (.slice none 0 0) := (blk_cell BK320.out 1).trans rfl; have hfz37_0 := blk_frozen BK320.out 0; have hfz37_1 := blk_frozen BK320.out 1))
                                                              refine bodyPost_ret (results_cell_row rfl _ _ gb320 29 #[.int .i64 421, .slice Ao36 y321.length co36] (0, 0) _ rfl (by (with_reducible repeat (first | refine blk_drewN ?_ _ | refine blk_drew ?_ | refine blk_alloc ?_ _)); refine blk_put (cs := #[.int .i64 421, .slice none 0 0]) ?_ 1 _ rfl; (with_reducible repeat (first | refine blk_drewN ?_ _ | refine blk_drew ?_ | refine blk_alloc ?_ _)); refine blk_put (cs := #[.int .i64 0, .slice none 0 0]) ?_ 0 _ rfl; (with_reducible repeat (first | refine blk_drewN ?_ _ | refine blk_drew ?_ | refine blk_alloc ?_ _)); exact BK320.out) Tryd.underlying29 rfl (by kernel_rfl)) rfl ?_
                                                              exact ⟨_, by first | rfl | (simp [errW_none, errW_some] <;> rfl) | (simp [*, errW_none, errW_some] <;> rfl), by (with_reducible repeat (first | apply Kd.R_alloc | apply Kd.R_drewN | apply Kd.R_drew)); exact Kd.R_mono (Kd.R_far (p := ⟨gb320, 1, none⟩) (Kd.R_far (p := ⟨gb320, 0, none⟩) (Kd.R_types HO323.out BK320.out (by decide)) (fun _ hk => hk.2) (.int .i64 421)) (fun _ hk => hk.2) (.slice Ao36 y321.length co36)) (fun _ hk => trivial), by repeat (first | (with_reducible first | exact HB.out | apply below_alloc | apply pw_below_drewN | apply below_drew1 | refine below_set ?_ GE320.out) | exact HB.out)⟩
                                                            · rw [if_neg c33] at H
                                                              have c33b0 : (a0 == 80) = false := beq_eq_false_iff_ne.mpr c33
                                                              have c33b1 : (a0 != 80) = true := bne_iff_ne.mpr c33
                                                              obtain ⟨y324, hy324⟩ : ∃ y_ : List ByteArray, y_ = (([(⟨#[52, 46, 51, 46, 49, 32, 110, 111, 32, 114, 111, 111, 109, 44, 32, 116, 114, 121, 32, 97, 103, 97, 105, 110]⟩ : ByteArray)] : List ByteArray)) := ⟨_, rfl⟩
                                                              replace H : (some (452, y324)) = some (r1, r2) := by first | (rw [hy324]; with_reducible exact H) | (have H2_ := (Option.bind_some _ _).symm.trans H; rw [hy324]; with_reducible exact H2_) | (have H2_ := (Option.bind_some _ _).symm.trans H; with_reducible exact H2_) | with_reducible exact H | (rw [hy324]; exact H) | exact H
                                                              have Ny324 := Aside0.mk hy324
                                                              clear hy324
                                                              simp only [Option.some.injEq, Prod.mk.injEq] at H
                                                              obtain ⟨rfl, rfl⟩ := H
                                                              go_wp2_with (first | ((with_reducible refine gate_dst (N := 49) rfl ?_); refine Kd.R_lit Kd.string _ 9 ?hg (N := 49) ?hd (xs := ([(⟨#[52, 46, 51, 46, 49, 32, 110, 111, 32, 114, 111, 111, 109, 44, 32, 116, 114, 121, 32, 97, 103, 97, 105, 110]⟩ : ByteArray)] : List ByteArray)) (inner := [.string (⟨#[52, 46, 51, 46, 49, 32, 110, 111, 32, 114, 111, 111, 109, 44, 32, 116, 114, 121, 32, 97, 103, 97, 105, 110]⟩ : ByteArray)]) (ok := fun _ => True) (okp := fun _ => True) ?hr ?hp (fun _ hk => hk) trivial (Below.refl _ _) (Nat.le_refl _) (by simp) ?_; (case hd => rfl); (case hg => rfl); (case hr => first | (go_simp; done) | (go_simp; rfl)); (case hp => exact (Reps.one (show Kd.M Kd.string _ _ _ (⟨#[52, 46, 51, 46, 49, 32, 110, 111, 32, 114, 111, 111, 109, 44, 32, 116, 114, 121, 32, 97, 103, 97, 105, 110]⟩ : ByteArray) [.string (⟨#[52, 46, 51, 46, 49, 32, 110, 111, 32, 114, 111, 111, 109, 44, 32, 116, 114, 121, 32, 97, 103, 97, 105, 110]⟩ : ByteArray)] from rfl) (Reps.none _ _))); intro v325 w38 ho39 hb hg_ hnew_; clear hg_ hnew_; (first | rw [← Ny324.out] at ho39 | (simp only [Int.reduceToNat] at ho39; rw [← Ny324.out] at ho39)); have n0_ := Aside0.mk (Kd.R_lower ho39 (below_size (by repeat (first | (with_reducible first | exact HB.out | apply below_alloc | apply pw_below_drewN | apply below_drew1 | refine below_set ?_ GE320.out) | exact HB.out)))); have n1_ := Aside0.mk (blk_below (g := gb320) (o := .cells #[.int .i64 0, .slice none 0 0] 29 (0, 0)) (by (with_reducible repeat (first | refine blk_drewN ?_ _ | refine blk_drew ?_ | refine blk_alloc ?_ _)); exact BK320.out) hb); have n2_ := Aside0.mk (below_step (by repeat (first | (with_reducible first | exact HB.out | apply below_alloc | apply pw_below_drewN | apply below_drew1 | refine below_set ?_ GE320.out) | exact HB.out)) hb); clear BK320; clear HB; have HO326 := n0_; have BK320 := n1_; have HB := n2_; clear n0_ n1_ n2_; clear hb ho39; obtain ⟨Ao40, co40, eo40⟩ := Kd.R_slice HO326.out; subst eo40; have hcz41_0 : w38.cell? ⟨gb320, 0, none⟩ = some (.int .i64 0) := (blk_cell BK320.out 0).trans rfl; have hcz41_1 : w38.cell? ⟨gb320, 1, none⟩ = some (.slice none 0 0) := (blk_cell BK320.out 1).trans rfl; have hfz41_0 := blk_frozen BK320.out 0; have hfz41_1 := blk_frozen BK320.out 1))
                                                              refine bodyPost_ret (results_cell_row rfl _ _ gb320 29 #[.int .i64 452, .slice Ao40 y324.length co40] (0, 0) _ rfl (by (with_reducible repeat (first | refine blk_drewN ?_ _ | refine blk_drew ?_ | refine blk_alloc ?_ _)); refine blk_put (cs := #[.int .i64 452, .slice none 0 0]) ?_ 1 _ rfl; (with_reducible repeat (first | refine blk_drewN ?_ _ | refine blk_drew ?_ | refine blk_alloc ?_ _)); refine blk_put (cs := #[.int .i64 0, .slice none 0 0]) ?_ 0 _ rfl; (with_reducible repeat (first | refine blk_drewN ?_ _ | refine blk_drew ?_ | refine blk_alloc ?_ _)); exact BK320.out) Tryd.underlying29 rfl (by kernel_rfl)) rfl ?_
                                                              exact ⟨_, by first | rfl | (simp [errW_none, errW_some] <;> rfl) | (simp [*, errW_none, errW_some] <;> rfl), by (with_reducible repeat (first | apply Kd.R_alloc | apply Kd.R_drewN | apply Kd.R_drew)); exact Kd.R_mono (Kd.R_far (p := ⟨gb320, 1, none⟩) (Kd.R_far (p := ⟨gb320, 0, none⟩) (Kd.R_types HO326.out BK320.out (by decide)) (fun _ hk => hk.2) (.int .i64 452)) (fun _ hk => hk.2) (.slice Ao40 y324.length co40)) (fun _ hk => trivial), by repeat (first | (with_reducible first | exact HB.out | apply below_alloc | apply pw_below_drewN | apply below_drew1 | refine below_set ?_ GE320.out) | exact HB.out)⟩
                                                          · replace c32 := Bool.eq_false_iff.mpr c32
                                                            subst c32
                                                            have H1 : (if a0 = 80 then (some (421, (([(⟨#[52, 46, 51, 46, 50, 32, 103, 111, 105, 110, 103, 32, 97, 119, 97, 121]⟩ : ByteArray)] : List ByteArray)))) else (some (x3_27, (([x4_27] : List ByteArray))))) = some (r1, r2) := by rw [if_neg (show ¬ (false = true) by decide)] at H; exact H
                                                            clear H
                                                            have H := H1
                                                            clear H1
                                                            by_cases c42 : a0 = 80
                                                            · rw [if_pos c42] at H
                                                              have c42b0 : (a0 == 80) = true := beq_iff_eq.mpr c42
                                                              have c42b1 : (a0 != 80) = false := bne_eq_false_iff_eq.mpr c42
                                                              clear c42
                                                              obtain ⟨y327, hy327⟩ : ∃ y_ : List ByteArray, y_ = (([(⟨#[52, 46, 51, 46, 50, 32, 103, 111, 105, 110, 103, 32, 97, 119, 97, 121]⟩ : ByteArray)] : List ByteArray)) := ⟨_, rfl⟩
                                                              replace H : (some (421, y327)) = some (r1, r2) := by first | (rw [hy327]; with_reducible exact H) | (have H2_ := (Option.bind_some _ _).symm.trans H; rw [hy327]; with_reducible exact H2_) | (have H2_ := (Option.bind_some _ _).symm.trans H; with_reducible exact H2_) | with_reducible exact H | (rw [hy327]; exact H) | exact H
                                                              have Ny327 := Aside0.mk hy327
                                                              clear hy327
                                                              simp only [Option.some.injEq, Prod.mk.injEq] at H
                                                              obtain ⟨rfl, rfl⟩ := H
                                                              go_wp2_with (first | ((with_reducible refine gate_dst (N := 49) rfl ?_); refine Kd.R_lit Kd.string _ 9 ?hg (N := 49) ?hd (xs := ([(⟨#[52, 46, 51, 46, 50, 32, 103, 111, 105, 110, 103, 32, 97, 119, 97, 121]⟩ : ByteArray)] : List ByteArray)) (inner := [.string (⟨#[52, 46, 51, 46, 50, 32, 103, 111, 105, 110, 103, 32, 97, 119, 97, 121]⟩ : ByteArray)]) (ok := fun _ => True) (okp := fun _ => True) ?hr ?hp (fun _ hk => hk) trivial (Below.refl _ _) (Nat.le_refl _) (by simp) ?_; (case hd => rfl); (case hg => rfl); (case hr => first | (go_simp; done) | (go_simp; rfl)); (case hp => exact (Reps.one (show Kd.M Kd.string _ _ _ (⟨#[52, 46, 51, 46, 50, 32, 103, 111, 105, 110, 103, 32, 97, 119, 97, 121]⟩ : ByteArray) [.string (⟨#[52, 46, 51, 46, 50, 32, 103, 111, 105, 110, 103, 32, 97, 119, 97, 121]⟩ : ByteArray)] from rfl) (Reps.none _ _))); intro v328 w43 ho44 hb hg_ hnew_; clear hg_ hnew_; (first | rw [← Ny327.out] at ho44 | (simp only [Int.reduceToNat] at ho44; rw [← Ny327.out] at ho44)); have n0_ := Aside0.mk (Kd.R_lower ho44 (below_size (by repeat (first | (with_reducible first | exact HB.out | apply below_alloc | apply pw_below_drewN | apply below_drew1 | refine below_set ?_ GE320.out) | exact HB.out)))); have n1_ := Aside0.mk (blk_below (g := gb320) (o := .cells #[.int .i64 0, .slice none 0 0] 29 (0, 0)) (by (with_reducible repeat (first | refine blk_drewN ?_ _ | refine blk_drew ?_ | refine blk_alloc ?_ _)); exact BK320.out) hb); have n2_ := Aside0.mk (below_step (by repeat (first | (with_reducible first | exact HB.out | apply below_alloc | apply pw_below_drewN | apply below_drew1 | refine below_set ?_ GE320.out) | exact HB.out)) hb); clear BK320; clear HB; have HO329 := n0_; have BK320 := n1_; have HB := n2_; clear n0_ n1_ n2_; clear hb ho44; obtain ⟨Ao45, co45, eo45⟩ := Kd.R_slice HO329.out; subst eo45; have hcz46_0 : w43.cell? ⟨gb320, 0, none⟩ = some (.int .i64 0) := (blk_cell BK320.out 0).trans rfl; have hcz46_1 : w43.cell? ⟨gb320, 1, none⟩ = some (.slice none 0 0) := (blk_cell BK320.out 1).trans rfl; have hfz46_0 := blk_frozen BK320.out 0; have hfz46_1 := blk_frozen BK320.out 1))
                                                              refine bodyPost_ret (results_cell_row rfl _ _ gb320 29 #[.int .i64 421, .slice Ao45 y327.length co45] (0, 0) _ rfl (by (with_reducible repeat (first | refine blk_drewN ?_ _ | refine blk_drew ?_ | refine blk_alloc ?_ _)); refine blk_put (cs := #[.int .i64 421, .slice none 0 0]) ?_ 1 _ rfl; (with_reducible repeat (first | refine blk_drewN ?_ _ | refine blk_drew ?_ | refine blk_alloc ?_ _)); refine blk_put (cs := #[.int .i64 0, .slice none 0 0]) ?_ 0 _ rfl; (with_reducible repeat (first | refine blk_drewN ?_ _ | refine blk_drew ?_ | refine blk_alloc ?_ _)); exact BK320.out) Tryd.underlying29 rfl (by kernel_rfl)) rfl ?_
                                                              exact ⟨_, by first | rfl | (simp [errW_none, errW_some] <;> rfl) | (simp [*, errW_none, errW_some] <;> rfl), by (with_reducible repeat (first | apply Kd.R_alloc | apply Kd.R_drewN | apply Kd.R_drew)); exact Kd.R_mono (Kd.R_far (p := ⟨gb320, 1, none⟩) (Kd.R_far (p := ⟨gb320, 0, none⟩) (Kd.R_types HO329.out BK320.out (by decide)) (fun _ hk => hk.2) (.int .i64 421)) (fun _ hk => hk.2) (.slice Ao45 y327.length co45)) (fun _ hk => trivial), by repeat (first | (with_reducible first | exact HB.out | apply below_alloc | apply pw_below_drewN | apply below_drew1 | refine below_set ?_ GE320.out) | exact HB.out)⟩
                                                            · rw [if_neg c42] at H
                                                              have c42b0 : (a0 == 80) = false := beq_eq_false_iff_ne.mpr c42
                                                              have c42b1 : (a0 != 80) = true := bne_iff_ne.mpr c42
                                                              obtain ⟨y330, hy330⟩ : ∃ y_ : List ByteArray, y_ = (([x4_27] : List ByteArray)) := ⟨_, rfl⟩
                                                              replace H : (some (x3_27, y330)) = some (r1, r2) := by first | (rw [hy330]; with_reducible exact H) | (have H2_ := (Option.bind_some _ _).symm.trans H; rw [hy330]; with_reducible exact H2_) | (have H2_ := (Option.bind_some _ _).symm.trans H; with_reducible exact H2_) | with_reducible exact H | (rw [hy330]; exact H) | exact H
                                                              have Ny330 := Aside0.mk hy330
                                                              clear hy330
                                                              simp only [Option.some.injEq, Prod.mk.injEq] at H
                                                              obtain ⟨rfl, rfl⟩ := H
                                                              go_wp2_with (first | ((with_reducible refine gate_dst (N := 49) rfl ?_); refine Kd.R_lit Kd.string _ 9 ?hg (N := 49) ?hd (xs := ([x4_27] : List ByteArray)) (inner := [.string x4_27]) (ok := fun _ => True) (okp := fun _ => True) ?hr ?hp (fun _ hk => hk) trivial (Below.refl _ _) (Nat.le_refl _) (by simp) ?_; (case hd => rfl); (case hg => rfl); (case hr => first | (go_simp; done) | (go_simp; rfl)); (case hp => exact (Reps.one (show Kd.M Kd.string _ _ _ x4_27 [.string x4_27] from rfl) (Reps.none _ _))); intro v331 w47 ho48 hb hg_ hnew_; clear hg_ hnew_; (first | rw [← Ny330.out] at ho48 | (simp only [Int.reduceToNat] at ho48; rw [← Ny330.out] at ho48)); have n0_ := Aside0.mk (Kd.R_lower ho48 (below_size (by repeat (first | (with_reducible first | exact HB.out | apply below_alloc | apply pw_below_drewN | apply below_drew1 | refine below_set ?_ GE320.out) | exact HB.out)))); have n1_ := Aside0.mk (blk_below (g := gb320) (o := .cells #[.int .i64 0, .slice none 0 0] 29 (0, 0)) (by (with_reducible repeat (first | refine blk_drewN ?_ _ | refine blk_drew ?_ | refine blk_alloc ?_ _)); exact BK320.out) hb); have n2_ := Aside0.mk (below_step (by repeat (first | (with_reducible first | exact HB.out | apply below_alloc | apply pw_below_drewN | apply below_drew1 | refine below_set ?_ GE320.out) | exact HB.out)) hb); clear BK320; clear HB; have HO332 := n0_; have BK320 := n1_; have HB := n2_; clear n0_ n1_ n2_; clear hb ho48; obtain ⟨Ao49, co49, eo49⟩ := Kd.R_slice HO332.out; subst eo49; have hcz50_0 : w47.cell? ⟨gb320, 0, none⟩ = some (.int .i64 0) := (blk_cell BK320.out 0).trans rfl; have hcz50_1 : w47.cell? ⟨gb320, 1, none⟩ = some (.slice none 0 0) := (blk_cell BK320.out 1).trans rfl; have hfz50_0 := blk_frozen BK320.out 0; have hfz50_1 := blk_frozen BK320.out 1))
                                                              refine bodyPost_ret (results_cell_row rfl _ _ gb320 29 #[.int .i64 x3_27, .slice Ao49 y330.length co49] (0, 0) _ rfl (by (with_reducible repeat (first | refine blk_drewN ?_ _ | refine blk_drew ?_ | refine blk_alloc ?_ _)); refine blk_put (cs := #[.int .i64 x3_27, .slice none 0 0]) ?_ 1 _ rfl; (with_reducible repeat (first | refine blk_drewN ?_ _ | refine blk_drew ?_ | refine blk_alloc ?_ _)); refine blk_put (cs := #[.int .i64 0, .slice none 0 0]) ?_ 0 _ rfl; (with_reducible repeat (first | refine blk_drewN ?_ _ | refine blk_drew ?_ | refine blk_alloc ?_ _)); exact BK320.out) Tryd.underlying29 rfl (by kernel_rfl)) rfl ?_
                                                              exact ⟨_, by first | rfl | (simp [errW_none, errW_some] <;> rfl) | (simp [*, errW_none, errW_some] <;> rfl), by (with_reducible repeat (first | apply Kd.R_alloc | apply Kd.R_drewN | apply Kd.R_drew)); exact Kd.R_mono (Kd.R_far (p := ⟨gb320, 1, none⟩) (Kd.R_far (p := ⟨gb320, 0, none⟩) (Kd.R_types HO332.out BK320.out (by decide)) (fun _ hk => hk.2) (.int .i64 x3_27)) (fun _ hk => hk.2) (.slice Ao49 y330.length co49)) (fun _ hk => trivial), by repeat (first | (with_reducible first | exact HB.out | apply below_alloc | apply pw_below_drewN | apply below_drew1 | refine below_set ?_ GE320.out) | exact HB.out)⟩

end Go.Proofs.YtdjpdbdilcjakaaDoor.X
