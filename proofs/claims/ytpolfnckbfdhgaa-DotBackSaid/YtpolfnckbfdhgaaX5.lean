-- Written by a program (print.py's text, with contracts of this session's own put in). Not trusted: Lean checks it.
import Derived.Test.YtpolfnckbfdhgaaX0
namespace Go.Proofs.Ytpolfnckbfdhgaa.X
open Go.RowKit Go.Proofs.YtpolfnckbfdhgaaW.PrintWords Go.Proofs.YtpolfnckbfdhgaaW.PrintLast Go.Proofs.YtpolfnckbfdhgaaW.PrintMore
attribute [local go_sem] max2_int min2_int max_two min_two max_three min_three max_four min_four   -- for this text's walks alone
set_option linter.unusedVariables false
set_option linter.unusedSimpArgs false

/-! ### bulletinref29_Body: function 12 -/
mutual
def bulletinref29_Body.l0 : Nat → List (S31) → Int → ByteArray → Bool → Bool → Int → Option (ByteArray × Int × Bool × Int)
  | 0, _, _, _, _, _, _ => none
  | k + 1, x0, x1, x8, x9, x10, x11 => if x11 < (x0.length : Int) then (bulletinref29_Body.j1 k x0 x1 x8 x9 x10 x11 (!x10)) else (bulletinref29_Body.j1 k x0 x1 x8 x9 x10 x11 false)
def bulletinref29_Body.j1 : Nat → List (S31) → Int → ByteArray → Bool → Bool → Int → Bool → Option (ByteArray × Int × Bool × Int)
  | 0, _, _, _, _, _, _, _ => none
  | k + 1, x0, x1, x8, x9, x10, x11, x20 => if x20 = true then (if 0 ≤ x11 then (if x11 < (x0.length : Int) then (if ((rd_T31 x0 x11).f0) = 1 then (if ((rd_T31 x0 x11).f1).toList = ([46] : List UInt8) then (bulletinref29_Body.l0 k x0 x1 x8 x9 true (wrap64 (x11 + 1))) else (if (((rd_T31 x0 x11).f1).size : Int) > 0 then (if 0 < (((rd_T31 x0 x11).f1).size : Int) then (if (bt ((rd_T31 x0 x11).f1) 0) = 46 then (if 1 ≤ (((rd_T31 x0 x11).f1).size : Int) then (if x8.size + (((rd_T31 x0 x11).f1).extract 1 ((rd_T31 x0 x11).f1).size).size ≤ 9223372036854775807 then (if (x8 ++ (((rd_T31 x0 x11).f1).extract 1 ((rd_T31 x0 x11).f1).size)).size + 2 ≤ 9223372036854775807 then (bulletinref29_Body.l0 k x0 x1 ((x8 ++ (((rd_T31 x0 x11).f1).extract 1 ((rd_T31 x0 x11).f1).size)) ++ (⟨#[13, 10]⟩ : ByteArray)) x9 x10 (wrap64 (x11 + 1))) else (none)) else (none)) else (none)) else (if x8.size + ((rd_T31 x0 x11).f1).size ≤ 9223372036854775807 then (if (x8 ++ ((rd_T31 x0 x11).f1)).size + 2 ≤ 9223372036854775807 then (bulletinref29_Body.l0 k x0 x1 ((x8 ++ ((rd_T31 x0 x11).f1)) ++ (⟨#[13, 10]⟩ : ByteArray)) x9 x10 (wrap64 (x11 + 1))) else (none)) else (none))) else (none)) else (if x8.size + ((rd_T31 x0 x11).f1).size ≤ 9223372036854775807 then (if (x8 ++ ((rd_T31 x0 x11).f1)).size + 2 ≤ 9223372036854775807 then (bulletinref29_Body.l0 k x0 x1 ((x8 ++ ((rd_T31 x0 x11).f1)) ++ (⟨#[13, 10]⟩ : ByteArray)) x9 x10 (wrap64 (x11 + 1))) else (none)) else (none)))) else (bulletinref29_Body.l0 k x0 x1 x8 true x10 (wrap64 (x11 + 1)))) else (none)) else (none)) else (if x9 = true then (some ((⟨#[]⟩ : ByteArray), (x8.size : Int), x10, 480)) else (if (x8.size : Int) > x1 then (some ((⟨#[]⟩ : ByteArray), (x8.size : Int), x10, 2)) else (some (x8, (x8.size : Int), x10, 0))))
end
def bulletinref29_Body.f (k : Nat) (l0 : List (S31)) (a1 : Int) : Option (ByteArray × Int × Bool × Int) := bulletinref29_Body.l0 k l0 a1 (⟨#[]⟩ : ByteArray) false false 0
theorem bulletinref29_Body.mono_l : ∀ k, (∀ y0 y1 y2 y3 y4 y5, LeO (bulletinref29_Body.l0 k y0 y1 y2 y3 y4 y5) (bulletinref29_Body.l0 (k + 1) y0 y1 y2 y3 y4 y5)) ∧ (∀ y0 y1 y2 y3 y4 y5 y6, LeO (bulletinref29_Body.j1 k y0 y1 y2 y3 y4 y5 y6) (bulletinref29_Body.j1 (k + 1) y0 y1 y2 y3 y4 y5 y6))
  | 0 => ⟨fun _ _ _ _ _ _ r h => by simp [bulletinref29_Body.l0] at h, fun _ _ _ _ _ _ _ r h => by simp [bulletinref29_Body.j1] at h⟩
  | k + 1 => by
    obtain ⟨ih0, ih1⟩ := bulletinref29_Body.mono_l k
    refine ⟨?_, ?_⟩
    · intro y0 y1 y2 y3 y4 y5
      unfold bulletinref29_Body.l0
      repeat' first
      | (with_reducible exact ih0 _ _ _ _ _ _)
      | (with_reducible exact ih1 _ _ _ _ _ _ _)
      | (with_reducible exact LeO.refl _)
      | (with_reducible exact LeO.none _)
      | (with_reducible refine LeO.ite ?_ ?_)
      | (with_reducible refine LeO.bind ?_ (fun _ => ?_))
      | exact ih0 _ _ _ _ _ _
      | exact ih1 _ _ _ _ _ _ _
      | exact LeO.none _
      | refine LeO.ite ?_ ?_
      | refine LeO.bind ?_ (fun _ => ?_)
    · intro y0 y1 y2 y3 y4 y5 y6
      unfold bulletinref29_Body.j1
      repeat' first
      | (with_reducible exact ih0 _ _ _ _ _ _)
      | (with_reducible exact ih1 _ _ _ _ _ _ _)
      | (with_reducible exact LeO.refl _)
      | (with_reducible exact LeO.none _)
      | (with_reducible refine LeO.ite ?_ ?_)
      | (with_reducible refine LeO.bind ?_ (fun _ => ?_))
      | exact ih0 _ _ _ _ _ _
      | exact ih1 _ _ _ _ _ _ _
      | exact LeO.none _
      | refine LeO.ite ?_ ?_
      | refine LeO.bind ?_ (fun _ => ?_)
theorem bulletinref29_Body.mono : ∀ a0 a1 k, LeO (bulletinref29_Body.f k a0 a1) (bulletinref29_Body.f (k + 1) a0 a1) := by
  intro a0 a1 k
  obtain ⟨ih0, ih1⟩ := bulletinref29_Body.mono_l k
  unfold bulletinref29_Body.f
  repeat' first
      | (with_reducible exact ih0 _ _ _ _ _ _)
      | (with_reducible exact ih1 _ _ _ _ _ _ _)
      | (with_reducible exact LeO.refl _)
      | (with_reducible exact LeO.none _)
      | (with_reducible refine LeO.ite ?_ ?_)
      | (with_reducible refine LeO.bind ?_ (fun _ => ?_))
      | exact ih0 _ _ _ _ _ _
      | exact ih1 _ _ _ _ _ _ _
      | exact LeO.none _
      | refine LeO.ite ?_ ?_
      | refine LeO.bind ?_ (fun _ => ?_)
set_option maxHeartbeats 8000000 in
set_option maxRecDepth 100000 in
theorem bulletinref29_Body.calls (k : Nat) (A0 : Option Addr) (c0 : Nat) (l0 : List (S31)) (a1 : Int) (r1 : ByteArray) (r2 : Int) (r3 : Bool) (r4 : Int) (w : World) (hr0 : Kd.C k31 w A0 l0.length l0) (hc0 : l0.length ≤ c0) (h : bulletinref29_Body.f k l0 a1 = some (r1, r2, r3, r4)) :
    Calls Try.prog 12 #[.slice A0 l0.length c0, .int .i64 a1] w fun e w' => e = .returned (.tuple #[.string r1, .int .i64 r2, .bool r3, .int .i64 r4]) ∧ Drawn0 w w' := by
  have HR0 := Aside0.mk hr0
  have HC0 := Aside0.mk hc0
  clear hr0 hc0
  have H : (bulletinref29_Body.l0 k l0 a1 (⟨#[]⟩ : ByteArray) false false 0) = some (r1, r2, r3, r4) := h
  clear h
  have H' := Aside0.mk H
  clear H
  go_enter Try.func12, Try.ntmps12
  go_wp2
  go_loopg [8, 9, 10, 11] k (fun kq v8 v9 v10 v11 w' => ∃ (x8_1 : ByteArray) (x9_1 : Bool) (x10_1 : Bool) (x11_1 : Int), v8 = .string x8_1 ∧ v9 = .bool x9_1 ∧ v10 = .bool x10_1 ∧ v11 = .int .i64 x11_1 ∧ Aside0 (bulletinref29_Body.l0 kq l0 a1 x8_1 x9_1 x10_1 x11_1 = some (r1, r2, r3, r4)) ∧ Aside0 (kq ≤ k) ∧ Drawn0 w w')
  case atStart => exact ⟨((⟨#[]⟩ : ByteArray)), (false), (false), (0), (by first | rfl | (simp; done) | (simp [*]; done)), (by first | rfl | (simp; done) | (simp [*]; done)), (by first | rfl | (simp; done) | (simp [*]; done)), (by first | rfl | (simp; done) | (simp [*]; done)), H', ⟨Nat.le_refl _⟩, by repeat (first | exact Drawn0.refl _ | apply Drawn0.step)⟩
  case round =>
    clear H'
    try clear c1
    try clear p2
    obtain ⟨x8_1, x9_1, x10_1, x11_1, rfl, rfl, rfl, rfl, HA, HK1, ⟨m1, rfl⟩⟩ := hrel
    cases gk with
    | zero => exact absurd HA.out (by simp [bulletinref29_Body.l0])
    | succ k1 =>
      have H := HA.out
      clear HA
      simp only [bulletinref29_Body.l0] at H
      have HC3 := Aside0.mk H
      clear H
      go_upto_region 5 with (fail)
      go_cut [20] (fun v20 wc => ∃ (kq : Nat) (x20_2 : Bool), v20 = .bool x20_2 ∧ Aside0 (bulletinref29_Body.j1 kq l0 a1 x8_1 x9_1 x10_1 x11_1 x20_2 = some (r1, r2, r3, r4)) ∧ Aside0 (kq ≤ k1) ∧ Drawn0 w wc)
      case first =>
        have H := HC3.out
        clear HC3
        by_cases c4 : x11_1 < (l0.length : Int)
        · rw [if_pos c4] at H
          have c4b0 : decide (x11_1 < (l0.length : Int)) = true := decide_eq_true c4
          clear c4
          (first | rw [c4b0] | (simp only [i64_w, i32_w]; rw [c4b0]) | skip)
          have H' := Aside0.mk H
          clear H
          go_wp2
          go_meet
          case rel => exact ⟨_, (!x10_1), (by first | rfl | (simp; done) | (simp [*]; done)), H', ⟨by have := HK1.out; first | omega | exact Nat.le_refl _⟩, by repeat (first | exact Drawn0.refl _ | apply Drawn0.step)⟩
        · rw [if_neg c4] at H
          have c4b0 : decide (x11_1 < (l0.length : Int)) = false := decide_eq_false c4
          clear c4
          (first | rw [c4b0] | (simp only [i64_w, i32_w]; rw [c4b0]) | skip)
          have H' := Aside0.mk H
          clear H
          go_wp2
          go_meet
          case rel => exact ⟨_, (false), (by first | rfl | (simp; done) | (simp [*]; done)), H', ⟨by have := HK1.out; first | omega | exact Nat.le_refl _⟩, by repeat (first | exact Drawn0.refl _ | apply Drawn0.step)⟩
      case rest =>
        clear HC3
        try clear c1
        try clear p2
        try clear c4
        try clear c4b0
        try clear p2
        obtain ⟨kq, x20_2, rfl, HA, HJ2, ⟨mc2, rfl⟩⟩ := hcut
        cases kq with
        | zero => exact absurd HA.out (by simp [bulletinref29_Body.j1])
        | succ kj2 =>
          have H := HA.out
          clear HA
          simp only [bulletinref29_Body.j1] at H
          by_cases c5 : x20_2 = true
          · subst c5
            have H1 : (if 0 ≤ x11_1 then (if x11_1 < (l0.length : Int) then (if ((rd_T31 l0 x11_1).f0) = 1 then (if ((rd_T31 l0 x11_1).f1).toList = ([46] : List UInt8) then (bulletinref29_Body.l0 kj2 l0 a1 x8_1 x9_1 true (wrap64 (x11_1 + 1))) else (if (((rd_T31 l0 x11_1).f1).size : Int) > 0 then (if 0 < (((rd_T31 l0 x11_1).f1).size : Int) then (if (bt ((rd_T31 l0 x11_1).f1) 0) = 46 then (if 1 ≤ (((rd_T31 l0 x11_1).f1).size : Int) then (if x8_1.size + (((rd_T31 l0 x11_1).f1).extract 1 ((rd_T31 l0 x11_1).f1).size).size ≤ 9223372036854775807 then (if (x8_1 ++ (((rd_T31 l0 x11_1).f1).extract 1 ((rd_T31 l0 x11_1).f1).size)).size + 2 ≤ 9223372036854775807 then (bulletinref29_Body.l0 kj2 l0 a1 ((x8_1 ++ (((rd_T31 l0 x11_1).f1).extract 1 ((rd_T31 l0 x11_1).f1).size)) ++ (⟨#[13, 10]⟩ : ByteArray)) x9_1 x10_1 (wrap64 (x11_1 + 1))) else (none)) else (none)) else (none)) else (if x8_1.size + ((rd_T31 l0 x11_1).f1).size ≤ 9223372036854775807 then (if (x8_1 ++ ((rd_T31 l0 x11_1).f1)).size + 2 ≤ 9223372036854775807 then (bulletinref29_Body.l0 kj2 l0 a1 ((x8_1 ++ ((rd_T31 l0 x11_1).f1)) ++ (⟨#[13, 10]⟩ : ByteArray)) x9_1 x10_1 (wrap64 (x11_1 + 1))) else (none)) else (none))) else (none)) else (if x8_1.size + ((rd_T31 l0 x11_1).f1).size ≤ 9223372036854775807 then (if (x8_1 ++ ((rd_T31 l0 x11_1).f1)).size + 2 ≤ 9223372036854775807 then (bulletinref29_Body.l0 kj2 l0 a1 ((x8_1 ++ ((rd_T31 l0 x11_1).f1)) ++ (⟨#[13, 10]⟩ : ByteArray)) x9_1 x10_1 (wrap64 (x11_1 + 1))) else (none)) else (none)))) else (bulletinref29_Body.l0 kj2 l0 a1 x8_1 true x10_1 (wrap64 (x11_1 + 1)))) else (none)) else (none)) = some (r1, r2, r3, r4) := by rw [if_pos rfl] at H; exact H
            clear H
            have H := H1
            clear H1
            by_cases c6 : 0 ≤ x11_1
            · rw [if_pos c6] at H
              have c6b0 : decide (0 ≤ x11_1) = true := decide_eq_true c6
              clear c6
              by_cases c7 : x11_1 < (l0.length : Int)
              · rw [if_pos c7] at H
                have c7b0 : decide (x11_1 < (l0.length : Int)) = true := decide_eq_true c7
                clear c7
                by_cases c8 : ((rd_T31 l0 x11_1).f0) = 1
                · rw [if_pos c8] at H
                  have c8b0 : (((rd_T31 l0 x11_1).f0) == 1) = true := beq_iff_eq.mpr c8
                  have c8b1 : (((rd_T31 l0 x11_1).f0) != 1) = false := bne_eq_false_iff_eq.mpr c8
                  clear c8
                  by_cases c9 : ((rd_T31 l0 x11_1).f1).toList = ([46] : List UInt8)
                  · rw [if_pos c9] at H
                    have c9b0 : (((rd_T31 l0 x11_1).f1).toList == ([46] : List UInt8)) = true := beq_iff_eq.mpr c9
                    have c9b1 : (((rd_T31 l0 x11_1).f1).toList != ([46] : List UInt8)) = false := bne_eq_false_iff_eq.mpr c9
                    clear c9
                    have H' := Aside0.mk H
                    clear H
                    have p117 : 0 ≤ (x11_1 : Int) := of_decide_eq_true (by first | (with_reducible assumption) | assumption)
                    have q117 : x11_1 < (l0.length : Int) := of_decide_eq_true (by first | (with_reducible assumption) | assumption)
                    obtain ⟨ad117, e117, hx117_0, hx117_1⟩ := at_T31 HR0.out x11_1 p117 q117
                    cases e117
                    replace p117 := eq_true p117
                    replace q117 := eq_true q117; (try (have qs117 := q117; simp only [ByteArray.size_append, ByteArray.size_extract, Nat.min_self, Xsize_mk, List.size_toArray, List.length_cons, List.length_nil, Nat.zero_add, Nat.reduceAdd, List.length_append, List.length_drop, List.length_take] at qs117))
                    have p118 : 0 ≤ (x11_1 : Int) := of_decide_eq_true (by first | (with_reducible assumption) | assumption)
                    have q118 : x11_1 < (l0.length : Int) := of_decide_eq_true (by first | (with_reducible assumption) | assumption)
                    obtain ⟨ad118, e118, hx118_0, hx118_1⟩ := at_T31 HR0.out x11_1 p118 q118
                    obtain rfl : ad117 = ad118 := (by injection e118)
                    replace p118 := eq_true p118
                    replace q118 := eq_true q118; (try (have qs118 := q118; simp only [ByteArray.size_append, ByteArray.size_extract, Nat.min_self, Xsize_mk, List.size_toArray, List.length_cons, List.length_nil, Nat.zero_add, Nat.reduceAdd, List.length_append, List.length_drop, List.length_take] at qs118))
                    go_wp2
                    go_roundg kj2
                    case measure => have := HK1.out; have := HJ2.out; omega
                    case rel => exact ⟨(x8_1), (x9_1), (true), (wrap64 (x11_1 + 1)), (by first | rfl | (simp; done) | (simp [*]; done)), (by first | rfl | (simp; done) | (simp [*]; done)), (by first | rfl | (simp; done) | (simp [*]; done)), (by first | rfl | (simp; done) | (simp [*]; done)), H', ⟨by have := HK1.out; have := HJ2.out; omega⟩, by repeat (first | exact Drawn0.refl _ | apply Drawn0.step)⟩
                  · rw [if_neg c9] at H
                    have c9b0 : (((rd_T31 l0 x11_1).f1).toList == ([46] : List UInt8)) = false := beq_eq_false_iff_ne.mpr c9
                    have c9b1 : (((rd_T31 l0 x11_1).f1).toList != ([46] : List UInt8)) = true := bne_iff_ne.mpr c9
                    by_cases c10 : (((rd_T31 l0 x11_1).f1).size : Int) > 0
                    · rw [if_pos c10] at H
                      have c10b0 : decide (0 < (((rd_T31 l0 x11_1).f1).size : Int)) = true := decide_eq_true c10
                      have c10b1 : decide (0 < ((rd_T31 l0 x11_1).f1).size) = true := decide_eq_true (by omega)
                      clear c10
                      by_cases c11 : 0 < (((rd_T31 l0 x11_1).f1).size : Int)
                      · rw [if_pos c11] at H
                        have c11b0 : decide (0 < (((rd_T31 l0 x11_1).f1).size : Int)) = true := decide_eq_true c11
                        have c11b1 : decide (0 < ((rd_T31 l0 x11_1).f1).size) = true := decide_eq_true (by omega)
                        clear c11
                        by_cases c13 : (bt ((rd_T31 l0 x11_1).f1) 0) = 46
                        · rw [if_pos c13] at H
                          have c13b0 : ((bt ((rd_T31 l0 x11_1).f1) 0) == 46) = true := beq_iff_eq.mpr c13
                          have c13b1 : ((bt ((rd_T31 l0 x11_1).f1) 0) != 46) = false := bne_eq_false_iff_eq.mpr c13
                          clear c13
                          by_cases c14 : 1 ≤ (((rd_T31 l0 x11_1).f1).size : Int)
                          · rw [if_pos c14] at H
                            have c14b0 := eq_true c14
                            have c14b1 : decide (1 ≤ (((rd_T31 l0 x11_1).f1).size : Int)) = true := decide_eq_true c14
                            clear c14
                            by_cases c15 : x8_1.size + (((rd_T31 l0 x11_1).f1).extract 1 ((rd_T31 l0 x11_1).f1).size).size ≤ 9223372036854775807
                            · rw [if_pos c15] at H
                              have c15b0 := eq_true c15
                              try (have c15s0 := c15b0; simp only [ByteArray.size_append, ByteArray.size_extract, Nat.min_self, Xsize_mk, List.size_toArray, List.length_cons, List.length_nil, Nat.zero_add, Nat.reduceAdd, List.length_append, List.length_drop, List.length_take] at c15s0)
                              try (have c15v0 := c15b0; simp only [ByteArray.size_append, Xsz_ext, Xsz_ext0, c14b0] at c15v0; (try simp only [ByteArray.size_append, ByteArray.size_extract, Nat.min_self, Xsize_mk, List.size_toArray, List.length_cons, List.length_nil, Nat.zero_add, Nat.reduceAdd, List.length_append, List.length_drop, List.length_take] at c15v0))
                              have c15b1 : decide (x8_1.size + (((rd_T31 l0 x11_1).f1).extract 1 ((rd_T31 l0 x11_1).f1).size).size ≤ 9223372036854775807) = true := decide_eq_true c15
                              try (have c15s1 := c15b1; simp only [ByteArray.size_append, ByteArray.size_extract, Nat.min_self, Xsize_mk, List.size_toArray, List.length_cons, List.length_nil, Nat.zero_add, Nat.reduceAdd, List.length_append, List.length_drop, List.length_take] at c15s1)
                              try (have c15v1 := c15b1; simp only [ByteArray.size_append, Xsz_ext, Xsz_ext0, c14b0] at c15v1; (try simp only [ByteArray.size_append, ByteArray.size_extract, Nat.min_self, Xsize_mk, List.size_toArray, List.length_cons, List.length_nil, Nat.zero_add, Nat.reduceAdd, List.length_append, List.length_drop, List.length_take] at c15v1))
                              try have c15b2 : (9223372036854775807 < x8_1.size + (((rd_T31 l0 x11_1).f1).extract 1 ((rd_T31 l0 x11_1).f1).size).size) = False := eq_false (Nat.not_lt.2 c15)
                              try (have c15s2 := c15b2; simp only [ByteArray.size_append, ByteArray.size_extract, Nat.min_self, Xsize_mk, List.size_toArray, List.length_cons, List.length_nil, Nat.zero_add, Nat.reduceAdd, List.length_append, List.length_drop, List.length_take] at c15s2)
                              try (have c15v2 := c15b2; simp only [ByteArray.size_append, Xsz_ext, Xsz_ext0, c14b0] at c15v2; (try simp only [ByteArray.size_append, ByteArray.size_extract, Nat.min_self, Xsize_mk, List.size_toArray, List.length_cons, List.length_nil, Nat.zero_add, Nat.reduceAdd, List.length_append, List.length_drop, List.length_take] at c15v2))
                              by_cases c16 : (x8_1 ++ (((rd_T31 l0 x11_1).f1).extract 1 ((rd_T31 l0 x11_1).f1).size)).size + 2 ≤ 9223372036854775807
                              · rw [if_pos c16] at H
                                have c16b0 := eq_true c16
                                try (have c16s0 := c16b0; simp only [ByteArray.size_append, ByteArray.size_extract, Nat.min_self, Xsize_mk, List.size_toArray, List.length_cons, List.length_nil, Nat.zero_add, Nat.reduceAdd, List.length_append, List.length_drop, List.length_take] at c16s0)
                                try (have c16v0 := c16b0; simp only [ByteArray.size_append, Xsz_ext, Xsz_ext0, c14b0] at c16v0; (try simp only [ByteArray.size_append, ByteArray.size_extract, Nat.min_self, Xsize_mk, List.size_toArray, List.length_cons, List.length_nil, Nat.zero_add, Nat.reduceAdd, List.length_append, List.length_drop, List.length_take] at c16v0))
                                have c16b1 : decide ((x8_1 ++ (((rd_T31 l0 x11_1).f1).extract 1 ((rd_T31 l0 x11_1).f1).size)).size + 2 ≤ 9223372036854775807) = true := decide_eq_true c16
                                try (have c16s1 := c16b1; simp only [ByteArray.size_append, ByteArray.size_extract, Nat.min_self, Xsize_mk, List.size_toArray, List.length_cons, List.length_nil, Nat.zero_add, Nat.reduceAdd, List.length_append, List.length_drop, List.length_take] at c16s1)
                                try (have c16v1 := c16b1; simp only [ByteArray.size_append, Xsz_ext, Xsz_ext0, c14b0] at c16v1; (try simp only [ByteArray.size_append, ByteArray.size_extract, Nat.min_self, Xsize_mk, List.size_toArray, List.length_cons, List.length_nil, Nat.zero_add, Nat.reduceAdd, List.length_append, List.length_drop, List.length_take] at c16v1))
                                try have c16b2 : (9223372036854775807 < (x8_1 ++ (((rd_T31 l0 x11_1).f1).extract 1 ((rd_T31 l0 x11_1).f1).size)).size + 2) = False := eq_false (Nat.not_lt.2 c16)
                                try (have c16s2 := c16b2; simp only [ByteArray.size_append, ByteArray.size_extract, Nat.min_self, Xsize_mk, List.size_toArray, List.length_cons, List.length_nil, Nat.zero_add, Nat.reduceAdd, List.length_append, List.length_drop, List.length_take] at c16s2)
                                try (have c16v2 := c16b2; simp only [ByteArray.size_append, Xsz_ext, Xsz_ext0, c14b0] at c16v2; (try simp only [ByteArray.size_append, ByteArray.size_extract, Nat.min_self, Xsize_mk, List.size_toArray, List.length_cons, List.length_nil, Nat.zero_add, Nat.reduceAdd, List.length_append, List.length_drop, List.length_take] at c16v2))
                                have H' := Aside0.mk H
                                clear H
                                have p117 : 0 ≤ (x11_1 : Int) := of_decide_eq_true (by first | (with_reducible assumption) | assumption)
                                have q117 : x11_1 < (l0.length : Int) := of_decide_eq_true (by first | (with_reducible assumption) | assumption)
                                obtain ⟨ad117, e117, hx117_0, hx117_1⟩ := at_T31 HR0.out x11_1 p117 q117
                                cases e117
                                replace p117 := eq_true p117
                                replace q117 := eq_true q117; (try (have qs117 := q117; simp only [ByteArray.size_append, ByteArray.size_extract, Nat.min_self, Xsize_mk, List.size_toArray, List.length_cons, List.length_nil, Nat.zero_add, Nat.reduceAdd, List.length_append, List.length_drop, List.length_take] at qs117))
                                have p118 : 0 ≤ (x11_1 : Int) := of_decide_eq_true (by first | (with_reducible assumption) | assumption)
                                have q118 : x11_1 < (l0.length : Int) := of_decide_eq_true (by first | (with_reducible assumption) | assumption)
                                obtain ⟨ad118, e118, hx118_0, hx118_1⟩ := at_T31 HR0.out x11_1 p118 q118
                                obtain rfl : ad117 = ad118 := (by injection e118)
                                replace p118 := eq_true p118
                                replace q118 := eq_true q118; (try (have qs118 := q118; simp only [ByteArray.size_append, ByteArray.size_extract, Nat.min_self, Xsize_mk, List.size_toArray, List.length_cons, List.length_nil, Nat.zero_add, Nat.reduceAdd, List.length_append, List.length_drop, List.length_take] at qs118))
                                have p12 : 0 ≤ (0 : Int) := (by omega)
                                have q12 : 0 < ((rd_T31 l0 x11_1).f1).size := (by have : (0 : Int) < (((rd_T31 l0 x11_1).f1).size : Int) := of_decide_eq_true (by first | (with_reducible assumption) | assumption); omega)
                                have hx12 : ∀ h : 0 < ((rd_T31 l0 x11_1).f1).size, ((((rd_T31 l0 x11_1).f1)[0]'h).toNat : Int) = bt ((rd_T31 l0 x11_1).f1) 0 := bt_at ((rd_T31 l0 x11_1).f1) 0
                                clear p12
                                have qi12 : (0 < (((rd_T31 l0 x11_1).f1).size : Int)) = True := eq_true (of_decide_eq_true (by first | (with_reducible assumption) | assumption))
                                replace q12 := eq_true q12; (try (have qs12 := q12; simp only [ByteArray.size_append, ByteArray.size_extract, Nat.min_self, Xsize_mk, List.size_toArray, List.length_cons, List.length_nil, Nat.zero_add, Nat.reduceAdd, List.length_append, List.length_drop, List.length_take] at qs12))
                                go_wp2
                                go_roundg kj2
                                case measure => have := HK1.out; have := HJ2.out; omega
                                case rel => exact ⟨((x8_1 ++ (((rd_T31 l0 x11_1).f1).extract 1 ((rd_T31 l0 x11_1).f1).size)) ++ (⟨#[13, 10]⟩ : ByteArray)), (x9_1), (x10_1), (wrap64 (x11_1 + 1)), (by first | rfl | (simp; done) | (simp [*]; done)), (by first | rfl | (simp; done) | (simp [*]; done)), (by first | rfl | (simp; done) | (simp [*]; done)), (by first | rfl | (simp; done) | (simp [*]; done)), H', ⟨by have := HK1.out; have := HJ2.out; omega⟩, by repeat (first | exact Drawn0.refl _ | apply Drawn0.step)⟩
                              · rw [if_neg c16] at H
                                exact absurd H (by simp)
                            · rw [if_neg c15] at H
                              exact absurd H (by simp)
                          · rw [if_neg c14] at H
                            exact absurd H (by simp)
                        · rw [if_neg c13] at H
                          have c13b0 : ((bt ((rd_T31 l0 x11_1).f1) 0) == 46) = false := beq_eq_false_iff_ne.mpr c13
                          have c13b1 : ((bt ((rd_T31 l0 x11_1).f1) 0) != 46) = true := bne_iff_ne.mpr c13
                          by_cases c17 : x8_1.size + ((rd_T31 l0 x11_1).f1).size ≤ 9223372036854775807
                          · rw [if_pos c17] at H
                            have c17b0 := eq_true c17
                            have c17b1 : decide (x8_1.size + ((rd_T31 l0 x11_1).f1).size ≤ 9223372036854775807) = true := decide_eq_true c17
                            try have c17b2 : (9223372036854775807 < x8_1.size + ((rd_T31 l0 x11_1).f1).size) = False := eq_false (Nat.not_lt.2 c17)
                            by_cases c18 : (x8_1 ++ ((rd_T31 l0 x11_1).f1)).size + 2 ≤ 9223372036854775807
                            · rw [if_pos c18] at H
                              have c18b0 := eq_true c18
                              try (have c18s0 := c18b0; simp only [ByteArray.size_append, ByteArray.size_extract, Nat.min_self, Xsize_mk, List.size_toArray, List.length_cons, List.length_nil, Nat.zero_add, Nat.reduceAdd, List.length_append, List.length_drop, List.length_take] at c18s0)
                              have c18b1 : decide ((x8_1 ++ ((rd_T31 l0 x11_1).f1)).size + 2 ≤ 9223372036854775807) = true := decide_eq_true c18
                              try (have c18s1 := c18b1; simp only [ByteArray.size_append, ByteArray.size_extract, Nat.min_self, Xsize_mk, List.size_toArray, List.length_cons, List.length_nil, Nat.zero_add, Nat.reduceAdd, List.length_append, List.length_drop, List.length_take] at c18s1)
                              try have c18b2 : (9223372036854775807 < (x8_1 ++ ((rd_T31 l0 x11_1).f1)).size + 2) = False := eq_false (Nat.not_lt.2 c18)
                              try (have c18s2 := c18b2; simp only [ByteArray.size_append, ByteArray.size_extract, Nat.min_self, Xsize_mk, List.size_toArray, List.length_cons, List.length_nil, Nat.zero_add, Nat.reduceAdd, List.length_append, List.length_drop, List.length_take] at c18s2)
                              have H' := Aside0.mk H
                              clear H
                              have p117 : 0 ≤ (x11_1 : Int) := of_decide_eq_true (by first | (with_reducible assumption) | assumption)
                              have q117 : x11_1 < (l0.length : Int) := of_decide_eq_true (by first | (with_reducible assumption) | assumption)
                              obtain ⟨ad117, e117, hx117_0, hx117_1⟩ := at_T31 HR0.out x11_1 p117 q117
                              cases e117
                              replace p117 := eq_true p117
                              replace q117 := eq_true q117; (try (have qs117 := q117; simp only [ByteArray.size_append, ByteArray.size_extract, Nat.min_self, Xsize_mk, List.size_toArray, List.length_cons, List.length_nil, Nat.zero_add, Nat.reduceAdd, List.length_append, List.length_drop, List.length_take] at qs117))
                              have p118 : 0 ≤ (x11_1 : Int) := of_decide_eq_true (by first | (with_reducible assumption) | assumption)
                              have q118 : x11_1 < (l0.length : Int) := of_decide_eq_true (by first | (with_reducible assumption) | assumption)
                              obtain ⟨ad118, e118, hx118_0, hx118_1⟩ := at_T31 HR0.out x11_1 p118 q118
                              obtain rfl : ad117 = ad118 := (by injection e118)
                              replace p118 := eq_true p118
                              replace q118 := eq_true q118; (try (have qs118 := q118; simp only [ByteArray.size_append, ByteArray.size_extract, Nat.min_self, Xsize_mk, List.size_toArray, List.length_cons, List.length_nil, Nat.zero_add, Nat.reduceAdd, List.length_append, List.length_drop, List.length_take] at qs118))
                              have p12 : 0 ≤ (0 : Int) := (by omega)
                              have q12 : 0 < ((rd_T31 l0 x11_1).f1).size := (by have : (0 : Int) < (((rd_T31 l0 x11_1).f1).size : Int) := of_decide_eq_true (by first | (with_reducible assumption) | assumption); omega)
                              have hx12 : ∀ h : 0 < ((rd_T31 l0 x11_1).f1).size, ((((rd_T31 l0 x11_1).f1)[0]'h).toNat : Int) = bt ((rd_T31 l0 x11_1).f1) 0 := bt_at ((rd_T31 l0 x11_1).f1) 0
                              clear p12
                              have qi12 : (0 < (((rd_T31 l0 x11_1).f1).size : Int)) = True := eq_true (of_decide_eq_true (by first | (with_reducible assumption) | assumption))
                              replace q12 := eq_true q12; (try (have qs12 := q12; simp only [ByteArray.size_append, ByteArray.size_extract, Nat.min_self, Xsize_mk, List.size_toArray, List.length_cons, List.length_nil, Nat.zero_add, Nat.reduceAdd, List.length_append, List.length_drop, List.length_take] at qs12))
                              go_wp2
                              go_roundg kj2
                              case measure => have := HK1.out; have := HJ2.out; omega
                              case rel => exact ⟨((x8_1 ++ ((rd_T31 l0 x11_1).f1)) ++ (⟨#[13, 10]⟩ : ByteArray)), (x9_1), (x10_1), (wrap64 (x11_1 + 1)), (by first | rfl | (simp; done) | (simp [*]; done)), (by first | rfl | (simp; done) | (simp [*]; done)), (by first | rfl | (simp; done) | (simp [*]; done)), (by first | rfl | (simp; done) | (simp [*]; done)), H', ⟨by have := HK1.out; have := HJ2.out; omega⟩, by repeat (first | exact Drawn0.refl _ | apply Drawn0.step)⟩
                            · rw [if_neg c18] at H
                              exact absurd H (by simp)
                          · rw [if_neg c17] at H
                            exact absurd H (by simp)
                      · rw [if_neg c11] at H
                        exact absurd H (by simp)
                    · rw [if_neg c10] at H
                      have c10b0 : decide (0 < (((rd_T31 l0 x11_1).f1).size : Int)) = false := decide_eq_false c10
                      have c10b1 : decide (0 < ((rd_T31 l0 x11_1).f1).size) = false := decide_eq_false (by omega)
                      clear c10
                      by_cases c19 : x8_1.size + ((rd_T31 l0 x11_1).f1).size ≤ 9223372036854775807
                      · rw [if_pos c19] at H
                        have c19b0 := eq_true c19
                        have c19b1 : decide (x8_1.size + ((rd_T31 l0 x11_1).f1).size ≤ 9223372036854775807) = true := decide_eq_true c19
                        try have c19b2 : (9223372036854775807 < x8_1.size + ((rd_T31 l0 x11_1).f1).size) = False := eq_false (Nat.not_lt.2 c19)
                        by_cases c20 : (x8_1 ++ ((rd_T31 l0 x11_1).f1)).size + 2 ≤ 9223372036854775807
                        · rw [if_pos c20] at H
                          have c20b0 := eq_true c20
                          try (have c20s0 := c20b0; simp only [ByteArray.size_append, ByteArray.size_extract, Nat.min_self, Xsize_mk, List.size_toArray, List.length_cons, List.length_nil, Nat.zero_add, Nat.reduceAdd, List.length_append, List.length_drop, List.length_take] at c20s0)
                          have c20b1 : decide ((x8_1 ++ ((rd_T31 l0 x11_1).f1)).size + 2 ≤ 9223372036854775807) = true := decide_eq_true c20
                          try (have c20s1 := c20b1; simp only [ByteArray.size_append, ByteArray.size_extract, Nat.min_self, Xsize_mk, List.size_toArray, List.length_cons, List.length_nil, Nat.zero_add, Nat.reduceAdd, List.length_append, List.length_drop, List.length_take] at c20s1)
                          try have c20b2 : (9223372036854775807 < (x8_1 ++ ((rd_T31 l0 x11_1).f1)).size + 2) = False := eq_false (Nat.not_lt.2 c20)
                          try (have c20s2 := c20b2; simp only [ByteArray.size_append, ByteArray.size_extract, Nat.min_self, Xsize_mk, List.size_toArray, List.length_cons, List.length_nil, Nat.zero_add, Nat.reduceAdd, List.length_append, List.length_drop, List.length_take] at c20s2)
                          have H' := Aside0.mk H
                          clear H
                          have p117 : 0 ≤ (x11_1 : Int) := of_decide_eq_true (by first | (with_reducible assumption) | assumption)
                          have q117 : x11_1 < (l0.length : Int) := of_decide_eq_true (by first | (with_reducible assumption) | assumption)
                          obtain ⟨ad117, e117, hx117_0, hx117_1⟩ := at_T31 HR0.out x11_1 p117 q117
                          cases e117
                          replace p117 := eq_true p117
                          replace q117 := eq_true q117; (try (have qs117 := q117; simp only [ByteArray.size_append, ByteArray.size_extract, Nat.min_self, Xsize_mk, List.size_toArray, List.length_cons, List.length_nil, Nat.zero_add, Nat.reduceAdd, List.length_append, List.length_drop, List.length_take] at qs117))
                          have p118 : 0 ≤ (x11_1 : Int) := of_decide_eq_true (by first | (with_reducible assumption) | assumption)
                          have q118 : x11_1 < (l0.length : Int) := of_decide_eq_true (by first | (with_reducible assumption) | assumption)
                          obtain ⟨ad118, e118, hx118_0, hx118_1⟩ := at_T31 HR0.out x11_1 p118 q118
                          obtain rfl : ad117 = ad118 := (by injection e118)
                          replace p118 := eq_true p118
                          replace q118 := eq_true q118; (try (have qs118 := q118; simp only [ByteArray.size_append, ByteArray.size_extract, Nat.min_self, Xsize_mk, List.size_toArray, List.length_cons, List.length_nil, Nat.zero_add, Nat.reduceAdd, List.length_append, List.length_drop, List.length_take] at qs118))
                          go_wp2
                          go_roundg kj2
                          case measure => have := HK1.out; have := HJ2.out; omega
                          case rel => exact ⟨((x8_1 ++ ((rd_T31 l0 x11_1).f1)) ++ (⟨#[13, 10]⟩ : ByteArray)), (x9_1), (x10_1), (wrap64 (x11_1 + 1)), (by first | rfl | (simp; done) | (simp [*]; done)), (by first | rfl | (simp; done) | (simp [*]; done)), (by first | rfl | (simp; done) | (simp [*]; done)), (by first | rfl | (simp; done) | (simp [*]; done)), H', ⟨by have := HK1.out; have := HJ2.out; omega⟩, by repeat (first | exact Drawn0.refl _ | apply Drawn0.step)⟩
                        · rw [if_neg c20] at H
                          exact absurd H (by simp)
                      · rw [if_neg c19] at H
                        exact absurd H (by simp)
                · rw [if_neg c8] at H
                  have c8b0 : (((rd_T31 l0 x11_1).f0) == 1) = false := beq_eq_false_iff_ne.mpr c8
                  have c8b1 : (((rd_T31 l0 x11_1).f0) != 1) = true := bne_iff_ne.mpr c8
                  have H' := Aside0.mk H
                  clear H
                  have p117 : 0 ≤ (x11_1 : Int) := of_decide_eq_true (by first | (with_reducible assumption) | assumption)
                  have q117 : x11_1 < (l0.length : Int) := of_decide_eq_true (by first | (with_reducible assumption) | assumption)
                  obtain ⟨ad117, e117, hx117_0, hx117_1⟩ := at_T31 HR0.out x11_1 p117 q117
                  cases e117
                  replace p117 := eq_true p117
                  replace q117 := eq_true q117; (try (have qs117 := q117; simp only [ByteArray.size_append, ByteArray.size_extract, Nat.min_self, Xsize_mk, List.size_toArray, List.length_cons, List.length_nil, Nat.zero_add, Nat.reduceAdd, List.length_append, List.length_drop, List.length_take] at qs117))
                  have p118 : 0 ≤ (x11_1 : Int) := of_decide_eq_true (by first | (with_reducible assumption) | assumption)
                  have q118 : x11_1 < (l0.length : Int) := of_decide_eq_true (by first | (with_reducible assumption) | assumption)
                  obtain ⟨ad118, e118, hx118_0, hx118_1⟩ := at_T31 HR0.out x11_1 p118 q118
                  obtain rfl : ad117 = ad118 := (by injection e118)
                  replace p118 := eq_true p118
                  replace q118 := eq_true q118; (try (have qs118 := q118; simp only [ByteArray.size_append, ByteArray.size_extract, Nat.min_self, Xsize_mk, List.size_toArray, List.length_cons, List.length_nil, Nat.zero_add, Nat.reduceAdd, List.length_append, List.length_drop, List.length_take] at qs118))
                  go_wp2
                  go_roundg kj2
                  case measure => have := HK1.out; have := HJ2.out; omega
                  case rel => exact ⟨(x8_1), (true), (x10_1), (wrap64 (x11_1 + 1)), (by first | rfl | (simp; done) | (simp [*]; done)), (by first | rfl | (simp; done) | (simp [*]; done)), (by first | rfl | (simp; done) | (simp [*]; done)), (by first | rfl | (simp; done) | (simp [*]; done)), H', ⟨by have := HK1.out; have := HJ2.out; omega⟩, by repeat (first | exact Drawn0.refl _ | apply Drawn0.step)⟩
              · rw [if_neg c7] at H
                exact absurd H (by simp)
            · rw [if_neg c6] at H
              exact absurd H (by simp)
          · replace c5 := Bool.eq_false_iff.mpr c5
            subst c5
            have H1 : (if x9_1 = true then (some ((⟨#[]⟩ : ByteArray), (x8_1.size : Int), x10_1, 480)) else (if (x8_1.size : Int) > a1 then (some ((⟨#[]⟩ : ByteArray), (x8_1.size : Int), x10_1, 2)) else (some (x8_1, (x8_1.size : Int), x10_1, 0)))) = some (r1, r2, r3, r4) := by rw [if_neg (show ¬ (false = true) by decide)] at H; exact H
            clear H
            have H := H1
            clear H1
            by_cases c21 : x9_1 = true
            · subst c21
              have H1 : (some ((⟨#[]⟩ : ByteArray), (x8_1.size : Int), x10_1, 480)) = some (r1, r2, r3, r4) := by rw [if_pos rfl] at H; exact H
              clear H
              have H := H1
              clear H1
              simp only [Option.some.injEq, Prod.mk.injEq] at H
              obtain ⟨rfl, rfl, rfl, rfl⟩ := H
              go_wp2
              refine bodyPost_ret (results_list (rs := [.tmp 4, .tmp 5, .tmp 6, .tmp 7]) rfl (by simp) (.tmp (.tmp (.tmp (.tmp .nil))))) rfl ?_
              exact ⟨by first | rfl | (simp; done) | (simp [*]; done), by repeat (first | exact Drawn0.refl _ | apply Drawn0.step)⟩
            · replace c21 := Bool.eq_false_iff.mpr c21
              subst c21
              have H1 : (if (x8_1.size : Int) > a1 then (some ((⟨#[]⟩ : ByteArray), (x8_1.size : Int), x10_1, 2)) else (some (x8_1, (x8_1.size : Int), x10_1, 0))) = some (r1, r2, r3, r4) := by rw [if_neg (show ¬ (false = true) by decide)] at H; exact H
              clear H
              have H := H1
              clear H1
              by_cases c22 : (x8_1.size : Int) > a1
              · rw [if_pos c22] at H
                have c22b0 : decide (a1 < (x8_1.size : Int)) = true := decide_eq_true c22
                clear c22
                simp only [Option.some.injEq, Prod.mk.injEq] at H
                obtain ⟨rfl, rfl, rfl, rfl⟩ := H
                go_wp2
                refine bodyPost_ret (results_list (rs := [.tmp 4, .tmp 5, .tmp 6, .tmp 7]) rfl (by simp) (.tmp (.tmp (.tmp (.tmp .nil))))) rfl ?_
                exact ⟨by first | rfl | (simp; done) | (simp [*]; done), by repeat (first | exact Drawn0.refl _ | apply Drawn0.step)⟩
              · rw [if_neg c22] at H
                have c22b0 : decide (a1 < (x8_1.size : Int)) = false := decide_eq_false c22
                clear c22
                simp only [Option.some.injEq, Prod.mk.injEq] at H
                obtain ⟨rfl, rfl, rfl, rfl⟩ := H
                go_wp2
                refine bodyPost_ret (results_list (rs := [.tmp 4, .tmp 5, .tmp 6, .tmp 7]) rfl (by simp) (.tmp (.tmp (.tmp (.tmp .nil))))) rfl ?_
                exact ⟨by first | rfl | (simp; done) | (simp [*]; done), by repeat (first | exact Drawn0.refl _ | apply Drawn0.step)⟩

end Go.Proofs.Ytpolfnckbfdhgaa.X
