-- Written by a program (print.py's text, with contracts of this session's own put in). Not trusted: Lean checks it.
import Derived.Test.YtgbkjgngpceeiaaDoorX0
import Derived.Test.YtgbkjgngpceeiaaDoorX9
import Derived.Test.YtgbkjgngpceeiaaDoorX10
import Derived.Test.YtgbkjgngpceeiaaDoorX11
namespace Go.Proofs.YtgbkjgngpceeiaaDoor.X
open Go.RowKit Go.Proofs.YtgbkjgngpceeiaaDoorW.PrintWords Go.Proofs.YtgbkjgngpceeiaaDoorW.PrintLast Go.Proofs.YtgbkjgngpceeiaaDoorW.PrintMore
attribute [local go_sem] max2_int min2_int max_two min_two max_three min_three max_four min_four   -- for this text's walks alone
set_option linter.unusedVariables false
set_option linter.unusedSimpArgs false

/-! ### bulletinref18_Decode: function 8 -/
mutual
def bulletinref18_Decode.l0 : Nat → ByteArray → ByteArray → Int → Int → Int → Option (ByteArray × Bool)
  | 0, _, _, _, _, _ => none
  | k + 1, x4, x5, x6, x7, x8 => if x8 < (x4.size : Int) then (if 0 ≤ x8 then ((bulletinref18_value.f k (bt x4 x8)).bind fun t131 => (bulletinref18_Decode.l1 k x4 x5 x6 x7 x8 t131 32)) else (none)) else ((bulletinref18_Plain.f k x5).bind fun t130 => (if t130.toList = x4.toList then (some (x5, true)) else (some ((⟨#[]⟩ : ByteArray), false))))
def bulletinref18_Decode.l1 : Nat → ByteArray → ByteArray → Int → Int → Int → Int → Int → Option (ByteArray × Bool)
  | 0, _, _, _, _, _, _, _ => none
  | k + 1, x4, x5, x6, x7, x8, x9, x10 => if x10 ≥ 1 then (bulletinref18_Decode.j2 k x4 x5 x6 x7 x8 x9 x10 (decide (x9 ≥ 0))) else (bulletinref18_Decode.j2 k x4 x5 x6 x7 x8 x9 x10 false)
def bulletinref18_Decode.j2 : Nat → ByteArray → ByteArray → Int → Int → Int → Int → Int → Bool → Option (ByteArray × Bool)
  | 0, _, _, _, _, _, _, _, _ => none
  | k + 1, x4, x5, x6, x7, x8, x9, x10, x28 => if x28 = true then (if x10 = 0 then (none) else (if (wrap64 (x7 + 1)) = 8 then ((some (([(wrap64 ((wrap64 (2 * x6)) + (Int.tmod (wrap64 (Int.tdiv x9 x10)) 2))) % 256] : List Int) : List Int)).bind fun y132 => (if x5.size + (strOfNums y132).size ≤ 9223372036854775807 then (bulletinref18_Decode.l1 k x4 (x5 ++ (strOfNums y132)) 0 0 x8 x9 (wrap64 (Int.tdiv x10 2))) else (none))) else (bulletinref18_Decode.l1 k x4 x5 (wrap64 ((wrap64 (2 * x6)) + (Int.tmod (wrap64 (Int.tdiv x9 x10)) 2))) (wrap64 (x7 + 1)) x8 x9 (wrap64 (Int.tdiv x10 2))))) else (bulletinref18_Decode.l0 k x4 x5 x6 x7 (wrap64 (x8 + 1)))
end
def bulletinref18_Decode.f (k : Nat) (a0 : ByteArray) : Option (ByteArray × Bool) := (bulletinref18_Bare.f k a0).bind fun t129 => (bulletinref18_Decode.l0 k t129 (⟨#[]⟩ : ByteArray) 0 0 0)
theorem bulletinref18_Decode.mono_l : ∀ k, (∀ y0 y1 y2 y3 y4, LeO (bulletinref18_Decode.l0 k y0 y1 y2 y3 y4) (bulletinref18_Decode.l0 (k + 1) y0 y1 y2 y3 y4)) ∧ (∀ y0 y1 y2 y3 y4 y5 y6, LeO (bulletinref18_Decode.l1 k y0 y1 y2 y3 y4 y5 y6) (bulletinref18_Decode.l1 (k + 1) y0 y1 y2 y3 y4 y5 y6)) ∧ (∀ y0 y1 y2 y3 y4 y5 y6 y7, LeO (bulletinref18_Decode.j2 k y0 y1 y2 y3 y4 y5 y6 y7) (bulletinref18_Decode.j2 (k + 1) y0 y1 y2 y3 y4 y5 y6 y7))
  | 0 => ⟨fun _ _ _ _ _ r h => by simp [bulletinref18_Decode.l0] at h, fun _ _ _ _ _ _ _ r h => by simp [bulletinref18_Decode.l1] at h, fun _ _ _ _ _ _ _ _ r h => by simp [bulletinref18_Decode.j2] at h⟩
  | k + 1 => by
    obtain ⟨ih0, ih1, ih2⟩ := bulletinref18_Decode.mono_l k
    refine ⟨?_, ?_, ?_⟩
    · intro y0 y1 y2 y3 y4
      unfold bulletinref18_Decode.l0
      repeat' first
      | (with_reducible exact ih0 _ _ _ _ _)
      | (with_reducible exact ih1 _ _ _ _ _ _ _)
      | (with_reducible exact ih2 _ _ _ _ _ _ _ _)
      | (with_reducible exact bulletinref18_Bare.mono _ _)
      | (with_reducible exact bulletinref18_Plain.mono _ _)
      | (with_reducible exact bulletinref18_value.mono _ _)
      | (with_reducible exact LeO.refl _)
      | (with_reducible exact LeO.none _)
      | (with_reducible refine LeO.ite ?_ ?_)
      | (with_reducible refine LeO.bind ?_ (fun _ => ?_))
      | exact ih0 _ _ _ _ _
      | exact ih1 _ _ _ _ _ _ _
      | exact ih2 _ _ _ _ _ _ _ _
      | exact bulletinref18_Bare.mono _ _
      | exact bulletinref18_Plain.mono _ _
      | exact bulletinref18_value.mono _ _
      | exact LeO.none _
      | refine LeO.ite ?_ ?_
      | refine LeO.bind ?_ (fun _ => ?_)
    · intro y0 y1 y2 y3 y4 y5 y6
      unfold bulletinref18_Decode.l1
      repeat' first
      | (with_reducible exact ih0 _ _ _ _ _)
      | (with_reducible exact ih1 _ _ _ _ _ _ _)
      | (with_reducible exact ih2 _ _ _ _ _ _ _ _)
      | (with_reducible exact bulletinref18_Bare.mono _ _)
      | (with_reducible exact bulletinref18_Plain.mono _ _)
      | (with_reducible exact bulletinref18_value.mono _ _)
      | (with_reducible exact LeO.refl _)
      | (with_reducible exact LeO.none _)
      | (with_reducible refine LeO.ite ?_ ?_)
      | (with_reducible refine LeO.bind ?_ (fun _ => ?_))
      | exact ih0 _ _ _ _ _
      | exact ih1 _ _ _ _ _ _ _
      | exact ih2 _ _ _ _ _ _ _ _
      | exact bulletinref18_Bare.mono _ _
      | exact bulletinref18_Plain.mono _ _
      | exact bulletinref18_value.mono _ _
      | exact LeO.none _
      | refine LeO.ite ?_ ?_
      | refine LeO.bind ?_ (fun _ => ?_)
    · intro y0 y1 y2 y3 y4 y5 y6 y7
      unfold bulletinref18_Decode.j2
      repeat' first
      | (with_reducible exact ih0 _ _ _ _ _)
      | (with_reducible exact ih1 _ _ _ _ _ _ _)
      | (with_reducible exact ih2 _ _ _ _ _ _ _ _)
      | (with_reducible exact bulletinref18_Bare.mono _ _)
      | (with_reducible exact bulletinref18_Plain.mono _ _)
      | (with_reducible exact bulletinref18_value.mono _ _)
      | (with_reducible exact LeO.refl _)
      | (with_reducible exact LeO.none _)
      | (with_reducible refine LeO.ite ?_ ?_)
      | (with_reducible refine LeO.bind ?_ (fun _ => ?_))
      | exact ih0 _ _ _ _ _
      | exact ih1 _ _ _ _ _ _ _
      | exact ih2 _ _ _ _ _ _ _ _
      | exact bulletinref18_Bare.mono _ _
      | exact bulletinref18_Plain.mono _ _
      | exact bulletinref18_value.mono _ _
      | exact LeO.none _
      | refine LeO.ite ?_ ?_
      | refine LeO.bind ?_ (fun _ => ?_)
theorem bulletinref18_Decode.mono : ∀ a0 k, LeO (bulletinref18_Decode.f k a0) (bulletinref18_Decode.f (k + 1) a0) := by
  intro a0 k
  obtain ⟨ih0, ih1, ih2⟩ := bulletinref18_Decode.mono_l k
  unfold bulletinref18_Decode.f
  repeat' first
      | (with_reducible exact ih0 _ _ _ _ _)
      | (with_reducible exact ih1 _ _ _ _ _ _ _)
      | (with_reducible exact ih2 _ _ _ _ _ _ _ _)
      | (with_reducible exact bulletinref18_Bare.mono _ _)
      | (with_reducible exact bulletinref18_Plain.mono _ _)
      | (with_reducible exact bulletinref18_value.mono _ _)
      | (with_reducible exact LeO.refl _)
      | (with_reducible exact LeO.none _)
      | (with_reducible refine LeO.ite ?_ ?_)
      | (with_reducible refine LeO.bind ?_ (fun _ => ?_))
      | exact ih0 _ _ _ _ _
      | exact ih1 _ _ _ _ _ _ _
      | exact ih2 _ _ _ _ _ _ _ _
      | exact bulletinref18_Bare.mono _ _
      | exact bulletinref18_Plain.mono _ _
      | exact bulletinref18_value.mono _ _
      | exact LeO.none _
      | refine LeO.ite ?_ ?_
      | refine LeO.bind ?_ (fun _ => ?_)
set_option maxHeartbeats 8000000 in
set_option maxRecDepth 100000 in
theorem bulletinref18_Decode.calls (k : Nat) (a0 : ByteArray) (r1 : ByteArray) (r2 : Bool) (w : World) (h : bulletinref18_Decode.f k a0 = some (r1, r2)) :
    Calls Tryd.prog 8 #[.string a0] w fun e w' => e = .returned (.tuple #[.string r1, .bool r2]) ∧ Below w.heap.size w w' := by
  have HB := Aside0.mk (Below.refl w.heap.size w)
  have H : ((bulletinref18_Bare.f k a0).bind fun t129 => (bulletinref18_Decode.l0 k t129 (⟨#[]⟩ : ByteArray) 0 0 0)) = some (r1, r2) := h
  clear h
  replace H := Option.bind_eq_some_iff.mp H
  obtain ⟨t129, A20, H⟩ := H
  replace H : (bulletinref18_Decode.l0 k t129 (⟨#[]⟩ : ByteArray) 0 0 0) = some (r1, r2) := H
  have A2 := Aside0.mk A20
  clear A20
  have H' := Aside0.mk H
  clear H
  go_enter Tryd.func8, Tryd.ntmps8
  go_wp2_with (first | ((with_reducible refine gate_callee (f := 17) rfl ?_); refine goesL_ (some 12) rfl rfl Tryd.func17 (by kernel_rfl) rfl #[.string a0] rfl (by (try simp only [List.map_toArray, List.map_cons, List.map_nil]); first | done | rfl | (simp only [List.length_drop, List.length_take]; rfl)) ?_; (with_reducible refine (bulletinref18_Bare.calls k a0 t129 _ A2.out).mono ?_); rintro e w' ⟨rfl, ⟨nd, rfl⟩⟩; refine ⟨_, rfl, ?_⟩))
  go_loopg [5, 6, 7, 8] k (fun kq v5 v6 v7 v8 w' => ∃ (x5_1 : ByteArray) (x6_1 : Int) (x7_1 : Int) (x8_1 : Int), v5 = .string x5_1 ∧ v6 = .int .i64 x6_1 ∧ v7 = .int .i64 x7_1 ∧ v8 = .int .i64 x8_1 ∧ Aside0 (bulletinref18_Decode.l0 kq t129 x5_1 x6_1 x7_1 x8_1 = some (r1, r2)) ∧ Aside0 (kq ≤ k) ∧ Aside0 (Below w.heap.size w w'))
  case atStart => exact ⟨((⟨#[]⟩ : ByteArray)), (0), (0), (0), (by first | rfl | (simp; done) | (simp [*]; done)), (by first | rfl | (simp; done) | (simp [*]; done)), (by first | rfl | (simp; done) | (simp [*]; done)), (by first | rfl | (simp; done) | (simp [*]; done)), H', ⟨Nat.le_refl _⟩, ⟨by repeat (first | (with_reducible first | exact HB.out | apply below_alloc | apply pw_below_drewN | apply below_drew1) | exact HB.out)⟩⟩
  case round =>
    clear H'
    try clear c1
    try clear p2
    obtain ⟨x5_1, x6_1, x7_1, x8_1, rfl, rfl, rfl, rfl, HA, HK1, HB⟩ := hrel
    cases gk with
    | zero => exact absurd HA.out (by simp [bulletinref18_Decode.l0])
    | succ k1 =>
      have H := HA.out
      clear HA
      simp only [bulletinref18_Decode.l0] at H
      by_cases c3 : x8_1 < (t129.size : Int)
      · rw [if_pos c3] at H
        have c3b0 : decide (x8_1 < (t129.size : Int)) = true := decide_eq_true c3
        clear c3
        by_cases c4 : 0 ≤ x8_1
        · rw [if_pos c4] at H
          have c4b0 : decide (0 ≤ x8_1) = true := decide_eq_true c4
          clear c4
          replace H := Option.bind_eq_some_iff.mp H
          obtain ⟨t131, A60, H⟩ := H
          replace H : (bulletinref18_Decode.l1 k1 t129 x5_1 x6_1 x7_1 x8_1 t131 32) = some (r1, r2) := H
          have A6 := Aside0.mk A60
          clear A60
          have H' := Aside0.mk H
          clear H
          have p5 : 0 ≤ (x8_1 : Int) := of_decide_eq_true (by first | (with_reducible assumption) | assumption)
          have q5 : x8_1 < (t129.size : Int) := of_decide_eq_true (by first | (with_reducible assumption) | assumption)
          have hx5 := bt_at t129 x8_1
          replace p5 := eq_true p5
          replace q5 := eq_true q5; try (have qs5 := q5; simp only [ByteArray.size_append, ByteArray.size_extract, Nat.min_self, Xsize_mk, List.size_toArray, List.length_cons, List.length_nil, Nat.zero_add, Nat.reduceAdd, List.length_append, List.length_drop, List.length_take] at qs5)
          go_wp2_with (first | ((with_reducible refine gate_callee (f := 18) rfl ?_); refine goesL_ (some 22) rfl rfl Tryd.func18 (by kernel_rfl) rfl #[.int .u8 (bt t129 x8_1)] rfl (by (try simp only [List.map_toArray, List.map_cons, List.map_nil]); first | done | rfl | (simp only [List.length_drop, List.length_take]; rfl)) ?_; (with_reducible refine (bulletinref18_value.calls k1 (bt t129 x8_1) t131 _ A6.out).mono ?_); rintro e w' ⟨rfl, ⟨nd, rfl⟩⟩; refine ⟨_, rfl, ?_⟩))
          go_loopg [5, 6, 7, 10] k1 (fun kq v5 v6 v7 v10 w' => ∃ (x5_2 : ByteArray) (x6_2 : Int) (x7_2 : Int) (x10_2 : Int), v5 = .string x5_2 ∧ v6 = .int .i64 x6_2 ∧ v7 = .int .i64 x7_2 ∧ v10 = .int .i64 x10_2 ∧ Aside0 (bulletinref18_Decode.l1 kq t129 x5_2 x6_2 x7_2 x8_1 t131 x10_2 = some (r1, r2)) ∧ Aside0 (kq ≤ k1) ∧ Aside0 (Below w.heap.size w w'))
          case atStart => exact ⟨(x5_1), (x6_1), (x7_1), (32), (by first | rfl | (simp; done) | (simp [*]; done)), (by first | rfl | (simp; done) | (simp [*]; done)), (by first | rfl | (simp; done) | (simp [*]; done)), (by first | rfl | (simp; done) | (simp [*]; done)), H', ⟨Nat.le_refl _⟩, ⟨by repeat (first | (with_reducible first | exact HB.out | apply below_alloc | apply pw_below_drewN | apply below_drew1) | exact HB.out)⟩⟩
          case round =>
            clear H'
            try clear c1
            try clear p2
            try clear c3
            try clear c3b0
            try clear c4
            try clear c4b0
            try clear p5
            try clear q5
            try clear hx5
            try clear p2
            try clear p5
            try clear q5
            obtain ⟨x5_2, x6_2, x7_2, x10_2, rfl, rfl, rfl, rfl, HA, HK2, HB⟩ := hrel
            cases gk with
            | zero => exact absurd HA.out (by simp [bulletinref18_Decode.l1])
            | succ k2 =>
              have H := HA.out
              clear HA
              simp only [bulletinref18_Decode.l1] at H
              have HC7 := Aside0.mk H
              clear H
              go_upto_region 10 with (fail)
              go_cut [28] (fun v28 wc => ∃ (kq : Nat) (x28_6 : Bool), v28 = .bool x28_6 ∧ Aside0 (bulletinref18_Decode.j2 kq t129 x5_2 x6_2 x7_2 x8_1 t131 x10_2 x28_6 = some (r1, r2)) ∧ Aside0 (kq ≤ k2) ∧ Aside0 (Below w.heap.size w wc))
              case first =>
                have H := HC7.out
                clear HC7
                by_cases c8 : x10_2 ≥ 1
                · rw [if_pos c8] at H
                  have c8b0 : decide (1 ≤ x10_2) = true := decide_eq_true c8
                  clear c8
                  (first | rw [c8b0] | (simp only [i64_w, i32_w]; rw [c8b0]) | skip)
                  have H' := Aside0.mk H
                  clear H
                  go_wp2
                  go_meet
                  case rel => exact ⟨_, (decide (t131 ≥ 0)), (by first | rfl | (simp; done) | (simp [*]; done)), H', ⟨by have := HK1.out; have := HK2.out; first | omega | exact Nat.le_refl _⟩, ⟨by repeat (first | (with_reducible first | exact HB.out | apply below_alloc | apply pw_below_drewN | apply below_drew1) | exact HB.out)⟩⟩
                · rw [if_neg c8] at H
                  have c8b0 : decide (1 ≤ x10_2) = false := decide_eq_false c8
                  clear c8
                  (first | rw [c8b0] | (simp only [i64_w, i32_w]; rw [c8b0]) | skip)
                  have H' := Aside0.mk H
                  clear H
                  go_wp2
                  go_meet
                  case rel => exact ⟨_, (false), (by first | rfl | (simp; done) | (simp [*]; done)), H', ⟨by have := HK1.out; have := HK2.out; first | omega | exact Nat.le_refl _⟩, ⟨by repeat (first | (with_reducible first | exact HB.out | apply below_alloc | apply pw_below_drewN | apply below_drew1) | exact HB.out)⟩⟩
              case rest =>
                clear HC7
                try clear c1
                try clear p2
                try clear c3
                try clear c3b0
                try clear c4
                try clear c4b0
                try clear p5
                try clear q5
                try clear hx5
                try clear c8
                try clear c8b0
                try clear p2
                try clear p5
                try clear q5
                obtain ⟨kq, x28_6, rfl, HA, HJ6, HB⟩ := hcut
                cases kq with
                | zero => exact absurd HA.out (by simp [bulletinref18_Decode.j2])
                | succ kj6 =>
                  have H := HA.out
                  clear HA
                  simp only [bulletinref18_Decode.j2] at H
                  by_cases c9 : x28_6 = true
                  · subst c9
                    have H1 : (if x10_2 = 0 then (none) else (if (wrap64 (x7_2 + 1)) = 8 then ((some (([(wrap64 ((wrap64 (2 * x6_2)) + (Int.tmod (wrap64 (Int.tdiv t131 x10_2)) 2))) % 256] : List Int) : List Int)).bind fun y132 => (if x5_2.size + (strOfNums y132).size ≤ 9223372036854775807 then (bulletinref18_Decode.l1 kj6 t129 (x5_2 ++ (strOfNums y132)) 0 0 x8_1 t131 (wrap64 (Int.tdiv x10_2 2))) else (none))) else (bulletinref18_Decode.l1 kj6 t129 x5_2 (wrap64 ((wrap64 (2 * x6_2)) + (Int.tmod (wrap64 (Int.tdiv t131 x10_2)) 2))) (wrap64 (x7_2 + 1)) x8_1 t131 (wrap64 (Int.tdiv x10_2 2))))) = some (r1, r2) := by rw [if_pos rfl] at H; exact H
                    clear H
                    have H := H1
                    clear H1
                    by_cases c10 : x10_2 = 0
                    · rw [if_pos c10] at H
                      exact absurd H (by simp)
                    · rw [if_neg c10] at H
                      have c10b0 : (x10_2 == 0) = false := beq_eq_false_iff_ne.mpr c10
                      have c10b1 : (x10_2 != 0) = true := bne_iff_ne.mpr c10
                      by_cases c11 : (wrap64 (x7_2 + 1)) = 8
                      · rw [if_pos c11] at H
                        have c11b0 : ((wrap64 (x7_2 + 1)) == 8) = true := beq_iff_eq.mpr c11
                        have c11b1 : ((wrap64 (x7_2 + 1)) != 8) = false := bne_eq_false_iff_eq.mpr c11
                        clear c11
                        obtain ⟨y132, hy132⟩ : ∃ y_ : List Int, y_ = (([(wrap64 ((wrap64 (2 * x6_2)) + (Int.tmod (wrap64 (Int.tdiv t131 x10_2)) 2))) % 256] : List Int)) := ⟨_, rfl⟩
                        replace H : (if x5_2.size + (strOfNums y132).size ≤ 9223372036854775807 then (bulletinref18_Decode.l1 kj6 t129 (x5_2 ++ (strOfNums y132)) 0 0 x8_1 t131 (wrap64 (Int.tdiv x10_2 2))) else (none)) = some (r1, r2) := by first | (rw [hy132]; with_reducible exact H) | (have H2_ := (Option.bind_some _ _).symm.trans H; rw [hy132]; with_reducible exact H2_) | (have H2_ := (Option.bind_some _ _).symm.trans H; with_reducible exact H2_) | with_reducible exact H | (rw [hy132]; exact H) | exact H
                        have Ny132 := Aside0.mk hy132
                        clear hy132
                        by_cases c12 : x5_2.size + (strOfNums y132).size ≤ 9223372036854775807
                        · rw [if_pos c12] at H
                          have c12b0 := eq_true c12
                          have c12b1 : decide (x5_2.size + (strOfNums y132).size ≤ 9223372036854775807) = true := decide_eq_true c12
                          try have c12b2 : (9223372036854775807 < x5_2.size + (strOfNums y132).size) = False := eq_false (Nat.not_lt.2 c12)
                          have H' := Aside0.mk H
                          clear H
                          go_wp2_with (first | ((with_reducible refine gate_dst (N := 45) rfl ?_); refine Kd.R_lit (Kd.int .u8) _ 5 ?hg (N := 45) ?hd (xs := ([(wrap64 ((wrap64 (2 * x6_2)) + (Int.tmod (wrap64 (Int.tdiv t131 x10_2)) 2))) % 256] : List Int)) (inner := [.int .u8 ((wrap64 ((wrap64 (2 * x6_2)) + (Int.tmod (wrap64 (Int.tdiv t131 x10_2)) 2))) % 256)]) (ok := fun _ => True) (okp := fun _ => True) ?hr ?hp (fun _ hk => hk) trivial (Below.refl _ _) (Nat.le_refl _) (by simp) ?_; (case hd => rfl); (case hg => rfl); (case hr => first | (go_simp; done) | (go_simp; rfl)); (case hp => exact (Reps.one (show Kd.M (Kd.int .u8) _ _ _ ((wrap64 ((wrap64 (2 * x6_2)) + (Int.tmod (wrap64 (Int.tdiv t131 x10_2)) 2))) % 256) [.int .u8 ((wrap64 ((wrap64 (2 * x6_2)) + (Int.tmod (wrap64 (Int.tdiv t131 x10_2)) 2))) % 256)] from rfl) (Reps.none _ _))); intro v133 w13 ho14 hb hg_ hnew_; clear hg_ hnew_; (first | rw [← Ny132.out] at ho14 | (simp only [Int.reduceToNat] at ho14; rw [← Ny132.out] at ho14)); have n0_ := Aside0.mk (Kd.R_lower ho14 (below_size (by repeat (first | (with_reducible first | exact HB.out | apply below_alloc | apply pw_below_drewN | apply below_drew1) | exact HB.out)))); have n1_ := Aside0.mk (below_step (by repeat (first | (with_reducible first | exact HB.out | apply below_alloc | apply pw_below_drewN | apply below_drew1) | exact HB.out)) hb); clear HB; have HO134 := n0_; have HB := n1_; clear n0_ n1_; clear hb ho14; have hcv15 := own_string (P := Tryd.prog) Tryd.underlying33 Tryd.underlying5 Tryd.underlying9 (Kd.own_of_R HO134.out)))
                          go_roundg kj6
                          case measure => have := HK1.out; have := HK2.out; have := HJ6.out; omega
                          case rel => exact ⟨(x5_2 ++ (strOfNums y132)), (0), (0), (wrap64 (Int.tdiv x10_2 2)), (by first | rfl | (simp; done) | (simp [*]; done)), (by first | rfl | (simp; done) | (simp [*]; done)), (by first | rfl | (simp; done) | (simp [*]; done)), (by first | rfl | (simp; done) | (simp [*]; done)), H', ⟨by have := HK1.out; have := HK2.out; have := HJ6.out; omega⟩, ⟨by repeat (first | (with_reducible first | exact HB.out | apply below_alloc | apply pw_below_drewN | apply below_drew1) | exact HB.out)⟩⟩
                        · rw [if_neg c12] at H
                          exact absurd H (by simp)
                      · rw [if_neg c11] at H
                        have c11b0 : ((wrap64 (x7_2 + 1)) == 8) = false := beq_eq_false_iff_ne.mpr c11
                        have c11b1 : ((wrap64 (x7_2 + 1)) != 8) = true := bne_iff_ne.mpr c11
                        have H' := Aside0.mk H
                        clear H
                        go_wp2
                        go_roundg kj6
                        case measure => have := HK1.out; have := HK2.out; have := HJ6.out; omega
                        case rel => exact ⟨(x5_2), (wrap64 ((wrap64 (2 * x6_2)) + (Int.tmod (wrap64 (Int.tdiv t131 x10_2)) 2))), (wrap64 (x7_2 + 1)), (wrap64 (Int.tdiv x10_2 2)), (by first | rfl | (simp; done) | (simp [*]; done)), (by first | rfl | (simp; done) | (simp [*]; done)), (by first | rfl | (simp; done) | (simp [*]; done)), (by first | rfl | (simp; done) | (simp [*]; done)), H', ⟨by have := HK1.out; have := HK2.out; have := HJ6.out; omega⟩, ⟨by repeat (first | (with_reducible first | exact HB.out | apply below_alloc | apply pw_below_drewN | apply below_drew1) | exact HB.out)⟩⟩
                  · replace c9 := Bool.eq_false_iff.mpr c9
                    subst c9
                    have H1 : (bulletinref18_Decode.l0 kj6 t129 x5_2 x6_2 x7_2 (wrap64 (x8_1 + 1))) = some (r1, r2) := by rw [if_neg (show ¬ (false = true) by decide)] at H; exact H
                    clear H
                    have H := H1
                    clear H1
                    have H' := Aside0.mk H
                    clear H
                    go_wp2
                    go_roundg kj6
                    case measure => have := HK1.out; have := HK2.out; have := HJ6.out; omega
                    case rel => exact ⟨(x5_2), (x6_2), (x7_2), (wrap64 (x8_1 + 1)), (by first | rfl | (simp; done) | (simp [*]; done)), (by first | rfl | (simp; done) | (simp [*]; done)), (by first | rfl | (simp; done) | (simp [*]; done)), (by first | rfl | (simp; done) | (simp [*]; done)), H', ⟨by have := HK1.out; have := HK2.out; have := HJ6.out; omega⟩, ⟨by repeat (first | (with_reducible first | exact HB.out | apply below_alloc | apply pw_below_drewN | apply below_drew1) | exact HB.out)⟩⟩
        · rw [if_neg c4] at H
          exact absurd H (by simp)
      · rw [if_neg c3] at H
        have c3b0 : decide (x8_1 < (t129.size : Int)) = false := decide_eq_false c3
        clear c3
        replace H := Option.bind_eq_some_iff.mp H
        obtain ⟨t130, A160, H⟩ := H
        replace H : (if t130.toList = t129.toList then (some (x5_1, true)) else (some ((⟨#[]⟩ : ByteArray), false))) = some (r1, r2) := H
        have A16 := Aside0.mk A160
        clear A160
        by_cases c17 : t130.toList = t129.toList
        · rw [if_pos c17] at H
          have c17b0 : (t130.toList == t129.toList) = true := beq_iff_eq.mpr c17
          have c17b1 : (t130.toList != t129.toList) = false := bne_eq_false_iff_eq.mpr c17
          clear c17
          simp only [Option.some.injEq, Prod.mk.injEq] at H
          obtain ⟨rfl, rfl⟩ := H
          go_wp2_with (first | ((with_reducible refine gate_callee (f := 10) rfl ?_); refine goesL_ (some 49) rfl rfl Tryd.func10 (by kernel_rfl) rfl #[.string x5_1] rfl (by (try simp only [List.map_toArray, List.map_cons, List.map_nil]); first | done | rfl | (simp only [List.length_drop, List.length_take]; rfl)) ?_; (with_reducible refine (bulletinref18_Plain.calls k1 x5_1 t130 _ A16.out).mono ?_); rintro e w18 ⟨rfl, hb⟩; refine ⟨_, rfl, ?_⟩; have n0_ := Aside0.mk (below_step (by repeat (first | (with_reducible first | exact HB.out | apply below_alloc | apply pw_below_drewN | apply below_drew1) | exact HB.out)) hb); clear HB; have HB := n0_; clear n0_; (try clear hb); (try clear hb2); (try clear hk); (try clear hi)))
          go_ret2
          exact ⟨by first | rfl | (simp [errW_none, errW_some] <;> rfl) | (simp [*, errW_none, errW_some] <;> rfl), by repeat (first | (with_reducible first | exact HB.out | apply below_alloc | apply pw_below_drewN | apply below_drew1) | exact HB.out)⟩
        · rw [if_neg c17] at H
          have c17b0 : (t130.toList == t129.toList) = false := beq_eq_false_iff_ne.mpr c17
          have c17b1 : (t130.toList != t129.toList) = true := bne_iff_ne.mpr c17
          simp only [Option.some.injEq, Prod.mk.injEq] at H
          obtain ⟨rfl, rfl⟩ := H
          go_wp2_with (first | ((with_reducible refine gate_callee (f := 10) rfl ?_); refine goesL_ (some 49) rfl rfl Tryd.func10 (by kernel_rfl) rfl #[.string x5_1] rfl (by (try simp only [List.map_toArray, List.map_cons, List.map_nil]); first | done | rfl | (simp only [List.length_drop, List.length_take]; rfl)) ?_; (with_reducible refine (bulletinref18_Plain.calls k1 x5_1 t130 _ A16.out).mono ?_); rintro e w19 ⟨rfl, hb⟩; refine ⟨_, rfl, ?_⟩; have n0_ := Aside0.mk (below_step (by repeat (first | (with_reducible first | exact HB.out | apply below_alloc | apply pw_below_drewN | apply below_drew1) | exact HB.out)) hb); clear HB; have HB := n0_; clear n0_; (try clear hb); (try clear hb2); (try clear hk); (try clear hi)))
          go_ret2
          exact ⟨by first | rfl | (simp [errW_none, errW_some] <;> rfl) | (simp [*, errW_none, errW_some] <;> rfl), by repeat (first | (with_reducible first | exact HB.out | apply below_alloc | apply pw_below_drewN | apply below_drew1) | exact HB.out)⟩

end Go.Proofs.YtgbkjgngpceeiaaDoor.X
