-- Written by a program (print.py's text, with contracts of this session's own put in). Not trusted: Lean checks it.
import Derived.Test.YtpolfnckbfdhgaaX0
import Derived.Test.YtpolfnckbfdhgaaX2
namespace Go.Proofs.Ytpolfnckbfdhgaa.X
open Go.RowKit Go.Proofs.YtpolfnckbfdhgaaW.PrintWords Go.Proofs.YtpolfnckbfdhgaaW.PrintLast Go.Proofs.YtpolfnckbfdhgaaW.PrintMore
attribute [local go_sem] max2_int min2_int max_two min_two max_three min_three max_four min_four   -- for this text's walks alone
set_option linter.unusedVariables false
set_option linter.unusedSimpArgs false

/-! ### bulletinref29_Stuff: function 8 -/
mutual
def bulletinref29_Stuff.l0 : Nat → List ByteArray → ByteArray → Int → Option (ByteArray)
  | 0, _, _, _ => none
  | k + 1, x3, x4, x5 => if x5 < (x3.length : Int) then (if x5 = (wrap64 ((x3.length : Int) - 1)) then (if 0 ≤ x5 then (bulletinref29_Stuff.j1 k x3 x4 x5 ((rdOf ByteArray.empty x3 x5).toList == ([] : List UInt8))) else (none)) else (bulletinref29_Stuff.j1 k x3 x4 x5 false)) else (if x4.size + 3 ≤ 9223372036854775807 then (some (x4 ++ (⟨#[46, 13, 10]⟩ : ByteArray))) else (none))
def bulletinref29_Stuff.j1 : Nat → List ByteArray → ByteArray → Int → Bool → Option (ByteArray)
  | 0, _, _, _, _ => none
  | k + 1, x3, x4, x5, x25 => if x25 = true then (bulletinref29_Stuff.l0 k x3 x4 (wrap64 (x5 + 1))) else (if 0 ≤ x5 then (if x5 < (x3.length : Int) then (if ((rdOf ByteArray.empty x3 x5).size : Int) > 0 then (if 0 < ((rdOf ByteArray.empty x3 x5).size : Int) then (if (bt (rdOf ByteArray.empty x3 x5) 0) = 46 then (if x4.size + 1 ≤ 9223372036854775807 then (if (x4 ++ (⟨#[46]⟩ : ByteArray)).size + (rdOf ByteArray.empty x3 x5).size ≤ 9223372036854775807 then (if ((x4 ++ (⟨#[46]⟩ : ByteArray)) ++ (rdOf ByteArray.empty x3 x5)).size + 2 ≤ 9223372036854775807 then (bulletinref29_Stuff.l0 k x3 (((x4 ++ (⟨#[46]⟩ : ByteArray)) ++ (rdOf ByteArray.empty x3 x5)) ++ (⟨#[13, 10]⟩ : ByteArray)) (wrap64 (x5 + 1))) else (none)) else (none)) else (none)) else (if x4.size + (rdOf ByteArray.empty x3 x5).size ≤ 9223372036854775807 then (if (x4 ++ (rdOf ByteArray.empty x3 x5)).size + 2 ≤ 9223372036854775807 then (bulletinref29_Stuff.l0 k x3 ((x4 ++ (rdOf ByteArray.empty x3 x5)) ++ (⟨#[13, 10]⟩ : ByteArray)) (wrap64 (x5 + 1))) else (none)) else (none))) else (none)) else (if x4.size + (rdOf ByteArray.empty x3 x5).size ≤ 9223372036854775807 then (if (x4 ++ (rdOf ByteArray.empty x3 x5)).size + 2 ≤ 9223372036854775807 then (bulletinref29_Stuff.l0 k x3 ((x4 ++ (rdOf ByteArray.empty x3 x5)) ++ (⟨#[13, 10]⟩ : ByteArray)) (wrap64 (x5 + 1))) else (none)) else (none))) else (none)) else (none))
end
def bulletinref29_Stuff.f (k : Nat) (a0 : ByteArray) : Option (ByteArray) := (bulletinref17_Lines.f k a0).bind fun t107 => (bulletinref29_Stuff.l0 k t107 (⟨#[]⟩ : ByteArray) 0)
theorem bulletinref29_Stuff.mono_l : ∀ k, (∀ y0 y1 y2, LeO (bulletinref29_Stuff.l0 k y0 y1 y2) (bulletinref29_Stuff.l0 (k + 1) y0 y1 y2)) ∧ (∀ y0 y1 y2 y3, LeO (bulletinref29_Stuff.j1 k y0 y1 y2 y3) (bulletinref29_Stuff.j1 (k + 1) y0 y1 y2 y3))
  | 0 => ⟨fun _ _ _ r h => by simp [bulletinref29_Stuff.l0] at h, fun _ _ _ _ r h => by simp [bulletinref29_Stuff.j1] at h⟩
  | k + 1 => by
    obtain ⟨ih0, ih1⟩ := bulletinref29_Stuff.mono_l k
    refine ⟨?_, ?_⟩
    · intro y0 y1 y2
      unfold bulletinref29_Stuff.l0
      repeat' first
      | (with_reducible exact ih0 _ _ _)
      | (with_reducible exact ih1 _ _ _ _)
      | (with_reducible exact bulletinref17_Lines.mono _ _)
      | (with_reducible exact LeO.refl _)
      | (with_reducible exact LeO.none _)
      | (with_reducible refine LeO.ite ?_ ?_)
      | (with_reducible refine LeO.bind ?_ (fun _ => ?_))
      | exact ih0 _ _ _
      | exact ih1 _ _ _ _
      | exact bulletinref17_Lines.mono _ _
      | exact LeO.none _
      | refine LeO.ite ?_ ?_
      | refine LeO.bind ?_ (fun _ => ?_)
    · intro y0 y1 y2 y3
      unfold bulletinref29_Stuff.j1
      repeat' first
      | (with_reducible exact ih0 _ _ _)
      | (with_reducible exact ih1 _ _ _ _)
      | (with_reducible exact bulletinref17_Lines.mono _ _)
      | (with_reducible exact LeO.refl _)
      | (with_reducible exact LeO.none _)
      | (with_reducible refine LeO.ite ?_ ?_)
      | (with_reducible refine LeO.bind ?_ (fun _ => ?_))
      | exact ih0 _ _ _
      | exact ih1 _ _ _ _
      | exact bulletinref17_Lines.mono _ _
      | exact LeO.none _
      | refine LeO.ite ?_ ?_
      | refine LeO.bind ?_ (fun _ => ?_)
theorem bulletinref29_Stuff.mono : ∀ a0 k, LeO (bulletinref29_Stuff.f k a0) (bulletinref29_Stuff.f (k + 1) a0) := by
  intro a0 k
  obtain ⟨ih0, ih1⟩ := bulletinref29_Stuff.mono_l k
  unfold bulletinref29_Stuff.f
  repeat' first
      | (with_reducible exact ih0 _ _ _)
      | (with_reducible exact ih1 _ _ _ _)
      | (with_reducible exact bulletinref17_Lines.mono _ _)
      | (with_reducible exact LeO.refl _)
      | (with_reducible exact LeO.none _)
      | (with_reducible refine LeO.ite ?_ ?_)
      | (with_reducible refine LeO.bind ?_ (fun _ => ?_))
      | exact ih0 _ _ _
      | exact ih1 _ _ _ _
      | exact bulletinref17_Lines.mono _ _
      | exact LeO.none _
      | refine LeO.ite ?_ ?_
      | refine LeO.bind ?_ (fun _ => ?_)
set_option maxHeartbeats 8000000 in
set_option maxRecDepth 100000 in
theorem bulletinref29_Stuff.calls (k : Nat) (a0 : ByteArray) (r : ByteArray) (w : World) (h : bulletinref29_Stuff.f k a0 = some r) :
    Calls Try.prog 8 #[.string a0] w fun e w' => e = .returned (.string r) ∧ Below w.heap.size w w' := by
  have HB := Aside0.mk (Below.refl w.heap.size w)
  have H : ((bulletinref17_Lines.f k a0).bind fun t107 => (bulletinref29_Stuff.l0 k t107 (⟨#[]⟩ : ByteArray) 0)) = some r := h
  clear h
  replace H := Option.bind_eq_some_iff.mp H
  obtain ⟨t107, A20, H⟩ := H
  replace H : (bulletinref29_Stuff.l0 k t107 (⟨#[]⟩ : ByteArray) 0) = some r := H
  have A2 := Aside0.mk A20
  clear A20
  have H' := Aside0.mk H
  clear H
  go_enter Try.func8, Try.ntmps8
  go_wp2_with (first | ((with_reducible refine gate_callee (f := 26) rfl ?_); refine goesL_ (some 7) rfl rfl Try.func26 (by kernel_rfl) rfl #[.string a0] rfl (by (try simp only [List.map_toArray, List.map_cons, List.map_nil]); first | done | rfl | (simp only [List.length_drop, List.length_take]; rfl)) ?_; (with_reducible refine (bulletinref17_Lines.calls k a0 t107 _ A2.out).mono ?_); rintro e w3 ⟨v108, rfl, ho0, hb⟩; refine ⟨_, rfl, ?_⟩; have n0_ := Aside0.mk (Kd.R_lower ho0 (below_size (by repeat (first | (with_reducible first | exact HB.out | apply below_alloc | apply pw_below_drewN | apply below_drew1) | exact HB.out)))); have n1_ := Aside0.mk (below_step (by repeat (first | (with_reducible first | exact HB.out | apply below_alloc | apply pw_below_drewN | apply below_drew1) | exact HB.out)) hb); clear HB; have HO109 := n0_; have HB := n1_; clear n0_ n1_; (try clear hb); (try clear hb2); (try clear hk); (try clear hi); (try clear ho0)))
  go_loopg [4, 5] k (fun kq v4 v5 w' => ∃ (x4_1 : ByteArray) (x5_1 : Int), v4 = .string x4_1 ∧ v5 = .int .i64 x5_1 ∧ Aside0 (bulletinref29_Stuff.l0 kq t107 x4_1 x5_1 = some r) ∧ Aside0 (kq ≤ k) ∧ Aside0 (Kd.R Kd.string 9 w' w.heap.size (fun _ => True) v108 t107) ∧ Aside0 (Below w.heap.size w w'))
  case atStart => exact ⟨((⟨#[]⟩ : ByteArray)), (0), (by first | rfl | (simp; done) | (simp [*]; done)), (by first | rfl | (simp; done) | (simp [*]; done)), H', ⟨Nat.le_refl _⟩, ⟨by (with_reducible repeat (first | apply Kd.R_alloc | apply Kd.R_drewN | apply Kd.R_drew)); exact HO109.out⟩, ⟨by repeat (first | (with_reducible first | exact HB.out | apply below_alloc | apply pw_below_drewN | apply below_drew1) | exact HB.out)⟩⟩
  case round =>
    clear H'
    try clear c2
    try clear p2
    obtain ⟨x4_1, x5_1, rfl, rfl, HA, HK1, HO_3, HB⟩ := hrel
    cases gk with
    | zero => exact absurd HA.out (by simp [bulletinref29_Stuff.l0])
    | succ k1 =>
      have H := HA.out
      clear HA
      simp only [bulletinref29_Stuff.l0] at H
      by_cases c4 : x5_1 < (t107.length : Int)
      · rw [if_pos c4] at H
        have c4b0 : decide (x5_1 < (t107.length : Int)) = true := decide_eq_true c4
        clear c4
        have HC5 := Aside0.mk H
        clear H
        obtain ⟨Ao6, co6, eo6⟩ := Kd.R_slice HO_3.out
        subst eo6
        go_upto_region 6 with (fail)
        go_cut [25] (fun v25 wc => ∃ (kq : Nat) (x25_4 : Bool), v25 = .bool x25_4 ∧ Aside0 (bulletinref29_Stuff.j1 kq t107 x4_1 x5_1 x25_4 = some r) ∧ Aside0 (kq ≤ k1) ∧ Aside0 (Kd.R Kd.string 9 wc w.heap.size (fun _ => True) (.slice Ao6 t107.length co6) t107) ∧ Aside0 (Below w.heap.size w wc))
        case first =>
          have H := HC5.out
          clear HC5
          by_cases c7 : x5_1 = (wrap64 ((t107.length : Int) - 1))
          · rw [if_pos c7] at H
            have c7b0 : (x5_1 == (wrap64 ((t107.length : Int) - 1))) = true := beq_iff_eq.mpr c7
            have c7b1 : (x5_1 != (wrap64 ((t107.length : Int) - 1))) = false := bne_eq_false_iff_eq.mpr c7
            clear c7
            (first | rw [c7b0] | (simp only [i64_w, i32_w]; rw [c7b0]) | skip)
            by_cases c8 : 0 ≤ x5_1
            · rw [if_pos c8] at H
              have c8b0 : decide (0 ≤ x5_1) = true := decide_eq_true c8
              clear c8
              have H' := Aside0.mk H
              clear H
              have p110 : 0 ≤ (x5_1 : Int) := of_decide_eq_true (by first | (with_reducible assumption) | assumption)
              have q110 : x5_1 < (t107.length : Int) := of_decide_eq_true (by first | (with_reducible assumption) | assumption)
              obtain ⟨ad110, e110, hx110_0⟩ := Kd.at_string (Kd.R_reads' HO_3.out).2.2 x5_1 p110 q110
              cases e110
              replace p110 := eq_true p110
              replace q110 := eq_true q110; (try (have qs110 := q110; simp only [ByteArray.size_append, ByteArray.size_extract, Nat.min_self, Xsize_mk, List.size_toArray, List.length_cons, List.length_nil, Nat.zero_add, Nat.reduceAdd, List.length_append, List.length_drop, List.length_take] at qs110))
              go_wp2
              go_meet
              case rel => exact ⟨_, (((rdOf ByteArray.empty t107 x5_1).toList == ([] : List UInt8))), (by first | rfl | (simp; done) | (simp [*]; done)), H', ⟨by have := HK1.out; first | omega | exact Nat.le_refl _⟩, ⟨by (with_reducible repeat (first | apply Kd.R_alloc | apply Kd.R_drewN | apply Kd.R_drew)); exact HO_3.out⟩, ⟨by repeat (first | (with_reducible first | exact HB.out | apply below_alloc | apply pw_below_drewN | apply below_drew1) | exact HB.out)⟩⟩
            · rw [if_neg c8] at H
              exact absurd H (by simp)
          · rw [if_neg c7] at H
            have c7b0 : (x5_1 == (wrap64 ((t107.length : Int) - 1))) = false := beq_eq_false_iff_ne.mpr c7
            have c7b1 : (x5_1 != (wrap64 ((t107.length : Int) - 1))) = true := bne_iff_ne.mpr c7
            (first | rw [c7b0] | (simp only [i64_w, i32_w]; rw [c7b0]) | skip)
            have H' := Aside0.mk H
            clear H
            go_wp2
            go_meet
            case rel => exact ⟨_, (false), (by first | rfl | (simp; done) | (simp [*]; done)), H', ⟨by have := HK1.out; first | omega | exact Nat.le_refl _⟩, ⟨by (with_reducible repeat (first | apply Kd.R_alloc | apply Kd.R_drewN | apply Kd.R_drew)); exact HO_3.out⟩, ⟨by repeat (first | (with_reducible first | exact HB.out | apply below_alloc | apply pw_below_drewN | apply below_drew1) | exact HB.out)⟩⟩
        case rest =>
          clear HC5
          try clear p1
          try clear q1
          try clear hx1
          try clear c2
          try clear p2
          try clear c4
          try clear c4b0
          try clear p6
          try clear c7
          try clear c7b0
          try clear c7b1
          try clear c8
          try clear c8b0
          try clear hx110_0
          try clear p110
          try clear p2
          try clear q110
          obtain ⟨kq, x25_4, rfl, HA, HJ4, HO_3, HB⟩ := hcut
          cases kq with
          | zero => exact absurd HA.out (by simp [bulletinref29_Stuff.j1])
          | succ kj4 =>
            have H := HA.out
            clear HA
            simp only [bulletinref29_Stuff.j1] at H
            by_cases c9 : x25_4 = true
            · subst c9
              have H1 : (bulletinref29_Stuff.l0 kj4 t107 x4_1 (wrap64 (x5_1 + 1))) = some r := by rw [if_pos rfl] at H; exact H
              clear H
              have H := H1
              clear H1
              have H' := Aside0.mk H
              clear H
              go_wp2
              go_roundg kj4
              case measure => have := HK1.out; have := HJ4.out; omega
              case rel => exact ⟨(x4_1), (wrap64 (x5_1 + 1)), (by first | rfl | (simp; done) | (simp [*]; done)), (by first | rfl | (simp; done) | (simp [*]; done)), H', ⟨by have := HK1.out; have := HJ4.out; omega⟩, ⟨by (with_reducible repeat (first | apply Kd.R_alloc | apply Kd.R_drewN | apply Kd.R_drew)); exact HO_3.out⟩, ⟨by repeat (first | (with_reducible first | exact HB.out | apply below_alloc | apply pw_below_drewN | apply below_drew1) | exact HB.out)⟩⟩
            · replace c9 := Bool.eq_false_iff.mpr c9
              subst c9
              have H1 : (if 0 ≤ x5_1 then (if x5_1 < (t107.length : Int) then (if ((rdOf ByteArray.empty t107 x5_1).size : Int) > 0 then (if 0 < ((rdOf ByteArray.empty t107 x5_1).size : Int) then (if (bt (rdOf ByteArray.empty t107 x5_1) 0) = 46 then (if x4_1.size + 1 ≤ 9223372036854775807 then (if (x4_1 ++ (⟨#[46]⟩ : ByteArray)).size + (rdOf ByteArray.empty t107 x5_1).size ≤ 9223372036854775807 then (if ((x4_1 ++ (⟨#[46]⟩ : ByteArray)) ++ (rdOf ByteArray.empty t107 x5_1)).size + 2 ≤ 9223372036854775807 then (bulletinref29_Stuff.l0 kj4 t107 (((x4_1 ++ (⟨#[46]⟩ : ByteArray)) ++ (rdOf ByteArray.empty t107 x5_1)) ++ (⟨#[13, 10]⟩ : ByteArray)) (wrap64 (x5_1 + 1))) else (none)) else (none)) else (none)) else (if x4_1.size + (rdOf ByteArray.empty t107 x5_1).size ≤ 9223372036854775807 then (if (x4_1 ++ (rdOf ByteArray.empty t107 x5_1)).size + 2 ≤ 9223372036854775807 then (bulletinref29_Stuff.l0 kj4 t107 ((x4_1 ++ (rdOf ByteArray.empty t107 x5_1)) ++ (⟨#[13, 10]⟩ : ByteArray)) (wrap64 (x5_1 + 1))) else (none)) else (none))) else (none)) else (if x4_1.size + (rdOf ByteArray.empty t107 x5_1).size ≤ 9223372036854775807 then (if (x4_1 ++ (rdOf ByteArray.empty t107 x5_1)).size + 2 ≤ 9223372036854775807 then (bulletinref29_Stuff.l0 kj4 t107 ((x4_1 ++ (rdOf ByteArray.empty t107 x5_1)) ++ (⟨#[13, 10]⟩ : ByteArray)) (wrap64 (x5_1 + 1))) else (none)) else (none))) else (none)) else (none)) = some r := by rw [if_neg (show ¬ (false = true) by decide)] at H; exact H
              clear H
              have H := H1
              clear H1
              by_cases c10 : 0 ≤ x5_1
              · rw [if_pos c10] at H
                have c10b0 : decide (0 ≤ x5_1) = true := decide_eq_true c10
                clear c10
                by_cases c11 : x5_1 < (t107.length : Int)
                · rw [if_pos c11] at H
                  have c11b0 : decide (x5_1 < (t107.length : Int)) = true := decide_eq_true c11
                  clear c11
                  by_cases c12 : ((rdOf ByteArray.empty t107 x5_1).size : Int) > 0
                  · rw [if_pos c12] at H
                    have c12b0 : decide (0 < ((rdOf ByteArray.empty t107 x5_1).size : Int)) = true := decide_eq_true c12
                    have c12b1 : decide (0 < (rdOf ByteArray.empty t107 x5_1).size) = true := decide_eq_true (by omega)
                    clear c12
                    by_cases c13 : 0 < ((rdOf ByteArray.empty t107 x5_1).size : Int)
                    · rw [if_pos c13] at H
                      have c13b0 : decide (0 < ((rdOf ByteArray.empty t107 x5_1).size : Int)) = true := decide_eq_true c13
                      have c13b1 : decide (0 < (rdOf ByteArray.empty t107 x5_1).size) = true := decide_eq_true (by omega)
                      clear c13
                      by_cases c15 : (bt (rdOf ByteArray.empty t107 x5_1) 0) = 46
                      · rw [if_pos c15] at H
                        have c15b0 : ((bt (rdOf ByteArray.empty t107 x5_1) 0) == 46) = true := beq_iff_eq.mpr c15
                        have c15b1 : ((bt (rdOf ByteArray.empty t107 x5_1) 0) != 46) = false := bne_eq_false_iff_eq.mpr c15
                        clear c15
                        by_cases c16 : x4_1.size + 1 ≤ 9223372036854775807
                        · rw [if_pos c16] at H
                          have c16b0 := eq_true c16
                          have c16b1 : decide (x4_1.size + 1 ≤ 9223372036854775807) = true := decide_eq_true c16
                          try have c16b2 : (9223372036854775807 < x4_1.size + 1) = False := eq_false (Nat.not_lt.2 c16)
                          by_cases c17 : (x4_1 ++ (⟨#[46]⟩ : ByteArray)).size + (rdOf ByteArray.empty t107 x5_1).size ≤ 9223372036854775807
                          · rw [if_pos c17] at H
                            have c17b0 := eq_true c17
                            try (have c17s0 := c17b0; simp only [ByteArray.size_append, ByteArray.size_extract, Nat.min_self, Xsize_mk, List.size_toArray, List.length_cons, List.length_nil, Nat.zero_add, Nat.reduceAdd, List.length_append, List.length_drop, List.length_take] at c17s0)
                            have c17b1 : decide ((x4_1 ++ (⟨#[46]⟩ : ByteArray)).size + (rdOf ByteArray.empty t107 x5_1).size ≤ 9223372036854775807) = true := decide_eq_true c17
                            try (have c17s1 := c17b1; simp only [ByteArray.size_append, ByteArray.size_extract, Nat.min_self, Xsize_mk, List.size_toArray, List.length_cons, List.length_nil, Nat.zero_add, Nat.reduceAdd, List.length_append, List.length_drop, List.length_take] at c17s1)
                            try have c17b2 : (9223372036854775807 < (x4_1 ++ (⟨#[46]⟩ : ByteArray)).size + (rdOf ByteArray.empty t107 x5_1).size) = False := eq_false (Nat.not_lt.2 c17)
                            try (have c17s2 := c17b2; simp only [ByteArray.size_append, ByteArray.size_extract, Nat.min_self, Xsize_mk, List.size_toArray, List.length_cons, List.length_nil, Nat.zero_add, Nat.reduceAdd, List.length_append, List.length_drop, List.length_take] at c17s2)
                            by_cases c18 : ((x4_1 ++ (⟨#[46]⟩ : ByteArray)) ++ (rdOf ByteArray.empty t107 x5_1)).size + 2 ≤ 9223372036854775807
                            · rw [if_pos c18] at H
                              have c18b0 := eq_true c18
                              try (have c18s0 := c18b0; simp only [ByteArray.size_append, ByteArray.size_extract, Nat.min_self, Xsize_mk, List.size_toArray, List.length_cons, List.length_nil, Nat.zero_add, Nat.reduceAdd, List.length_append, List.length_drop, List.length_take] at c18s0)
                              have c18b1 : decide (((x4_1 ++ (⟨#[46]⟩ : ByteArray)) ++ (rdOf ByteArray.empty t107 x5_1)).size + 2 ≤ 9223372036854775807) = true := decide_eq_true c18
                              try (have c18s1 := c18b1; simp only [ByteArray.size_append, ByteArray.size_extract, Nat.min_self, Xsize_mk, List.size_toArray, List.length_cons, List.length_nil, Nat.zero_add, Nat.reduceAdd, List.length_append, List.length_drop, List.length_take] at c18s1)
                              try have c18b2 : (9223372036854775807 < ((x4_1 ++ (⟨#[46]⟩ : ByteArray)) ++ (rdOf ByteArray.empty t107 x5_1)).size + 2) = False := eq_false (Nat.not_lt.2 c18)
                              try (have c18s2 := c18b2; simp only [ByteArray.size_append, ByteArray.size_extract, Nat.min_self, Xsize_mk, List.size_toArray, List.length_cons, List.length_nil, Nat.zero_add, Nat.reduceAdd, List.length_append, List.length_drop, List.length_take] at c18s2)
                              have H' := Aside0.mk H
                              clear H
                              have p111 : 0 ≤ (x5_1 : Int) := of_decide_eq_true (by first | (with_reducible assumption) | assumption)
                              have q111 : x5_1 < (t107.length : Int) := of_decide_eq_true (by first | (with_reducible assumption) | assumption)
                              obtain ⟨ad111, e111, hx111_0⟩ := Kd.at_string (Kd.R_reads' HO_3.out).2.2 x5_1 p111 q111
                              cases e111
                              replace p111 := eq_true p111
                              replace q111 := eq_true q111; (try (have qs111 := q111; simp only [ByteArray.size_append, ByteArray.size_extract, Nat.min_self, Xsize_mk, List.size_toArray, List.length_cons, List.length_nil, Nat.zero_add, Nat.reduceAdd, List.length_append, List.length_drop, List.length_take] at qs111))
                              have p112 : 0 ≤ (x5_1 : Int) := of_decide_eq_true (by first | (with_reducible assumption) | assumption)
                              have q112 : x5_1 < (t107.length : Int) := of_decide_eq_true (by first | (with_reducible assumption) | assumption)
                              obtain ⟨ad112, e112, hx112_0⟩ := Kd.at_string (Kd.R_reads' HO_3.out).2.2 x5_1 p112 q112
                              obtain rfl : ad111 = ad112 := (by injection e112)
                              replace p112 := eq_true p112
                              replace q112 := eq_true q112; (try (have qs112 := q112; simp only [ByteArray.size_append, ByteArray.size_extract, Nat.min_self, Xsize_mk, List.size_toArray, List.length_cons, List.length_nil, Nat.zero_add, Nat.reduceAdd, List.length_append, List.length_drop, List.length_take] at qs112))
                              have p14 : 0 ≤ (0 : Int) := (by omega)
                              have q14 : 0 < (rdOf ByteArray.empty t107 x5_1).size := (by have : (0 : Int) < ((rdOf ByteArray.empty t107 x5_1).size : Int) := of_decide_eq_true (by first | (with_reducible assumption) | assumption); omega)
                              have hx14 : ∀ h : 0 < (rdOf ByteArray.empty t107 x5_1).size, (((rdOf ByteArray.empty t107 x5_1)[0]'h).toNat : Int) = bt (rdOf ByteArray.empty t107 x5_1) 0 := bt_at (rdOf ByteArray.empty t107 x5_1) 0
                              clear p14
                              have qi14 : (0 < ((rdOf ByteArray.empty t107 x5_1).size : Int)) = True := eq_true (of_decide_eq_true (by first | (with_reducible assumption) | assumption))
                              replace q14 := eq_true q14; (try (have qs14 := q14; simp only [ByteArray.size_append, ByteArray.size_extract, Nat.min_self, Xsize_mk, List.size_toArray, List.length_cons, List.length_nil, Nat.zero_add, Nat.reduceAdd, List.length_append, List.length_drop, List.length_take] at qs14))
                              have p113 : 0 ≤ (x5_1 : Int) := of_decide_eq_true (by first | (with_reducible assumption) | assumption)
                              have q113 : x5_1 < (t107.length : Int) := of_decide_eq_true (by first | (with_reducible assumption) | assumption)
                              obtain ⟨ad113, e113, hx113_0⟩ := Kd.at_string (Kd.R_reads' HO_3.out).2.2 x5_1 p113 q113
                              obtain rfl : ad111 = ad113 := (by injection e113)
                              replace p113 := eq_true p113
                              replace q113 := eq_true q113; (try (have qs113 := q113; simp only [ByteArray.size_append, ByteArray.size_extract, Nat.min_self, Xsize_mk, List.size_toArray, List.length_cons, List.length_nil, Nat.zero_add, Nat.reduceAdd, List.length_append, List.length_drop, List.length_take] at qs113))
                              go_wp2
                              go_roundg kj4
                              case measure => have := HK1.out; have := HJ4.out; omega
                              case rel => exact ⟨(((x4_1 ++ (⟨#[46]⟩ : ByteArray)) ++ (rdOf ByteArray.empty t107 x5_1)) ++ (⟨#[13, 10]⟩ : ByteArray)), (wrap64 (x5_1 + 1)), (by first | rfl | (simp; done) | (simp [*]; done)), (by first | rfl | (simp; done) | (simp [*]; done)), H', ⟨by have := HK1.out; have := HJ4.out; omega⟩, ⟨by (with_reducible repeat (first | apply Kd.R_alloc | apply Kd.R_drewN | apply Kd.R_drew)); exact HO_3.out⟩, ⟨by repeat (first | (with_reducible first | exact HB.out | apply below_alloc | apply pw_below_drewN | apply below_drew1) | exact HB.out)⟩⟩
                            · rw [if_neg c18] at H
                              exact absurd H (by simp)
                          · rw [if_neg c17] at H
                            exact absurd H (by simp)
                        · rw [if_neg c16] at H
                          exact absurd H (by simp)
                      · rw [if_neg c15] at H
                        have c15b0 : ((bt (rdOf ByteArray.empty t107 x5_1) 0) == 46) = false := beq_eq_false_iff_ne.mpr c15
                        have c15b1 : ((bt (rdOf ByteArray.empty t107 x5_1) 0) != 46) = true := bne_iff_ne.mpr c15
                        by_cases c19 : x4_1.size + (rdOf ByteArray.empty t107 x5_1).size ≤ 9223372036854775807
                        · rw [if_pos c19] at H
                          have c19b0 := eq_true c19
                          have c19b1 : decide (x4_1.size + (rdOf ByteArray.empty t107 x5_1).size ≤ 9223372036854775807) = true := decide_eq_true c19
                          try have c19b2 : (9223372036854775807 < x4_1.size + (rdOf ByteArray.empty t107 x5_1).size) = False := eq_false (Nat.not_lt.2 c19)
                          by_cases c20 : (x4_1 ++ (rdOf ByteArray.empty t107 x5_1)).size + 2 ≤ 9223372036854775807
                          · rw [if_pos c20] at H
                            have c20b0 := eq_true c20
                            try (have c20s0 := c20b0; simp only [ByteArray.size_append, ByteArray.size_extract, Nat.min_self, Xsize_mk, List.size_toArray, List.length_cons, List.length_nil, Nat.zero_add, Nat.reduceAdd, List.length_append, List.length_drop, List.length_take] at c20s0)
                            have c20b1 : decide ((x4_1 ++ (rdOf ByteArray.empty t107 x5_1)).size + 2 ≤ 9223372036854775807) = true := decide_eq_true c20
                            try (have c20s1 := c20b1; simp only [ByteArray.size_append, ByteArray.size_extract, Nat.min_self, Xsize_mk, List.size_toArray, List.length_cons, List.length_nil, Nat.zero_add, Nat.reduceAdd, List.length_append, List.length_drop, List.length_take] at c20s1)
                            try have c20b2 : (9223372036854775807 < (x4_1 ++ (rdOf ByteArray.empty t107 x5_1)).size + 2) = False := eq_false (Nat.not_lt.2 c20)
                            try (have c20s2 := c20b2; simp only [ByteArray.size_append, ByteArray.size_extract, Nat.min_self, Xsize_mk, List.size_toArray, List.length_cons, List.length_nil, Nat.zero_add, Nat.reduceAdd, List.length_append, List.length_drop, List.length_take] at c20s2)
                            have H' := Aside0.mk H
                            clear H
                            have p111 : 0 ≤ (x5_1 : Int) := of_decide_eq_true (by first | (with_reducible assumption) | assumption)
                            have q111 : x5_1 < (t107.length : Int) := of_decide_eq_true (by first | (with_reducible assumption) | assumption)
                            obtain ⟨ad111, e111, hx111_0⟩ := Kd.at_string (Kd.R_reads' HO_3.out).2.2 x5_1 p111 q111
                            cases e111
                            replace p111 := eq_true p111
                            replace q111 := eq_true q111; (try (have qs111 := q111; simp only [ByteArray.size_append, ByteArray.size_extract, Nat.min_self, Xsize_mk, List.size_toArray, List.length_cons, List.length_nil, Nat.zero_add, Nat.reduceAdd, List.length_append, List.length_drop, List.length_take] at qs111))
                            have p112 : 0 ≤ (x5_1 : Int) := of_decide_eq_true (by first | (with_reducible assumption) | assumption)
                            have q112 : x5_1 < (t107.length : Int) := of_decide_eq_true (by first | (with_reducible assumption) | assumption)
                            obtain ⟨ad112, e112, hx112_0⟩ := Kd.at_string (Kd.R_reads' HO_3.out).2.2 x5_1 p112 q112
                            obtain rfl : ad111 = ad112 := (by injection e112)
                            replace p112 := eq_true p112
                            replace q112 := eq_true q112; (try (have qs112 := q112; simp only [ByteArray.size_append, ByteArray.size_extract, Nat.min_self, Xsize_mk, List.size_toArray, List.length_cons, List.length_nil, Nat.zero_add, Nat.reduceAdd, List.length_append, List.length_drop, List.length_take] at qs112))
                            have p14 : 0 ≤ (0 : Int) := (by omega)
                            have q14 : 0 < (rdOf ByteArray.empty t107 x5_1).size := (by have : (0 : Int) < ((rdOf ByteArray.empty t107 x5_1).size : Int) := of_decide_eq_true (by first | (with_reducible assumption) | assumption); omega)
                            have hx14 : ∀ h : 0 < (rdOf ByteArray.empty t107 x5_1).size, (((rdOf ByteArray.empty t107 x5_1)[0]'h).toNat : Int) = bt (rdOf ByteArray.empty t107 x5_1) 0 := bt_at (rdOf ByteArray.empty t107 x5_1) 0
                            clear p14
                            have qi14 : (0 < ((rdOf ByteArray.empty t107 x5_1).size : Int)) = True := eq_true (of_decide_eq_true (by first | (with_reducible assumption) | assumption))
                            replace q14 := eq_true q14; (try (have qs14 := q14; simp only [ByteArray.size_append, ByteArray.size_extract, Nat.min_self, Xsize_mk, List.size_toArray, List.length_cons, List.length_nil, Nat.zero_add, Nat.reduceAdd, List.length_append, List.length_drop, List.length_take] at qs14))
                            have p114 : 0 ≤ (x5_1 : Int) := of_decide_eq_true (by first | (with_reducible assumption) | assumption)
                            have q114 : x5_1 < (t107.length : Int) := of_decide_eq_true (by first | (with_reducible assumption) | assumption)
                            obtain ⟨ad114, e114, hx114_0⟩ := Kd.at_string (Kd.R_reads' HO_3.out).2.2 x5_1 p114 q114
                            obtain rfl : ad111 = ad114 := (by injection e114)
                            replace p114 := eq_true p114
                            replace q114 := eq_true q114; (try (have qs114 := q114; simp only [ByteArray.size_append, ByteArray.size_extract, Nat.min_self, Xsize_mk, List.size_toArray, List.length_cons, List.length_nil, Nat.zero_add, Nat.reduceAdd, List.length_append, List.length_drop, List.length_take] at qs114))
                            go_wp2
                            go_roundg kj4
                            case measure => have := HK1.out; have := HJ4.out; omega
                            case rel => exact ⟨((x4_1 ++ (rdOf ByteArray.empty t107 x5_1)) ++ (⟨#[13, 10]⟩ : ByteArray)), (wrap64 (x5_1 + 1)), (by first | rfl | (simp; done) | (simp [*]; done)), (by first | rfl | (simp; done) | (simp [*]; done)), H', ⟨by have := HK1.out; have := HJ4.out; omega⟩, ⟨by (with_reducible repeat (first | apply Kd.R_alloc | apply Kd.R_drewN | apply Kd.R_drew)); exact HO_3.out⟩, ⟨by repeat (first | (with_reducible first | exact HB.out | apply below_alloc | apply pw_below_drewN | apply below_drew1) | exact HB.out)⟩⟩
                          · rw [if_neg c20] at H
                            exact absurd H (by simp)
                        · rw [if_neg c19] at H
                          exact absurd H (by simp)
                    · rw [if_neg c13] at H
                      exact absurd H (by simp)
                  · rw [if_neg c12] at H
                    have c12b0 : decide (0 < ((rdOf ByteArray.empty t107 x5_1).size : Int)) = false := decide_eq_false c12
                    have c12b1 : decide (0 < (rdOf ByteArray.empty t107 x5_1).size) = false := decide_eq_false (by omega)
                    clear c12
                    by_cases c21 : x4_1.size + (rdOf ByteArray.empty t107 x5_1).size ≤ 9223372036854775807
                    · rw [if_pos c21] at H
                      have c21b0 := eq_true c21
                      have c21b1 : decide (x4_1.size + (rdOf ByteArray.empty t107 x5_1).size ≤ 9223372036854775807) = true := decide_eq_true c21
                      try have c21b2 : (9223372036854775807 < x4_1.size + (rdOf ByteArray.empty t107 x5_1).size) = False := eq_false (Nat.not_lt.2 c21)
                      by_cases c22 : (x4_1 ++ (rdOf ByteArray.empty t107 x5_1)).size + 2 ≤ 9223372036854775807
                      · rw [if_pos c22] at H
                        have c22b0 := eq_true c22
                        try (have c22s0 := c22b0; simp only [ByteArray.size_append, ByteArray.size_extract, Nat.min_self, Xsize_mk, List.size_toArray, List.length_cons, List.length_nil, Nat.zero_add, Nat.reduceAdd, List.length_append, List.length_drop, List.length_take] at c22s0)
                        have c22b1 : decide ((x4_1 ++ (rdOf ByteArray.empty t107 x5_1)).size + 2 ≤ 9223372036854775807) = true := decide_eq_true c22
                        try (have c22s1 := c22b1; simp only [ByteArray.size_append, ByteArray.size_extract, Nat.min_self, Xsize_mk, List.size_toArray, List.length_cons, List.length_nil, Nat.zero_add, Nat.reduceAdd, List.length_append, List.length_drop, List.length_take] at c22s1)
                        try have c22b2 : (9223372036854775807 < (x4_1 ++ (rdOf ByteArray.empty t107 x5_1)).size + 2) = False := eq_false (Nat.not_lt.2 c22)
                        try (have c22s2 := c22b2; simp only [ByteArray.size_append, ByteArray.size_extract, Nat.min_self, Xsize_mk, List.size_toArray, List.length_cons, List.length_nil, Nat.zero_add, Nat.reduceAdd, List.length_append, List.length_drop, List.length_take] at c22s2)
                        have H' := Aside0.mk H
                        clear H
                        have p111 : 0 ≤ (x5_1 : Int) := of_decide_eq_true (by first | (with_reducible assumption) | assumption)
                        have q111 : x5_1 < (t107.length : Int) := of_decide_eq_true (by first | (with_reducible assumption) | assumption)
                        obtain ⟨ad111, e111, hx111_0⟩ := Kd.at_string (Kd.R_reads' HO_3.out).2.2 x5_1 p111 q111
                        cases e111
                        replace p111 := eq_true p111
                        replace q111 := eq_true q111; (try (have qs111 := q111; simp only [ByteArray.size_append, ByteArray.size_extract, Nat.min_self, Xsize_mk, List.size_toArray, List.length_cons, List.length_nil, Nat.zero_add, Nat.reduceAdd, List.length_append, List.length_drop, List.length_take] at qs111))
                        have p115 : 0 ≤ (x5_1 : Int) := of_decide_eq_true (by first | (with_reducible assumption) | assumption)
                        have q115 : x5_1 < (t107.length : Int) := of_decide_eq_true (by first | (with_reducible assumption) | assumption)
                        obtain ⟨ad115, e115, hx115_0⟩ := Kd.at_string (Kd.R_reads' HO_3.out).2.2 x5_1 p115 q115
                        obtain rfl : ad111 = ad115 := (by injection e115)
                        replace p115 := eq_true p115
                        replace q115 := eq_true q115; (try (have qs115 := q115; simp only [ByteArray.size_append, ByteArray.size_extract, Nat.min_self, Xsize_mk, List.size_toArray, List.length_cons, List.length_nil, Nat.zero_add, Nat.reduceAdd, List.length_append, List.length_drop, List.length_take] at qs115))
                        go_wp2
                        go_roundg kj4
                        case measure => have := HK1.out; have := HJ4.out; omega
                        case rel => exact ⟨((x4_1 ++ (rdOf ByteArray.empty t107 x5_1)) ++ (⟨#[13, 10]⟩ : ByteArray)), (wrap64 (x5_1 + 1)), (by first | rfl | (simp; done) | (simp [*]; done)), (by first | rfl | (simp; done) | (simp [*]; done)), H', ⟨by have := HK1.out; have := HJ4.out; omega⟩, ⟨by (with_reducible repeat (first | apply Kd.R_alloc | apply Kd.R_drewN | apply Kd.R_drew)); exact HO_3.out⟩, ⟨by repeat (first | (with_reducible first | exact HB.out | apply below_alloc | apply pw_below_drewN | apply below_drew1) | exact HB.out)⟩⟩
                      · rw [if_neg c22] at H
                        exact absurd H (by simp)
                    · rw [if_neg c21] at H
                      exact absurd H (by simp)
                · rw [if_neg c11] at H
                  exact absurd H (by simp)
              · rw [if_neg c10] at H
                exact absurd H (by simp)
      · rw [if_neg c4] at H
        have c4b0 : decide (x5_1 < (t107.length : Int)) = false := decide_eq_false c4
        clear c4
        by_cases c23 : x4_1.size + 3 ≤ 9223372036854775807
        · rw [if_pos c23] at H
          have c23b0 := eq_true c23
          have c23b1 : decide (x4_1.size + 3 ≤ 9223372036854775807) = true := decide_eq_true c23
          try have c23b2 : (9223372036854775807 < x4_1.size + 3) = False := eq_false (Nat.not_lt.2 c23)
          obtain rfl := Option.some.inj H
          obtain ⟨Ao24, co24, eo24⟩ := Kd.R_slice HO_3.out
          subst eo24
          go_wp2
          go_ret
          exact ⟨by first | rfl | (simp [errW_none, errW_some] <;> rfl) | (simp [*, errW_none, errW_some] <;> rfl), by repeat (first | (with_reducible first | exact HB.out | apply below_alloc | apply pw_below_drewN | apply below_drew1) | exact HB.out)⟩
        · rw [if_neg c23] at H
          exact absurd H (by simp)

end Go.Proofs.Ytpolfnckbfdhgaa.X
