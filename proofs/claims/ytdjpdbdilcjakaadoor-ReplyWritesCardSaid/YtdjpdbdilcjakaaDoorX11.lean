-- Written by a program (print.py's text, with contracts of this session's own put in). Not trusted: Lean checks it.
import Derived.Test.YtdjpdbdilcjakaaDoorX0
import Derived.Test.YtdjpdbdilcjakaaDoorX10
namespace Go.Proofs.YtdjpdbdilcjakaaDoor.X
open Go.RowKit Go.Proofs.YtdjpdbdilcjakaaDoorW.PrintWords Go.Proofs.YtdjpdbdilcjakaaDoorW.PrintLast Go.Proofs.YtdjpdbdilcjakaaDoorW.PrintMore
attribute [local go_sem] max2_int min2_int max_two min_two max_three min_three max_four min_four   -- for this text's walks alone
set_option linter.unusedVariables false
set_option linter.unusedSimpArgs false

/-! ### bulletinref30_Text: function 13 -/
def bulletinref30_Text.l0 : Nat → ByteArray → ByteArray → Int → Int → List ByteArray → Option (ByteArray)
  | 0, _, _, _, _, _ => none
  | k + 1, x3, x4, x5, x139000, x139001 => if x5 < (wrap64 ((x139001.length : Int) - 1)) then (if x4.size + x3.size ≤ 9223372036854775807 then (if (x4 ++ x3).size + 1 ≤ 9223372036854775807 then (if 0 ≤ x5 then (if x5 < (x139001.length : Int) then (if ((x4 ++ x3) ++ (⟨#[45]⟩ : ByteArray)).size + (rdOf ByteArray.empty x139001 x5).size ≤ 9223372036854775807 then (if (((x4 ++ x3) ++ (⟨#[45]⟩ : ByteArray)) ++ (rdOf ByteArray.empty x139001 x5)).size + 2 ≤ 9223372036854775807 then (bulletinref30_Text.l0 k x3 ((((x4 ++ x3) ++ (⟨#[45]⟩ : ByteArray)) ++ (rdOf ByteArray.empty x139001 x5)) ++ (⟨#[13, 10]⟩ : ByteArray)) (wrap64 (x5 + 1)) x139000 x139001) else (none)) else (none)) else (none)) else (none)) else (none)) else (none)) else (if (x139001.length : Int) = 0 then (if x3.size + 3 ≤ 9223372036854775807 then (some (x3 ++ (⟨#[32, 13, 10]⟩ : ByteArray))) else (none)) else (if x4.size + x3.size ≤ 9223372036854775807 then (if (x4 ++ x3).size + 1 ≤ 9223372036854775807 then (if 0 ≤ (wrap64 ((x139001.length : Int) - 1)) then (if (wrap64 ((x139001.length : Int) - 1)) < (x139001.length : Int) then (if ((x4 ++ x3) ++ (⟨#[32]⟩ : ByteArray)).size + (rdOf ByteArray.empty x139001 (wrap64 ((x139001.length : Int) - 1))).size ≤ 9223372036854775807 then (if (((x4 ++ x3) ++ (⟨#[32]⟩ : ByteArray)) ++ (rdOf ByteArray.empty x139001 (wrap64 ((x139001.length : Int) - 1)))).size + 2 ≤ 9223372036854775807 then (some ((((x4 ++ x3) ++ (⟨#[32]⟩ : ByteArray)) ++ (rdOf ByteArray.empty x139001 (wrap64 ((x139001.length : Int) - 1)))) ++ (⟨#[13, 10]⟩ : ByteArray))) else (none)) else (none)) else (none)) else (none)) else (none)) else (none)))
def bulletinref30_Text.f (k : Nat) (a0_0 : Int) (l0_1 : List ByteArray) : Option (ByteArray) := (bulletinref07_Number.f k a0_0).bind fun t139 => (bulletinref30_Text.l0 k t139 (⟨#[]⟩ : ByteArray) 0 a0_0 l0_1)
theorem bulletinref30_Text.mono_l : ∀ k, (∀ y0 y1 y2 y3 y4, LeO (bulletinref30_Text.l0 k y0 y1 y2 y3 y4) (bulletinref30_Text.l0 (k + 1) y0 y1 y2 y3 y4))
  | 0 => fun _ _ _ _ _ r h => by simp [bulletinref30_Text.l0] at h
  | k + 1 => by
    have ih0 := bulletinref30_Text.mono_l k
    · intro y0 y1 y2 y3 y4
      unfold bulletinref30_Text.l0
      repeat' first
      | (with_reducible exact ih0 _ _ _ _ _)
      | (with_reducible exact bulletinref07_Number.mono _ _)
      | (with_reducible exact LeO.refl _)
      | (with_reducible exact LeO.none _)
      | (with_reducible refine LeO.ite ?_ ?_)
      | (with_reducible refine LeO.bind ?_ (fun _ => ?_))
      | exact ih0 _ _ _ _ _
      | exact bulletinref07_Number.mono _ _
      | exact LeO.none _
      | refine LeO.ite ?_ ?_
      | refine LeO.bind ?_ (fun _ => ?_)
theorem bulletinref30_Text.mono : ∀ a0 a1 k, LeO (bulletinref30_Text.f k a0 a1) (bulletinref30_Text.f (k + 1) a0 a1) := by
  intro a0 a1 k
  have ih0 := bulletinref30_Text.mono_l k
  unfold bulletinref30_Text.f
  repeat' first
      | (with_reducible exact ih0 _ _ _ _ _)
      | (with_reducible exact bulletinref07_Number.mono _ _)
      | (with_reducible exact LeO.refl _)
      | (with_reducible exact LeO.none _)
      | (with_reducible refine LeO.ite ?_ ?_)
      | (with_reducible refine LeO.bind ?_ (fun _ => ?_))
      | exact ih0 _ _ _ _ _
      | exact bulletinref07_Number.mono _ _
      | exact LeO.none _
      | refine LeO.ite ?_ ?_
      | refine LeO.bind ?_ (fun _ => ?_)
set_option maxHeartbeats 8000000 in
set_option maxRecDepth 100000 in
theorem bulletinref30_Text.calls (k : Nat) (a0_0 : Int) (A0_1 : Option Addr) (c0_1 : Nat) (l0_1 : List ByteArray) (r : ByteArray) (w : World) (hr0_1 : Kd.C Kd.string w A0_1 l0_1.length l0_1) (hc0_1 : l0_1.length ≤ c0_1) (h : bulletinref30_Text.f k a0_0 l0_1 = some r) :
    Calls Tryd.prog 13 #[.agg #[.int .i64 a0_0, .slice A0_1 l0_1.length c0_1]] w fun e w' => e = .returned (.string r) ∧ Below w.heap.size w w' := by
  have hu29 := Tryd.underlying29
  have HR0_1 := Aside0.mk hr0_1
  have HC0_1 := Aside0.mk hc0_1
  clear hr0_1 hc0_1
  have HB := Aside0.mk (Below.refl w.heap.size w)
  have H : ((bulletinref07_Number.f k a0_0).bind fun t139 => (bulletinref30_Text.l0 k t139 (⟨#[]⟩ : ByteArray) 0 a0_0 l0_1)) = some r := h
  clear h
  replace H := Option.bind_eq_some_iff.mp H
  obtain ⟨t139, A20, H⟩ := H
  replace H : (bulletinref30_Text.l0 k t139 (⟨#[]⟩ : ByteArray) 0 a0_0 l0_1) = some r := H
  have A2 := Aside0.mk A20
  clear A20
  have H' := Aside0.mk H
  clear H
  go_enter Tryd.func13, Tryd.ntmps13
  go_wp2_with (first | ((with_reducible refine gate_dst (N := 1) rfl ?_); refine box_event ?hg (N := 1) ?hd (cs := #[.int .i64 a0_0, .slice A0_1 l0_1.length c0_1]) (t := 29) ?hr ?_; (case hd => rfl); (case hg => rfl); (case hr => first | (go_simp; done) | (go_simp; rfl)); intro gb138 hg w3 hbox hb; have n0_ := Aside0.mk (below_step (by repeat (first | (with_reducible first | exact HB.out | apply below_alloc | apply pw_below_drewN | apply below_drew1) | exact HB.out)) hb); have n1_ := Aside0.mk (hbox); have n2_ := Aside0.mk ((by rw [hg]; exact (below_size (by repeat (first | (with_reducible first | exact HB.out | apply below_alloc | apply pw_below_drewN | apply below_drew1) | exact HB.out))) : w.heap.size ≤ gb138)); have n3_ := Aside0.mk ((by rw [hg]; exact (below_size (by repeat (first | (with_reducible first | exact HB.out | apply below_alloc | apply pw_below_drewN | apply below_drew1) | exact HB.out))) : w.heap.size ≤ gb138)); clear HB; have HB := n0_; have BK138 := n1_; have GW138 := n2_; have GE138 := n3_; clear n0_ n1_ n2_ n3_; clear hb hbox hg; have hcz4_0 : w3.cell? ⟨gb138, 0, none⟩ = some (.int .i64 a0_0) := (blk_cell BK138.out 0).trans rfl; have hcz4_1 : w3.cell? ⟨gb138, 1, none⟩ = some (.slice A0_1 l0_1.length c0_1) := (blk_cell BK138.out 1).trans rfl; have hfz4_0 := blk_frozen BK138.out 0; have hfz4_1 := blk_frozen BK138.out 1) | ((with_reducible refine gate_callee (f := 27) rfl ?_); refine goesL_ (some 8) rfl rfl Tryd.func27 (by kernel_rfl) rfl #[.int .i64 a0_0] rfl (by (try simp only [List.map_toArray, List.map_cons, List.map_nil]); first | done | rfl | (simp only [List.length_drop, List.length_take]; rfl)) ?_; (with_reducible refine (bulletinref07_Number.calls k a0_0 t139 _ A2.out).mono ?_); rintro e w5 ⟨rfl, hb⟩; refine ⟨_, rfl, ?_⟩; have n0_ := Aside0.mk (blk_below (g := gb138) (o := .cells #[.int .i64 a0_0, .slice A0_1 l0_1.length c0_1] 29 (0, 0)) (by (with_reducible repeat (first | refine blk_drewN ?_ _ | refine blk_drew ?_ | refine blk_alloc ?_ _)); exact BK138.out) hb); have n1_ := Aside0.mk (below_step (by repeat (first | (with_reducible first | exact HB.out | apply below_alloc | apply pw_below_drewN | apply below_drew1 | refine below_set ?_ GE138.out) | exact HB.out)) hb); clear BK138; clear HB; have BK138 := n0_; have HB := n1_; clear n0_ n1_; (try clear hb); (try clear hb2); (try clear hk); (try clear hi)))
  go_loopg [4, 5] k (fun kq v4 v5 w' => ∃ (x4_1 : ByteArray) (x5_1 : Int), v4 = .string x4_1 ∧ v5 = .int .i64 x5_1 ∧ Aside0 (bulletinref30_Text.l0 kq t139 x4_1 x5_1 a0_0 l0_1 = some r) ∧ Aside0 (kq ≤ k) ∧ Aside0 (w'.heap[gb138]? = some (.cells #[.int .i64 a0_0, (.slice A0_1 l0_1.length c0_1)] 29 (0, 0))) ∧ Aside0 (Below w.heap.size w w'))
  case atStart => exact ⟨((⟨#[]⟩ : ByteArray)), (0), (by first | rfl | (simp; done) | (simp [*]; done)), (by first | rfl | (simp; done) | (simp [*]; done)), H', ⟨Nat.le_refl _⟩, ⟨by (with_reducible repeat (first | refine blk_drewN ?_ _ | refine blk_drew ?_ | refine blk_alloc ?_ _)); exact BK138.out⟩, ⟨by repeat (first | (with_reducible first | exact HB.out | apply below_alloc | apply pw_below_drewN | apply below_drew1 | refine below_set ?_ GE138.out) | exact HB.out)⟩⟩
  case round =>
    clear H'
    try clear c1
    try clear c2
    try clear p2
    try clear hcz4_0
    try clear hcz4_1
    try clear hfz4_0
    try clear hfz4_1
    obtain ⟨x4_1, x5_1, rfl, rfl, HA, HK1, BK138, HB⟩ := hrel
    cases gk with
    | zero => exact absurd HA.out (by simp [bulletinref30_Text.l0])
    | succ k1 =>
      have H := HA.out
      clear HA
      simp only [bulletinref30_Text.l0] at H
      by_cases c6 : x5_1 < (wrap64 ((l0_1.length : Int) - 1))
      · rw [if_pos c6] at H
        have c6b0 : decide (x5_1 < (wrap64 ((l0_1.length : Int) - 1))) = true := decide_eq_true c6
        clear c6
        by_cases c7 : x4_1.size + t139.size ≤ 9223372036854775807
        · rw [if_pos c7] at H
          have c7b0 := eq_true c7
          have c7b1 : decide (x4_1.size + t139.size ≤ 9223372036854775807) = true := decide_eq_true c7
          try have c7b2 : (9223372036854775807 < x4_1.size + t139.size) = False := eq_false (Nat.not_lt.2 c7)
          by_cases c8 : (x4_1 ++ t139).size + 1 ≤ 9223372036854775807
          · rw [if_pos c8] at H
            have c8b0 := eq_true c8
            try (have c8s0 := c8b0; simp only [ByteArray.size_append, ByteArray.size_extract, Nat.min_self, Xsize_mk, List.size_toArray, List.length_cons, List.length_nil, Nat.zero_add, Nat.reduceAdd, List.length_append, List.length_drop, List.length_take] at c8s0)
            have c8b1 : decide ((x4_1 ++ t139).size + 1 ≤ 9223372036854775807) = true := decide_eq_true c8
            try (have c8s1 := c8b1; simp only [ByteArray.size_append, ByteArray.size_extract, Nat.min_self, Xsize_mk, List.size_toArray, List.length_cons, List.length_nil, Nat.zero_add, Nat.reduceAdd, List.length_append, List.length_drop, List.length_take] at c8s1)
            try have c8b2 : (9223372036854775807 < (x4_1 ++ t139).size + 1) = False := eq_false (Nat.not_lt.2 c8)
            try (have c8s2 := c8b2; simp only [ByteArray.size_append, ByteArray.size_extract, Nat.min_self, Xsize_mk, List.size_toArray, List.length_cons, List.length_nil, Nat.zero_add, Nat.reduceAdd, List.length_append, List.length_drop, List.length_take] at c8s2)
            by_cases c9 : 0 ≤ x5_1
            · rw [if_pos c9] at H
              have c9b0 : decide (0 ≤ x5_1) = true := decide_eq_true c9
              clear c9
              by_cases c10 : x5_1 < (l0_1.length : Int)
              · rw [if_pos c10] at H
                have c10b0 : decide (x5_1 < (l0_1.length : Int)) = true := decide_eq_true c10
                clear c10
                by_cases c11 : ((x4_1 ++ t139) ++ (⟨#[45]⟩ : ByteArray)).size + (rdOf ByteArray.empty l0_1 x5_1).size ≤ 9223372036854775807
                · rw [if_pos c11] at H
                  have c11b0 := eq_true c11
                  try (have c11s0 := c11b0; simp only [ByteArray.size_append, ByteArray.size_extract, Nat.min_self, Xsize_mk, List.size_toArray, List.length_cons, List.length_nil, Nat.zero_add, Nat.reduceAdd, List.length_append, List.length_drop, List.length_take] at c11s0)
                  have c11b1 : decide (((x4_1 ++ t139) ++ (⟨#[45]⟩ : ByteArray)).size + (rdOf ByteArray.empty l0_1 x5_1).size ≤ 9223372036854775807) = true := decide_eq_true c11
                  try (have c11s1 := c11b1; simp only [ByteArray.size_append, ByteArray.size_extract, Nat.min_self, Xsize_mk, List.size_toArray, List.length_cons, List.length_nil, Nat.zero_add, Nat.reduceAdd, List.length_append, List.length_drop, List.length_take] at c11s1)
                  try have c11b2 : (9223372036854775807 < ((x4_1 ++ t139) ++ (⟨#[45]⟩ : ByteArray)).size + (rdOf ByteArray.empty l0_1 x5_1).size) = False := eq_false (Nat.not_lt.2 c11)
                  try (have c11s2 := c11b2; simp only [ByteArray.size_append, ByteArray.size_extract, Nat.min_self, Xsize_mk, List.size_toArray, List.length_cons, List.length_nil, Nat.zero_add, Nat.reduceAdd, List.length_append, List.length_drop, List.length_take] at c11s2)
                  by_cases c12 : (((x4_1 ++ t139) ++ (⟨#[45]⟩ : ByteArray)) ++ (rdOf ByteArray.empty l0_1 x5_1)).size + 2 ≤ 9223372036854775807
                  · rw [if_pos c12] at H
                    have c12b0 := eq_true c12
                    try (have c12s0 := c12b0; simp only [ByteArray.size_append, ByteArray.size_extract, Nat.min_self, Xsize_mk, List.size_toArray, List.length_cons, List.length_nil, Nat.zero_add, Nat.reduceAdd, List.length_append, List.length_drop, List.length_take] at c12s0)
                    have c12b1 : decide ((((x4_1 ++ t139) ++ (⟨#[45]⟩ : ByteArray)) ++ (rdOf ByteArray.empty l0_1 x5_1)).size + 2 ≤ 9223372036854775807) = true := decide_eq_true c12
                    try (have c12s1 := c12b1; simp only [ByteArray.size_append, ByteArray.size_extract, Nat.min_self, Xsize_mk, List.size_toArray, List.length_cons, List.length_nil, Nat.zero_add, Nat.reduceAdd, List.length_append, List.length_drop, List.length_take] at c12s1)
                    try have c12b2 : (9223372036854775807 < (((x4_1 ++ t139) ++ (⟨#[45]⟩ : ByteArray)) ++ (rdOf ByteArray.empty l0_1 x5_1)).size + 2) = False := eq_false (Nat.not_lt.2 c12)
                    try (have c12s2 := c12b2; simp only [ByteArray.size_append, ByteArray.size_extract, Nat.min_self, Xsize_mk, List.size_toArray, List.length_cons, List.length_nil, Nat.zero_add, Nat.reduceAdd, List.length_append, List.length_drop, List.length_take] at c12s2)
                    have H' := Aside0.mk H
                    clear H
                    have hcz13_0 : wr.cell? ⟨gb138, 0, none⟩ = some (.int .i64 a0_0) := (blk_cell BK138.out 0).trans rfl
                    have hcz13_1 : wr.cell? ⟨gb138, 1, none⟩ = some (.slice A0_1 l0_1.length c0_1) := (blk_cell BK138.out 1).trans rfl
                    have hfz13_0 := blk_frozen BK138.out 0
                    have hfz13_1 := blk_frozen BK138.out 1
                    have p140 : 0 ≤ (x5_1 : Int) := of_decide_eq_true (by first | (with_reducible assumption) | assumption)
                    have q140 : x5_1 < (l0_1.length : Int) := of_decide_eq_true (by first | (with_reducible assumption) | assumption)
                    obtain ⟨ad140, e140, hx140_0⟩ := Kd.at_string HR0_1.out x5_1 p140 q140
                    cases e140
                    replace hx140_0 := (HB.out.cell (World.block_lt_of_cell? w _ hx140_0)).trans hx140_0
                    replace p140 := eq_true p140
                    replace q140 := eq_true q140; (try (have qs140 := q140; simp only [ByteArray.size_append, ByteArray.size_extract, Nat.min_self, Xsize_mk, List.size_toArray, List.length_cons, List.length_nil, Nat.zero_add, Nat.reduceAdd, List.length_append, List.length_drop, List.length_take] at qs140))
                    go_wp2
                    go_roundg k1
                    case measure => have := HK1.out; omega
                    case rel => exact ⟨((((x4_1 ++ t139) ++ (⟨#[45]⟩ : ByteArray)) ++ (rdOf ByteArray.empty l0_1 x5_1)) ++ (⟨#[13, 10]⟩ : ByteArray)), (wrap64 (x5_1 + 1)), (by first | rfl | (simp; done) | (simp [*]; done)), (by first | rfl | (simp; done) | (simp [*]; done)), H', ⟨by have := HK1.out; omega⟩, ⟨by (with_reducible repeat (first | refine blk_drewN ?_ _ | refine blk_drew ?_ | refine blk_alloc ?_ _)); exact BK138.out⟩, ⟨by repeat (first | (with_reducible first | exact HB.out | apply below_alloc | apply pw_below_drewN | apply below_drew1 | refine below_set ?_ GE138.out) | exact HB.out)⟩⟩
                  · rw [if_neg c12] at H
                    exact absurd H (by simp)
                · rw [if_neg c11] at H
                  exact absurd H (by simp)
              · rw [if_neg c10] at H
                exact absurd H (by simp)
            · rw [if_neg c9] at H
              exact absurd H (by simp)
          · rw [if_neg c8] at H
            exact absurd H (by simp)
        · rw [if_neg c7] at H
          exact absurd H (by simp)
      · rw [if_neg c6] at H
        have c6b0 : decide (x5_1 < (wrap64 ((l0_1.length : Int) - 1))) = false := decide_eq_false c6
        clear c6
        by_cases c14 : (l0_1.length : Int) = 0
        · rw [if_pos c14] at H
          have c14b0 : ((l0_1.length : Int) == 0) = true := beq_iff_eq.mpr c14
          have c14b1 : ((l0_1.length : Int) != 0) = false := bne_eq_false_iff_eq.mpr c14
          clear c14
          by_cases c15 : t139.size + 3 ≤ 9223372036854775807
          · rw [if_pos c15] at H
            have c15b0 := eq_true c15
            have c15b1 : decide (t139.size + 3 ≤ 9223372036854775807) = true := decide_eq_true c15
            try have c15b2 : (9223372036854775807 < t139.size + 3) = False := eq_false (Nat.not_lt.2 c15)
            obtain rfl := Option.some.inj H
            have hcz16_0 : wr.cell? ⟨gb138, 0, none⟩ = some (.int .i64 a0_0) := (blk_cell BK138.out 0).trans rfl
            have hcz16_1 : wr.cell? ⟨gb138, 1, none⟩ = some (.slice A0_1 l0_1.length c0_1) := (blk_cell BK138.out 1).trans rfl
            have hfz16_0 := blk_frozen BK138.out 0
            have hfz16_1 := blk_frozen BK138.out 1
            go_wp2
            go_ret
            exact ⟨by first | rfl | (simp [errW_none, errW_some] <;> rfl) | (simp [*, errW_none, errW_some] <;> rfl), by repeat (first | (with_reducible first | exact HB.out | apply below_alloc | apply pw_below_drewN | apply below_drew1 | refine below_set ?_ GE138.out) | exact HB.out)⟩
          · rw [if_neg c15] at H
            exact absurd H (by simp)
        · rw [if_neg c14] at H
          have c14b0 : ((l0_1.length : Int) == 0) = false := beq_eq_false_iff_ne.mpr c14
          have c14b1 : ((l0_1.length : Int) != 0) = true := bne_iff_ne.mpr c14
          have c14b2 : ¬ (l0_1 = []) := fun h_ => c14 (by rw [h_]; rfl)
          by_cases c17 : x4_1.size + t139.size ≤ 9223372036854775807
          · rw [if_pos c17] at H
            have c17b0 := eq_true c17
            have c17b1 : decide (x4_1.size + t139.size ≤ 9223372036854775807) = true := decide_eq_true c17
            try have c17b2 : (9223372036854775807 < x4_1.size + t139.size) = False := eq_false (Nat.not_lt.2 c17)
            by_cases c18 : (x4_1 ++ t139).size + 1 ≤ 9223372036854775807
            · rw [if_pos c18] at H
              have c18b0 := eq_true c18
              try (have c18s0 := c18b0; simp only [ByteArray.size_append, ByteArray.size_extract, Nat.min_self, Xsize_mk, List.size_toArray, List.length_cons, List.length_nil, Nat.zero_add, Nat.reduceAdd, List.length_append, List.length_drop, List.length_take] at c18s0)
              have c18b1 : decide ((x4_1 ++ t139).size + 1 ≤ 9223372036854775807) = true := decide_eq_true c18
              try (have c18s1 := c18b1; simp only [ByteArray.size_append, ByteArray.size_extract, Nat.min_self, Xsize_mk, List.size_toArray, List.length_cons, List.length_nil, Nat.zero_add, Nat.reduceAdd, List.length_append, List.length_drop, List.length_take] at c18s1)
              try have c18b2 : (9223372036854775807 < (x4_1 ++ t139).size + 1) = False := eq_false (Nat.not_lt.2 c18)
              try (have c18s2 := c18b2; simp only [ByteArray.size_append, ByteArray.size_extract, Nat.min_self, Xsize_mk, List.size_toArray, List.length_cons, List.length_nil, Nat.zero_add, Nat.reduceAdd, List.length_append, List.length_drop, List.length_take] at c18s2)
              obtain ⟨ji19, hji19⟩ : ∃ j_ : Int, (wrap64 ((l0_1.length : Int) - 1)) = j_ := ⟨_, rfl⟩
              replace H : (if 0 ≤ (ji19) then (if (ji19) < (l0_1.length : Int) then (if ((x4_1 ++ t139) ++ (⟨#[32]⟩ : ByteArray)).size + (rdOf ByteArray.empty l0_1 (ji19)).size ≤ 9223372036854775807 then (if (((x4_1 ++ t139) ++ (⟨#[32]⟩ : ByteArray)) ++ (rdOf ByteArray.empty l0_1 (ji19))).size + 2 ≤ 9223372036854775807 then (some ((((x4_1 ++ t139) ++ (⟨#[32]⟩ : ByteArray)) ++ (rdOf ByteArray.empty l0_1 (ji19))) ++ (⟨#[13, 10]⟩ : ByteArray))) else (none)) else (none)) else (none)) else (none)) = some r := by first | (rw [hji19] at H; exact H) | (simp only [hji19] at H ⊢; exact H)
              (try rw [hji19] at c6b0)
              (try rw [hji19] at c6s0)
              (try rw [hji19] at c6v0)
              have hji19w : (IntKind.i64.wrap ((l0_1.length : Int) - 1)) = ji19 := (i64_w _).trans hji19
              by_cases c20 : 0 ≤ (ji19)
              · rw [if_pos c20] at H
                have c20b0 : decide (0 ≤ (ji19)) = true := decide_eq_true c20
                clear c20
                by_cases c21 : (ji19) < (l0_1.length : Int)
                · rw [if_pos c21] at H
                  have c21b0 : decide ((ji19) < (l0_1.length : Int)) = true := decide_eq_true c21
                  clear c21
                  by_cases c22 : ((x4_1 ++ t139) ++ (⟨#[32]⟩ : ByteArray)).size + (rdOf ByteArray.empty l0_1 (ji19)).size ≤ 9223372036854775807
                  · rw [if_pos c22] at H
                    have c22b0 := eq_true c22
                    try (have c22s0 := c22b0; simp only [ByteArray.size_append, ByteArray.size_extract, Nat.min_self, Xsize_mk, List.size_toArray, List.length_cons, List.length_nil, Nat.zero_add, Nat.reduceAdd, List.length_append, List.length_drop, List.length_take] at c22s0)
                    have c22b1 : decide (((x4_1 ++ t139) ++ (⟨#[32]⟩ : ByteArray)).size + (rdOf ByteArray.empty l0_1 (ji19)).size ≤ 9223372036854775807) = true := decide_eq_true c22
                    try (have c22s1 := c22b1; simp only [ByteArray.size_append, ByteArray.size_extract, Nat.min_self, Xsize_mk, List.size_toArray, List.length_cons, List.length_nil, Nat.zero_add, Nat.reduceAdd, List.length_append, List.length_drop, List.length_take] at c22s1)
                    try have c22b2 : (9223372036854775807 < ((x4_1 ++ t139) ++ (⟨#[32]⟩ : ByteArray)).size + (rdOf ByteArray.empty l0_1 (ji19)).size) = False := eq_false (Nat.not_lt.2 c22)
                    try (have c22s2 := c22b2; simp only [ByteArray.size_append, ByteArray.size_extract, Nat.min_self, Xsize_mk, List.size_toArray, List.length_cons, List.length_nil, Nat.zero_add, Nat.reduceAdd, List.length_append, List.length_drop, List.length_take] at c22s2)
                    by_cases c23 : (((x4_1 ++ t139) ++ (⟨#[32]⟩ : ByteArray)) ++ (rdOf ByteArray.empty l0_1 (ji19))).size + 2 ≤ 9223372036854775807
                    · rw [if_pos c23] at H
                      have c23b0 := eq_true c23
                      try (have c23s0 := c23b0; simp only [ByteArray.size_append, ByteArray.size_extract, Nat.min_self, Xsize_mk, List.size_toArray, List.length_cons, List.length_nil, Nat.zero_add, Nat.reduceAdd, List.length_append, List.length_drop, List.length_take] at c23s0)
                      have c23b1 : decide ((((x4_1 ++ t139) ++ (⟨#[32]⟩ : ByteArray)) ++ (rdOf ByteArray.empty l0_1 (ji19))).size + 2 ≤ 9223372036854775807) = true := decide_eq_true c23
                      try (have c23s1 := c23b1; simp only [ByteArray.size_append, ByteArray.size_extract, Nat.min_self, Xsize_mk, List.size_toArray, List.length_cons, List.length_nil, Nat.zero_add, Nat.reduceAdd, List.length_append, List.length_drop, List.length_take] at c23s1)
                      try have c23b2 : (9223372036854775807 < (((x4_1 ++ t139) ++ (⟨#[32]⟩ : ByteArray)) ++ (rdOf ByteArray.empty l0_1 (ji19))).size + 2) = False := eq_false (Nat.not_lt.2 c23)
                      try (have c23s2 := c23b2; simp only [ByteArray.size_append, ByteArray.size_extract, Nat.min_self, Xsize_mk, List.size_toArray, List.length_cons, List.length_nil, Nat.zero_add, Nat.reduceAdd, List.length_append, List.length_drop, List.length_take] at c23s2)
                      obtain rfl := Option.some.inj H
                      have hcz24_0 : wr.cell? ⟨gb138, 0, none⟩ = some (.int .i64 a0_0) := (blk_cell BK138.out 0).trans rfl
                      have hcz24_1 : wr.cell? ⟨gb138, 1, none⟩ = some (.slice A0_1 l0_1.length c0_1) := (blk_cell BK138.out 1).trans rfl
                      have hfz24_0 := blk_frozen BK138.out 0
                      have hfz24_1 := blk_frozen BK138.out 1
                      have p141 : 0 ≤ ((ji19) : Int) := of_decide_eq_true (by first | (with_reducible assumption) | assumption)
                      have q141 : (ji19) < (l0_1.length : Int) := of_decide_eq_true (by first | (with_reducible assumption) | assumption)
                      obtain ⟨ad141, e141, hx141_0⟩ := Kd.at_string HR0_1.out (ji19) p141 q141
                      cases e141
                      replace hx141_0 := (HB.out.cell (World.block_lt_of_cell? w _ hx141_0)).trans hx141_0
                      replace p141 := eq_true p141
                      replace q141 := eq_true q141; (try (have qs141 := q141; simp only [ByteArray.size_append, ByteArray.size_extract, Nat.min_self, Xsize_mk, List.size_toArray, List.length_cons, List.length_nil, Nat.zero_add, Nat.reduceAdd, List.length_append, List.length_drop, List.length_take] at qs141))
                      go_wp2
                      go_ret
                      exact ⟨by first | rfl | (simp [errW_none, errW_some] <;> rfl) | (simp only [← hji19]; first | rfl | (simp [errW_none, errW_some] <;> rfl)) | (simp [*, errW_none, errW_some] <;> rfl), by repeat (first | (with_reducible first | exact HB.out | apply below_alloc | apply pw_below_drewN | apply below_drew1 | refine below_set ?_ GE138.out) | exact HB.out)⟩
                    · rw [if_neg c23] at H
                      exact absurd H (by simp)
                  · rw [if_neg c22] at H
                    exact absurd H (by simp)
                · rw [if_neg c21] at H
                  exact absurd H (by simp)
              · rw [if_neg c20] at H
                exact absurd H (by simp)
            · rw [if_neg c18] at H
              exact absurd H (by simp)
          · rw [if_neg c17] at H
            exact absurd H (by simp)

end Go.Proofs.YtdjpdbdilcjakaaDoor.X
