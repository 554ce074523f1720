-- Written by a program (print.py's text, with contracts of this session's own put in). Not trusted: Lean checks it.
import Derived.Test.YtohflbmmglmhhaaX0
namespace Go.Proofs.Ytohflbmmglmhhaa.X
open Go.RowKit Go.Proofs.YtohflbmmglmhhaaW.PrintWords Go.Proofs.YtohflbmmglmhhaaW.PrintLast Go.Proofs.YtohflbmmglmhhaaW.PrintMore
attribute [local go_sem] max2_int min2_int max_two min_two max_three min_three max_four min_four   -- for this text's walks alone
set_option linter.unusedVariables false
set_option linter.unusedSimpArgs false

/-! ### bulletinref08_Read: function 26 -/
mutual
def bulletinref08_Read.j0 : Nat → Int → Bool → Int → List ByteArray → List (S41) → Int → Bool → Bool → Int → Option (ByteArray × Int)
  | 0, _, _, _, _, _, _, _, _, _ => none
  | k + 1, x1, x16, x265000, x265001, x265002, x265003, x265004, x265005, x265006 => if x16 = true then (some ((⟨#[]⟩ : ByteArray), 1)) else (if x265004 = true then (some ((⟨#[]⟩ : ByteArray), 80)) else (if 0 ≤ x1 then (if x1 < (x265001.length : Int) then (bulletinref08_Read.l0 k x1 (rdOf ByteArray.empty x265001 x1) 0 x265000 x265001 x265002 x265003 x265004 x265005 x265006) else (none)) else (none)))
def bulletinref08_Read.l0 : Nat → Int → ByteArray → Int → Int → List ByteArray → List (S41) → Int → Bool → Bool → Int → Option (ByteArray × Int)
  | 0, _, _, _, _, _, _, _, _, _, _ => none
  | k + 1, x1, x6, x7, x265000, x265001, x265002, x265003, x265004, x265005, x265006 => if x7 < (x265002.length : Int) then (if 0 ≤ x7 then (if ((rd_T41 x265002 x7).f0) = x1 then (bulletinref08_Read.l0 k x1 ((rd_T41 x265002 x7).f1) (wrap64 (x7 + 1)) x265000 x265001 x265002 x265003 x265004 x265005 x265006) else (bulletinref08_Read.l0 k x1 x6 (wrap64 (x7 + 1)) x265000 x265001 x265002 x265003 x265004 x265005 x265006)) else (none)) else (some (x6, 0))
end
def bulletinref08_Read.f (k : Nat) (a0_0 : Int) (l0_1 : List ByteArray) (l0_2 : List (S41)) (a0_3 : Int) (a0_4 : Bool) (a0_5 : Bool) (a0_6 : Int) (a1 : Int) : Option (ByteArray × Int) := if a1 < 0 then (bulletinref08_Read.j0 k a1 true a0_0 l0_1 l0_2 a0_3 a0_4 a0_5 a0_6) else (bulletinref08_Read.j0 k a1 (decide (a1 ≥ (l0_1.length : Int))) a0_0 l0_1 l0_2 a0_3 a0_4 a0_5 a0_6)
theorem bulletinref08_Read.mono_l : ∀ k, (∀ y0 y1 y2 y3 y4 y5 y6 y7 y8, LeO (bulletinref08_Read.j0 k y0 y1 y2 y3 y4 y5 y6 y7 y8) (bulletinref08_Read.j0 (k + 1) y0 y1 y2 y3 y4 y5 y6 y7 y8)) ∧ (∀ y0 y1 y2 y3 y4 y5 y6 y7 y8 y9, LeO (bulletinref08_Read.l0 k y0 y1 y2 y3 y4 y5 y6 y7 y8 y9) (bulletinref08_Read.l0 (k + 1) y0 y1 y2 y3 y4 y5 y6 y7 y8 y9))
  | 0 => ⟨fun _ _ _ _ _ _ _ _ _ r h => by simp [bulletinref08_Read.j0] at h, fun _ _ _ _ _ _ _ _ _ _ r h => by simp [bulletinref08_Read.l0] at h⟩
  | k + 1 => by
    obtain ⟨ih0, ih1⟩ := bulletinref08_Read.mono_l k
    refine ⟨?_, ?_⟩
    · intro y0 y1 y2 y3 y4 y5 y6 y7 y8
      unfold bulletinref08_Read.j0
      repeat' first
      | (with_reducible exact ih0 _ _ _ _ _ _ _ _ _)
      | (with_reducible exact ih1 _ _ _ _ _ _ _ _ _ _)
      | (with_reducible exact LeO.refl _)
      | (with_reducible exact LeO.none _)
      | (with_reducible refine LeO.ite ?_ ?_)
      | (with_reducible refine LeO.bind ?_ (fun _ => ?_))
      | exact ih0 _ _ _ _ _ _ _ _ _
      | exact ih1 _ _ _ _ _ _ _ _ _ _
      | exact LeO.none _
      | refine LeO.ite ?_ ?_
      | refine LeO.bind ?_ (fun _ => ?_)
    · intro y0 y1 y2 y3 y4 y5 y6 y7 y8 y9
      unfold bulletinref08_Read.l0
      repeat' first
      | (with_reducible exact ih0 _ _ _ _ _ _ _ _ _)
      | (with_reducible exact ih1 _ _ _ _ _ _ _ _ _ _)
      | (with_reducible exact LeO.refl _)
      | (with_reducible exact LeO.none _)
      | (with_reducible refine LeO.ite ?_ ?_)
      | (with_reducible refine LeO.bind ?_ (fun _ => ?_))
      | exact ih0 _ _ _ _ _ _ _ _ _
      | exact ih1 _ _ _ _ _ _ _ _ _ _
      | exact LeO.none _
      | refine LeO.ite ?_ ?_
      | refine LeO.bind ?_ (fun _ => ?_)
theorem bulletinref08_Read.mono : ∀ a0 a1 a2 a3 a4 a5 a6 a7 k, LeO (bulletinref08_Read.f k a0 a1 a2 a3 a4 a5 a6 a7) (bulletinref08_Read.f (k + 1) a0 a1 a2 a3 a4 a5 a6 a7) := by
  intro a0 a1 a2 a3 a4 a5 a6 a7 k
  obtain ⟨ih0, ih1⟩ := bulletinref08_Read.mono_l k
  unfold bulletinref08_Read.f
  repeat' first
      | (with_reducible exact ih0 _ _ _ _ _ _ _ _ _)
      | (with_reducible exact ih1 _ _ _ _ _ _ _ _ _ _)
      | (with_reducible exact LeO.refl _)
      | (with_reducible exact LeO.none _)
      | (with_reducible refine LeO.ite ?_ ?_)
      | (with_reducible refine LeO.bind ?_ (fun _ => ?_))
      | exact ih0 _ _ _ _ _ _ _ _ _
      | exact ih1 _ _ _ _ _ _ _ _ _ _
      | exact LeO.none _
      | refine LeO.ite ?_ ?_
      | refine LeO.bind ?_ (fun _ => ?_)
set_option maxHeartbeats 8000000 in
set_option maxRecDepth 100000 in
theorem bulletinref08_Read.calls (k : Nat) (a0_0 : Int) (A0_1 : Option Addr) (c0_1 : Nat) (l0_1 : List ByteArray) (A0_2 : Option Addr) (c0_2 : Nat) (l0_2 : List (S41)) (a0_3 : Int) (a0_4 : Bool) (a0_5 : Bool) (a0_6 : Int) (a1 : Int) (r1 : ByteArray) (r2 : Int) (w : World) (hr0_1 : Kd.C Kd.string w A0_1 l0_1.length l0_1) (hc0_1 : l0_1.length ≤ c0_1) (hr0_2 : Kd.C k41 w A0_2 l0_2.length l0_2) (hc0_2 : l0_2.length ≤ c0_2) (h : bulletinref08_Read.f k a0_0 l0_1 l0_2 a0_3 a0_4 a0_5 a0_6 a1 = some (r1, r2)) :
    Calls Try.prog 26 #[.agg #[.int .i64 a0_0, .slice A0_1 l0_1.length c0_1, .slice A0_2 l0_2.length c0_2, .int .i64 a0_3, .bool a0_4, .bool a0_5, .int .i64 a0_6], .int .i64 a1] w fun e w' => e = .returned (.tuple #[.string r1, .int .i64 r2]) ∧ Below w.heap.size w w' := by
  have hu32 := Try.underlying32
  have HR0_1 := Aside0.mk hr0_1
  have HC0_1 := Aside0.mk hc0_1
  clear hr0_1 hc0_1
  have HR0_2 := Aside0.mk hr0_2
  have HC0_2 := Aside0.mk hc0_2
  clear hr0_2 hc0_2
  have HB := Aside0.mk (Below.refl w.heap.size w)
  have H : (if a1 < 0 then (bulletinref08_Read.j0 k a1 true a0_0 l0_1 l0_2 a0_3 a0_4 a0_5 a0_6) else (bulletinref08_Read.j0 k a1 (decide (a1 ≥ (l0_1.length : Int))) a0_0 l0_1 l0_2 a0_3 a0_4 a0_5 a0_6)) = some (r1, r2) := h
  clear h
  have HC3 := Aside0.mk H
  clear H
  go_enter Try.func26, Try.ntmps26
  go_upto_region 1 with (first | ((with_reducible refine gate_dst (N := 2) rfl ?_); (try (refine gate_guard (by rfl) ?_; dsimp only)); refine box_event ?hg (N := 2) ?hd (cs := #[.int .i64 a0_0, .slice A0_1 l0_1.length c0_1, .slice A0_2 l0_2.length c0_2, .int .i64 a0_3, .bool a0_4, .bool a0_5, .int .i64 a0_6]) (t := 32) ?hr ?_; (case hd => rfl); (case hg => rfl); (case hr => first | (go_simp; done) | (go_simp; rfl)); intro gb264 hg w4 hbox hb; have n0_ := Aside0.mk (below_step (by repeat (first | (with_reducible first | exact HB.out | apply below_alloc | apply pw_below_drewN | apply below_drew1) | exact HB.out)) hb); have n1_ := Aside0.mk (hbox); have n2_ := Aside0.mk ((by rw [hg]; exact (below_size (by repeat (first | (with_reducible first | exact HB.out | apply below_alloc | apply pw_below_drewN | apply below_drew1) | exact HB.out))) : w.heap.size ≤ gb264)); have n3_ := Aside0.mk ((by rw [hg]; exact (below_size (by repeat (first | (with_reducible first | exact HB.out | apply below_alloc | apply pw_below_drewN | apply below_drew1) | exact HB.out))) : w.heap.size ≤ gb264)); clear HB; have HB := n0_; have BK264 := n1_; have GW264 := n2_; have GE264 := n3_; clear n0_ n1_ n2_ n3_; clear hb hbox hg))
  (try simp only [Act.put, List.setIfInBounds_toArray, List.set_cons_zero, List.set_cons_succ])
  go_cut [16] (fun v16 wc => ∃ (kq : Nat) (x16_2 : Bool), v16 = .bool x16_2 ∧ Aside0 (bulletinref08_Read.j0 kq a1 x16_2 a0_0 l0_1 l0_2 a0_3 a0_4 a0_5 a0_6 = some (r1, r2)) ∧ Aside0 (kq ≤ k) ∧ Aside0 (wc.heap[gb264]? = some (.cells #[.int .i64 a0_0, (.slice A0_1 l0_1.length c0_1), (.slice A0_2 l0_2.length c0_2), .int .i64 a0_3, .bool a0_4, .bool a0_5, .int .i64 a0_6] 32 (0, 0))) ∧ Aside0 (Below w.heap.size w wc))
  case first =>
    have H := HC3.out
    clear HC3
    by_cases c5 : a1 < 0
    · rw [if_pos c5] at H
      have c5b0 : decide (a1 < 0) = true := decide_eq_true c5
      clear c5
      (first | rw [c5b0] | (simp only [i64_w, i32_w]; rw [c5b0]) | skip)
      have H' := Aside0.mk H
      clear H
      go_wp2
      go_meet
      case rel => exact ⟨_, (true), (by first | rfl | (simp; done) | (simp [*]; done) | (simp [IntKind.wrap_u8, IntKind.wrap_i64, wrap64]; done)), H', ⟨by first | omega | exact Nat.le_refl _⟩, ⟨by (with_reducible repeat (first | refine blk_drewN ?_ _ | refine blk_drew ?_ | refine blk_alloc ?_ _)); exact BK264.out⟩, ⟨by repeat (first | (with_reducible first | exact HB.out | apply below_alloc | apply pw_below_drewN | apply below_drew1 | refine below_set ?_ GE264.out) | exact HB.out)⟩⟩
    · rw [if_neg c5] at H
      have c5b0 : decide (a1 < 0) = false := decide_eq_false c5
      clear c5
      (first | rw [c5b0] | (simp only [i64_w, i32_w]; rw [c5b0]) | skip)
      have H' := Aside0.mk H
      clear H
      have hcz6_0 : w4.cell? ⟨gb264, 0, none⟩ = some (.int .i64 a0_0) := (blk_cell BK264.out 0).trans rfl
      have hcz6_1 : w4.cell? ⟨gb264, 1, none⟩ = some (.slice A0_1 l0_1.length c0_1) := (blk_cell BK264.out 1).trans rfl
      have hcz6_2 : w4.cell? ⟨gb264, 2, none⟩ = some (.slice A0_2 l0_2.length c0_2) := (blk_cell BK264.out 2).trans rfl
      have hcz6_3 : w4.cell? ⟨gb264, 3, none⟩ = some (.int .i64 a0_3) := (blk_cell BK264.out 3).trans rfl
      have hcz6_4 : w4.cell? ⟨gb264, 4, none⟩ = some (.bool a0_4) := (blk_cell BK264.out 4).trans rfl
      have hcz6_5 : w4.cell? ⟨gb264, 5, none⟩ = some (.bool a0_5) := (blk_cell BK264.out 5).trans rfl
      have hcz6_6 : w4.cell? ⟨gb264, 6, none⟩ = some (.int .i64 a0_6) := (blk_cell BK264.out 6).trans rfl
      have hfz6_0 := blk_frozen BK264.out 0
      have hfz6_1 := blk_frozen BK264.out 1
      have hfz6_2 := blk_frozen BK264.out 2
      have hfz6_3 := blk_frozen BK264.out 3
      have hfz6_4 := blk_frozen BK264.out 4
      have hfz6_5 := blk_frozen BK264.out 5
      have hfz6_6 := blk_frozen BK264.out 6
      go_wp2
      go_meet
      case rel => exact ⟨_, (decide (a1 ≥ (l0_1.length : Int))), (by first | rfl | (simp; done) | (simp [*]; done) | (simp [IntKind.wrap_u8, IntKind.wrap_i64, wrap64]; done)), H', ⟨by first | omega | exact Nat.le_refl _⟩, ⟨by (with_reducible repeat (first | refine blk_drewN ?_ _ | refine blk_drew ?_ | refine blk_alloc ?_ _)); exact BK264.out⟩, ⟨by repeat (first | (with_reducible first | exact HB.out | apply below_alloc | apply pw_below_drewN | apply below_drew1 | refine below_set ?_ GE264.out) | exact HB.out)⟩⟩
  case rest =>
    clear HC3
    try clear c2
    try clear p2
    try clear c5
    try clear c5b0
    try clear p6
    try clear hcz6_0
    try clear hcz6_1
    try clear hcz6_2
    try clear hcz6_3
    try clear hcz6_4
    try clear hcz6_5
    try clear hcz6_6
    try clear hfz6_0
    try clear hfz6_1
    try clear hfz6_2
    try clear hfz6_3
    try clear hfz6_4
    try clear hfz6_5
    try clear hfz6_6
    obtain ⟨kq, x16_2, rfl, HA, HJ2, BK264, HB⟩ := hcut
    cases kq with
    | zero => exact absurd HA.out (by simp [bulletinref08_Read.j0])
    | succ kj2 =>
      have H := HA.out
      clear HA
      simp only [bulletinref08_Read.j0] at H
      by_cases c7 : x16_2 = true
      · subst c7
        have H1 : (some ((⟨#[]⟩ : ByteArray), 1)) = some (r1, r2) := by rw [if_pos rfl] at H; exact H
        clear H
        have H := H1
        clear H1
        simp only [Option.some.injEq, Prod.mk.injEq] at H
        obtain ⟨rfl, rfl⟩ := H
        go_wp2
        go_ret2
        exact ⟨by first | rfl | (simp [errW_none, errW_some] <;> rfl) | (simp [*, errW_none, errW_some] <;> rfl), by repeat (first | (with_reducible first | exact HB.out | apply below_alloc | apply pw_below_drewN | apply below_drew1 | refine below_set ?_ GE264.out) | exact HB.out)⟩
      · replace c7 := Bool.eq_false_iff.mpr c7
        subst c7
        have H1 : (if a0_4 = true then (some ((⟨#[]⟩ : ByteArray), 80)) else (if 0 ≤ a1 then (if a1 < (l0_1.length : Int) then (bulletinref08_Read.l0 kj2 a1 (rdOf ByteArray.empty l0_1 a1) 0 a0_0 l0_1 l0_2 a0_3 a0_4 a0_5 a0_6) else (none)) else (none))) = some (r1, r2) := by rw [if_neg (show ¬ (false = true) by decide)] at H; exact H
        clear H
        have H := H1
        clear H1
        by_cases c8 : a0_4 = true
        · subst c8
          have H1 : (some ((⟨#[]⟩ : ByteArray), 80)) = some (r1, r2) := by rw [if_pos rfl] at H; exact H
          clear H
          have H := H1
          clear H1
          simp only [Option.some.injEq, Prod.mk.injEq] at H
          obtain ⟨rfl, rfl⟩ := H
          have hcz9_0 : wc.cell? ⟨gb264, 0, none⟩ = some (.int .i64 a0_0) := (blk_cell BK264.out 0).trans rfl
          have hcz9_1 : wc.cell? ⟨gb264, 1, none⟩ = some (.slice A0_1 l0_1.length c0_1) := (blk_cell BK264.out 1).trans rfl
          have hcz9_2 : wc.cell? ⟨gb264, 2, none⟩ = some (.slice A0_2 l0_2.length c0_2) := (blk_cell BK264.out 2).trans rfl
          have hcz9_3 : wc.cell? ⟨gb264, 3, none⟩ = some (.int .i64 a0_3) := (blk_cell BK264.out 3).trans rfl
          have hcz9_4 : wc.cell? ⟨gb264, 4, none⟩ = some (.bool true) := (blk_cell BK264.out 4).trans rfl
          have hcz9_5 : wc.cell? ⟨gb264, 5, none⟩ = some (.bool a0_5) := (blk_cell BK264.out 5).trans rfl
          have hcz9_6 : wc.cell? ⟨gb264, 6, none⟩ = some (.int .i64 a0_6) := (blk_cell BK264.out 6).trans rfl
          have hfz9_0 := blk_frozen BK264.out 0
          have hfz9_1 := blk_frozen BK264.out 1
          have hfz9_2 := blk_frozen BK264.out 2
          have hfz9_3 := blk_frozen BK264.out 3
          have hfz9_4 := blk_frozen BK264.out 4
          have hfz9_5 := blk_frozen BK264.out 5
          have hfz9_6 := blk_frozen BK264.out 6
          go_wp2
          go_ret2
          exact ⟨by first | rfl | (simp [errW_none, errW_some] <;> rfl) | (simp [*, errW_none, errW_some] <;> rfl), by repeat (first | (with_reducible first | exact HB.out | apply below_alloc | apply pw_below_drewN | apply below_drew1 | refine below_set ?_ GE264.out) | exact HB.out)⟩
        · replace c8 := Bool.eq_false_iff.mpr c8
          subst c8
          have H1 : (if 0 ≤ a1 then (if a1 < (l0_1.length : Int) then (bulletinref08_Read.l0 kj2 a1 (rdOf ByteArray.empty l0_1 a1) 0 a0_0 l0_1 l0_2 a0_3 false a0_5 a0_6) else (none)) else (none)) = some (r1, r2) := by rw [if_neg (show ¬ (false = true) by decide)] at H; exact H
          clear H
          have H := H1
          clear H1
          by_cases c10 : 0 ≤ a1
          · rw [if_pos c10] at H
            have c10b0 : decide (0 ≤ a1) = true := decide_eq_true c10
            clear c10
            by_cases c11 : a1 < (l0_1.length : Int)
            · rw [if_pos c11] at H
              have c11b0 : decide (a1 < (l0_1.length : Int)) = true := decide_eq_true c11
              clear c11
              have H' := Aside0.mk H
              clear H
              have hcz12_0 : wc.cell? ⟨gb264, 0, none⟩ = some (.int .i64 a0_0) := (blk_cell BK264.out 0).trans rfl
              have hcz12_1 : wc.cell? ⟨gb264, 1, none⟩ = some (.slice A0_1 l0_1.length c0_1) := (blk_cell BK264.out 1).trans rfl
              have hcz12_2 : wc.cell? ⟨gb264, 2, none⟩ = some (.slice A0_2 l0_2.length c0_2) := (blk_cell BK264.out 2).trans rfl
              have hcz12_3 : wc.cell? ⟨gb264, 3, none⟩ = some (.int .i64 a0_3) := (blk_cell BK264.out 3).trans rfl
              have hcz12_4 : wc.cell? ⟨gb264, 4, none⟩ = some (.bool false) := (blk_cell BK264.out 4).trans rfl
              have hcz12_5 : wc.cell? ⟨gb264, 5, none⟩ = some (.bool a0_5) := (blk_cell BK264.out 5).trans rfl
              have hcz12_6 : wc.cell? ⟨gb264, 6, none⟩ = some (.int .i64 a0_6) := (blk_cell BK264.out 6).trans rfl
              have hfz12_0 := blk_frozen BK264.out 0
              have hfz12_1 := blk_frozen BK264.out 1
              have hfz12_2 := blk_frozen BK264.out 2
              have hfz12_3 := blk_frozen BK264.out 3
              have hfz12_4 := blk_frozen BK264.out 4
              have hfz12_5 := blk_frozen BK264.out 5
              have hfz12_6 := blk_frozen BK264.out 6
              have p265 : 0 ≤ (a1 : Int) := of_decide_eq_true (by first | (with_reducible assumption) | assumption)
              have q265 : a1 < (l0_1.length : Int) := of_decide_eq_true (by first | (with_reducible assumption) | assumption)
              obtain ⟨ad265, e265, hx265_0⟩ := Kd.at_string HR0_1.out a1 p265 q265
              cases e265
              replace hx265_0 := (HB.out.cell (World.block_lt_of_cell? w _ hx265_0)).trans hx265_0
              replace p265 := eq_true p265
              replace q265 := eq_true q265; (try (have qs265 := q265; simp only [ByteArray.size_append, ByteArray.size_extract, Nat.min_self, Xsize_mk, List.size_toArray, List.length_cons, List.length_nil, Nat.zero_add, Nat.reduceAdd, List.length_append, List.length_drop, List.length_take] at qs265))
              go_wp2
              go_loopg [6, 7] kj2 (fun kq v6 v7 w' => ∃ (x6_2 : ByteArray) (x7_2 : Int), v6 = .string x6_2 ∧ v7 = .int .i64 x7_2 ∧ Aside0 (bulletinref08_Read.l0 kq a1 x6_2 x7_2 a0_0 l0_1 l0_2 a0_3 false a0_5 a0_6 = some (r1, r2)) ∧ Aside0 (kq ≤ kj2) ∧ Aside0 (w'.heap[gb264]? = some (.cells #[.int .i64 a0_0, (.slice (some ad265) l0_1.length c0_1), (.slice A0_2 l0_2.length c0_2), .int .i64 a0_3, .bool false, .bool a0_5, .int .i64 a0_6] 32 (0, 0))) ∧ Aside0 (Below w.heap.size w w'))
              case atStart => exact ⟨(rdOf ByteArray.empty l0_1 a1), (0), (by first | rfl | (simp; done) | (simp [*]; done) | (simp [IntKind.wrap_u8, IntKind.wrap_i64, wrap64]; done)), (by first | rfl | (simp; done) | (simp [*]; done) | (simp [IntKind.wrap_u8, IntKind.wrap_i64, wrap64]; done)), H', ⟨Nat.le_refl _⟩, ⟨by (with_reducible repeat (first | refine blk_drewN ?_ _ | refine blk_drew ?_ | refine blk_alloc ?_ _)); exact BK264.out⟩, ⟨by repeat (first | (with_reducible first | exact HB.out | apply below_alloc | apply pw_below_drewN | apply below_drew1 | refine below_set ?_ GE264.out) | exact HB.out)⟩⟩
              case round =>
                clear H'
                try clear c1
                try clear c2
                try clear p2
                try clear q2
                try clear hx2
                try clear c5
                try clear c5b0
                try clear p6
                try clear c7
                try clear c8
                try clear c10
                try clear c10b0
                try clear c11
                try clear c11b0
                try clear hcz12_0
                try clear hcz12_1
                try clear hcz12_2
                try clear hcz12_3
                try clear hcz12_4
                try clear hcz12_5
                try clear hcz12_6
                try clear hcz6_0
                try clear hcz6_1
                try clear hcz6_2
                try clear hcz6_3
                try clear hcz6_4
                try clear hcz6_5
                try clear hcz6_6
                try clear hcz9_0
                try clear hcz9_1
                try clear hcz9_2
                try clear hcz9_3
                try clear hcz9_4
                try clear hcz9_5
                try clear hcz9_6
                try clear hfz12_0
                try clear hfz12_1
                try clear hfz12_2
                try clear hfz12_3
                try clear hfz12_4
                try clear hfz12_5
                try clear hfz12_6
                try clear hfz6_0
                try clear hfz6_1
                try clear hfz6_2
                try clear hfz6_3
                try clear hfz6_4
                try clear hfz6_5
                try clear hfz6_6
                try clear hfz9_0
                try clear hfz9_1
                try clear hfz9_2
                try clear hfz9_3
                try clear hfz9_4
                try clear hfz9_5
                try clear hfz9_6
                try clear hx265_0
                try clear p2
                try clear p265
                try clear p6
                try clear q265
                obtain ⟨x6_2, x7_2, rfl, rfl, HA, HK2, BK264, HB⟩ := hrel
                cases gk with
                | zero => exact absurd HA.out (by simp [bulletinref08_Read.l0])
                | succ k2 =>
                  have H := HA.out
                  clear HA
                  simp only [bulletinref08_Read.l0] at H
                  by_cases c13 : x7_2 < (l0_2.length : Int)
                  · rw [if_pos c13] at H
                    have c13b0 : decide (x7_2 < (l0_2.length : Int)) = true := decide_eq_true c13
                    clear c13
                    by_cases c14 : 0 ≤ x7_2
                    · rw [if_pos c14] at H
                      have c14b0 : decide (0 ≤ x7_2) = true := decide_eq_true c14
                      clear c14
                      by_cases c15 : ((rd_T41 l0_2 x7_2).f0) = a1
                      · rw [if_pos c15] at H
                        have c15b0 : (((rd_T41 l0_2 x7_2).f0) == a1) = true := beq_iff_eq.mpr c15
                        have c15b1 : (((rd_T41 l0_2 x7_2).f0) != a1) = false := bne_eq_false_iff_eq.mpr c15
                        clear c15
                        have H' := Aside0.mk H
                        clear H
                        have hcz16_0 : wr.cell? ⟨gb264, 0, none⟩ = some (.int .i64 a0_0) := (blk_cell BK264.out 0).trans rfl
                        have hcz16_1 : wr.cell? ⟨gb264, 1, none⟩ = some (.slice (some ad265) l0_1.length c0_1) := (blk_cell BK264.out 1).trans rfl
                        have hcz16_2 : wr.cell? ⟨gb264, 2, none⟩ = some (.slice A0_2 l0_2.length c0_2) := (blk_cell BK264.out 2).trans rfl
                        have hcz16_3 : wr.cell? ⟨gb264, 3, none⟩ = some (.int .i64 a0_3) := (blk_cell BK264.out 3).trans rfl
                        have hcz16_4 : wr.cell? ⟨gb264, 4, none⟩ = some (.bool false) := (blk_cell BK264.out 4).trans rfl
                        have hcz16_5 : wr.cell? ⟨gb264, 5, none⟩ = some (.bool a0_5) := (blk_cell BK264.out 5).trans rfl
                        have hcz16_6 : wr.cell? ⟨gb264, 6, none⟩ = some (.int .i64 a0_6) := (blk_cell BK264.out 6).trans rfl
                        have hfz16_0 := blk_frozen BK264.out 0
                        have hfz16_1 := blk_frozen BK264.out 1
                        have hfz16_2 := blk_frozen BK264.out 2
                        have hfz16_3 := blk_frozen BK264.out 3
                        have hfz16_4 := blk_frozen BK264.out 4
                        have hfz16_5 := blk_frozen BK264.out 5
                        have hfz16_6 := blk_frozen BK264.out 6
                        have p266 : 0 ≤ (x7_2 : Int) := of_decide_eq_true (by first | (with_reducible assumption) | assumption)
                        have q266 : x7_2 < (l0_2.length : Int) := of_decide_eq_true (by first | (with_reducible assumption) | assumption)
                        obtain ⟨ad266, e266, hx266_0, hx266_1⟩ := at_T41 HR0_2.out x7_2 p266 q266
                        cases e266
                        replace hx266_0 := (HB.out.cell (World.block_lt_of_cell? w _ hx266_0)).trans hx266_0
                        replace hx266_1 := (HB.out.cell (World.block_lt_of_cell? w _ hx266_1)).trans hx266_1
                        replace p266 := eq_true p266
                        replace q266 := eq_true q266; (try (have qs266 := q266; simp only [ByteArray.size_append, ByteArray.size_extract, Nat.min_self, Xsize_mk, List.size_toArray, List.length_cons, List.length_nil, Nat.zero_add, Nat.reduceAdd, List.length_append, List.length_drop, List.length_take] at qs266))
                        have p267 : 0 ≤ (x7_2 : Int) := of_decide_eq_true (by first | (with_reducible assumption) | assumption)
                        have q267 : x7_2 < (l0_2.length : Int) := of_decide_eq_true (by first | (with_reducible assumption) | assumption)
                        obtain ⟨ad267, e267, hx267_0, hx267_1⟩ := at_T41 HR0_2.out x7_2 p267 q267
                        obtain rfl : ad266 = ad267 := (by injection e267)
                        replace hx267_0 := (HB.out.cell (World.block_lt_of_cell? w _ hx267_0)).trans hx267_0
                        replace hx267_1 := (HB.out.cell (World.block_lt_of_cell? w _ hx267_1)).trans hx267_1
                        replace p267 := eq_true p267
                        replace q267 := eq_true q267; (try (have qs267 := q267; simp only [ByteArray.size_append, ByteArray.size_extract, Nat.min_self, Xsize_mk, List.size_toArray, List.length_cons, List.length_nil, Nat.zero_add, Nat.reduceAdd, List.length_append, List.length_drop, List.length_take] at qs267))
                        go_wp2
                        go_roundg k2
                        case measure => have := HJ2.out; have := HK2.out; omega
                        case rel => exact ⟨((rd_T41 l0_2 x7_2).f1), (wrap64 (x7_2 + 1)), (by first | rfl | (simp; done) | (simp [*]; done) | (simp [IntKind.wrap_u8, IntKind.wrap_i64, wrap64]; done)), (by first | rfl | (simp; done) | (simp [*]; done) | (simp [IntKind.wrap_u8, IntKind.wrap_i64, wrap64]; done)), H', ⟨by have := HJ2.out; have := HK2.out; omega⟩, ⟨by (with_reducible repeat (first | refine blk_drewN ?_ _ | refine blk_drew ?_ | refine blk_alloc ?_ _)); exact BK264.out⟩, ⟨by repeat (first | (with_reducible first | exact HB.out | apply below_alloc | apply pw_below_drewN | apply below_drew1 | refine below_set ?_ GE264.out) | exact HB.out)⟩⟩
                      · rw [if_neg c15] at H
                        have c15b0 : (((rd_T41 l0_2 x7_2).f0) == a1) = false := beq_eq_false_iff_ne.mpr c15
                        have c15b1 : (((rd_T41 l0_2 x7_2).f0) != a1) = true := bne_iff_ne.mpr c15
                        have H' := Aside0.mk H
                        clear H
                        have hcz17_0 : wr.cell? ⟨gb264, 0, none⟩ = some (.int .i64 a0_0) := (blk_cell BK264.out 0).trans rfl
                        have hcz17_1 : wr.cell? ⟨gb264, 1, none⟩ = some (.slice (some ad265) l0_1.length c0_1) := (blk_cell BK264.out 1).trans rfl
                        have hcz17_2 : wr.cell? ⟨gb264, 2, none⟩ = some (.slice A0_2 l0_2.length c0_2) := (blk_cell BK264.out 2).trans rfl
                        have hcz17_3 : wr.cell? ⟨gb264, 3, none⟩ = some (.int .i64 a0_3) := (blk_cell BK264.out 3).trans rfl
                        have hcz17_4 : wr.cell? ⟨gb264, 4, none⟩ = some (.bool false) := (blk_cell BK264.out 4).trans rfl
                        have hcz17_5 : wr.cell? ⟨gb264, 5, none⟩ = some (.bool a0_5) := (blk_cell BK264.out 5).trans rfl
                        have hcz17_6 : wr.cell? ⟨gb264, 6, none⟩ = some (.int .i64 a0_6) := (blk_cell BK264.out 6).trans rfl
                        have hfz17_0 := blk_frozen BK264.out 0
                        have hfz17_1 := blk_frozen BK264.out 1
                        have hfz17_2 := blk_frozen BK264.out 2
                        have hfz17_3 := blk_frozen BK264.out 3
                        have hfz17_4 := blk_frozen BK264.out 4
                        have hfz17_5 := blk_frozen BK264.out 5
                        have hfz17_6 := blk_frozen BK264.out 6
                        have p266 : 0 ≤ (x7_2 : Int) := of_decide_eq_true (by first | (with_reducible assumption) | assumption)
                        have q266 : x7_2 < (l0_2.length : Int) := of_decide_eq_true (by first | (with_reducible assumption) | assumption)
                        obtain ⟨ad266, e266, hx266_0, hx266_1⟩ := at_T41 HR0_2.out x7_2 p266 q266
                        cases e266
                        replace hx266_0 := (HB.out.cell (World.block_lt_of_cell? w _ hx266_0)).trans hx266_0
                        replace hx266_1 := (HB.out.cell (World.block_lt_of_cell? w _ hx266_1)).trans hx266_1
                        replace p266 := eq_true p266
                        replace q266 := eq_true q266; (try (have qs266 := q266; simp only [ByteArray.size_append, ByteArray.size_extract, Nat.min_self, Xsize_mk, List.size_toArray, List.length_cons, List.length_nil, Nat.zero_add, Nat.reduceAdd, List.length_append, List.length_drop, List.length_take] at qs266))
                        go_wp2
                        go_roundg k2
                        case measure => have := HJ2.out; have := HK2.out; omega
                        case rel => exact ⟨(x6_2), (wrap64 (x7_2 + 1)), (by first | rfl | (simp; done) | (simp [*]; done) | (simp [IntKind.wrap_u8, IntKind.wrap_i64, wrap64]; done)), (by first | rfl | (simp; done) | (simp [*]; done) | (simp [IntKind.wrap_u8, IntKind.wrap_i64, wrap64]; done)), H', ⟨by have := HJ2.out; have := HK2.out; omega⟩, ⟨by (with_reducible repeat (first | refine blk_drewN ?_ _ | refine blk_drew ?_ | refine blk_alloc ?_ _)); exact BK264.out⟩, ⟨by repeat (first | (with_reducible first | exact HB.out | apply below_alloc | apply pw_below_drewN | apply below_drew1 | refine below_set ?_ GE264.out) | exact HB.out)⟩⟩
                    · rw [if_neg c14] at H
                      exact absurd H (by simp)
                  · rw [if_neg c13] at H
                    have c13b0 : decide (x7_2 < (l0_2.length : Int)) = false := decide_eq_false c13
                    clear c13
                    simp only [Option.some.injEq, Prod.mk.injEq] at H
                    obtain ⟨rfl, rfl⟩ := H
                    have hcz18_0 : wr.cell? ⟨gb264, 0, none⟩ = some (.int .i64 a0_0) := (blk_cell BK264.out 0).trans rfl
                    have hcz18_1 : wr.cell? ⟨gb264, 1, none⟩ = some (.slice (some ad265) l0_1.length c0_1) := (blk_cell BK264.out 1).trans rfl
                    have hcz18_2 : wr.cell? ⟨gb264, 2, none⟩ = some (.slice A0_2 l0_2.length c0_2) := (blk_cell BK264.out 2).trans rfl
                    have hcz18_3 : wr.cell? ⟨gb264, 3, none⟩ = some (.int .i64 a0_3) := (blk_cell BK264.out 3).trans rfl
                    have hcz18_4 : wr.cell? ⟨gb264, 4, none⟩ = some (.bool false) := (blk_cell BK264.out 4).trans rfl
                    have hcz18_5 : wr.cell? ⟨gb264, 5, none⟩ = some (.bool a0_5) := (blk_cell BK264.out 5).trans rfl
                    have hcz18_6 : wr.cell? ⟨gb264, 6, none⟩ = some (.int .i64 a0_6) := (blk_cell BK264.out 6).trans rfl
                    have hfz18_0 := blk_frozen BK264.out 0
                    have hfz18_1 := blk_frozen BK264.out 1
                    have hfz18_2 := blk_frozen BK264.out 2
                    have hfz18_3 := blk_frozen BK264.out 3
                    have hfz18_4 := blk_frozen BK264.out 4
                    have hfz18_5 := blk_frozen BK264.out 5
                    have hfz18_6 := blk_frozen BK264.out 6
                    go_wp2
                    go_ret2
                    exact ⟨by first | rfl | (simp [errW_none, errW_some] <;> rfl) | (simp [*, errW_none, errW_some] <;> rfl), by repeat (first | (with_reducible first | exact HB.out | apply below_alloc | apply pw_below_drewN | apply below_drew1 | refine below_set ?_ GE264.out) | exact HB.out)⟩
            · rw [if_neg c11] at H
              exact absurd H (by simp)
          · rw [if_neg c10] at H
            exact absurd H (by simp)

end Go.Proofs.Ytohflbmmglmhhaa.X
