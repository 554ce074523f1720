-- Written by a program (print.py's text, with contracts of this session's own put in). Not trusted: Lean checks it.
import Derived.Test.YtaamnpomclenpaaDoorX0
import Derived.Test.YtaamnpomclenpaaDoorX1
import Derived.Test.YtaamnpomclenpaaDoorX4
import Derived.Test.YtaamnpomclenpaaDoorX5
namespace Go.Proofs.YtaamnpomclenpaaDoor.X
open Go.RowKit Go.Proofs.YtaamnpomclenpaaDoorW.PrintWords Go.Proofs.YtaamnpomclenpaaDoorW.PrintLast Go.Proofs.YtaamnpomclenpaaDoorW.PrintMore
attribute [local go_sem] max2_int min2_int max_two min_two max_three min_three max_four min_four   -- for this text's walks alone
set_option linter.unusedVariables false
set_option linter.unusedSimpArgs false

attribute [local go_sem high] eqA25
/-! ### verb_Command_Text: function 8, a contract written by hand -/
-- IMPORT Derived.Deep.QuietTactic
-- IMPORT Derived.BigQuiet
def verb_Command_Text.f (a0_0 : Int) (a0_1 : ByteArray) : Option ByteArray := if a0_0 < 1 then some ⟨#[]⟩ else if a0_0 > 9 then some ⟨#[]⟩ else if a0_1.toList = [] then some (wordOf a0_0.toNat) else (verb_front.f a0_0).bind fun t => if t.size + a0_1.size ≤ 1000000 then some (wordOf a0_0.toNat ++ (⟨#[32]⟩ : ByteArray) ++ t ++ a0_1) else none
theorem verb_wordOf_size (i : Nat) : (wordOf i).size ≤ 4 := by
  unfold wordOf
  split <;> decide
set_option maxHeartbeats 8000000 in
set_option maxRecDepth 100000 in
theorem verb_Command_Text.calls (a0_0 : Int) (a0_1 : ByteArray) (r : ByteArray) (w : World) (hT0 : Aside0 (Tabs w)) (h : verb_Command_Text.f a0_0 a0_1 = some r) :
    Calls Tryd.prog 8 #[.agg #[.int .i64 a0_0, .string a0_1]] w fun e w' => e = .returned (.string r) ∧ Below w.heap.size w w' := by
  unfold verb_Command_Text.f at h
  by_cases c1 : a0_0 < 1
  · rw [if_pos c1] at h
    obtain rfl := Option.some.inj h
    have d1 : decide (a0_0 < 1) = true := decide_eq_true c1
    clear h
    go_enter Tryd.func8, Tryd.ntmps8
    go_wp2
    go_ret
    exact ⟨rfl, (Below.refl _ w).alloc (Nat.le_refl _) _⟩
  · rw [if_neg c1] at h
    have d1 : decide (a0_0 < 1) = false := decide_eq_false c1
    by_cases c2 : a0_0 > 9
    · rw [if_pos c2] at h
      obtain rfl := Option.some.inj h
      have d2 : decide (9 < a0_0) = true := decide_eq_true c2
      clear h
      go_enter Tryd.func8, Tryd.ntmps8
      go_wp2
      go_ret
      exact ⟨rfl, (Below.refl _ w).alloc (Nat.le_refl _) _⟩
    · rw [if_neg c2] at h
      clear d1
      have hcase : a0_0 = 1 ∨ a0_0 = 2 ∨ a0_0 = 3 ∨ a0_0 = 4 ∨ a0_0 = 5 ∨ a0_0 = 6 ∨ a0_0 = 7 ∨ a0_0 = 8 ∨ a0_0 = 9 := by omega
      have al : ∀ i, i < 10 → ∀ o, (w.alloc o).cell? ⟨0, i, none⟩ = some (.string (wordOf i)) := fun i hi o => (((Below.refl w.heap.size w).alloc (Nat.le_refl _) o).cell (World.block_lt_of_cell? w _ (hT0.out.words i hi))).trans (hT0.out.words i hi)
      have q0 := al 1 (by decide)
      have q1 := al 2 (by decide)
      have q2 := al 3 (by decide)
      have q3 := al 4 (by decide)
      have q4 := al 5 (by decide)
      have q5 := al 6 (by decide)
      have q6 := al 7 (by decide)
      have q7 := al 8 (by decide)
      have q8 := al 9 (by decide)
      clear al
      clear c1 c2
      have s1 := verb_wordOf_size 1
      have s2 := verb_wordOf_size 2
      have s3 := verb_wordOf_size 3
      have s4 := verb_wordOf_size 4
      have s5 := verb_wordOf_size 5
      have s6 := verb_wordOf_size 6
      have s7 := verb_wordOf_size 7
      have s8 := verb_wordOf_size 8
      have s9 := verb_wordOf_size 9
      have z32 : (⟨#[32]⟩ : ByteArray).size = 1 := rfl
      by_cases c3 : a0_1.toList = []
      · rw [if_pos c3] at h
        obtain rfl := Option.some.inj h
        have e3 : (a0_1.toList == ([] : List UInt8)) = true := beq_iff_eq.mpr c3
        clear h c3
        rcases hcase with rfl | rfl | rfl | rfl | rfl | rfl | rfl | rfl | rfl
        all_goals
          go_enter Tryd.func8, Tryd.ntmps8
          go_wp2
          go_ret
          exact ⟨rfl, (Below.refl _ w).alloc (Nat.le_refl _) _⟩
      · rw [if_neg c3] at h
        obtain ⟨t, ht, h⟩ := Option.bind_eq_some_iff.mp h
        have e3 : (a0_1.toList == ([] : List UInt8)) = false := beq_eq_false_iff_ne.mpr c3
        have HT := Aside0.mk ht
        clear ht c3
        by_cases c4 : t.size + a0_1.size ≤ 1000000
        · rw [if_pos c4] at h
          have HR := Aside0.mk (Option.some.inj h)
          clear h
          rcases hcase with rfl | rfl | rfl | rfl | rfl | rfl | rfl | rfl | rfl
          all_goals
            go_enter Tryd.func8, Tryd.ntmps8
            go_wp2
            go_quiet ((go_at_call 14; exact Calls.quiet_of ((verb_front.calls _ t _ HT.out).mono fun _ _ h => ⟨h.1, h.2.out⟩)))
            go_wp2
            go_ret
            exact ⟨by rw [← HR.out]; rfl, pw_below_drewN ((Below.refl _ w).alloc (Nat.le_refl _) _) _⟩
        · rw [if_neg c4] at h
          exact absurd h (by simp)

/-! ### bulletinlaw27_works: function 5 -/
def bulletinlaw27_works.f (k : Nat)  : Option (Bool) := (verb_Read.f k (⟨#[109, 97, 105, 108, 32, 102, 114, 111, 109, 58, 32, 60, 97, 64, 98, 62]⟩ : ByteArray)).bind fun bt114 => (if bt114.2.2 = 0 then (if (bt114.1 == 3 && (bt114.2.1.toList == ([60, 97, 64, 98, 62] : List UInt8))) = true then ((verb_Command_Text.f bt114.1 bt114.2.1).bind fun t118 => (some (t118.toList == ([77, 65, 73, 76, 32, 70, 82, 79, 77, 58, 60, 97, 64, 98, 62] : List UInt8)))) else (some false)) else (some false))
theorem bulletinlaw27_works.mono : ∀ k, LeO (bulletinlaw27_works.f k ) (bulletinlaw27_works.f (k + 1) ) := by
  intro  k
  unfold bulletinlaw27_works.f
  repeat' first
      | (with_reducible exact verb_Read.mono _ _)
      | (with_reducible exact LeO.refl _)
      | (with_reducible exact LeO.none _)
      | (with_reducible refine LeO.ite ?_ ?_)
      | (with_reducible refine LeO.bind ?_ (fun _ => ?_))
      | exact verb_Read.mono _ _
      | exact LeO.none _
      | refine LeO.ite ?_ ?_
      | refine LeO.bind ?_ (fun _ => ?_)
set_option maxHeartbeats 8000000 in
set_option maxRecDepth 100000 in
theorem bulletinlaw27_works.calls (k : Nat)  (r : Bool) (w : World) (hT0 : Aside0 (Tabs w)) (h : bulletinlaw27_works.f k  = some r) :
    Calls Tryd.prog 5 #[] w fun e w' => e = .returned (.bool r) ∧ Below w.heap.size w w' := by
  have hu25 := Tryd.underlying25
  have HB := Aside0.mk (Below.refl w.heap.size w)
  have H : ((verb_Read.f k (⟨#[109, 97, 105, 108, 32, 102, 114, 111, 109, 58, 32, 60, 97, 64, 98, 62]⟩ : ByteArray)).bind fun bt114 => (if bt114.2.2 = 0 then (if (bt114.1 == 3 && (bt114.2.1.toList == ([60, 97, 64, 98, 62] : List UInt8))) = true then ((verb_Command_Text.f bt114.1 bt114.2.1).bind fun t118 => (some (t118.toList == ([77, 65, 73, 76, 32, 70, 82, 79, 77, 58, 60, 97, 64, 98, 62] : List UInt8)))) else (some false)) else (some false))) = some r := h
  clear h
  replace H := Option.bind_eq_some_iff.mp H
  obtain ⟨⟨t114, t115, t116⟩, A10, H⟩ := H
  replace H : (if t116 = 0 then (if (t114 == 3 && (t115.toList == ([60, 97, 64, 98, 62] : List UInt8))) = true then ((verb_Command_Text.f t114 t115).bind fun t118 => (some (t118.toList == ([77, 65, 73, 76, 32, 70, 82, 79, 77, 58, 60, 97, 64, 98, 62] : List UInt8)))) else (some false)) else (some false)) = some r := H
  have A1 := Aside0.mk A10
  clear A10
  by_cases c2 : t116 = 0
  · rw [if_pos c2] at H
    have c2b0 : (t116 == 0) = true := beq_iff_eq.mpr c2
    have c2b1 : (t116 != 0) = false := bne_eq_false_iff_eq.mpr c2
    clear c2
    by_cases c3 : (t114 == 3 && (t115.toList == ([60, 97, 64, 98, 62] : List UInt8))) = true
    · rw [if_pos c3] at H
      have c3b0 : (t114 == 3 && (t115.toList == ([60, 97, 64, 98, 62] : List UInt8))) = true := c3
      (try (have c3b1 : decide (t114 = 3 && (t115.toList == ([60, 97, 64, 98, 62] : List UInt8))) = true := by simpa using c3))
      (try (have c3b2 : (t114 == 3 && (t115.toList == ([60, 97, 64, 98, 62] : List UInt8))) = true := by simpa using c3))
      clear c3
      replace H := Option.bind_eq_some_iff.mp H
      obtain ⟨t118, A40, H⟩ := H
      replace H : (some (t118.toList == ([77, 65, 73, 76, 32, 70, 82, 79, 77, 58, 60, 97, 64, 98, 62] : List UInt8))) = some r := H
      have A4 := Aside0.mk A40
      clear A40
      obtain rfl := Option.some.inj H
      go_enter Tryd.func5, Tryd.ntmps5
      go_wp2_with (first | ((with_reducible refine gate_callee (f := 6) rfl ?_); refine goesL_ (some 4) rfl rfl Tryd.func6 (by kernel_rfl) rfl #[.string (⟨#[109, 97, 105, 108, 32, 102, 114, 111, 109, 58, 32, 60, 97, 64, 98, 62]⟩ : ByteArray)] rfl (by (try simp only [List.map_toArray, List.map_cons, List.map_nil]); first | done | rfl | (simp only [List.length_drop, List.length_take]; rfl)) ?_; (with_reducible refine (verb_Read.calls (hT0 := by first | exact hT0 | exact Tabs.a hT0 (by repeat (first | (with_reducible first | exact HB.out | apply below_alloc | apply pw_below_drewN | apply below_drew1 | refine below_set ?_ GE117.out) | exact HB.out))) k (⟨#[109, 97, 105, 108, 32, 102, 114, 111, 109, 58, 32, 60, 97, 64, 98, 62]⟩ : ByteArray) t114 t115 t116 _ A1.out).mono ?_); rintro e w5 ⟨rfl, hb⟩; refine ⟨_, rfl, ?_⟩; have n0_ := Aside0.mk (below_step (by repeat (first | (with_reducible first | exact HB.out | apply below_alloc | apply pw_below_drewN | apply below_drew1) | exact HB.out)) hb); clear HB; have HB := n0_; clear n0_; (try clear hb); (try clear hb2); (try clear hk); (try clear hi)) | ((with_reducible refine gate_dst (N := 1) rfl ?_); refine box_event ?hg (N := 1) ?hd (cs := #[.int .i64 0, .string (⟨#[]⟩ : ByteArray)]) (t := 25) ?hr ?_; (case hd => rfl); (case hg => rfl); (case hr => first | (go_simp; done) | (go_simp; rfl)); intro gb117 hg w6 hbox hb; have n0_ := Aside0.mk (below_step (by repeat (first | (with_reducible first | exact HB.out | apply below_alloc | apply pw_below_drewN | apply below_drew1) | exact HB.out)) hb); have n1_ := Aside0.mk (hbox); have n2_ := Aside0.mk ((by rw [hg]; exact (below_size (by repeat (first | (with_reducible first | exact HB.out | apply below_alloc | apply pw_below_drewN | apply below_drew1) | exact HB.out))) : w.heap.size ≤ gb117)); have n3_ := Aside0.mk ((by rw [hg]; exact (below_size (by repeat (first | (with_reducible first | exact HB.out | apply below_alloc | apply pw_below_drewN | apply below_drew1) | exact HB.out))) : w.heap.size ≤ gb117)); clear HB; have HB := n0_; have BK117 := n1_; have GW117 := n2_; have GE117 := n3_; clear n0_ n1_ n2_ n3_; clear hb hbox hg; have hcz7_0 : w6.cell? ⟨gb117, 0, none⟩ = some (.int .i64 0) := (blk_cell BK117.out 0).trans rfl; have hcz7_1 : w6.cell? ⟨gb117, 1, none⟩ = some (.string (⟨#[]⟩ : ByteArray)) := (blk_cell BK117.out 1).trans rfl; have hfz7_0 := blk_frozen BK117.out 0; have hfz7_1 := blk_frozen BK117.out 1) | (go_at_call 8; (with_reducible refine (verb_Command_Text.calls (hT0 := by first | exact hT0 | exact Tabs.a hT0 (by repeat (first | (with_reducible first | exact HB.out | apply below_alloc | apply pw_below_drewN | apply below_drew1 | refine below_set ?_ GE117.out) | exact HB.out))) t114 t115 t118 _ A4.out).mono ?_); rintro e w8 ⟨rfl, hb⟩; have n0_ := Aside0.mk (blk_below (g := gb117) (o := .cells #[.int .i64 t114, .string t115] 25 (0, 0)) (by (with_reducible repeat (first | refine blk_drewN ?_ _ | refine blk_drew ?_ | refine blk_alloc ?_ _)); refine blk_put (cs := #[.int .i64 t114, .string (⟨#[]⟩ : ByteArray)]) ?_ 1 _ rfl; (with_reducible repeat (first | refine blk_drewN ?_ _ | refine blk_drew ?_ | refine blk_alloc ?_ _)); refine blk_put (cs := #[.int .i64 0, .string (⟨#[]⟩ : ByteArray)]) ?_ 0 _ rfl; (with_reducible repeat (first | refine blk_drewN ?_ _ | refine blk_drew ?_ | refine blk_alloc ?_ _)); exact BK117.out) hb); have n1_ := Aside0.mk (below_step (by repeat (first | (with_reducible first | exact HB.out | apply below_alloc | apply pw_below_drewN | apply below_drew1 | refine below_set ?_ GE117.out) | exact HB.out)) hb); clear BK117; clear HB; have BK117 := n0_; have HB := n1_; clear n0_ n1_; (try clear hb); (try clear hb2); (try clear hk); (try clear hi)))
      go_ret
      exact ⟨by first | rfl | (simp [errW_none, errW_some] <;> rfl) | (simp [*, errW_none, errW_some] <;> rfl), by repeat (first | (with_reducible first | exact HB.out | apply below_alloc | apply pw_below_drewN | apply below_drew1 | refine below_set ?_ GE117.out) | exact HB.out)⟩
    · rw [if_neg c3] at H
      have c3b0 : (t114 == 3 && (t115.toList == ([60, 97, 64, 98, 62] : List UInt8))) = false := by simpa using c3
      (try (have c3b1 : decide (t114 = 3 && (t115.toList == ([60, 97, 64, 98, 62] : List UInt8))) = false := by simpa using c3))
      (try (have c3b2 : (t114 == 3 && (t115.toList == ([60, 97, 64, 98, 62] : List UInt8))) = false := by simpa using c3))
      (try (have c3b3 : ¬ (t114 = 3 && (t115.toList == ([60, 97, 64, 98, 62] : List UInt8))) := by simpa using c3))
      clear c3
      obtain rfl := Option.some.inj H
      go_enter Tryd.func5, Tryd.ntmps5
      go_wp2_with (first | ((with_reducible refine gate_callee (f := 6) rfl ?_); refine goesL_ (some 4) rfl rfl Tryd.func6 (by kernel_rfl) rfl #[.string (⟨#[109, 97, 105, 108, 32, 102, 114, 111, 109, 58, 32, 60, 97, 64, 98, 62]⟩ : ByteArray)] rfl (by (try simp only [List.map_toArray, List.map_cons, List.map_nil]); first | done | rfl | (simp only [List.length_drop, List.length_take]; rfl)) ?_; (with_reducible refine (verb_Read.calls (hT0 := by first | exact hT0 | exact Tabs.a hT0 (by repeat (first | (with_reducible first | exact HB.out | apply below_alloc | apply pw_below_drewN | apply below_drew1 | refine below_set ?_ GE117.out) | exact HB.out))) k (⟨#[109, 97, 105, 108, 32, 102, 114, 111, 109, 58, 32, 60, 97, 64, 98, 62]⟩ : ByteArray) t114 t115 t116 _ A1.out).mono ?_); rintro e w9 ⟨rfl, hb⟩; refine ⟨_, rfl, ?_⟩; have n0_ := Aside0.mk (below_step (by repeat (first | (with_reducible first | exact HB.out | apply below_alloc | apply pw_below_drewN | apply below_drew1) | exact HB.out)) hb); clear HB; have HB := n0_; clear n0_; (try clear hb); (try clear hb2); (try clear hk); (try clear hi)) | ((with_reducible refine gate_dst (N := 1) rfl ?_); refine box_event ?hg (N := 1) ?hd (cs := #[.int .i64 0, .string (⟨#[]⟩ : ByteArray)]) (t := 25) ?hr ?_; (case hd => rfl); (case hg => rfl); (case hr => first | (go_simp; done) | (go_simp; rfl)); intro gb117 hg w10 hbox hb; have n0_ := Aside0.mk (below_step (by repeat (first | (with_reducible first | exact HB.out | apply below_alloc | apply pw_below_drewN | apply below_drew1) | exact HB.out)) hb); have n1_ := Aside0.mk (hbox); have n2_ := Aside0.mk ((by rw [hg]; exact (below_size (by repeat (first | (with_reducible first | exact HB.out | apply below_alloc | apply pw_below_drewN | apply below_drew1) | exact HB.out))) : w.heap.size ≤ gb117)); have n3_ := Aside0.mk ((by rw [hg]; exact (below_size (by repeat (first | (with_reducible first | exact HB.out | apply below_alloc | apply pw_below_drewN | apply below_drew1) | exact HB.out))) : w.heap.size ≤ gb117)); clear HB; have HB := n0_; have BK117 := n1_; have GW117 := n2_; have GE117 := n3_; clear n0_ n1_ n2_ n3_; clear hb hbox hg; have hcz11_0 : w10.cell? ⟨gb117, 0, none⟩ = some (.int .i64 0) := (blk_cell BK117.out 0).trans rfl; have hcz11_1 : w10.cell? ⟨gb117, 1, none⟩ = some (.string (⟨#[]⟩ : ByteArray)) := (blk_cell BK117.out 1).trans rfl; have hfz11_0 := blk_frozen BK117.out 0; have hfz11_1 := blk_frozen BK117.out 1))
      go_ret
      exact ⟨by first | rfl | (simp [errW_none, errW_some] <;> rfl) | (simp [*, errW_none, errW_some] <;> rfl), by repeat (first | (with_reducible first | exact HB.out | apply below_alloc | apply pw_below_drewN | apply below_drew1 | refine below_set ?_ GE117.out) | exact HB.out)⟩
  · rw [if_neg c2] at H
    have c2b0 : (t116 == 0) = false := beq_eq_false_iff_ne.mpr c2
    have c2b1 : (t116 != 0) = true := bne_iff_ne.mpr c2
    obtain rfl := Option.some.inj H
    go_enter Tryd.func5, Tryd.ntmps5
    go_wp2_with (first | ((with_reducible refine gate_callee (f := 6) rfl ?_); refine goesL_ (some 4) rfl rfl Tryd.func6 (by kernel_rfl) rfl #[.string (⟨#[109, 97, 105, 108, 32, 102, 114, 111, 109, 58, 32, 60, 97, 64, 98, 62]⟩ : ByteArray)] rfl (by (try simp only [List.map_toArray, List.map_cons, List.map_nil]); first | done | rfl | (simp only [List.length_drop, List.length_take]; rfl)) ?_; (with_reducible refine (verb_Read.calls (hT0 := by first | exact hT0 | exact Tabs.a hT0 (by repeat (first | (with_reducible first | exact HB.out | apply below_alloc | apply pw_below_drewN | apply below_drew1 | refine below_set ?_ GE117.out) | exact HB.out))) k (⟨#[109, 97, 105, 108, 32, 102, 114, 111, 109, 58, 32, 60, 97, 64, 98, 62]⟩ : ByteArray) t114 t115 t116 _ A1.out).mono ?_); rintro e w12 ⟨rfl, hb⟩; refine ⟨_, rfl, ?_⟩; have n0_ := Aside0.mk (below_step (by repeat (first | (with_reducible first | exact HB.out | apply below_alloc | apply pw_below_drewN | apply below_drew1) | exact HB.out)) hb); clear HB; have HB := n0_; clear n0_; (try clear hb); (try clear hb2); (try clear hk); (try clear hi)) | ((with_reducible refine gate_dst (N := 1) rfl ?_); refine box_event ?hg (N := 1) ?hd (cs := #[.int .i64 0, .string (⟨#[]⟩ : ByteArray)]) (t := 25) ?hr ?_; (case hd => rfl); (case hg => rfl); (case hr => first | (go_simp; done) | (go_simp; rfl)); intro gb117 hg w13 hbox hb; have n0_ := Aside0.mk (below_step (by repeat (first | (with_reducible first | exact HB.out | apply below_alloc | apply pw_below_drewN | apply below_drew1) | exact HB.out)) hb); have n1_ := Aside0.mk (hbox); have n2_ := Aside0.mk ((by rw [hg]; exact (below_size (by repeat (first | (with_reducible first | exact HB.out | apply below_alloc | apply pw_below_drewN | apply below_drew1) | exact HB.out))) : w.heap.size ≤ gb117)); have n3_ := Aside0.mk ((by rw [hg]; exact (below_size (by repeat (first | (with_reducible first | exact HB.out | apply below_alloc | apply pw_below_drewN | apply below_drew1) | exact HB.out))) : w.heap.size ≤ gb117)); clear HB; have HB := n0_; have BK117 := n1_; have GW117 := n2_; have GE117 := n3_; clear n0_ n1_ n2_ n3_; clear hb hbox hg; have hcz14_0 : w13.cell? ⟨gb117, 0, none⟩ = some (.int .i64 0) := (blk_cell BK117.out 0).trans rfl; have hcz14_1 : w13.cell? ⟨gb117, 1, none⟩ = some (.string (⟨#[]⟩ : ByteArray)) := (blk_cell BK117.out 1).trans rfl; have hfz14_0 := blk_frozen BK117.out 0; have hfz14_1 := blk_frozen BK117.out 1))
    go_ret
    exact ⟨by first | rfl | (simp [errW_none, errW_some] <;> rfl) | (simp [*, errW_none, errW_some] <;> rfl), by repeat (first | (with_reducible first | exact HB.out | apply below_alloc | apply pw_below_drewN | apply below_drew1 | refine below_set ?_ GE117.out) | exact HB.out)⟩

end Go.Proofs.YtaamnpomclenpaaDoor.X
