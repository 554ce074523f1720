-- Written by a program (print.py's text, with contracts of this session's own put in). Not trusted: Lean checks it.
import Derived.Test.YtlkppogpoodjlaaDoorX0
import Derived.Test.YtlkppogpoodjlaaDoorX2
import Derived.Test.YtlkppogpoodjlaaDoorX3
import Derived.Test.YtlkppogpoodjlaaDoorX4
namespace Go.Proofs.YtlkppogpoodjlaaDoor.X
open Go.RowKit Go.Proofs.YtlkppogpoodjlaaDoorW.PrintWords Go.Proofs.YtlkppogpoodjlaaDoorW.PrintLast Go.Proofs.YtlkppogpoodjlaaDoorW.PrintMore
attribute [local go_sem] max2_int min2_int max_two min_two max_three min_three max_four min_four   -- for this text's walks alone
set_option linter.unusedVariables false
set_option linter.unusedSimpArgs false

/-! ### bulletinlaw06_works: function 7 -/
def bulletinlaw06_works.f (k : Nat)  : Option (Bool) := (glyph_Spell.f k (⟨#[97, 195, 169, 255]⟩ : ByteArray)).bind fun t103 => (if t103.toList = ([97, 123, 101, 57, 125, 123, 98, 97, 100, 125] : List UInt8) then ((glyph_Count.f k (⟨#[97, 195, 169, 255]⟩ : ByteArray)).bind fun t104 => (if t104 = 3 then ((glyph_Fold.f k (⟨#[97, 66, 45, 67]⟩ : ByteArray)).bind fun t105 => (if t105.toList = ([97, 98, 45, 99] : List UInt8) then ((glyph_Valid.f k (⟨#[255]⟩ : ByteArray)).bind fun t106 => (if t106 = true then (some false) else ((glyph_Clean.f k (⟨#[97, 9, 98]⟩ : ByteArray)).bind fun t107 => (some (t107.toList == ([97, 32, 98] : List UInt8)))))) else (some false))) else (some false))) else (some false))
theorem bulletinlaw06_works.mono : ∀ k, LeO (bulletinlaw06_works.f k ) (bulletinlaw06_works.f (k + 1) ) := by
  intro  k
  unfold bulletinlaw06_works.f
  repeat' first
      | (with_reducible exact glyph_Clean.mono _ _)
      | (with_reducible exact glyph_Count.mono _ _)
      | (with_reducible exact glyph_Fold.mono _ _)
      | (with_reducible exact glyph_Spell.mono _ _)
      | (with_reducible exact glyph_Valid.mono _ _)
      | (with_reducible exact LeO.refl _)
      | (with_reducible exact LeO.none _)
      | (with_reducible refine LeO.ite ?_ ?_)
      | (with_reducible refine LeO.bind ?_ (fun _ => ?_))
      | exact glyph_Clean.mono _ _
      | exact glyph_Count.mono _ _
      | exact glyph_Fold.mono _ _
      | exact glyph_Spell.mono _ _
      | exact glyph_Valid.mono _ _
      | exact LeO.none _
      | refine LeO.ite ?_ ?_
      | refine LeO.bind ?_ (fun _ => ?_)
set_option maxHeartbeats 8000000 in
set_option maxRecDepth 100000 in
theorem bulletinlaw06_works.calls (k : Nat)  (r : Bool) (w : World) (hT0 : Aside0 (Tabs w)) (h : bulletinlaw06_works.f k  = some r) :
    Calls Tryd.prog 7 #[] w fun e w' => e = .returned (.bool r) ∧ Below w.heap.size w w' := by
  have HB := Aside0.mk (Below.refl w.heap.size w)
  have H : ((glyph_Spell.f k (⟨#[97, 195, 169, 255]⟩ : ByteArray)).bind fun t103 => (if t103.toList = ([97, 123, 101, 57, 125, 123, 98, 97, 100, 125] : List UInt8) then ((glyph_Count.f k (⟨#[97, 195, 169, 255]⟩ : ByteArray)).bind fun t104 => (if t104 = 3 then ((glyph_Fold.f k (⟨#[97, 66, 45, 67]⟩ : ByteArray)).bind fun t105 => (if t105.toList = ([97, 98, 45, 99] : List UInt8) then ((glyph_Valid.f k (⟨#[255]⟩ : ByteArray)).bind fun t106 => (if t106 = true then (some false) else ((glyph_Clean.f k (⟨#[97, 9, 98]⟩ : ByteArray)).bind fun t107 => (some (t107.toList == ([97, 32, 98] : List UInt8)))))) else (some false))) else (some false))) else (some false))) = some r := h
  clear h
  replace H := Option.bind_eq_some_iff.mp H
  obtain ⟨t103, A10, H⟩ := H
  replace H : (if t103.toList = ([97, 123, 101, 57, 125, 123, 98, 97, 100, 125] : List UInt8) then ((glyph_Count.f k (⟨#[97, 195, 169, 255]⟩ : ByteArray)).bind fun t104 => (if t104 = 3 then ((glyph_Fold.f k (⟨#[97, 66, 45, 67]⟩ : ByteArray)).bind fun t105 => (if t105.toList = ([97, 98, 45, 99] : List UInt8) then ((glyph_Valid.f k (⟨#[255]⟩ : ByteArray)).bind fun t106 => (if t106 = true then (some false) else ((glyph_Clean.f k (⟨#[97, 9, 98]⟩ : ByteArray)).bind fun t107 => (some (t107.toList == ([97, 32, 98] : List UInt8)))))) else (some false))) else (some false))) else (some false)) = some r := H
  have A1 := Aside0.mk A10
  clear A10
  by_cases c2 : t103.toList = ([97, 123, 101, 57, 125, 123, 98, 97, 100, 125] : List UInt8)
  · rw [if_pos c2] at H
    have c2b0 : (t103.toList == ([97, 123, 101, 57, 125, 123, 98, 97, 100, 125] : List UInt8)) = true := beq_iff_eq.mpr c2
    have c2b1 : (t103.toList != ([97, 123, 101, 57, 125, 123, 98, 97, 100, 125] : List UInt8)) = false := bne_eq_false_iff_eq.mpr c2
    clear c2
    replace H := Option.bind_eq_some_iff.mp H
    obtain ⟨t104, A30, H⟩ := H
    replace H : (if t104 = 3 then ((glyph_Fold.f k (⟨#[97, 66, 45, 67]⟩ : ByteArray)).bind fun t105 => (if t105.toList = ([97, 98, 45, 99] : List UInt8) then ((glyph_Valid.f k (⟨#[255]⟩ : ByteArray)).bind fun t106 => (if t106 = true then (some false) else ((glyph_Clean.f k (⟨#[97, 9, 98]⟩ : ByteArray)).bind fun t107 => (some (t107.toList == ([97, 32, 98] : List UInt8)))))) else (some false))) else (some false)) = some r := H
    have A3 := Aside0.mk A30
    clear A30
    by_cases c4 : t104 = 3
    · rw [if_pos c4] at H
      have c4b0 : (t104 == 3) = true := beq_iff_eq.mpr c4
      have c4b1 : (t104 != 3) = false := bne_eq_false_iff_eq.mpr c4
      clear c4
      replace H := Option.bind_eq_some_iff.mp H
      obtain ⟨t105, A50, H⟩ := H
      replace H : (if t105.toList = ([97, 98, 45, 99] : List UInt8) then ((glyph_Valid.f k (⟨#[255]⟩ : ByteArray)).bind fun t106 => (if t106 = true then (some false) else ((glyph_Clean.f k (⟨#[97, 9, 98]⟩ : ByteArray)).bind fun t107 => (some (t107.toList == ([97, 32, 98] : List UInt8)))))) else (some false)) = some r := H
      have A5 := Aside0.mk A50
      clear A50
      by_cases c6 : t105.toList = ([97, 98, 45, 99] : List UInt8)
      · rw [if_pos c6] at H
        have c6b0 : (t105.toList == ([97, 98, 45, 99] : List UInt8)) = true := beq_iff_eq.mpr c6
        have c6b1 : (t105.toList != ([97, 98, 45, 99] : List UInt8)) = false := bne_eq_false_iff_eq.mpr c6
        clear c6
        replace H := Option.bind_eq_some_iff.mp H
        obtain ⟨t106, A70, H⟩ := H
        replace H : (if t106 = true then (some false) else ((glyph_Clean.f k (⟨#[97, 9, 98]⟩ : ByteArray)).bind fun t107 => (some (t107.toList == ([97, 32, 98] : List UInt8))))) = some r := H
        have A7 := Aside0.mk A70
        clear A70
        by_cases c8 : t106 = true
        · subst c8
          have H1 : (some false) = some r := by rw [if_pos rfl] at H; exact H
          clear H
          have H := H1
          clear H1
          obtain rfl := Option.some.inj H
          go_enter Tryd.func7, Tryd.ntmps7
          go_wp2_with (first | ((with_reducible refine gate_callee (f := 13) rfl ?_); refine goesL_ (some 1) rfl rfl Tryd.func13 (by kernel_rfl) rfl #[.string (⟨#[97, 195, 169, 255]⟩ : ByteArray)] rfl (by (try simp only [List.map_toArray, List.map_cons, List.map_nil]); first | done | rfl | (simp only [List.length_drop, List.length_take]; rfl)) ?_; (with_reducible refine (glyph_Spell.calls (hT0 := by first | exact hT0 | exact Tabs.a hT0 (by repeat (first | (with_reducible first | exact HB.out | apply below_alloc | apply pw_below_drewN | apply below_drew1) | exact HB.out))) k (⟨#[97, 195, 169, 255]⟩ : ByteArray) t103 _ A1.out).mono ?_); rintro e w9 ⟨rfl, hb⟩; refine ⟨_, rfl, ?_⟩; have n0_ := Aside0.mk (below_step (by repeat (first | (with_reducible first | exact HB.out | apply below_alloc | apply pw_below_drewN | apply below_drew1) | exact HB.out)) hb); clear HB; have HB := n0_; clear n0_; (try clear hb); (try clear hb2); (try clear hk); (try clear hi)) | (go_at_call 11; (with_reducible refine (glyph_Count.calls k (⟨#[97, 195, 169, 255]⟩ : ByteArray) t104 _ A3.out).mono ?_); rintro e w10 ⟨rfl, hb⟩; have n0_ := Aside0.mk (below_step (by repeat (first | (with_reducible first | exact HB.out | apply below_alloc | apply pw_below_drewN | apply below_drew1) | exact HB.out)) hb); clear HB; have HB := n0_; clear n0_; (try clear hb); (try clear hb2); (try clear hk); (try clear hi)) | (go_at_call 9; (with_reducible refine (glyph_Fold.calls k (⟨#[97, 66, 45, 67]⟩ : ByteArray) t105 _ A5.out).mono ?_); rintro e w11 ⟨rfl, hb⟩; have n0_ := Aside0.mk (below_step (by repeat (first | (with_reducible first | exact HB.out | apply below_alloc | apply pw_below_drewN | apply below_drew1) | exact HB.out)) hb); clear HB; have HB := n0_; clear n0_; (try clear hb); (try clear hb2); (try clear hk); (try clear hi)) | (go_at_call 10; (with_reducible refine (glyph_Valid.calls (hT0 := by first | exact hT0 | exact Tabs.a hT0 (by repeat (first | (with_reducible first | exact HB.out | apply below_alloc | apply pw_below_drewN | apply below_drew1) | exact HB.out))) k (⟨#[255]⟩ : ByteArray) true _ A7.out).mono ?_); rintro e w12 ⟨rfl, hb⟩; have n0_ := Aside0.mk (below_step (by repeat (first | (with_reducible first | exact HB.out | apply below_alloc | apply pw_below_drewN | apply below_drew1) | exact HB.out)) hb); clear HB; have HB := n0_; clear n0_; (try clear hb); (try clear hb2); (try clear hk); (try clear hi)))
          go_ret
          exact ⟨by first | rfl | (simp [errW_none, errW_some] <;> rfl) | (simp [*, errW_none, errW_some] <;> rfl), by repeat (first | (with_reducible first | exact HB.out | apply below_alloc | apply pw_below_drewN | apply below_drew1) | exact HB.out)⟩
        · replace c8 := Bool.eq_false_iff.mpr c8
          subst c8
          have H1 : ((glyph_Clean.f k (⟨#[97, 9, 98]⟩ : ByteArray)).bind fun t107 => (some (t107.toList == ([97, 32, 98] : List UInt8)))) = some r := by rw [if_neg (show ¬ (false = true) by decide)] at H; exact H
          clear H
          have H := H1
          clear H1
          replace H := Option.bind_eq_some_iff.mp H
          obtain ⟨t107, A130, H⟩ := H
          replace H : (some (t107.toList == ([97, 32, 98] : List UInt8))) = some r := H
          have A13 := Aside0.mk A130
          clear A130
          obtain rfl := Option.some.inj H
          go_enter Tryd.func7, Tryd.ntmps7
          go_wp2_with (first | ((with_reducible refine gate_callee (f := 13) rfl ?_); refine goesL_ (some 1) rfl rfl Tryd.func13 (by kernel_rfl) rfl #[.string (⟨#[97, 195, 169, 255]⟩ : ByteArray)] rfl (by (try simp only [List.map_toArray, List.map_cons, List.map_nil]); first | done | rfl | (simp only [List.length_drop, List.length_take]; rfl)) ?_; (with_reducible refine (glyph_Spell.calls (hT0 := by first | exact hT0 | exact Tabs.a hT0 (by repeat (first | (with_reducible first | exact HB.out | apply below_alloc | apply pw_below_drewN | apply below_drew1) | exact HB.out))) k (⟨#[97, 195, 169, 255]⟩ : ByteArray) t103 _ A1.out).mono ?_); rintro e w14 ⟨rfl, hb⟩; refine ⟨_, rfl, ?_⟩; have n0_ := Aside0.mk (below_step (by repeat (first | (with_reducible first | exact HB.out | apply below_alloc | apply pw_below_drewN | apply below_drew1) | exact HB.out)) hb); clear HB; have HB := n0_; clear n0_; (try clear hb); (try clear hb2); (try clear hk); (try clear hi)) | (go_at_call 11; (with_reducible refine (glyph_Count.calls k (⟨#[97, 195, 169, 255]⟩ : ByteArray) t104 _ A3.out).mono ?_); rintro e w15 ⟨rfl, hb⟩; have n0_ := Aside0.mk (below_step (by repeat (first | (with_reducible first | exact HB.out | apply below_alloc | apply pw_below_drewN | apply below_drew1) | exact HB.out)) hb); clear HB; have HB := n0_; clear n0_; (try clear hb); (try clear hb2); (try clear hk); (try clear hi)) | (go_at_call 9; (with_reducible refine (glyph_Fold.calls k (⟨#[97, 66, 45, 67]⟩ : ByteArray) t105 _ A5.out).mono ?_); rintro e w16 ⟨rfl, hb⟩; have n0_ := Aside0.mk (below_step (by repeat (first | (with_reducible first | exact HB.out | apply below_alloc | apply pw_below_drewN | apply below_drew1) | exact HB.out)) hb); clear HB; have HB := n0_; clear n0_; (try clear hb); (try clear hb2); (try clear hk); (try clear hi)) | (go_at_call 10; (with_reducible refine (glyph_Valid.calls (hT0 := by first | exact hT0 | exact Tabs.a hT0 (by repeat (first | (with_reducible first | exact HB.out | apply below_alloc | apply pw_below_drewN | apply below_drew1) | exact HB.out))) k (⟨#[255]⟩ : ByteArray) false _ A7.out).mono ?_); rintro e w17 ⟨rfl, hb⟩; have n0_ := Aside0.mk (below_step (by repeat (first | (with_reducible first | exact HB.out | apply below_alloc | apply pw_below_drewN | apply below_drew1) | exact HB.out)) hb); clear HB; have HB := n0_; clear n0_; (try clear hb); (try clear hb2); (try clear hk); (try clear hi)) | (go_at_call 8; (with_reducible refine (glyph_Clean.calls k (⟨#[97, 9, 98]⟩ : ByteArray) t107 _ A13.out).mono ?_); rintro e w18 ⟨rfl, hb⟩; have n0_ := Aside0.mk (below_step (by repeat (first | (with_reducible first | exact HB.out | apply below_alloc | apply pw_below_drewN | apply below_drew1) | exact HB.out)) hb); clear HB; have HB := n0_; clear n0_; (try clear hb); (try clear hb2); (try clear hk); (try clear hi)))
          go_ret
          exact ⟨by first | rfl | (simp [errW_none, errW_some] <;> rfl) | (simp [*, errW_none, errW_some] <;> rfl), by repeat (first | (with_reducible first | exact HB.out | apply below_alloc | apply pw_below_drewN | apply below_drew1) | exact HB.out)⟩
      · rw [if_neg c6] at H
        have c6b0 : (t105.toList == ([97, 98, 45, 99] : List UInt8)) = false := beq_eq_false_iff_ne.mpr c6
        have c6b1 : (t105.toList != ([97, 98, 45, 99] : List UInt8)) = true := bne_iff_ne.mpr c6
        obtain rfl := Option.some.inj H
        go_enter Tryd.func7, Tryd.ntmps7
        go_wp2_with (first | ((with_reducible refine gate_callee (f := 13) rfl ?_); refine goesL_ (some 1) rfl rfl Tryd.func13 (by kernel_rfl) rfl #[.string (⟨#[97, 195, 169, 255]⟩ : ByteArray)] rfl (by (try simp only [List.map_toArray, List.map_cons, List.map_nil]); first | done | rfl | (simp only [List.length_drop, List.length_take]; rfl)) ?_; (with_reducible refine (glyph_Spell.calls (hT0 := by first | exact hT0 | exact Tabs.a hT0 (by repeat (first | (with_reducible first | exact HB.out | apply below_alloc | apply pw_below_drewN | apply below_drew1) | exact HB.out))) k (⟨#[97, 195, 169, 255]⟩ : ByteArray) t103 _ A1.out).mono ?_); rintro e w19 ⟨rfl, hb⟩; refine ⟨_, rfl, ?_⟩; have n0_ := Aside0.mk (below_step (by repeat (first | (with_reducible first | exact HB.out | apply below_alloc | apply pw_below_drewN | apply below_drew1) | exact HB.out)) hb); clear HB; have HB := n0_; clear n0_; (try clear hb); (try clear hb2); (try clear hk); (try clear hi)) | (go_at_call 11; (with_reducible refine (glyph_Count.calls k (⟨#[97, 195, 169, 255]⟩ : ByteArray) t104 _ A3.out).mono ?_); rintro e w20 ⟨rfl, hb⟩; have n0_ := Aside0.mk (below_step (by repeat (first | (with_reducible first | exact HB.out | apply below_alloc | apply pw_below_drewN | apply below_drew1) | exact HB.out)) hb); clear HB; have HB := n0_; clear n0_; (try clear hb); (try clear hb2); (try clear hk); (try clear hi)) | (go_at_call 9; (with_reducible refine (glyph_Fold.calls k (⟨#[97, 66, 45, 67]⟩ : ByteArray) t105 _ A5.out).mono ?_); rintro e w21 ⟨rfl, hb⟩; have n0_ := Aside0.mk (below_step (by repeat (first | (with_reducible first | exact HB.out | apply below_alloc | apply pw_below_drewN | apply below_drew1) | exact HB.out)) hb); clear HB; have HB := n0_; clear n0_; (try clear hb); (try clear hb2); (try clear hk); (try clear hi)))
        go_ret
        exact ⟨by first | rfl | (simp [errW_none, errW_some] <;> rfl) | (simp [*, errW_none, errW_some] <;> rfl), by repeat (first | (with_reducible first | exact HB.out | apply below_alloc | apply pw_below_drewN | apply below_drew1) | exact HB.out)⟩
    · rw [if_neg c4] at H
      have c4b0 : (t104 == 3) = false := beq_eq_false_iff_ne.mpr c4
      have c4b1 : (t104 != 3) = true := bne_iff_ne.mpr c4
      obtain rfl := Option.some.inj H
      go_enter Tryd.func7, Tryd.ntmps7
      go_wp2_with (first | ((with_reducible refine gate_callee (f := 13) rfl ?_); refine goesL_ (some 1) rfl rfl Tryd.func13 (by kernel_rfl) rfl #[.string (⟨#[97, 195, 169, 255]⟩ : ByteArray)] rfl (by (try simp only [List.map_toArray, List.map_cons, List.map_nil]); first | done | rfl | (simp only [List.length_drop, List.length_take]; rfl)) ?_; (with_reducible refine (glyph_Spell.calls (hT0 := by first | exact hT0 | exact Tabs.a hT0 (by repeat (first | (with_reducible first | exact HB.out | apply below_alloc | apply pw_below_drewN | apply below_drew1) | exact HB.out))) k (⟨#[97, 195, 169, 255]⟩ : ByteArray) t103 _ A1.out).mono ?_); rintro e w22 ⟨rfl, hb⟩; refine ⟨_, rfl, ?_⟩; have n0_ := Aside0.mk (below_step (by repeat (first | (with_reducible first | exact HB.out | apply below_alloc | apply pw_below_drewN | apply below_drew1) | exact HB.out)) hb); clear HB; have HB := n0_; clear n0_; (try clear hb); (try clear hb2); (try clear hk); (try clear hi)) | (go_at_call 11; (with_reducible refine (glyph_Count.calls k (⟨#[97, 195, 169, 255]⟩ : ByteArray) t104 _ A3.out).mono ?_); rintro e w23 ⟨rfl, hb⟩; have n0_ := Aside0.mk (below_step (by repeat (first | (with_reducible first | exact HB.out | apply below_alloc | apply pw_below_drewN | apply below_drew1) | exact HB.out)) hb); clear HB; have HB := n0_; clear n0_; (try clear hb); (try clear hb2); (try clear hk); (try clear hi)))
      go_ret
      exact ⟨by first | rfl | (simp [errW_none, errW_some] <;> rfl) | (simp [*, errW_none, errW_some] <;> rfl), by repeat (first | (with_reducible first | exact HB.out | apply below_alloc | apply pw_below_drewN | apply below_drew1) | exact HB.out)⟩
  · rw [if_neg c2] at H
    have c2b0 : (t103.toList == ([97, 123, 101, 57, 125, 123, 98, 97, 100, 125] : List UInt8)) = false := beq_eq_false_iff_ne.mpr c2
    have c2b1 : (t103.toList != ([97, 123, 101, 57, 125, 123, 98, 97, 100, 125] : List UInt8)) = true := bne_iff_ne.mpr c2
    obtain rfl := Option.some.inj H
    go_enter Tryd.func7, Tryd.ntmps7
    go_wp2_with (first | ((with_reducible refine gate_callee (f := 13) rfl ?_); refine goesL_ (some 1) rfl rfl Tryd.func13 (by kernel_rfl) rfl #[.string (⟨#[97, 195, 169, 255]⟩ : ByteArray)] rfl (by (try simp only [List.map_toArray, List.map_cons, List.map_nil]); first | done | rfl | (simp only [List.length_drop, List.length_take]; rfl)) ?_; (with_reducible refine (glyph_Spell.calls (hT0 := by first | exact hT0 | exact Tabs.a hT0 (by repeat (first | (with_reducible first | exact HB.out | apply below_alloc | apply pw_below_drewN | apply below_drew1) | exact HB.out))) k (⟨#[97, 195, 169, 255]⟩ : ByteArray) t103 _ A1.out).mono ?_); rintro e w24 ⟨rfl, hb⟩; refine ⟨_, rfl, ?_⟩; have n0_ := Aside0.mk (below_step (by repeat (first | (with_reducible first | exact HB.out | apply below_alloc | apply pw_below_drewN | apply below_drew1) | exact HB.out)) hb); clear HB; have HB := n0_; clear n0_; (try clear hb); (try clear hb2); (try clear hk); (try clear hi)))
    go_ret
    exact ⟨by first | rfl | (simp [errW_none, errW_some] <;> rfl) | (simp [*, errW_none, errW_some] <;> rfl), by repeat (first | (with_reducible first | exact HB.out | apply below_alloc | apply pw_below_drewN | apply below_drew1) | exact HB.out)⟩

/-! ### glyph_Plain: function 12, a contract written by hand -/
-- IMPORT Derived.Lib.OthersKept
def glyph_Plain.l0 : Nat → ByteArray → Nat → Option Bool
  | 0, _, _ => none
  | k + 1, s, p => if p < s.size then (glyph_plain.f ((Utf8.decode s p).1 : Int)).bind fun b => if b = true then glyph_Plain.l0 k s (p + (Utf8.decode s p).2) else some false else some true
def glyph_Plain.f (k : Nat) (a0 : ByteArray) : Option Bool := glyph_Plain.l0 k a0 0
theorem glyph_Plain.mono_l : ∀ k, (∀ y0 y1, LeO (glyph_Plain.l0 k y0 y1) (glyph_Plain.l0 (k + 1) y0 y1))
  | 0 => fun _ _ r h => by simp [glyph_Plain.l0] at h
  | k + 1 => fun y0 y1 => by
    have ih := glyph_Plain.mono_l k
    unfold glyph_Plain.l0
    exact LeO.ite (LeO.bind (LeO.refl _) (fun _ => LeO.ite (ih _ _) (LeO.refl _))) (LeO.refl _)
theorem glyph_Plain.mono : ∀ a0 k, LeO (glyph_Plain.f k a0) (glyph_Plain.f (k + 1) a0) := fun a0 k => glyph_Plain.mono_l k a0 _
set_option maxHeartbeats 4000000 in
set_option maxRecDepth 100000 in
theorem glyph_Plain.calls (k : Nat) (a0 : ByteArray) (r : Bool) (w : World) (h : glyph_Plain.f k a0 = some r) : Calls Tryd.prog 12 #[.string a0] w fun e w' => e = .returned (.bool r) ∧ Below w.heap.size w w' := by
  have H := Aside0.mk (show glyph_Plain.l0 k a0 0 = some r from h)
  clear h
  go_enter Tryd.func12, Tryd.ntmps12
  go_wp2
  go_loopg [] k (fun kq wr => ∃ (p : Nat), Aside0 (glyph_Plain.l0 kq a0 p = some r) ∧ wr.heap[w.heap.size]? = some (.stringIter a0 p) ∧ Below w.heap.size w wr)
  case atStart => exact ⟨0, H, World.iter_heap w a0 0, (Below.refl _ w).alloc (Nat.le_refl _) _⟩
  case round =>
    clear H
    obtain ⟨p, HA, hit, hB⟩ := hrel
    cases gk with
    | zero => exact absurd HA.out (by simp [glyph_Plain.l0])
    | succ k1 =>
      have hg := HA.out
      clear HA
      simp only [glyph_Plain.l0] at hg
      by_cases hp : p < a0.size
      · rw [if_pos hp] at hg
        obtain ⟨b, hb, hg⟩ := Option.bind_eq_some_iff.mp hg
        have HBD := Aside0.mk hb
        have HG := Aside0.mk hg
        clear hb hg
        have hnx : ∀ ty, (Instr.next (.pointer (some ⟨w.heap.size, 0, none⟩)) true ty).run Tryd.prog wr = _ := fun ty => Lib.run_next_any_at wr w.heap.size a0 p ty hit hp
        have hit2 := Lib.iterAt_heap wr w.heap.size a0 p (p + (Utf8.decode a0 p).2) hit
        have hB2 := Lib.below_iterAt hB (k := w.heap.size) (Nat.le_refl _) a0 (p + (Utf8.decode a0 p).2)
        go_wp2_with fail
        refine (glyph_plain.calls _ b _ HBD.out).mono ?_
        rintro e w1 ⟨rfl, hd⟩
        have hb1 := hd.below
        have hit3 := (hb1.block _ (blk_lt hit2)).trans hit2
        have hB3 := hB2.trans (hb1.mono hB2.size)
        cases b with
        | false =>
          have HG2 : some false = some r := HG.out
          obtain rfl := Option.some.inj HG2
          go_wp2
          go_ret
          exact ⟨rfl, hB3⟩
        | true =>
          have HG2 : glyph_Plain.l0 k1 a0 (p + (Utf8.decode a0 p).2) = some r := HG.out
          have HG3 := Aside0.mk HG2
          clear HG HG2
          go_wp2
          go_roundg k1
          case measure => omega
          case rel => exact ⟨_, HG3, hit3, hB3⟩
      · rw [if_neg hp] at hg
        obtain rfl := Option.some.inj hg
        have hnx : ∀ ty, (Instr.next (.pointer (some ⟨w.heap.size, 0, none⟩)) true ty).run Tryd.prog wr = _ := fun ty => Lib.run_next_end_at wr w.heap.size a0 p ty hit hp
        go_wp2
        go_ret
        exact ⟨rfl, hB⟩

end Go.Proofs.YtlkppogpoodjlaaDoor.X
