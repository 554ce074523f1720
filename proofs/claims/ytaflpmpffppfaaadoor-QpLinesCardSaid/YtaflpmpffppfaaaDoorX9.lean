-- Written by a program (print.py's text, with contracts of this session's own put in). Not trusted: Lean checks it.
import Derived.Test.YtaflpmpffppfaaaDoorX0
import Derived.Test.YtaflpmpffppfaaaDoorX3
import Derived.Test.YtaflpmpffppfaaaDoorX8
namespace Go.Proofs.YtaflpmpffppfaaaDoor.X
open Go.RowKit Go.Proofs.YtaflpmpffppfaaaDoorW.PrintWords Go.Proofs.YtaflpmpffppfaaaDoorW.PrintLast Go.Proofs.YtaflpmpffppfaaaDoorW.PrintMore
attribute [local go_sem] max2_int min2_int max_two min_two max_three min_three max_four min_four   -- for this text's walks alone
set_option linter.unusedVariables false
set_option linter.unusedSimpArgs false

/-! ### bulletinlaw17_works: function 8 -/
def bulletinlaw17_works.f (k : Nat)  : Option (Bool) := (qp_Decode.f k (⟨#[97, 61, 51, 68, 98, 61, 50, 48, 13, 10]⟩ : ByteArray)).bind fun bt125 => ((qp_Encode.f (⟨#[97, 61, 98, 32, 13, 10]⟩ : ByteArray)).bind fun t127 => (if t127.toList = ([97, 61, 51, 68, 98, 61, 50, 48, 13, 10] : List UInt8) then (if bt125.1.toList = ([97, 61, 98, 32, 13, 10] : List UInt8) then (some (bt125.2 == 0)) else (some false)) else (some false)))
theorem bulletinlaw17_works.mono : ∀ k, LeO (bulletinlaw17_works.f k ) (bulletinlaw17_works.f (k + 1) ) := by
  intro  k
  unfold bulletinlaw17_works.f
  repeat' first
      | (with_reducible exact qp_Decode.mono _ _)
      | (with_reducible exact LeO.refl _)
      | (with_reducible exact LeO.none _)
      | (with_reducible refine LeO.ite ?_ ?_)
      | (with_reducible refine LeO.bind ?_ (fun _ => ?_))
      | exact qp_Decode.mono _ _
      | exact LeO.none _
      | refine LeO.ite ?_ ?_
      | refine LeO.bind ?_ (fun _ => ?_)
set_option maxHeartbeats 8000000 in
set_option maxRecDepth 100000 in
theorem bulletinlaw17_works.calls (k : Nat)  (r : Bool) (w : World) (hT0 : Aside0 (Tabs w)) (h : bulletinlaw17_works.f k  = some r) :
    Calls Tryd.prog 8 #[] w fun e w' => e = .returned (.bool r) ∧ Below w.heap.size w w' := by
  have HB := Aside0.mk (Below.refl w.heap.size w)
  have H : ((qp_Decode.f k (⟨#[97, 61, 51, 68, 98, 61, 50, 48, 13, 10]⟩ : ByteArray)).bind fun bt125 => ((qp_Encode.f (⟨#[97, 61, 98, 32, 13, 10]⟩ : ByteArray)).bind fun t127 => (if t127.toList = ([97, 61, 51, 68, 98, 61, 50, 48, 13, 10] : List UInt8) then (if bt125.1.toList = ([97, 61, 98, 32, 13, 10] : List UInt8) then (some (bt125.2 == 0)) else (some false)) else (some false)))) = some r := h
  clear h
  replace H := Option.bind_eq_some_iff.mp H
  obtain ⟨⟨t125, t126⟩, A10, H⟩ := H
  replace H : ((qp_Encode.f (⟨#[97, 61, 98, 32, 13, 10]⟩ : ByteArray)).bind fun t127 => (if t127.toList = ([97, 61, 51, 68, 98, 61, 50, 48, 13, 10] : List UInt8) then (if t125.toList = ([97, 61, 98, 32, 13, 10] : List UInt8) then (some (t126 == 0)) else (some false)) else (some false))) = some r := H
  have A1 := Aside0.mk A10
  clear A10
  replace H := Option.bind_eq_some_iff.mp H
  obtain ⟨t127, A20, H⟩ := H
  replace H : (if t127.toList = ([97, 61, 51, 68, 98, 61, 50, 48, 13, 10] : List UInt8) then (if t125.toList = ([97, 61, 98, 32, 13, 10] : List UInt8) then (some (t126 == 0)) else (some false)) else (some false)) = some r := H
  have A2 := Aside0.mk A20
  clear A20
  by_cases c3 : t127.toList = ([97, 61, 51, 68, 98, 61, 50, 48, 13, 10] : List UInt8)
  · rw [if_pos c3] at H
    have c3b0 : (t127.toList == ([97, 61, 51, 68, 98, 61, 50, 48, 13, 10] : List UInt8)) = true := beq_iff_eq.mpr c3
    have c3b1 : (t127.toList != ([97, 61, 51, 68, 98, 61, 50, 48, 13, 10] : List UInt8)) = false := bne_eq_false_iff_eq.mpr c3
    clear c3
    by_cases c4 : t125.toList = ([97, 61, 98, 32, 13, 10] : List UInt8)
    · rw [if_pos c4] at H
      have c4b0 : (t125.toList == ([97, 61, 98, 32, 13, 10] : List UInt8)) = true := beq_iff_eq.mpr c4
      have c4b1 : (t125.toList != ([97, 61, 98, 32, 13, 10] : List UInt8)) = false := bne_eq_false_iff_eq.mpr c4
      clear c4
      obtain rfl := Option.some.inj H
      go_enter Tryd.func8, Tryd.ntmps8
      go_wp2_with (first | ((with_reducible refine gate_callee (f := 11) rfl ?_); refine goesL_ (some 4) rfl rfl Tryd.func11 (by kernel_rfl) rfl #[.string (⟨#[97, 61, 51, 68, 98, 61, 50, 48, 13, 10]⟩ : ByteArray)] rfl (by (try simp only [List.map_toArray, List.map_cons, List.map_nil]); first | done | rfl | (simp only [List.length_drop, List.length_take]; rfl)) ?_; (with_reducible refine (qp_Decode.calls (hT0 := by first | exact hT0 | exact Tabs.a hT0 (by repeat (first | (with_reducible first | exact HB.out | apply below_alloc | apply pw_below_drewN | apply below_drew1) | exact HB.out))) k (⟨#[97, 61, 51, 68, 98, 61, 50, 48, 13, 10]⟩ : ByteArray) t125 t126 _ A1.out).mono ?_); rintro e w5 ⟨rfl, hb⟩; refine ⟨_, rfl, ?_⟩; have n0_ := Aside0.mk (below_step (by repeat (first | (with_reducible first | exact HB.out | apply below_alloc | apply pw_below_drewN | apply below_drew1) | exact HB.out)) hb); clear HB; have HB := n0_; clear n0_; (try clear hb); (try clear hb2); (try clear hk); (try clear hi)) | ((with_reducible refine gate_callee (f := 9) rfl ?_); refine goesL_ (some 7) rfl rfl Tryd.func9 (by kernel_rfl) rfl #[.string (⟨#[97, 61, 98, 32, 13, 10]⟩ : ByteArray)] rfl (by (try simp only [List.map_toArray, List.map_cons, List.map_nil]); first | done | rfl | (simp only [List.length_drop, List.length_take]; rfl)) ?_; (with_reducible refine (qp_Encode.calls (hT0 := by first | exact hT0 | exact Tabs.a hT0 (by repeat (first | (with_reducible first | exact HB.out | apply below_alloc | apply pw_below_drewN | apply below_drew1) | exact HB.out))) (⟨#[97, 61, 98, 32, 13, 10]⟩ : ByteArray) t127 _ A2.out).mono ?_); rintro e w6 ⟨rfl, hb⟩; refine ⟨_, rfl, ?_⟩; have n0_ := Aside0.mk (below_step (by repeat (first | (with_reducible first | exact HB.out | apply below_alloc | apply pw_below_drewN | apply below_drew1) | exact HB.out)) hb); clear HB; have HB := n0_; clear n0_; (try clear hb); (try clear hb2); (try clear hk); (try clear hi)))
      go_ret
      exact ⟨by first | rfl | (simp [errW_none, errW_some] <;> rfl) | (simp [*, errW_none, errW_some] <;> rfl), by repeat (first | (with_reducible first | exact HB.out | apply below_alloc | apply pw_below_drewN | apply below_drew1) | exact HB.out)⟩
    · rw [if_neg c4] at H
      have c4b0 : (t125.toList == ([97, 61, 98, 32, 13, 10] : List UInt8)) = false := beq_eq_false_iff_ne.mpr c4
      have c4b1 : (t125.toList != ([97, 61, 98, 32, 13, 10] : List UInt8)) = true := bne_iff_ne.mpr c4
      obtain rfl := Option.some.inj H
      go_enter Tryd.func8, Tryd.ntmps8
      go_wp2_with (first | ((with_reducible refine gate_callee (f := 11) rfl ?_); refine goesL_ (some 4) rfl rfl Tryd.func11 (by kernel_rfl) rfl #[.string (⟨#[97, 61, 51, 68, 98, 61, 50, 48, 13, 10]⟩ : ByteArray)] rfl (by (try simp only [List.map_toArray, List.map_cons, List.map_nil]); first | done | rfl | (simp only [List.length_drop, List.length_take]; rfl)) ?_; (with_reducible refine (qp_Decode.calls (hT0 := by first | exact hT0 | exact Tabs.a hT0 (by repeat (first | (with_reducible first | exact HB.out | apply below_alloc | apply pw_below_drewN | apply below_drew1) | exact HB.out))) k (⟨#[97, 61, 51, 68, 98, 61, 50, 48, 13, 10]⟩ : ByteArray) t125 t126 _ A1.out).mono ?_); rintro e w7 ⟨rfl, hb⟩; refine ⟨_, rfl, ?_⟩; have n0_ := Aside0.mk (below_step (by repeat (first | (with_reducible first | exact HB.out | apply below_alloc | apply pw_below_drewN | apply below_drew1) | exact HB.out)) hb); clear HB; have HB := n0_; clear n0_; (try clear hb); (try clear hb2); (try clear hk); (try clear hi)) | ((with_reducible refine gate_callee (f := 9) rfl ?_); refine goesL_ (some 7) rfl rfl Tryd.func9 (by kernel_rfl) rfl #[.string (⟨#[97, 61, 98, 32, 13, 10]⟩ : ByteArray)] rfl (by (try simp only [List.map_toArray, List.map_cons, List.map_nil]); first | done | rfl | (simp only [List.length_drop, List.length_take]; rfl)) ?_; (with_reducible refine (qp_Encode.calls (hT0 := by first | exact hT0 | exact Tabs.a hT0 (by repeat (first | (with_reducible first | exact HB.out | apply below_alloc | apply pw_below_drewN | apply below_drew1) | exact HB.out))) (⟨#[97, 61, 98, 32, 13, 10]⟩ : ByteArray) t127 _ A2.out).mono ?_); rintro e w8 ⟨rfl, hb⟩; refine ⟨_, rfl, ?_⟩; have n0_ := Aside0.mk (below_step (by repeat (first | (with_reducible first | exact HB.out | apply below_alloc | apply pw_below_drewN | apply below_drew1) | exact HB.out)) hb); clear HB; have HB := n0_; clear n0_; (try clear hb); (try clear hb2); (try clear hk); (try clear hi)))
      go_ret
      exact ⟨by first | rfl | (simp [errW_none, errW_some] <;> rfl) | (simp [*, errW_none, errW_some] <;> rfl), by repeat (first | (with_reducible first | exact HB.out | apply below_alloc | apply pw_below_drewN | apply below_drew1) | exact HB.out)⟩
  · rw [if_neg c3] at H
    have c3b0 : (t127.toList == ([97, 61, 51, 68, 98, 61, 50, 48, 13, 10] : List UInt8)) = false := beq_eq_false_iff_ne.mpr c3
    have c3b1 : (t127.toList != ([97, 61, 51, 68, 98, 61, 50, 48, 13, 10] : List UInt8)) = true := bne_iff_ne.mpr c3
    obtain rfl := Option.some.inj H
    go_enter Tryd.func8, Tryd.ntmps8
    go_wp2_with (first | ((with_reducible refine gate_callee (f := 11) rfl ?_); refine goesL_ (some 4) rfl rfl Tryd.func11 (by kernel_rfl) rfl #[.string (⟨#[97, 61, 51, 68, 98, 61, 50, 48, 13, 10]⟩ : ByteArray)] rfl (by (try simp only [List.map_toArray, List.map_cons, List.map_nil]); first | done | rfl | (simp only [List.length_drop, List.length_take]; rfl)) ?_; (with_reducible refine (qp_Decode.calls (hT0 := by first | exact hT0 | exact Tabs.a hT0 (by repeat (first | (with_reducible first | exact HB.out | apply below_alloc | apply pw_below_drewN | apply below_drew1) | exact HB.out))) k (⟨#[97, 61, 51, 68, 98, 61, 50, 48, 13, 10]⟩ : ByteArray) t125 t126 _ A1.out).mono ?_); rintro e w9 ⟨rfl, hb⟩; refine ⟨_, rfl, ?_⟩; have n0_ := Aside0.mk (below_step (by repeat (first | (with_reducible first | exact HB.out | apply below_alloc | apply pw_below_drewN | apply below_drew1) | exact HB.out)) hb); clear HB; have HB := n0_; clear n0_; (try clear hb); (try clear hb2); (try clear hk); (try clear hi)) | ((with_reducible refine gate_callee (f := 9) rfl ?_); refine goesL_ (some 7) rfl rfl Tryd.func9 (by kernel_rfl) rfl #[.string (⟨#[97, 61, 98, 32, 13, 10]⟩ : ByteArray)] rfl (by (try simp only [List.map_toArray, List.map_cons, List.map_nil]); first | done | rfl | (simp only [List.length_drop, List.length_take]; rfl)) ?_; (with_reducible refine (qp_Encode.calls (hT0 := by first | exact hT0 | exact Tabs.a hT0 (by repeat (first | (with_reducible first | exact HB.out | apply below_alloc | apply pw_below_drewN | apply below_drew1) | exact HB.out))) (⟨#[97, 61, 98, 32, 13, 10]⟩ : ByteArray) t127 _ A2.out).mono ?_); rintro e w10 ⟨rfl, hb⟩; refine ⟨_, rfl, ?_⟩; have n0_ := Aside0.mk (below_step (by repeat (first | (with_reducible first | exact HB.out | apply below_alloc | apply pw_below_drewN | apply below_drew1) | exact HB.out)) hb); clear HB; have HB := n0_; clear n0_; (try clear hb); (try clear hb2); (try clear hk); (try clear hi)))
    go_ret
    exact ⟨by first | rfl | (simp [errW_none, errW_some] <;> rfl) | (simp [*, errW_none, errW_some] <;> rfl), by repeat (first | (with_reducible first | exact HB.out | apply below_alloc | apply pw_below_drewN | apply below_drew1) | exact HB.out)⟩

end Go.Proofs.YtaflpmpffppfaaaDoor.X
