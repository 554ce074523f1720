-- Written by a program (print.py's text, with contracts of this session's own put in). Not trusted: Lean checks it.
import Derived.Test.YtgbkjgngpceeiaaDoorX0
import Derived.Test.YtgbkjgngpceeiaaDoorX1
import Derived.Test.YtgbkjgngpceeiaaDoorX3
import Derived.Test.YtgbkjgngpceeiaaDoorX6
namespace Go.Proofs.YtgbkjgngpceeiaaDoor.X
open Go.RowKit Go.Proofs.YtgbkjgngpceeiaaDoorW.PrintWords Go.Proofs.YtgbkjgngpceeiaaDoorW.PrintLast Go.Proofs.YtgbkjgngpceeiaaDoorW.PrintMore
attribute [local go_sem] max2_int min2_int max_two min_two max_three min_three max_four min_four   -- for this text's walks alone
set_option linter.unusedVariables false
set_option linter.unusedSimpArgs false

/-! ### b64_Encode: function 11, a contract written by hand -/
/-- letters in lines of 76 -/
def b64_Encode.l0 : Nat → ByteArray → ByteArray → Option ByteArray
  | 0, _, _ => none
  | k + 1, s, acc => if s.size = 0 then some acc else if acc.size + (min 76 s.size + 2) ≤ 140737488355328 then b64_Encode.l0 k (s.extract (min 76 s.size) s.size) (acc ++ (s.extract 0 (min 76 s.size) ++ ⟨#[13, 10]⟩)) else none
def b64_Encode.f (k : Nat) (a0 : ByteArray) : Option ByteArray := (b64_Plain.f k a0).bind fun t => b64_Encode.l0 k t ⟨#[]⟩
theorem b64_Encode.mono_l : ∀ k, (∀ y0 y1, LeO (b64_Encode.l0 k y0 y1) (b64_Encode.l0 (k + 1) y0 y1))
  | 0 => fun _ _ r h => by simp [b64_Encode.l0] at h
  | k + 1 => fun y0 y1 => by
    have ih := b64_Encode.mono_l k
    unfold b64_Encode.l0
    exact LeO.ite (LeO.refl _) (LeO.ite (ih _ _) (LeO.none _))
theorem b64_Encode.mono : ∀ a0 k, LeO (b64_Encode.f k a0) (b64_Encode.f (k + 1) a0) := fun a0 k => LeO.bind (b64_Plain.mono _ _) (fun _ => b64_Encode.mono_l k _ _)
set_option maxHeartbeats 4000000 in
set_option maxRecDepth 100000 in
theorem b64_Encode.calls (k : Nat) (a0 : ByteArray) (r : ByteArray) (w : World) (h : b64_Encode.f k a0 = some r) : Calls Tryd.prog 11 #[.string a0] w fun e w' => e = .returned (.string r) ∧ Below w.heap.size w w' := by
  obtain ⟨t0, ht0, hl0⟩ := Option.bind_eq_some_iff.mp h
  have H0 := Aside0.mk ht0
  have H := Aside0.mk hl0
  clear h ht0 hl0
  go_enter Tryd.func11, Tryd.ntmps11
  go_wp2_with fail
  refine (b64_Plain.calls k _ t0 _ H0.out).mono ?_
  rintro e w0 ⟨rfl, hb0⟩
  have hI0 := bldF_below (Lib.IsBuilderF.of (Lib.fresh_isBuilder 40 5 w)) hb0
  have hB0 : Below w.heap.size w w0 := ((Below.refl _ w).alloc (Nat.le_refl _) _).trans (hb0.mono (by simp))
  clear hb0
  go_wp2
  go_loopg [4] k (fun kq v0 wr => ∃ (s acc : ByteArray), v0 = .string s ∧ Aside0 (b64_Encode.l0 kq s acc = some r) ∧ Lib.IsBuilderF 40 5 w.heap.size w.heap.size (Lib.byteCells acc.data.toList) wr ∧ Below w.heap.size w wr)
  case atStart => exact ⟨t0, ⟨#[]⟩, rfl, H, hI0, hB0⟩
  case round =>
    clear H H0 hI0 hB0
    obtain ⟨s, acc, rfl, HA, hI, hB⟩ := hrel
    cases gk with
    | zero => exact absurd HA.out (by simp [b64_Encode.l0])
    | succ k1 =>
      have hg := HA.out
      clear HA
      simp only [b64_Encode.l0] at hg
      have hszl := hB.size
      by_cases hz : s.size = 0
      · rw [if_pos hz] at hg
        obtain rfl := Option.some.inj hg
        have hs : (!s.toList.isEmpty) = false := by rw [bld_empty s, hz]; rfl
        go_wp2_with fail
        refine (bld_String w.heap.size w.heap.size acc.data.toList _ hI hszl).mono ?_
        rintro e w1 ⟨rfl, _, hb1, _⟩
        go_wp2
        go_ret
        exact ⟨rfl, hB.trans hb1⟩
      · rw [if_neg hz] at hg
        by_cases hsz : acc.size + (min 76 s.size + 2) ≤ 140737488355328
        · rw [if_pos hsz] at hg
          have hne : (!s.toList.isEmpty) = true := by rw [bld_empty s]; simpa using hz
          by_cases h3 : s.size < 76
          · rw [show min 76 s.size = s.size from by omega] at hsz hg
            have e1 : s.extract 0 s.size = s := bld_all s
            have e2 : s.extract s.size s.size = ⟨#[]⟩ := bld_none s
            rw [e1, e2] at hg
            have HG := Aside0.mk hg
            clear hg e1 e2
            have hd : decide (s.size < 76) = true := decide_eq_true h3
            have hi : decide ((s.size : Int) < 76) = true := decide_eq_true (by omega)
            have hbig : (9223372036854775807 < s.size + 2) = False := eq_false (by omega)
            go_wp2_with fail
            refine (bld_WriteString w.heap.size w.heap.size _ _ _ hI (by rw [Lib.byteCells_length, ByteArray.size_append]; exact hsz) hszl).mono ?_
            rintro e w2 ⟨rfl, h2, hb2, _⟩
            go_wp2
            go_roundg k1
            case measure => omega
            case rel => exact ⟨_, _, rfl, HG, by rw [bld_cells_append]; exact Or.inr h2, hB.trans hb2⟩
          · rw [show min 76 s.size = 76 from by omega] at hsz hg
            have HG := Aside0.mk hg
            clear hg
            have hd : decide (s.size < 76) = false := decide_eq_false h3
            have hi : decide ((s.size : Int) < 76) = false := decide_eq_false (by omega)
            have hx : (s.extract 0 76).size = 76 := by rw [ByteArray.size_extract]; omega
            go_wp2_with fail
            refine (bld_WriteString w.heap.size w.heap.size _ _ _ hI (by rw [Lib.byteCells_length, ByteArray.size_append, hx]; exact hsz) hszl).mono ?_
            rintro e w2 ⟨rfl, h2, hb2, _⟩
            go_wp2
            go_roundg k1
            case measure => omega
            case rel => exact ⟨_, _, rfl, HG, by rw [bld_cells_append]; exact Or.inr h2, hB.trans hb2⟩
        · rw [if_neg hsz] at hg
          exact absurd hg (by simp)

/-! ### bulletinlaw18_works: function 6 -/
def bulletinlaw18_works.f (k : Nat)  : Option (Bool) := (b64_Decode.f k (⟨#[97, 71, 13, 10, 107, 104]⟩ : ByteArray)).bind fun bt117 => ((b64_Decode.f k (⟨#[89, 82, 61, 61]⟩ : ByteArray)).bind fun bt119 => ((b64_Plain.f k (⟨#[104, 105, 33]⟩ : ByteArray)).bind fun t121 => (if t121.toList = ([97, 71, 107, 104] : List UInt8) then ((b64_Encode.f k (⟨#[97]⟩ : ByteArray)).bind fun t122 => (if t122.toList = ([89, 81, 61, 61, 13, 10] : List UInt8) then (if bt117.1.toList = ([104, 105, 33] : List UInt8) then (if bt117.2 = 0 then (some (bt119.2 == 3)) else (some false)) else (some false)) else (some false))) else (some false))))
theorem bulletinlaw18_works.mono : ∀ k, LeO (bulletinlaw18_works.f k ) (bulletinlaw18_works.f (k + 1) ) := by
  intro  k
  unfold bulletinlaw18_works.f
  repeat' first
      | (with_reducible exact b64_Decode.mono _ _)
      | (with_reducible exact b64_Encode.mono _ _)
      | (with_reducible exact b64_Plain.mono _ _)
      | (with_reducible exact LeO.refl _)
      | (with_reducible exact LeO.none _)
      | (with_reducible refine LeO.ite ?_ ?_)
      | (with_reducible refine LeO.bind ?_ (fun _ => ?_))
      | exact b64_Decode.mono _ _
      | exact b64_Encode.mono _ _
      | exact b64_Plain.mono _ _
      | exact LeO.none _
      | refine LeO.ite ?_ ?_
      | refine LeO.bind ?_ (fun _ => ?_)
set_option maxHeartbeats 8000000 in
set_option maxRecDepth 100000 in
theorem bulletinlaw18_works.calls (k : Nat)  (r : Bool) (w : World) (h : bulletinlaw18_works.f k  = some r) :
    Calls Tryd.prog 6 #[] w fun e w' => e = .returned (.bool r) ∧ Below w.heap.size w w' := by
  have HB := Aside0.mk (Below.refl w.heap.size w)
  have H : ((b64_Decode.f k (⟨#[97, 71, 13, 10, 107, 104]⟩ : ByteArray)).bind fun bt117 => ((b64_Decode.f k (⟨#[89, 82, 61, 61]⟩ : ByteArray)).bind fun bt119 => ((b64_Plain.f k (⟨#[104, 105, 33]⟩ : ByteArray)).bind fun t121 => (if t121.toList = ([97, 71, 107, 104] : List UInt8) then ((b64_Encode.f k (⟨#[97]⟩ : ByteArray)).bind fun t122 => (if t122.toList = ([89, 81, 61, 61, 13, 10] : List UInt8) then (if bt117.1.toList = ([104, 105, 33] : List UInt8) then (if bt117.2 = 0 then (some (bt119.2 == 3)) else (some false)) else (some false)) else (some false))) else (some false))))) = some r := h
  clear h
  replace H := Option.bind_eq_some_iff.mp H
  obtain ⟨⟨t117, t118⟩, A10, H⟩ := H
  replace H : ((b64_Decode.f k (⟨#[89, 82, 61, 61]⟩ : ByteArray)).bind fun bt119 => ((b64_Plain.f k (⟨#[104, 105, 33]⟩ : ByteArray)).bind fun t121 => (if t121.toList = ([97, 71, 107, 104] : List UInt8) then ((b64_Encode.f k (⟨#[97]⟩ : ByteArray)).bind fun t122 => (if t122.toList = ([89, 81, 61, 61, 13, 10] : List UInt8) then (if t117.toList = ([104, 105, 33] : List UInt8) then (if t118 = 0 then (some (bt119.2 == 3)) else (some false)) else (some false)) else (some false))) else (some false)))) = some r := H
  have A1 := Aside0.mk A10
  clear A10
  replace H := Option.bind_eq_some_iff.mp H
  obtain ⟨⟨t119, t120⟩, A20, H⟩ := H
  replace H : ((b64_Plain.f k (⟨#[104, 105, 33]⟩ : ByteArray)).bind fun t121 => (if t121.toList = ([97, 71, 107, 104] : List UInt8) then ((b64_Encode.f k (⟨#[97]⟩ : ByteArray)).bind fun t122 => (if t122.toList = ([89, 81, 61, 61, 13, 10] : List UInt8) then (if t117.toList = ([104, 105, 33] : List UInt8) then (if t118 = 0 then (some (t120 == 3)) else (some false)) else (some false)) else (some false))) else (some false))) = some r := H
  have A2 := Aside0.mk A20
  clear A20
  replace H := Option.bind_eq_some_iff.mp H
  obtain ⟨t121, A30, H⟩ := H
  replace H : (if t121.toList = ([97, 71, 107, 104] : List UInt8) then ((b64_Encode.f k (⟨#[97]⟩ : ByteArray)).bind fun t122 => (if t122.toList = ([89, 81, 61, 61, 13, 10] : List UInt8) then (if t117.toList = ([104, 105, 33] : List UInt8) then (if t118 = 0 then (some (t120 == 3)) else (some false)) else (some false)) else (some false))) else (some false)) = some r := H
  have A3 := Aside0.mk A30
  clear A30
  by_cases c4 : t121.toList = ([97, 71, 107, 104] : List UInt8)
  · rw [if_pos c4] at H
    have c4b0 : (t121.toList == ([97, 71, 107, 104] : List UInt8)) = true := beq_iff_eq.mpr c4
    have c4b1 : (t121.toList != ([97, 71, 107, 104] : List UInt8)) = false := bne_eq_false_iff_eq.mpr c4
    clear c4
    replace H := Option.bind_eq_some_iff.mp H
    obtain ⟨t122, A50, H⟩ := H
    replace H : (if t122.toList = ([89, 81, 61, 61, 13, 10] : List UInt8) then (if t117.toList = ([104, 105, 33] : List UInt8) then (if t118 = 0 then (some (t120 == 3)) else (some false)) else (some false)) else (some false)) = some r := H
    have A5 := Aside0.mk A50
    clear A50
    by_cases c6 : t122.toList = ([89, 81, 61, 61, 13, 10] : List UInt8)
    · rw [if_pos c6] at H
      have c6b0 : (t122.toList == ([89, 81, 61, 61, 13, 10] : List UInt8)) = true := beq_iff_eq.mpr c6
      have c6b1 : (t122.toList != ([89, 81, 61, 61, 13, 10] : List UInt8)) = false := bne_eq_false_iff_eq.mpr c6
      clear c6
      by_cases c7 : t117.toList = ([104, 105, 33] : List UInt8)
      · rw [if_pos c7] at H
        have c7b0 : (t117.toList == ([104, 105, 33] : List UInt8)) = true := beq_iff_eq.mpr c7
        have c7b1 : (t117.toList != ([104, 105, 33] : List UInt8)) = false := bne_eq_false_iff_eq.mpr c7
        clear c7
        by_cases c8 : t118 = 0
        · rw [if_pos c8] at H
          have c8b0 : (t118 == 0) = true := beq_iff_eq.mpr c8
          have c8b1 : (t118 != 0) = false := bne_eq_false_iff_eq.mpr c8
          clear c8
          obtain rfl := Option.some.inj H
          go_enter Tryd.func6, Tryd.ntmps6
          go_wp2_with (first | ((with_reducible refine gate_callee (f := 7) rfl ?_); refine goesL_ (some 6) rfl rfl Tryd.func7 (by kernel_rfl) rfl #[.string (⟨#[97, 71, 13, 10, 107, 104]⟩ : ByteArray)] rfl (by (try simp only [List.map_toArray, List.map_cons, List.map_nil]); first | done | rfl | (simp only [List.length_drop, List.length_take]; rfl)) ?_; (with_reducible refine (b64_Decode.calls k (⟨#[97, 71, 13, 10, 107, 104]⟩ : ByteArray) t117 t118 _ A1.out).mono ?_); rintro e w9 ⟨rfl, hb⟩; refine ⟨_, rfl, ?_⟩; have n0_ := Aside0.mk (below_step (by repeat (first | (with_reducible first | exact HB.out | apply below_alloc | apply pw_below_drewN | apply below_drew1) | exact HB.out)) hb); clear HB; have HB := n0_; clear n0_; (try clear hb); (try clear hb2); (try clear hk); (try clear hi)) | ((with_reducible refine gate_callee (f := 7) rfl ?_); refine goesL_ (some 10) rfl rfl Tryd.func7 (by kernel_rfl) rfl #[.string (⟨#[89, 82, 61, 61]⟩ : ByteArray)] rfl (by (try simp only [List.map_toArray, List.map_cons, List.map_nil]); first | done | rfl | (simp only [List.length_drop, List.length_take]; rfl)) ?_; (with_reducible refine (b64_Decode.calls k (⟨#[89, 82, 61, 61]⟩ : ByteArray) t119 t120 _ A2.out).mono ?_); rintro e w10 ⟨rfl, hb⟩; refine ⟨_, rfl, ?_⟩; have n0_ := Aside0.mk (below_step (by repeat (first | (with_reducible first | exact HB.out | apply below_alloc | apply pw_below_drewN | apply below_drew1) | exact HB.out)) hb); clear HB; have HB := n0_; clear n0_; (try clear hb); (try clear hb2); (try clear hk); (try clear hi)) | ((with_reducible refine gate_callee (f := 9) rfl ?_); refine goesL_ (some 13) rfl rfl Tryd.func9 (by kernel_rfl) rfl #[.string (⟨#[104, 105, 33]⟩ : ByteArray)] rfl (by (try simp only [List.map_toArray, List.map_cons, List.map_nil]); first | done | rfl | (simp only [List.length_drop, List.length_take]; rfl)) ?_; (with_reducible refine (b64_Plain.calls k (⟨#[104, 105, 33]⟩ : ByteArray) t121 _ A3.out).mono ?_); rintro e w11 ⟨rfl, hb⟩; refine ⟨_, rfl, ?_⟩; have n0_ := Aside0.mk (below_step (by repeat (first | (with_reducible first | exact HB.out | apply below_alloc | apply pw_below_drewN | apply below_drew1) | exact HB.out)) hb); clear HB; have HB := n0_; clear n0_; (try clear hb); (try clear hb2); (try clear hk); (try clear hi)) | (go_at_call 11; (with_reducible refine (b64_Encode.calls k (⟨#[97]⟩ : ByteArray) t122 _ A5.out).mono ?_); rintro e w12 ⟨rfl, hb⟩; have n0_ := Aside0.mk (below_step (by repeat (first | (with_reducible first | exact HB.out | apply below_alloc | apply pw_below_drewN | apply below_drew1) | exact HB.out)) hb); clear HB; have HB := n0_; clear n0_; (try clear hb); (try clear hb2); (try clear hk); (try clear hi)))
          go_ret
          exact ⟨by first | rfl | (simp [errW_none, errW_some] <;> rfl) | (simp [*, errW_none, errW_some] <;> rfl), by repeat (first | (with_reducible first | exact HB.out | apply below_alloc | apply pw_below_drewN | apply below_drew1) | exact HB.out)⟩
        · rw [if_neg c8] at H
          have c8b0 : (t118 == 0) = false := beq_eq_false_iff_ne.mpr c8
          have c8b1 : (t118 != 0) = true := bne_iff_ne.mpr c8
          obtain rfl := Option.some.inj H
          go_enter Tryd.func6, Tryd.ntmps6
          go_wp2_with (first | ((with_reducible refine gate_callee (f := 7) rfl ?_); refine goesL_ (some 6) rfl rfl Tryd.func7 (by kernel_rfl) rfl #[.string (⟨#[97, 71, 13, 10, 107, 104]⟩ : ByteArray)] rfl (by (try simp only [List.map_toArray, List.map_cons, List.map_nil]); first | done | rfl | (simp only [List.length_drop, List.length_take]; rfl)) ?_; (with_reducible refine (b64_Decode.calls k (⟨#[97, 71, 13, 10, 107, 104]⟩ : ByteArray) t117 t118 _ A1.out).mono ?_); rintro e w13 ⟨rfl, hb⟩; refine ⟨_, rfl, ?_⟩; have n0_ := Aside0.mk (below_step (by repeat (first | (with_reducible first | exact HB.out | apply below_alloc | apply pw_below_drewN | apply below_drew1) | exact HB.out)) hb); clear HB; have HB := n0_; clear n0_; (try clear hb); (try clear hb2); (try clear hk); (try clear hi)) | ((with_reducible refine gate_callee (f := 7) rfl ?_); refine goesL_ (some 10) rfl rfl Tryd.func7 (by kernel_rfl) rfl #[.string (⟨#[89, 82, 61, 61]⟩ : ByteArray)] rfl (by (try simp only [List.map_toArray, List.map_cons, List.map_nil]); first | done | rfl | (simp only [List.length_drop, List.length_take]; rfl)) ?_; (with_reducible refine (b64_Decode.calls k (⟨#[89, 82, 61, 61]⟩ : ByteArray) t119 t120 _ A2.out).mono ?_); rintro e w14 ⟨rfl, hb⟩; refine ⟨_, rfl, ?_⟩; have n0_ := Aside0.mk (below_step (by repeat (first | (with_reducible first | exact HB.out | apply below_alloc | apply pw_below_drewN | apply below_drew1) | exact HB.out)) hb); clear HB; have HB := n0_; clear n0_; (try clear hb); (try clear hb2); (try clear hk); (try clear hi)) | ((with_reducible refine gate_callee (f := 9) rfl ?_); refine goesL_ (some 13) rfl rfl Tryd.func9 (by kernel_rfl) rfl #[.string (⟨#[104, 105, 33]⟩ : ByteArray)] rfl (by (try simp only [List.map_toArray, List.map_cons, List.map_nil]); first | done | rfl | (simp only [List.length_drop, List.length_take]; rfl)) ?_; (with_reducible refine (b64_Plain.calls k (⟨#[104, 105, 33]⟩ : ByteArray) t121 _ A3.out).mono ?_); rintro e w15 ⟨rfl, hb⟩; refine ⟨_, rfl, ?_⟩; have n0_ := Aside0.mk (below_step (by repeat (first | (with_reducible first | exact HB.out | apply below_alloc | apply pw_below_drewN | apply below_drew1) | exact HB.out)) hb); clear HB; have HB := n0_; clear n0_; (try clear hb); (try clear hb2); (try clear hk); (try clear hi)) | (go_at_call 11; (with_reducible refine (b64_Encode.calls k (⟨#[97]⟩ : ByteArray) t122 _ A5.out).mono ?_); rintro e w16 ⟨rfl, hb⟩; have n0_ := Aside0.mk (below_step (by repeat (first | (with_reducible first | exact HB.out | apply below_alloc | apply pw_below_drewN | apply below_drew1) | exact HB.out)) hb); clear HB; have HB := n0_; clear n0_; (try clear hb); (try clear hb2); (try clear hk); (try clear hi)))
          go_ret
          exact ⟨by first | rfl | (simp [errW_none, errW_some] <;> rfl) | (simp [*, errW_none, errW_some] <;> rfl), by repeat (first | (with_reducible first | exact HB.out | apply below_alloc | apply pw_below_drewN | apply below_drew1) | exact HB.out)⟩
      · rw [if_neg c7] at H
        have c7b0 : (t117.toList == ([104, 105, 33] : List UInt8)) = false := beq_eq_false_iff_ne.mpr c7
        have c7b1 : (t117.toList != ([104, 105, 33] : List UInt8)) = true := bne_iff_ne.mpr c7
        obtain rfl := Option.some.inj H
        go_enter Tryd.func6, Tryd.ntmps6
        go_wp2_with (first | ((with_reducible refine gate_callee (f := 7) rfl ?_); refine goesL_ (some 6) rfl rfl Tryd.func7 (by kernel_rfl) rfl #[.string (⟨#[97, 71, 13, 10, 107, 104]⟩ : ByteArray)] rfl (by (try simp only [List.map_toArray, List.map_cons, List.map_nil]); first | done | rfl | (simp only [List.length_drop, List.length_take]; rfl)) ?_; (with_reducible refine (b64_Decode.calls k (⟨#[97, 71, 13, 10, 107, 104]⟩ : ByteArray) t117 t118 _ A1.out).mono ?_); rintro e w17 ⟨rfl, hb⟩; refine ⟨_, rfl, ?_⟩; have n0_ := Aside0.mk (below_step (by repeat (first | (with_reducible first | exact HB.out | apply below_alloc | apply pw_below_drewN | apply below_drew1) | exact HB.out)) hb); clear HB; have HB := n0_; clear n0_; (try clear hb); (try clear hb2); (try clear hk); (try clear hi)) | ((with_reducible refine gate_callee (f := 7) rfl ?_); refine goesL_ (some 10) rfl rfl Tryd.func7 (by kernel_rfl) rfl #[.string (⟨#[89, 82, 61, 61]⟩ : ByteArray)] rfl (by (try simp only [List.map_toArray, List.map_cons, List.map_nil]); first | done | rfl | (simp only [List.length_drop, List.length_take]; rfl)) ?_; (with_reducible refine (b64_Decode.calls k (⟨#[89, 82, 61, 61]⟩ : ByteArray) t119 t120 _ A2.out).mono ?_); rintro e w18 ⟨rfl, hb⟩; refine ⟨_, rfl, ?_⟩; have n0_ := Aside0.mk (below_step (by repeat (first | (with_reducible first | exact HB.out | apply below_alloc | apply pw_below_drewN | apply below_drew1) | exact HB.out)) hb); clear HB; have HB := n0_; clear n0_; (try clear hb); (try clear hb2); (try clear hk); (try clear hi)) | ((with_reducible refine gate_callee (f := 9) rfl ?_); refine goesL_ (some 13) rfl rfl Tryd.func9 (by kernel_rfl) rfl #[.string (⟨#[104, 105, 33]⟩ : ByteArray)] rfl (by (try simp only [List.map_toArray, List.map_cons, List.map_nil]); first | done | rfl | (simp only [List.length_drop, List.length_take]; rfl)) ?_; (with_reducible refine (b64_Plain.calls k (⟨#[104, 105, 33]⟩ : ByteArray) t121 _ A3.out).mono ?_); rintro e w19 ⟨rfl, hb⟩; refine ⟨_, rfl, ?_⟩; have n0_ := Aside0.mk (below_step (by repeat (first | (with_reducible first | exact HB.out | apply below_alloc | apply pw_below_drewN | apply below_drew1) | exact HB.out)) hb); clear HB; have HB := n0_; clear n0_; (try clear hb); (try clear hb2); (try clear hk); (try clear hi)) | (go_at_call 11; (with_reducible refine (b64_Encode.calls k (⟨#[97]⟩ : ByteArray) t122 _ A5.out).mono ?_); rintro e w20 ⟨rfl, hb⟩; have n0_ := Aside0.mk (below_step (by repeat (first | (with_reducible first | exact HB.out | apply below_alloc | apply pw_below_drewN | apply below_drew1) | exact HB.out)) hb); clear HB; have HB := n0_; clear n0_; (try clear hb); (try clear hb2); (try clear hk); (try clear hi)))
        go_ret
        exact ⟨by first | rfl | (simp [errW_none, errW_some] <;> rfl) | (simp [*, errW_none, errW_some] <;> rfl), by repeat (first | (with_reducible first | exact HB.out | apply below_alloc | apply pw_below_drewN | apply below_drew1) | exact HB.out)⟩
    · rw [if_neg c6] at H
      have c6b0 : (t122.toList == ([89, 81, 61, 61, 13, 10] : List UInt8)) = false := beq_eq_false_iff_ne.mpr c6
      have c6b1 : (t122.toList != ([89, 81, 61, 61, 13, 10] : List UInt8)) = true := bne_iff_ne.mpr c6
      obtain rfl := Option.some.inj H
      go_enter Tryd.func6, Tryd.ntmps6
      go_wp2_with (first | ((with_reducible refine gate_callee (f := 7) rfl ?_); refine goesL_ (some 6) rfl rfl Tryd.func7 (by kernel_rfl) rfl #[.string (⟨#[97, 71, 13, 10, 107, 104]⟩ : ByteArray)] rfl (by (try simp only [List.map_toArray, List.map_cons, List.map_nil]); first | done | rfl | (simp only [List.length_drop, List.length_take]; rfl)) ?_; (with_reducible refine (b64_Decode.calls k (⟨#[97, 71, 13, 10, 107, 104]⟩ : ByteArray) t117 t118 _ A1.out).mono ?_); rintro e w21 ⟨rfl, hb⟩; refine ⟨_, rfl, ?_⟩; have n0_ := Aside0.mk (below_step (by repeat (first | (with_reducible first | exact HB.out | apply below_alloc | apply pw_below_drewN | apply below_drew1) | exact HB.out)) hb); clear HB; have HB := n0_; clear n0_; (try clear hb); (try clear hb2); (try clear hk); (try clear hi)) | ((with_reducible refine gate_callee (f := 7) rfl ?_); refine goesL_ (some 10) rfl rfl Tryd.func7 (by kernel_rfl) rfl #[.string (⟨#[89, 82, 61, 61]⟩ : ByteArray)] rfl (by (try simp only [List.map_toArray, List.map_cons, List.map_nil]); first | done | rfl | (simp only [List.length_drop, List.length_take]; rfl)) ?_; (with_reducible refine (b64_Decode.calls k (⟨#[89, 82, 61, 61]⟩ : ByteArray) t119 t120 _ A2.out).mono ?_); rintro e w22 ⟨rfl, hb⟩; refine ⟨_, rfl, ?_⟩; have n0_ := Aside0.mk (below_step (by repeat (first | (with_reducible first | exact HB.out | apply below_alloc | apply pw_below_drewN | apply below_drew1) | exact HB.out)) hb); clear HB; have HB := n0_; clear n0_; (try clear hb); (try clear hb2); (try clear hk); (try clear hi)) | ((with_reducible refine gate_callee (f := 9) rfl ?_); refine goesL_ (some 13) rfl rfl Tryd.func9 (by kernel_rfl) rfl #[.string (⟨#[104, 105, 33]⟩ : ByteArray)] rfl (by (try simp only [List.map_toArray, List.map_cons, List.map_nil]); first | done | rfl | (simp only [List.length_drop, List.length_take]; rfl)) ?_; (with_reducible refine (b64_Plain.calls k (⟨#[104, 105, 33]⟩ : ByteArray) t121 _ A3.out).mono ?_); rintro e w23 ⟨rfl, hb⟩; refine ⟨_, rfl, ?_⟩; have n0_ := Aside0.mk (below_step (by repeat (first | (with_reducible first | exact HB.out | apply below_alloc | apply pw_below_drewN | apply below_drew1) | exact HB.out)) hb); clear HB; have HB := n0_; clear n0_; (try clear hb); (try clear hb2); (try clear hk); (try clear hi)) | (go_at_call 11; (with_reducible refine (b64_Encode.calls k (⟨#[97]⟩ : ByteArray) t122 _ A5.out).mono ?_); rintro e w24 ⟨rfl, hb⟩; have n0_ := Aside0.mk (below_step (by repeat (first | (with_reducible first | exact HB.out | apply below_alloc | apply pw_below_drewN | apply below_drew1) | exact HB.out)) hb); clear HB; have HB := n0_; clear n0_; (try clear hb); (try clear hb2); (try clear hk); (try clear hi)))
      go_ret
      exact ⟨by first | rfl | (simp [errW_none, errW_some] <;> rfl) | (simp [*, errW_none, errW_some] <;> rfl), by repeat (first | (with_reducible first | exact HB.out | apply below_alloc | apply pw_below_drewN | apply below_drew1) | exact HB.out)⟩
  · rw [if_neg c4] at H
    have c4b0 : (t121.toList == ([97, 71, 107, 104] : List UInt8)) = false := beq_eq_false_iff_ne.mpr c4
    have c4b1 : (t121.toList != ([97, 71, 107, 104] : List UInt8)) = true := bne_iff_ne.mpr c4
    obtain rfl := Option.some.inj H
    go_enter Tryd.func6, Tryd.ntmps6
    go_wp2_with (first | ((with_reducible refine gate_callee (f := 7) rfl ?_); refine goesL_ (some 6) rfl rfl Tryd.func7 (by kernel_rfl) rfl #[.string (⟨#[97, 71, 13, 10, 107, 104]⟩ : ByteArray)] rfl (by (try simp only [List.map_toArray, List.map_cons, List.map_nil]); first | done | rfl | (simp only [List.length_drop, List.length_take]; rfl)) ?_; (with_reducible refine (b64_Decode.calls k (⟨#[97, 71, 13, 10, 107, 104]⟩ : ByteArray) t117 t118 _ A1.out).mono ?_); rintro e w25 ⟨rfl, hb⟩; refine ⟨_, rfl, ?_⟩; have n0_ := Aside0.mk (below_step (by repeat (first | (with_reducible first | exact HB.out | apply below_alloc | apply pw_below_drewN | apply below_drew1) | exact HB.out)) hb); clear HB; have HB := n0_; clear n0_; (try clear hb); (try clear hb2); (try clear hk); (try clear hi)) | ((with_reducible refine gate_callee (f := 7) rfl ?_); refine goesL_ (some 10) rfl rfl Tryd.func7 (by kernel_rfl) rfl #[.string (⟨#[89, 82, 61, 61]⟩ : ByteArray)] rfl (by (try simp only [List.map_toArray, List.map_cons, List.map_nil]); first | done | rfl | (simp only [List.length_drop, List.length_take]; rfl)) ?_; (with_reducible refine (b64_Decode.calls k (⟨#[89, 82, 61, 61]⟩ : ByteArray) t119 t120 _ A2.out).mono ?_); rintro e w26 ⟨rfl, hb⟩; refine ⟨_, rfl, ?_⟩; have n0_ := Aside0.mk (below_step (by repeat (first | (with_reducible first | exact HB.out | apply below_alloc | apply pw_below_drewN | apply below_drew1) | exact HB.out)) hb); clear HB; have HB := n0_; clear n0_; (try clear hb); (try clear hb2); (try clear hk); (try clear hi)) | ((with_reducible refine gate_callee (f := 9) rfl ?_); refine goesL_ (some 13) rfl rfl Tryd.func9 (by kernel_rfl) rfl #[.string (⟨#[104, 105, 33]⟩ : ByteArray)] rfl (by (try simp only [List.map_toArray, List.map_cons, List.map_nil]); first | done | rfl | (simp only [List.length_drop, List.length_take]; rfl)) ?_; (with_reducible refine (b64_Plain.calls k (⟨#[104, 105, 33]⟩ : ByteArray) t121 _ A3.out).mono ?_); rintro e w27 ⟨rfl, hb⟩; refine ⟨_, rfl, ?_⟩; have n0_ := Aside0.mk (below_step (by repeat (first | (with_reducible first | exact HB.out | apply below_alloc | apply pw_below_drewN | apply below_drew1) | exact HB.out)) hb); clear HB; have HB := n0_; clear n0_; (try clear hb); (try clear hb2); (try clear hk); (try clear hi)))
    go_ret
    exact ⟨by first | rfl | (simp [errW_none, errW_some] <;> rfl) | (simp [*, errW_none, errW_some] <;> rfl), by repeat (first | (with_reducible first | exact HB.out | apply below_alloc | apply pw_below_drewN | apply below_drew1) | exact HB.out)⟩

end Go.Proofs.YtgbkjgngpceeiaaDoor.X
