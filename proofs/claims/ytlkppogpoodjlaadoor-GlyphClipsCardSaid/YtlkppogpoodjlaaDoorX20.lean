-- Written by a program (print.py's text, with contracts of this session's own put in). Not trusted: Lean checks it.
import Derived.Test.YtlkppogpoodjlaaDoorX0
import Derived.Test.YtlkppogpoodjlaaDoorX3
import Derived.Test.YtlkppogpoodjlaaDoorX5
import Derived.Test.YtlkppogpoodjlaaDoorX9
import Derived.Test.YtlkppogpoodjlaaDoorX17
namespace Go.Proofs.YtlkppogpoodjlaaDoor.X
open Go.RowKit Go.Proofs.YtlkppogpoodjlaaDoorW.PrintWords Go.Proofs.YtlkppogpoodjlaaDoorW.PrintLast Go.Proofs.YtlkppogpoodjlaaDoorW.PrintMore
attribute [local go_sem] max2_int min2_int max_two min_two max_three min_three max_four min_four   -- for this text's walks alone
set_option linter.unusedVariables false
set_option linter.unusedSimpArgs false

/-! ### bulletinlaw06_GlyphClips: function 6 -/
def bulletinlaw06_GlyphClips.j0 : Nat → ByteArray → Int → Int → Bool → Option (Bool)
  | 0, _, _, _, _ => none
  | k + 1, x0, x1, x2, x26 => if x26 = true then (some true) else ((glyph_Clip.f k x0 x1).bind fun t201 => ((glyph_Clip.f k x0 x2).bind fun t202 => (if (t201.size : Int) ≤ (t202.size : Int) then (if 0 ≤ (t201.size : Int) then (if (t201.size : Int) ≤ (x0.size : Int) then (if (x0.extract 0 ((t201.size : Int) : Int).toNat).toList = t201.toList then (if 0 ≤ (t202.size : Int) then (if (t202.size : Int) ≤ (x0.size : Int) then (if (x0.extract 0 ((t202.size : Int) : Int).toNat).toList = t202.toList then ((glyph_Count.f k t201).bind fun t203 => ((glyph_Count.f k x0).bind fun t204 => (if t203 = (mn x1 t204) then ((glyph_Clip.f k t202 x1).bind fun t205 => (if t205.toList = t201.toList then ((glyph_Words.f x0).bind fun t206 => (if 1 + x0.size ≤ 9223372036854775807 then (if ((⟨#[32]⟩ : ByteArray) ++ x0).size + 3 ≤ 9223372036854775807 then ((glyph_Words.f (((⟨#[32]⟩ : ByteArray) ++ x0) ++ (⟨#[13, 10, 9]⟩ : ByteArray))).bind fun t209 => ((bulletinbook_SameTexts.f k t206 t209).bind fun t212 => (some t212))) else (none)) else (none))) else (some false))) else (some false)))) else (some false)) else (none)) else (none)) else (some false)) else (none)) else (none)) else (some false))))
def bulletinlaw06_GlyphClips.f (k : Nat) (a0 : ByteArray) (a1 : Int) (a2 : Int) : Option (Bool) := (bulletinlaw06_works.f k).bind fun t200 => (if t200 = true then (if (a0.size : Int) > 500 then (bulletinlaw06_GlyphClips.j0 k a0 a1 a2 true) else (if a1 < 0 then (bulletinlaw06_GlyphClips.j0 k a0 a1 a2 true) else (if a2 < a1 then (bulletinlaw06_GlyphClips.j0 k a0 a1 a2 true) else (bulletinlaw06_GlyphClips.j0 k a0 a1 a2 (decide (a2 > 1000)))))) else (some false))
theorem bulletinlaw06_GlyphClips.mono_l : ∀ k, (∀ y0 y1 y2 y3, LeO (bulletinlaw06_GlyphClips.j0 k y0 y1 y2 y3) (bulletinlaw06_GlyphClips.j0 (k + 1) y0 y1 y2 y3))
  | 0 => fun _ _ _ _ r h => by simp [bulletinlaw06_GlyphClips.j0] at h
  | k + 1 => by
    have ih0 := bulletinlaw06_GlyphClips.mono_l k
    · intro y0 y1 y2 y3
      unfold bulletinlaw06_GlyphClips.j0
      repeat' first
      | (with_reducible exact ih0 _ _ _ _)
      | (with_reducible exact bulletinbook_SameTexts.mono _ _ _)
      | (with_reducible exact bulletinlaw06_works.mono _)
      | (with_reducible exact glyph_Clip.mono _ _ _)
      | (with_reducible exact glyph_Count.mono _ _)
      | (with_reducible exact LeO.refl _)
      | (with_reducible exact LeO.none _)
      | (with_reducible refine LeO.ite ?_ ?_)
      | (with_reducible refine LeO.bind ?_ (fun _ => ?_))
      | exact ih0 _ _ _ _
      | exact bulletinbook_SameTexts.mono _ _ _
      | exact bulletinlaw06_works.mono _
      | exact glyph_Clip.mono _ _ _
      | exact glyph_Count.mono _ _
      | exact LeO.none _
      | refine LeO.ite ?_ ?_
      | refine LeO.bind ?_ (fun _ => ?_)
theorem bulletinlaw06_GlyphClips.mono : ∀ a0 a1 a2 k, LeO (bulletinlaw06_GlyphClips.f k a0 a1 a2) (bulletinlaw06_GlyphClips.f (k + 1) a0 a1 a2) := by
  intro a0 a1 a2 k
  have ih0 := bulletinlaw06_GlyphClips.mono_l k
  unfold bulletinlaw06_GlyphClips.f
  repeat' first
      | (with_reducible exact ih0 _ _ _ _)
      | (with_reducible exact bulletinbook_SameTexts.mono _ _ _)
      | (with_reducible exact bulletinlaw06_works.mono _)
      | (with_reducible exact glyph_Clip.mono _ _ _)
      | (with_reducible exact glyph_Count.mono _ _)
      | (with_reducible exact LeO.refl _)
      | (with_reducible exact LeO.none _)
      | (with_reducible refine LeO.ite ?_ ?_)
      | (with_reducible refine LeO.bind ?_ (fun _ => ?_))
      | exact ih0 _ _ _ _
      | exact bulletinbook_SameTexts.mono _ _ _
      | exact bulletinlaw06_works.mono _
      | exact glyph_Clip.mono _ _ _
      | exact glyph_Count.mono _ _
      | exact LeO.none _
      | refine LeO.ite ?_ ?_
      | refine LeO.bind ?_ (fun _ => ?_)
set_option maxHeartbeats 8000000 in
set_option maxRecDepth 100000 in
theorem bulletinlaw06_GlyphClips.calls (k : Nat) (a0 : ByteArray) (a1 : Int) (a2 : Int) (r : Bool) (w : World) (hT0 : Aside0 (Tabs w)) (h : bulletinlaw06_GlyphClips.f k a0 a1 a2 = some r) :
    Calls Tryd.prog 6 #[.string a0, .int .i64 a1, .int .i64 a2] w fun e w' => e = .returned (.bool r) ∧ Below w.heap.size w w' := by
  have HB := Aside0.mk (Below.refl w.heap.size w)
  have H : ((bulletinlaw06_works.f k).bind fun t200 => (if t200 = true then (if (a0.size : Int) > 500 then (bulletinlaw06_GlyphClips.j0 k a0 a1 a2 true) else (if a1 < 0 then (bulletinlaw06_GlyphClips.j0 k a0 a1 a2 true) else (if a2 < a1 then (bulletinlaw06_GlyphClips.j0 k a0 a1 a2 true) else (bulletinlaw06_GlyphClips.j0 k a0 a1 a2 (decide (a2 > 1000)))))) else (some false))) = some r := h
  clear h
  replace H := Option.bind_eq_some_iff.mp H
  obtain ⟨t200, A40, H⟩ := H
  replace H : (if t200 = true then (if (a0.size : Int) > 500 then (bulletinlaw06_GlyphClips.j0 k a0 a1 a2 true) else (if a1 < 0 then (bulletinlaw06_GlyphClips.j0 k a0 a1 a2 true) else (if a2 < a1 then (bulletinlaw06_GlyphClips.j0 k a0 a1 a2 true) else (bulletinlaw06_GlyphClips.j0 k a0 a1 a2 (decide (a2 > 1000)))))) else (some false)) = some r := H
  have A4 := Aside0.mk A40
  clear A40
  by_cases c5 : t200 = true
  · subst c5
    have H1 : (if (a0.size : Int) > 500 then (bulletinlaw06_GlyphClips.j0 k a0 a1 a2 true) else (if a1 < 0 then (bulletinlaw06_GlyphClips.j0 k a0 a1 a2 true) else (if a2 < a1 then (bulletinlaw06_GlyphClips.j0 k a0 a1 a2 true) else (bulletinlaw06_GlyphClips.j0 k a0 a1 a2 (decide (a2 > 1000)))))) = some r := by rw [if_pos rfl] at H; exact H
    clear H
    have H := H1
    clear H1
    have HC6 := Aside0.mk H
    clear H
    go_enter Tryd.func6, Tryd.ntmps6
    go_upto_region 3 with (first | ((with_reducible refine gate_callee (f := 7) rfl ?_); refine goesL_ (some 9) rfl rfl Tryd.func7 (by kernel_rfl) rfl #[] rfl (by (try simp only [List.map_toArray, List.map_cons, List.map_nil]); first | done | rfl | (simp only [List.length_drop, List.length_take]; rfl)) ?_; (with_reducible refine (bulletinlaw06_works.calls (hT0 := by first | exact hT0 | exact Tabs.a hT0 (by repeat (first | (with_reducible first | exact HB.out | apply below_alloc | apply pw_below_drewN | apply below_drew1) | exact HB.out))) k  true _ A4.out).mono ?_); rintro e w7 ⟨rfl, hb⟩; refine ⟨_, rfl, ?_⟩; have n0_ := Aside0.mk (below_step (by repeat (first | (with_reducible first | exact HB.out | apply below_alloc | apply pw_below_drewN | apply below_drew1) | exact HB.out)) hb); clear HB; have HB := n0_; clear n0_; (try clear hb); (try clear hb2); (try clear hk); (try clear hi)))
    (try simp only [Act.put, List.setIfInBounds_toArray, List.set_cons_zero, List.set_cons_succ])
    go_cut [26] (fun v26 wc => ∃ (kq : Nat) (x26_5 : Bool), v26 = .bool x26_5 ∧ Aside0 (bulletinlaw06_GlyphClips.j0 kq a0 a1 a2 x26_5 = some r) ∧ Aside0 (kq ≤ k) ∧ Aside0 (Below w.heap.size w wc))
    case first =>
      have H := HC6.out
      clear HC6
      by_cases c8 : (a0.size : Int) > 500
      · rw [if_pos c8] at H
        have c8b0 : decide (500 < (a0.size : Int)) = true := decide_eq_true c8
        have c8b1 : decide (500 < a0.size) = true := decide_eq_true (by omega)
        clear c8
        (first | rw [c8b0] | (simp only [i64_w, i32_w]; rw [c8b0]) | skip)
        have H' := Aside0.mk H
        clear H
        go_wp2
        go_meet
        case rel => exact ⟨_, (true), (by first | rfl | (simp; done) | (simp [*]; done)), H', ⟨by first | omega | exact Nat.le_refl _⟩, ⟨by repeat (first | (with_reducible first | exact HB.out | apply below_alloc | apply pw_below_drewN | apply below_drew1) | exact HB.out)⟩⟩
      · rw [if_neg c8] at H
        have c8b0 : decide (500 < (a0.size : Int)) = false := decide_eq_false c8
        have c8b1 : decide (500 < a0.size) = false := decide_eq_false (by omega)
        clear c8
        (first | rw [c8b0] | (simp only [i64_w, i32_w]; rw [c8b0]) | skip)
        by_cases c9 : a1 < 0
        · rw [if_pos c9] at H
          have c9b0 : decide (a1 < 0) = true := decide_eq_true c9
          clear c9
          have H' := Aside0.mk H
          clear H
          go_wp2
          go_meet
          case rel => exact ⟨_, (true), (by first | rfl | (simp; done) | (simp [*]; done)), H', ⟨by first | omega | exact Nat.le_refl _⟩, ⟨by repeat (first | (with_reducible first | exact HB.out | apply below_alloc | apply pw_below_drewN | apply below_drew1) | exact HB.out)⟩⟩
        · rw [if_neg c9] at H
          have c9b0 : decide (a1 < 0) = false := decide_eq_false c9
          clear c9
          by_cases c10 : a2 < a1
          · rw [if_pos c10] at H
            have c10b0 : decide (a2 < a1) = true := decide_eq_true c10
            clear c10
            have H' := Aside0.mk H
            clear H
            go_wp2
            go_meet
            case rel => exact ⟨_, (true), (by first | rfl | (simp; done) | (simp [*]; done)), H', ⟨by first | omega | exact Nat.le_refl _⟩, ⟨by repeat (first | (with_reducible first | exact HB.out | apply below_alloc | apply pw_below_drewN | apply below_drew1) | exact HB.out)⟩⟩
          · rw [if_neg c10] at H
            have c10b0 : decide (a2 < a1) = false := decide_eq_false c10
            clear c10
            have H' := Aside0.mk H
            clear H
            go_wp2
            go_meet
            case rel => exact ⟨_, (decide (a2 > 1000)), (by first | rfl | (simp; done) | (simp [*]; done)), H', ⟨by first | omega | exact Nat.le_refl _⟩, ⟨by repeat (first | (with_reducible first | exact HB.out | apply below_alloc | apply pw_below_drewN | apply below_drew1) | exact HB.out)⟩⟩
    case rest =>
      clear HC6
      try clear c1
      try clear p2
      try clear c5
      try clear c6
      try clear c7
      try clear c8
      try clear c8b0
      try clear c8b1
      try clear c9
      try clear c9b0
      try clear c10
      try clear c10b0
      obtain ⟨kq, x26_5, rfl, HA, HJ5, HB⟩ := hcut
      cases kq with
      | zero => exact absurd HA.out (by simp [bulletinlaw06_GlyphClips.j0])
      | succ kj5 =>
        have H := HA.out
        clear HA
        simp only [bulletinlaw06_GlyphClips.j0] at H
        by_cases c11 : x26_5 = true
        · subst c11
          have H1 : (some true) = some r := by rw [if_pos rfl] at H; exact H
          clear H
          have H := H1
          clear H1
          obtain rfl := Option.some.inj H
          go_wp2
          go_ret
          exact ⟨by first | rfl | (simp [errW_none, errW_some] <;> rfl) | (simp [*, errW_none, errW_some] <;> rfl), by repeat (first | (with_reducible first | exact HB.out | apply below_alloc | apply pw_below_drewN | apply below_drew1) | exact HB.out)⟩
        · replace c11 := Bool.eq_false_iff.mpr c11
          subst c11
          have H1 : ((glyph_Clip.f kj5 a0 a1).bind fun t201 => ((glyph_Clip.f kj5 a0 a2).bind fun t202 => (if (t201.size : Int) ≤ (t202.size : Int) then (if 0 ≤ (t201.size : Int) then (if (t201.size : Int) ≤ (a0.size : Int) then (if (a0.extract 0 ((t201.size : Int) : Int).toNat).toList = t201.toList then (if 0 ≤ (t202.size : Int) then (if (t202.size : Int) ≤ (a0.size : Int) then (if (a0.extract 0 ((t202.size : Int) : Int).toNat).toList = t202.toList then ((glyph_Count.f kj5 t201).bind fun t203 => ((glyph_Count.f kj5 a0).bind fun t204 => (if t203 = (mn a1 t204) then ((glyph_Clip.f kj5 t202 a1).bind fun t205 => (if t205.toList = t201.toList then ((glyph_Words.f a0).bind fun t206 => (if 1 + a0.size ≤ 9223372036854775807 then (if ((⟨#[32]⟩ : ByteArray) ++ a0).size + 3 ≤ 9223372036854775807 then ((glyph_Words.f (((⟨#[32]⟩ : ByteArray) ++ a0) ++ (⟨#[13, 10, 9]⟩ : ByteArray))).bind fun t209 => ((bulletinbook_SameTexts.f kj5 t206 t209).bind fun t212 => (some t212))) else (none)) else (none))) else (some false))) else (some false)))) else (some false)) else (none)) else (none)) else (some false)) else (none)) else (none)) else (some false)))) = some r := by rw [if_neg (show ¬ (false = true) by decide)] at H; exact H
          clear H
          have H := H1
          clear H1
          replace H := Option.bind_eq_some_iff.mp H
          obtain ⟨t201, A120, H⟩ := H
          replace H : ((glyph_Clip.f kj5 a0 a2).bind fun t202 => (if (t201.size : Int) ≤ (t202.size : Int) then (if 0 ≤ (t201.size : Int) then (if (t201.size : Int) ≤ (a0.size : Int) then (if (a0.extract 0 ((t201.size : Int) : Int).toNat).toList = t201.toList then (if 0 ≤ (t202.size : Int) then (if (t202.size : Int) ≤ (a0.size : Int) then (if (a0.extract 0 ((t202.size : Int) : Int).toNat).toList = t202.toList then ((glyph_Count.f kj5 t201).bind fun t203 => ((glyph_Count.f kj5 a0).bind fun t204 => (if t203 = (mn a1 t204) then ((glyph_Clip.f kj5 t202 a1).bind fun t205 => (if t205.toList = t201.toList then ((glyph_Words.f a0).bind fun t206 => (if 1 + a0.size ≤ 9223372036854775807 then (if ((⟨#[32]⟩ : ByteArray) ++ a0).size + 3 ≤ 9223372036854775807 then ((glyph_Words.f (((⟨#[32]⟩ : ByteArray) ++ a0) ++ (⟨#[13, 10, 9]⟩ : ByteArray))).bind fun t209 => ((bulletinbook_SameTexts.f kj5 t206 t209).bind fun t212 => (some t212))) else (none)) else (none))) else (some false))) else (some false)))) else (some false)) else (none)) else (none)) else (some false)) else (none)) else (none)) else (some false))) = some r := H
          have A12 := Aside0.mk A120
          clear A120
          replace H := Option.bind_eq_some_iff.mp H
          obtain ⟨t202, A130, H⟩ := H
          replace H : (if (t201.size : Int) ≤ (t202.size : Int) then (if 0 ≤ (t201.size : Int) then (if (t201.size : Int) ≤ (a0.size : Int) then (if (a0.extract 0 ((t201.size : Int) : Int).toNat).toList = t201.toList then (if 0 ≤ (t202.size : Int) then (if (t202.size : Int) ≤ (a0.size : Int) then (if (a0.extract 0 ((t202.size : Int) : Int).toNat).toList = t202.toList then ((glyph_Count.f kj5 t201).bind fun t203 => ((glyph_Count.f kj5 a0).bind fun t204 => (if t203 = (mn a1 t204) then ((glyph_Clip.f kj5 t202 a1).bind fun t205 => (if t205.toList = t201.toList then ((glyph_Words.f a0).bind fun t206 => (if 1 + a0.size ≤ 9223372036854775807 then (if ((⟨#[32]⟩ : ByteArray) ++ a0).size + 3 ≤ 9223372036854775807 then ((glyph_Words.f (((⟨#[32]⟩ : ByteArray) ++ a0) ++ (⟨#[13, 10, 9]⟩ : ByteArray))).bind fun t209 => ((bulletinbook_SameTexts.f kj5 t206 t209).bind fun t212 => (some t212))) else (none)) else (none))) else (some false))) else (some false)))) else (some false)) else (none)) else (none)) else (some false)) else (none)) else (none)) else (some false)) = some r := H
          have A13 := Aside0.mk A130
          clear A130
          by_cases c14 : (t201.size : Int) ≤ (t202.size : Int)
          · rw [if_pos c14] at H
            have c14b0 : decide ((t201.size : Int) ≤ (t202.size : Int)) = true := decide_eq_true c14
            have c14b1 : decide (t201.size ≤ t202.size) = true := decide_eq_true (Int.ofNat_le.mp c14)
            clear c14
            by_cases c15 : 0 ≤ (t201.size : Int)
            · rw [if_pos c15] at H
              have c15b0 := eq_true c15
              have c15b1 : decide (0 ≤ (t201.size : Int)) = true := decide_eq_true c15
              clear c15
              by_cases c16 : (t201.size : Int) ≤ (a0.size : Int)
              · rw [if_pos c16] at H
                have c16b0 := eq_true c16
                have c16b1 : decide ((t201.size : Int) ≤ (a0.size : Int)) = true := decide_eq_true c16
                clear c16
                by_cases c17 : (a0.extract 0 ((t201.size : Int) : Int).toNat).toList = t201.toList
                · rw [if_pos c17] at H
                  have c17b0 : ((a0.extract 0 ((t201.size : Int) : Int).toNat).toList == t201.toList) = true := beq_iff_eq.mpr c17
                  try (have c17s0 := c17b0; simp only [ByteArray.size_append, ByteArray.size_extract, Nat.min_self, Xsize_mk, List.size_toArray, List.length_cons, List.length_nil, Nat.zero_add, Nat.reduceAdd, List.length_append, List.length_drop, List.length_take] at c17s0)
                  try (have c17t0 := c17b0; simp only [Int.toNat_natCast] at c17t0)
                  try (have c17v0 := c17b0; simp only [ByteArray.size_append, Xsz_ext, Xsz_ext0, c15b0, c16b0] at c17v0; (try simp only [ByteArray.size_append, ByteArray.size_extract, Nat.min_self, Xsize_mk, List.size_toArray, List.length_cons, List.length_nil, Nat.zero_add, Nat.reduceAdd, List.length_append, List.length_drop, List.length_take] at c17v0))
                  have c17b1 : ((a0.extract 0 ((t201.size : Int) : Int).toNat).toList != t201.toList) = false := bne_eq_false_iff_eq.mpr c17
                  try (have c17s1 := c17b1; simp only [ByteArray.size_append, ByteArray.size_extract, Nat.min_self, Xsize_mk, List.size_toArray, List.length_cons, List.length_nil, Nat.zero_add, Nat.reduceAdd, List.length_append, List.length_drop, List.length_take] at c17s1)
                  try (have c17t1 := c17b1; simp only [Int.toNat_natCast] at c17t1)
                  try (have c17v1 := c17b1; simp only [ByteArray.size_append, Xsz_ext, Xsz_ext0, c15b0, c16b0] at c17v1; (try simp only [ByteArray.size_append, ByteArray.size_extract, Nat.min_self, Xsize_mk, List.size_toArray, List.length_cons, List.length_nil, Nat.zero_add, Nat.reduceAdd, List.length_append, List.length_drop, List.length_take] at c17v1))
                  clear c17
                  by_cases c18 : 0 ≤ (t202.size : Int)
                  · rw [if_pos c18] at H
                    have c18b0 := eq_true c18
                    have c18b1 : decide (0 ≤ (t202.size : Int)) = true := decide_eq_true c18
                    clear c18
                    by_cases c19 : (t202.size : Int) ≤ (a0.size : Int)
                    · rw [if_pos c19] at H
                      have c19b0 := eq_true c19
                      have c19b1 : decide ((t202.size : Int) ≤ (a0.size : Int)) = true := decide_eq_true c19
                      clear c19
                      by_cases c20 : (a0.extract 0 ((t202.size : Int) : Int).toNat).toList = t202.toList
                      · rw [if_pos c20] at H
                        have c20b0 : ((a0.extract 0 ((t202.size : Int) : Int).toNat).toList == t202.toList) = true := beq_iff_eq.mpr c20
                        try (have c20s0 := c20b0; simp only [ByteArray.size_append, ByteArray.size_extract, Nat.min_self, Xsize_mk, List.size_toArray, List.length_cons, List.length_nil, Nat.zero_add, Nat.reduceAdd, List.length_append, List.length_drop, List.length_take] at c20s0)
                        try (have c20t0 := c20b0; simp only [Int.toNat_natCast] at c20t0)
                        try (have c20v0 := c20b0; simp only [ByteArray.size_append, Xsz_ext, Xsz_ext0, c15b0, c16b0, c18b0, c19b0] at c20v0; (try simp only [ByteArray.size_append, ByteArray.size_extract, Nat.min_self, Xsize_mk, List.size_toArray, List.length_cons, List.length_nil, Nat.zero_add, Nat.reduceAdd, List.length_append, List.length_drop, List.length_take] at c20v0))
                        have c20b1 : ((a0.extract 0 ((t202.size : Int) : Int).toNat).toList != t202.toList) = false := bne_eq_false_iff_eq.mpr c20
                        try (have c20s1 := c20b1; simp only [ByteArray.size_append, ByteArray.size_extract, Nat.min_self, Xsize_mk, List.size_toArray, List.length_cons, List.length_nil, Nat.zero_add, Nat.reduceAdd, List.length_append, List.length_drop, List.length_take] at c20s1)
                        try (have c20t1 := c20b1; simp only [Int.toNat_natCast] at c20t1)
                        try (have c20v1 := c20b1; simp only [ByteArray.size_append, Xsz_ext, Xsz_ext0, c15b0, c16b0, c18b0, c19b0] at c20v1; (try simp only [ByteArray.size_append, ByteArray.size_extract, Nat.min_self, Xsize_mk, List.size_toArray, List.length_cons, List.length_nil, Nat.zero_add, Nat.reduceAdd, List.length_append, List.length_drop, List.length_take] at c20v1))
                        clear c20
                        replace H := Option.bind_eq_some_iff.mp H
                        obtain ⟨t203, A210, H⟩ := H
                        replace H : ((glyph_Count.f kj5 a0).bind fun t204 => (if t203 = (mn a1 t204) then ((glyph_Clip.f kj5 t202 a1).bind fun t205 => (if t205.toList = t201.toList then ((glyph_Words.f a0).bind fun t206 => (if 1 + a0.size ≤ 9223372036854775807 then (if ((⟨#[32]⟩ : ByteArray) ++ a0).size + 3 ≤ 9223372036854775807 then ((glyph_Words.f (((⟨#[32]⟩ : ByteArray) ++ a0) ++ (⟨#[13, 10, 9]⟩ : ByteArray))).bind fun t209 => ((bulletinbook_SameTexts.f kj5 t206 t209).bind fun t212 => (some t212))) else (none)) else (none))) else (some false))) else (some false))) = some r := H
                        have A21 := Aside0.mk A210
                        clear A210
                        replace H := Option.bind_eq_some_iff.mp H
                        obtain ⟨t204, A220, H⟩ := H
                        replace H : (if t203 = (mn a1 t204) then ((glyph_Clip.f kj5 t202 a1).bind fun t205 => (if t205.toList = t201.toList then ((glyph_Words.f a0).bind fun t206 => (if 1 + a0.size ≤ 9223372036854775807 then (if ((⟨#[32]⟩ : ByteArray) ++ a0).size + 3 ≤ 9223372036854775807 then ((glyph_Words.f (((⟨#[32]⟩ : ByteArray) ++ a0) ++ (⟨#[13, 10, 9]⟩ : ByteArray))).bind fun t209 => ((bulletinbook_SameTexts.f kj5 t206 t209).bind fun t212 => (some t212))) else (none)) else (none))) else (some false))) else (some false)) = some r := H
                        have A22 := Aside0.mk A220
                        clear A220
                        obtain ⟨ji23, hji23⟩ : ∃ j_ : Int, (mn a1 t204) = j_ := ⟨_, rfl⟩
                        replace H : (if t203 = (ji23) then ((glyph_Clip.f kj5 t202 a1).bind fun t205 => (if t205.toList = t201.toList then ((glyph_Words.f a0).bind fun t206 => (if 1 + a0.size ≤ 9223372036854775807 then (if ((⟨#[32]⟩ : ByteArray) ++ a0).size + 3 ≤ 9223372036854775807 then ((glyph_Words.f (((⟨#[32]⟩ : ByteArray) ++ a0) ++ (⟨#[13, 10, 9]⟩ : ByteArray))).bind fun t209 => ((bulletinbook_SameTexts.f kj5 t206 t209).bind fun t212 => (some t212))) else (none)) else (none))) else (some false))) else (some false)) = some r := by first | (rw [hji23] at H; exact H) | (simp only [hji23] at H ⊢; exact H)
                        (try rw [hji23] at A12)
                        (try rw [hji23] at A13)
                        (try rw [hji23] at A21)
                        (try rw [hji23] at A22)
                        have hji23_ : (if t204 < a1 then t204 else a1) = ji23 := hji23
                        by_cases c24 : t203 = (ji23)
                        · rw [if_pos c24] at H
                          have c24b0 : (t203 == (ji23)) = true := beq_iff_eq.mpr c24
                          have c24b1 : (t203 != (ji23)) = false := bne_eq_false_iff_eq.mpr c24
                          clear c24
                          replace H := Option.bind_eq_some_iff.mp H
                          obtain ⟨t205, A250, H⟩ := H
                          replace H : (if t205.toList = t201.toList then ((glyph_Words.f a0).bind fun t206 => (if 1 + a0.size ≤ 9223372036854775807 then (if ((⟨#[32]⟩ : ByteArray) ++ a0).size + 3 ≤ 9223372036854775807 then ((glyph_Words.f (((⟨#[32]⟩ : ByteArray) ++ a0) ++ (⟨#[13, 10, 9]⟩ : ByteArray))).bind fun t209 => ((bulletinbook_SameTexts.f kj5 t206 t209).bind fun t212 => (some t212))) else (none)) else (none))) else (some false)) = some r := H
                          have A25 := Aside0.mk A250
                          clear A250
                          by_cases c26 : t205.toList = t201.toList
                          · rw [if_pos c26] at H
                            have c26b0 : (t205.toList == t201.toList) = true := beq_iff_eq.mpr c26
                            have c26b1 : (t205.toList != t201.toList) = false := bne_eq_false_iff_eq.mpr c26
                            clear c26
                            replace H := Option.bind_eq_some_iff.mp H
                            obtain ⟨t206, A270, H⟩ := H
                            replace H : (if 1 + a0.size ≤ 9223372036854775807 then (if ((⟨#[32]⟩ : ByteArray) ++ a0).size + 3 ≤ 9223372036854775807 then ((glyph_Words.f (((⟨#[32]⟩ : ByteArray) ++ a0) ++ (⟨#[13, 10, 9]⟩ : ByteArray))).bind fun t209 => ((bulletinbook_SameTexts.f kj5 t206 t209).bind fun t212 => (some t212))) else (none)) else (none)) = some r := H
                            have A27 := Aside0.mk A270
                            clear A270
                            by_cases c28 : 1 + a0.size ≤ 9223372036854775807
                            · rw [if_pos c28] at H
                              have c28b0 := eq_true c28
                              have c28b1 : decide (1 + a0.size ≤ 9223372036854775807) = true := decide_eq_true c28
                              try have c28b2 : (9223372036854775807 < 1 + a0.size) = False := eq_false (Nat.not_lt.2 c28)
                              by_cases c29 : ((⟨#[32]⟩ : ByteArray) ++ a0).size + 3 ≤ 9223372036854775807
                              · rw [if_pos c29] at H
                                have c29b0 := eq_true c29
                                try (have c29s0 := c29b0; simp only [ByteArray.size_append, ByteArray.size_extract, Nat.min_self, Xsize_mk, List.size_toArray, List.length_cons, List.length_nil, Nat.zero_add, Nat.reduceAdd, List.length_append, List.length_drop, List.length_take] at c29s0)
                                have c29b1 : decide (((⟨#[32]⟩ : ByteArray) ++ a0).size + 3 ≤ 9223372036854775807) = true := decide_eq_true c29
                                try (have c29s1 := c29b1; simp only [ByteArray.size_append, ByteArray.size_extract, Nat.min_self, Xsize_mk, List.size_toArray, List.length_cons, List.length_nil, Nat.zero_add, Nat.reduceAdd, List.length_append, List.length_drop, List.length_take] at c29s1)
                                try have c29b2 : (9223372036854775807 < ((⟨#[32]⟩ : ByteArray) ++ a0).size + 3) = False := eq_false (Nat.not_lt.2 c29)
                                try (have c29s2 := c29b2; simp only [ByteArray.size_append, ByteArray.size_extract, Nat.min_self, Xsize_mk, List.size_toArray, List.length_cons, List.length_nil, Nat.zero_add, Nat.reduceAdd, List.length_append, List.length_drop, List.length_take] at c29s2)
                                replace H := Option.bind_eq_some_iff.mp H
                                obtain ⟨t209, A300, H⟩ := H
                                replace H : ((bulletinbook_SameTexts.f kj5 t206 t209).bind fun t212 => (some t212)) = some r := H
                                have A30 := Aside0.mk A300
                                clear A300
                                replace H := Option.bind_eq_some_iff.mp H
                                obtain ⟨t212, A310, H⟩ := H
                                replace H : (some t212) = some r := H
                                have A31 := Aside0.mk A310
                                clear A310
                                obtain rfl := Option.some.inj H
                                go_wp2_with (first | ((with_reducible refine gate_callee (f := 15) rfl ?_); refine goesL_ (some 29) rfl rfl Tryd.func15 (by kernel_rfl) rfl #[.string a0, .int .i64 a1] rfl (by (try simp only [List.map_toArray, List.map_cons, List.map_nil]); first | done | rfl | (simp only [List.length_drop, List.length_take]; rfl)) ?_; (with_reducible refine (glyph_Clip.calls kj5 a0 a1 t201 _ A12.out).mono ?_); rintro e w32 ⟨rfl, hb⟩; refine ⟨_, rfl, ?_⟩; have n0_ := Aside0.mk (below_step (by repeat (first | (with_reducible first | exact HB.out | apply below_alloc | apply pw_below_drewN | apply below_drew1) | exact HB.out)) hb); clear HB; have HB := n0_; clear n0_; (try clear hb); (try clear hb2); (try clear hk); (try clear hi)) | ((with_reducible refine gate_callee (f := 15) rfl ?_); refine goesL_ (some 32) rfl rfl Tryd.func15 (by kernel_rfl) rfl #[.string a0, .int .i64 a2] rfl (by (try simp only [List.map_toArray, List.map_cons, List.map_nil]); first | done | rfl | (simp only [List.length_drop, List.length_take]; rfl)) ?_; (with_reducible refine (glyph_Clip.calls kj5 a0 a2 t202 _ A13.out).mono ?_); rintro e w33 ⟨rfl, hb⟩; refine ⟨_, rfl, ?_⟩; have n0_ := Aside0.mk (below_step (by repeat (first | (with_reducible first | exact HB.out | apply below_alloc | apply pw_below_drewN | apply below_drew1) | exact HB.out)) hb); clear HB; have HB := n0_; clear n0_; (try clear hb); (try clear hb2); (try clear hk); (try clear hi)) | (go_at_call 11; (with_reducible refine (glyph_Count.calls kj5 t201 t203 _ A21.out).mono ?_); (try clear A21); rintro e w34 ⟨rfl, hb⟩; have n0_ := Aside0.mk (below_step (by repeat (first | (with_reducible first | exact HB.out | apply below_alloc | apply pw_below_drewN | apply below_drew1) | exact HB.out)) hb); clear HB; have HB := n0_; clear n0_; (try clear hb); (try clear hb2); (try clear hk); (try clear hi)) | (go_at_call 11; (with_reducible refine (glyph_Count.calls kj5 a0 t204 _ A22.out).mono ?_); (try clear A22); rintro e w35 ⟨rfl, hb⟩; have n0_ := Aside0.mk (below_step (by repeat (first | (with_reducible first | exact HB.out | apply below_alloc | apply pw_below_drewN | apply below_drew1) | exact HB.out)) hb); clear HB; have HB := n0_; clear n0_; (try clear hb); (try clear hb2); (try clear hk); (try clear hi)) | (go_at_call 15; (with_reducible refine (glyph_Clip.calls kj5 t202 a1 t205 _ A25.out).mono ?_); rintro e w36 ⟨rfl, hb⟩; have n0_ := Aside0.mk (below_step (by repeat (first | (with_reducible first | exact HB.out | apply below_alloc | apply pw_below_drewN | apply below_drew1) | exact HB.out)) hb); clear HB; have HB := n0_; clear n0_; (try clear hb); (try clear hb2); (try clear hk); (try clear hi)) | (go_at_call 21; (with_reducible refine (glyph_Words.calls a0 t206 _ A27.out).mono ?_); (try clear A27); rintro e w37 ⟨v207, rfl, ho0, hb⟩; have n0_ := Aside0.mk (Kd.R_lower ho0 (below_size (by repeat (first | (with_reducible first | exact HB.out | apply below_alloc | apply pw_below_drewN | apply below_drew1) | exact HB.out)))); have n1_ := Aside0.mk (below_step (by repeat (first | (with_reducible first | exact HB.out | apply below_alloc | apply pw_below_drewN | apply below_drew1) | exact HB.out)) hb); clear HB; have HO208 := n0_; have HB := n1_; clear n0_ n1_; (try clear hb); (try clear hb2); (try clear hk); (try clear hi); (try clear ho0)) | (go_at_call 21; (with_reducible refine (glyph_Words.calls (((⟨#[32]⟩ : ByteArray) ++ a0) ++ (⟨#[13, 10, 9]⟩ : ByteArray)) t209 _ A30.out).mono ?_); (try clear A30); rintro e w38 ⟨v210, rfl, ho0, hb⟩; have n0_ := Aside0.mk (Kd.R_elder' (by (with_reducible repeat (first | apply Kd.R_alloc | apply Kd.R_drewN | apply Kd.R_drew)); exact HO208.out) (Kd.R_base ho0) hb); have n1_ := Aside0.mk (Kd.R_lower (Kd.R_new' ho0 (Kd.R_lt (by (with_reducible repeat (first | apply Kd.R_alloc | apply Kd.R_drewN | apply Kd.R_drew)); exact HO208.out))) (below_size (by repeat (first | (with_reducible first | exact HB.out | apply below_alloc | apply pw_below_drewN | apply below_drew1) | exact HB.out)))); have n2_ := Aside0.mk (below_step (by repeat (first | (with_reducible first | exact HB.out | apply below_alloc | apply pw_below_drewN | apply below_drew1) | exact HB.out)) hb); clear HO208; clear HB; have HO208 := n0_; have HO211 := n1_; have HB := n2_; clear n0_ n1_ n2_; (try clear hb); (try clear hb2); (try clear hk); (try clear hi); (try clear ho0); obtain ⟨Ao39, co39, eo39⟩ := Kd.R_slice HO208.out; subst eo39; obtain ⟨Ao40, co40, eo40⟩ := Kd.R_slice HO211.out; subst eo40) | (go_at_call 20; (with_reducible refine (bulletinbook_SameTexts.calls kj5 _ _ t206 _ _ t209 t212 _ ?side1 ?side2 ?side3 ?side4 A31.out).mono ?_); (case side1 => repeat (first | exact (Kd.R_reads' HO208.out).2.2 | (with_reducible refine Kd.C_alloc ?_ _) | (with_reducible refine Kd.C_drewN ?_ _) | (with_reducible refine Kd.C_drew ?_))); (case side2 => exact (Kd.R_reads' HO208.out).2.1); (case side3 => repeat (first | exact (Kd.R_reads' HO211.out).2.2 | (with_reducible refine Kd.C_alloc ?_ _) | (with_reducible refine Kd.C_drewN ?_ _) | (with_reducible refine Kd.C_drew ?_))); (case side4 => exact (Kd.R_reads' HO211.out).2.1); rintro e w' ⟨rfl, ⟨nd, rfl⟩⟩))
                                go_ret
                                exact ⟨by first | rfl | (simp [errW_none, errW_some] <;> rfl) | (simp only [← hji23]; first | rfl | (simp [errW_none, errW_some] <;> rfl)) | (simp [*, errW_none, errW_some] <;> rfl), by repeat (first | (with_reducible first | exact HB.out | apply below_alloc | apply pw_below_drewN | apply below_drew1) | exact HB.out)⟩
                              · rw [if_neg c29] at H
                                exact absurd H (by simp)
                            · rw [if_neg c28] at H
                              exact absurd H (by simp)
                          · rw [if_neg c26] at H
                            have c26b0 : (t205.toList == t201.toList) = false := beq_eq_false_iff_ne.mpr c26
                            have c26b1 : (t205.toList != t201.toList) = true := bne_iff_ne.mpr c26
                            obtain rfl := Option.some.inj H
                            go_wp2_with (first | ((with_reducible refine gate_callee (f := 15) rfl ?_); refine goesL_ (some 29) rfl rfl Tryd.func15 (by kernel_rfl) rfl #[.string a0, .int .i64 a1] rfl (by (try simp only [List.map_toArray, List.map_cons, List.map_nil]); first | done | rfl | (simp only [List.length_drop, List.length_take]; rfl)) ?_; (with_reducible refine (glyph_Clip.calls kj5 a0 a1 t201 _ A12.out).mono ?_); rintro e w41 ⟨rfl, hb⟩; refine ⟨_, rfl, ?_⟩; have n0_ := Aside0.mk (below_step (by repeat (first | (with_reducible first | exact HB.out | apply below_alloc | apply pw_below_drewN | apply below_drew1) | exact HB.out)) hb); clear HB; have HB := n0_; clear n0_; (try clear hb); (try clear hb2); (try clear hk); (try clear hi)) | ((with_reducible refine gate_callee (f := 15) rfl ?_); refine goesL_ (some 32) rfl rfl Tryd.func15 (by kernel_rfl) rfl #[.string a0, .int .i64 a2] rfl (by (try simp only [List.map_toArray, List.map_cons, List.map_nil]); first | done | rfl | (simp only [List.length_drop, List.length_take]; rfl)) ?_; (with_reducible refine (glyph_Clip.calls kj5 a0 a2 t202 _ A13.out).mono ?_); rintro e w42 ⟨rfl, hb⟩; refine ⟨_, rfl, ?_⟩; have n0_ := Aside0.mk (below_step (by repeat (first | (with_reducible first | exact HB.out | apply below_alloc | apply pw_below_drewN | apply below_drew1) | exact HB.out)) hb); clear HB; have HB := n0_; clear n0_; (try clear hb); (try clear hb2); (try clear hk); (try clear hi)) | (go_at_call 11; (with_reducible refine (glyph_Count.calls kj5 t201 t203 _ A21.out).mono ?_); (try clear A21); rintro e w43 ⟨rfl, hb⟩; have n0_ := Aside0.mk (below_step (by repeat (first | (with_reducible first | exact HB.out | apply below_alloc | apply pw_below_drewN | apply below_drew1) | exact HB.out)) hb); clear HB; have HB := n0_; clear n0_; (try clear hb); (try clear hb2); (try clear hk); (try clear hi)) | (go_at_call 11; (with_reducible refine (glyph_Count.calls kj5 a0 t204 _ A22.out).mono ?_); (try clear A22); rintro e w44 ⟨rfl, hb⟩; have n0_ := Aside0.mk (below_step (by repeat (first | (with_reducible first | exact HB.out | apply below_alloc | apply pw_below_drewN | apply below_drew1) | exact HB.out)) hb); clear HB; have HB := n0_; clear n0_; (try clear hb); (try clear hb2); (try clear hk); (try clear hi)) | (go_at_call 15; (with_reducible refine (glyph_Clip.calls kj5 t202 a1 t205 _ A25.out).mono ?_); rintro e w45 ⟨rfl, hb⟩; have n0_ := Aside0.mk (below_step (by repeat (first | (with_reducible first | exact HB.out | apply below_alloc | apply pw_below_drewN | apply below_drew1) | exact HB.out)) hb); clear HB; have HB := n0_; clear n0_; (try clear hb); (try clear hb2); (try clear hk); (try clear hi)))
                            go_ret
                            exact ⟨by first | rfl | (simp [errW_none, errW_some] <;> rfl) | (simp only [← hji23]; first | rfl | (simp [errW_none, errW_some] <;> rfl)) | (simp [*, errW_none, errW_some] <;> rfl), by repeat (first | (with_reducible first | exact HB.out | apply below_alloc | apply pw_below_drewN | apply below_drew1) | exact HB.out)⟩
                        · rw [if_neg c24] at H
                          have c24b0 : (t203 == (ji23)) = false := beq_eq_false_iff_ne.mpr c24
                          have c24b1 : (t203 != (ji23)) = true := bne_iff_ne.mpr c24
                          obtain rfl := Option.some.inj H
                          go_wp2_with (first | ((with_reducible refine gate_callee (f := 15) rfl ?_); refine goesL_ (some 29) rfl rfl Tryd.func15 (by kernel_rfl) rfl #[.string a0, .int .i64 a1] rfl (by (try simp only [List.map_toArray, List.map_cons, List.map_nil]); first | done | rfl | (simp only [List.length_drop, List.length_take]; rfl)) ?_; (with_reducible refine (glyph_Clip.calls kj5 a0 a1 t201 _ A12.out).mono ?_); rintro e w46 ⟨rfl, hb⟩; refine ⟨_, rfl, ?_⟩; have n0_ := Aside0.mk (below_step (by repeat (first | (with_reducible first | exact HB.out | apply below_alloc | apply pw_below_drewN | apply below_drew1) | exact HB.out)) hb); clear HB; have HB := n0_; clear n0_; (try clear hb); (try clear hb2); (try clear hk); (try clear hi)) | ((with_reducible refine gate_callee (f := 15) rfl ?_); refine goesL_ (some 32) rfl rfl Tryd.func15 (by kernel_rfl) rfl #[.string a0, .int .i64 a2] rfl (by (try simp only [List.map_toArray, List.map_cons, List.map_nil]); first | done | rfl | (simp only [List.length_drop, List.length_take]; rfl)) ?_; (with_reducible refine (glyph_Clip.calls kj5 a0 a2 t202 _ A13.out).mono ?_); rintro e w47 ⟨rfl, hb⟩; refine ⟨_, rfl, ?_⟩; have n0_ := Aside0.mk (below_step (by repeat (first | (with_reducible first | exact HB.out | apply below_alloc | apply pw_below_drewN | apply below_drew1) | exact HB.out)) hb); clear HB; have HB := n0_; clear n0_; (try clear hb); (try clear hb2); (try clear hk); (try clear hi)) | (go_at_call 11; (with_reducible refine (glyph_Count.calls kj5 t201 t203 _ A21.out).mono ?_); (try clear A21); rintro e w48 ⟨rfl, hb⟩; have n0_ := Aside0.mk (below_step (by repeat (first | (with_reducible first | exact HB.out | apply below_alloc | apply pw_below_drewN | apply below_drew1) | exact HB.out)) hb); clear HB; have HB := n0_; clear n0_; (try clear hb); (try clear hb2); (try clear hk); (try clear hi)) | (go_at_call 11; (with_reducible refine (glyph_Count.calls kj5 a0 t204 _ A22.out).mono ?_); (try clear A22); rintro e w49 ⟨rfl, hb⟩; have n0_ := Aside0.mk (below_step (by repeat (first | (with_reducible first | exact HB.out | apply below_alloc | apply pw_below_drewN | apply below_drew1) | exact HB.out)) hb); clear HB; have HB := n0_; clear n0_; (try clear hb); (try clear hb2); (try clear hk); (try clear hi)))
                          go_ret
                          exact ⟨by first | rfl | (simp [errW_none, errW_some] <;> rfl) | (simp only [← hji23]; first | rfl | (simp [errW_none, errW_some] <;> rfl)) | (simp [*, errW_none, errW_some] <;> rfl), by repeat (first | (with_reducible first | exact HB.out | apply below_alloc | apply pw_below_drewN | apply below_drew1) | exact HB.out)⟩
                      · rw [if_neg c20] at H
                        have c20b0 : ((a0.extract 0 ((t202.size : Int) : Int).toNat).toList == t202.toList) = false := beq_eq_false_iff_ne.mpr c20
                        try (have c20s0 := c20b0; simp only [ByteArray.size_append, ByteArray.size_extract, Nat.min_self, Xsize_mk, List.size_toArray, List.length_cons, List.length_nil, Nat.zero_add, Nat.reduceAdd, List.length_append, List.length_drop, List.length_take] at c20s0)
                        try (have c20t0 := c20b0; simp only [Int.toNat_natCast] at c20t0)
                        try (have c20v0 := c20b0; simp only [ByteArray.size_append, Xsz_ext, Xsz_ext0, c15b0, c16b0, c18b0, c19b0] at c20v0; (try simp only [ByteArray.size_append, ByteArray.size_extract, Nat.min_self, Xsize_mk, List.size_toArray, List.length_cons, List.length_nil, Nat.zero_add, Nat.reduceAdd, List.length_append, List.length_drop, List.length_take] at c20v0))
                        have c20b1 : ((a0.extract 0 ((t202.size : Int) : Int).toNat).toList != t202.toList) = true := bne_iff_ne.mpr c20
                        try (have c20s1 := c20b1; simp only [ByteArray.size_append, ByteArray.size_extract, Nat.min_self, Xsize_mk, List.size_toArray, List.length_cons, List.length_nil, Nat.zero_add, Nat.reduceAdd, List.length_append, List.length_drop, List.length_take] at c20s1)
                        try (have c20t1 := c20b1; simp only [Int.toNat_natCast] at c20t1)
                        try (have c20v1 := c20b1; simp only [ByteArray.size_append, Xsz_ext, Xsz_ext0, c15b0, c16b0, c18b0, c19b0] at c20v1; (try simp only [ByteArray.size_append, ByteArray.size_extract, Nat.min_self, Xsize_mk, List.size_toArray, List.length_cons, List.length_nil, Nat.zero_add, Nat.reduceAdd, List.length_append, List.length_drop, List.length_take] at c20v1))
                        obtain rfl := Option.some.inj H
                        go_wp2_with (first | ((with_reducible refine gate_callee (f := 15) rfl ?_); refine goesL_ (some 29) rfl rfl Tryd.func15 (by kernel_rfl) rfl #[.string a0, .int .i64 a1] rfl (by (try simp only [List.map_toArray, List.map_cons, List.map_nil]); first | done | rfl | (simp only [List.length_drop, List.length_take]; rfl)) ?_; (with_reducible refine (glyph_Clip.calls kj5 a0 a1 t201 _ A12.out).mono ?_); rintro e w50 ⟨rfl, hb⟩; refine ⟨_, rfl, ?_⟩; have n0_ := Aside0.mk (below_step (by repeat (first | (with_reducible first | exact HB.out | apply below_alloc | apply pw_below_drewN | apply below_drew1) | exact HB.out)) hb); clear HB; have HB := n0_; clear n0_; (try clear hb); (try clear hb2); (try clear hk); (try clear hi)) | ((with_reducible refine gate_callee (f := 15) rfl ?_); refine goesL_ (some 32) rfl rfl Tryd.func15 (by kernel_rfl) rfl #[.string a0, .int .i64 a2] rfl (by (try simp only [List.map_toArray, List.map_cons, List.map_nil]); first | done | rfl | (simp only [List.length_drop, List.length_take]; rfl)) ?_; (with_reducible refine (glyph_Clip.calls kj5 a0 a2 t202 _ A13.out).mono ?_); rintro e w51 ⟨rfl, hb⟩; refine ⟨_, rfl, ?_⟩; have n0_ := Aside0.mk (below_step (by repeat (first | (with_reducible first | exact HB.out | apply below_alloc | apply pw_below_drewN | apply below_drew1) | exact HB.out)) hb); clear HB; have HB := n0_; clear n0_; (try clear hb); (try clear hb2); (try clear hk); (try clear hi)))
                        go_ret
                        exact ⟨by first | rfl | (simp [errW_none, errW_some] <;> rfl) | (simp [*, errW_none, errW_some] <;> rfl), by repeat (first | (with_reducible first | exact HB.out | apply below_alloc | apply pw_below_drewN | apply below_drew1) | exact HB.out)⟩
                    · rw [if_neg c19] at H
                      exact absurd H (by simp)
                  · rw [if_neg c18] at H
                    exact absurd H (by simp)
                · rw [if_neg c17] at H
                  have c17b0 : ((a0.extract 0 ((t201.size : Int) : Int).toNat).toList == t201.toList) = false := beq_eq_false_iff_ne.mpr c17
                  try (have c17s0 := c17b0; simp only [ByteArray.size_append, ByteArray.size_extract, Nat.min_self, Xsize_mk, List.size_toArray, List.length_cons, List.length_nil, Nat.zero_add, Nat.reduceAdd, List.length_append, List.length_drop, List.length_take] at c17s0)
                  try (have c17t0 := c17b0; simp only [Int.toNat_natCast] at c17t0)
                  try (have c17v0 := c17b0; simp only [ByteArray.size_append, Xsz_ext, Xsz_ext0, c15b0, c16b0] at c17v0; (try simp only [ByteArray.size_append, ByteArray.size_extract, Nat.min_self, Xsize_mk, List.size_toArray, List.length_cons, List.length_nil, Nat.zero_add, Nat.reduceAdd, List.length_append, List.length_drop, List.length_take] at c17v0))
                  have c17b1 : ((a0.extract 0 ((t201.size : Int) : Int).toNat).toList != t201.toList) = true := bne_iff_ne.mpr c17
                  try (have c17s1 := c17b1; simp only [ByteArray.size_append, ByteArray.size_extract, Nat.min_self, Xsize_mk, List.size_toArray, List.length_cons, List.length_nil, Nat.zero_add, Nat.reduceAdd, List.length_append, List.length_drop, List.length_take] at c17s1)
                  try (have c17t1 := c17b1; simp only [Int.toNat_natCast] at c17t1)
                  try (have c17v1 := c17b1; simp only [ByteArray.size_append, Xsz_ext, Xsz_ext0, c15b0, c16b0] at c17v1; (try simp only [ByteArray.size_append, ByteArray.size_extract, Nat.min_self, Xsize_mk, List.size_toArray, List.length_cons, List.length_nil, Nat.zero_add, Nat.reduceAdd, List.length_append, List.length_drop, List.length_take] at c17v1))
                  obtain rfl := Option.some.inj H
                  go_wp2_with (first | ((with_reducible refine gate_callee (f := 15) rfl ?_); refine goesL_ (some 29) rfl rfl Tryd.func15 (by kernel_rfl) rfl #[.string a0, .int .i64 a1] rfl (by (try simp only [List.map_toArray, List.map_cons, List.map_nil]); first | done | rfl | (simp only [List.length_drop, List.length_take]; rfl)) ?_; (with_reducible refine (glyph_Clip.calls kj5 a0 a1 t201 _ A12.out).mono ?_); rintro e w52 ⟨rfl, hb⟩; refine ⟨_, rfl, ?_⟩; have n0_ := Aside0.mk (below_step (by repeat (first | (with_reducible first | exact HB.out | apply below_alloc | apply pw_below_drewN | apply below_drew1) | exact HB.out)) hb); clear HB; have HB := n0_; clear n0_; (try clear hb); (try clear hb2); (try clear hk); (try clear hi)) | ((with_reducible refine gate_callee (f := 15) rfl ?_); refine goesL_ (some 32) rfl rfl Tryd.func15 (by kernel_rfl) rfl #[.string a0, .int .i64 a2] rfl (by (try simp only [List.map_toArray, List.map_cons, List.map_nil]); first | done | rfl | (simp only [List.length_drop, List.length_take]; rfl)) ?_; (with_reducible refine (glyph_Clip.calls kj5 a0 a2 t202 _ A13.out).mono ?_); rintro e w53 ⟨rfl, hb⟩; refine ⟨_, rfl, ?_⟩; have n0_ := Aside0.mk (below_step (by repeat (first | (with_reducible first | exact HB.out | apply below_alloc | apply pw_below_drewN | apply below_drew1) | exact HB.out)) hb); clear HB; have HB := n0_; clear n0_; (try clear hb); (try clear hb2); (try clear hk); (try clear hi)))
                  go_ret
                  exact ⟨by first | rfl | (simp [errW_none, errW_some] <;> rfl) | (simp [*, errW_none, errW_some] <;> rfl), by repeat (first | (with_reducible first | exact HB.out | apply below_alloc | apply pw_below_drewN | apply below_drew1) | exact HB.out)⟩
              · rw [if_neg c16] at H
                exact absurd H (by simp)
            · rw [if_neg c15] at H
              exact absurd H (by simp)
          · rw [if_neg c14] at H
            have c14b0 : decide ((t201.size : Int) ≤ (t202.size : Int)) = false := decide_eq_false c14
            have c14b1 : decide (t201.size ≤ t202.size) = false := decide_eq_false (fun h => c14 (Int.ofNat_le.mpr h))
            clear c14
            obtain rfl := Option.some.inj H
            go_wp2_with (first | ((with_reducible refine gate_callee (f := 15) rfl ?_); refine goesL_ (some 29) rfl rfl Tryd.func15 (by kernel_rfl) rfl #[.string a0, .int .i64 a1] rfl (by (try simp only [List.map_toArray, List.map_cons, List.map_nil]); first | done | rfl | (simp only [List.length_drop, List.length_take]; rfl)) ?_; (with_reducible refine (glyph_Clip.calls kj5 a0 a1 t201 _ A12.out).mono ?_); rintro e w54 ⟨rfl, hb⟩; refine ⟨_, rfl, ?_⟩; have n0_ := Aside0.mk (below_step (by repeat (first | (with_reducible first | exact HB.out | apply below_alloc | apply pw_below_drewN | apply below_drew1) | exact HB.out)) hb); clear HB; have HB := n0_; clear n0_; (try clear hb); (try clear hb2); (try clear hk); (try clear hi)) | ((with_reducible refine gate_callee (f := 15) rfl ?_); refine goesL_ (some 32) rfl rfl Tryd.func15 (by kernel_rfl) rfl #[.string a0, .int .i64 a2] rfl (by (try simp only [List.map_toArray, List.map_cons, List.map_nil]); first | done | rfl | (simp only [List.length_drop, List.length_take]; rfl)) ?_; (with_reducible refine (glyph_Clip.calls kj5 a0 a2 t202 _ A13.out).mono ?_); rintro e w55 ⟨rfl, hb⟩; refine ⟨_, rfl, ?_⟩; have n0_ := Aside0.mk (below_step (by repeat (first | (with_reducible first | exact HB.out | apply below_alloc | apply pw_below_drewN | apply below_drew1) | exact HB.out)) hb); clear HB; have HB := n0_; clear n0_; (try clear hb); (try clear hb2); (try clear hk); (try clear hi)))
            go_ret
            exact ⟨by first | rfl | (simp [errW_none, errW_some] <;> rfl) | (simp [*, errW_none, errW_some] <;> rfl), by repeat (first | (with_reducible first | exact HB.out | apply below_alloc | apply pw_below_drewN | apply below_drew1) | exact HB.out)⟩
  · replace c5 := Bool.eq_false_iff.mpr c5
    subst c5
    have H1 : (some false) = some r := by rw [if_neg (show ¬ (false = true) by decide)] at H; exact H
    clear H
    have H := H1
    clear H1
    obtain rfl := Option.some.inj H
    go_enter Tryd.func6, Tryd.ntmps6
    go_wp2_with (first | ((with_reducible refine gate_callee (f := 7) rfl ?_); refine goesL_ (some 9) rfl rfl Tryd.func7 (by kernel_rfl) rfl #[] rfl (by (try simp only [List.map_toArray, List.map_cons, List.map_nil]); first | done | rfl | (simp only [List.length_drop, List.length_take]; rfl)) ?_; (with_reducible refine (bulletinlaw06_works.calls (hT0 := by first | exact hT0 | exact Tabs.a hT0 (by repeat (first | (with_reducible first | exact HB.out | apply below_alloc | apply pw_below_drewN | apply below_drew1) | exact HB.out))) k  false _ A4.out).mono ?_); rintro e w56 ⟨rfl, hb⟩; refine ⟨_, rfl, ?_⟩; have n0_ := Aside0.mk (below_step (by repeat (first | (with_reducible first | exact HB.out | apply below_alloc | apply pw_below_drewN | apply below_drew1) | exact HB.out)) hb); clear HB; have HB := n0_; clear n0_; (try clear hb); (try clear hb2); (try clear hk); (try clear hi)))
    go_ret
    exact ⟨by first | rfl | (simp [errW_none, errW_some] <;> rfl) | (simp [*, errW_none, errW_some] <;> rfl), by repeat (first | (with_reducible first | exact HB.out | apply below_alloc | apply pw_below_drewN | apply below_drew1) | exact HB.out)⟩

/-- THE ONE PURE STATEMENT of bulletinlaw06_GlyphClips: yours. -/
def bulletinlaw06_GlyphClips.Pure : Prop := ∀ (a0 : ByteArray) (a1 : Int) (a2 : Int), a0.size ≤ 140737488351232 → (Lit.int .i64 a1).wf = true → (Lit.int .i64 a2).wf = true → ∃ k, bulletinlaw06_GlyphClips.f k a0 a1 a2 = some true
theorem bulletinlaw06_GlyphClips.walk (P : bulletinlaw06_GlyphClips.Pure) (a0 : ByteArray) (a1 : Int) (a2 : Int) (w : World) (hT0 : Aside0 (Tabs w)) (w0 : a0.size ≤ 140737488351232) (w1 : (Lit.int .i64 a1).wf = true) (w2 : (Lit.int .i64 a2).wf = true) :
    Calls Tryd.prog 6 #[.string a0, .int .i64 a1, .int .i64 a2] w fun e w' => e = .returned (.bool true) ∧ Below w.heap.size w w' := by
  obtain ⟨k, h⟩ := P a0 a1 a2 w0 w1 w2
  refine (bulletinlaw06_GlyphClips.calls (hT0 := hT0) k a0 a1 a2 true w h).mono ?_
  rintro e w' ⟨rfl, hd⟩
  exact ⟨rfl, hd⟩

end Go.Proofs.YtlkppogpoodjlaaDoor.X
