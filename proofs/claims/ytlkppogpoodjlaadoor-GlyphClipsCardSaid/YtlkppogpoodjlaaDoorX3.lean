-- Written by a program (print.py's text, with contracts of this session's own put in). Not trusted: Lean checks it.
import Derived.Test.YtlkppogpoodjlaaDoorX0
import Derived.Test.YtlkppogpoodjlaaDoorX1
import Derived.Test.YtlkppogpoodjlaaDoorX2
namespace Go.Proofs.YtlkppogpoodjlaaDoor.X
open Go.RowKit Go.Proofs.YtlkppogpoodjlaaDoorW.PrintWords Go.Proofs.YtlkppogpoodjlaaDoorW.PrintLast Go.Proofs.YtlkppogpoodjlaaDoorW.PrintMore
attribute [local go_sem] max2_int min2_int max_two min_two max_three min_three max_four min_four   -- for this text's walks alone
set_option linter.unusedVariables false
set_option linter.unusedSimpArgs false

/-! ### glyph_bad: function 27 -/
def glyph_bad.f (a0 : ByteArray) (a1 : Int) (a2 : Int) : Option (Bool) := if a2 = 65533 then (if 0 ≤ a1 then (if a1 ≤ (a0.size : Int) then ((utf8_DecodeRuneInString.f (a0.extract (a1 : Int).toNat a0.size)).bind fun bt101 => (some (bt101.2 == 1))) else (none)) else (none)) else (some false)
set_option maxHeartbeats 8000000 in
set_option maxRecDepth 100000 in
theorem glyph_bad.calls (a0 : ByteArray) (a1 : Int) (a2 : Int) (r : Bool) (w : World) (hT0 : Aside0 (Tabs w)) (h : glyph_bad.f a0 a1 a2 = some r) :
    Calls Tryd.prog 27 #[.string a0, .int .i64 a1, .int .i32 a2] w fun e w' => e = .returned (.bool r) ∧ Below w.heap.size w w' := by
  have HB := Aside0.mk (Below.refl w.heap.size w)
  have H : (if a2 = 65533 then (if 0 ≤ a1 then (if a1 ≤ (a0.size : Int) then ((utf8_DecodeRuneInString.f (a0.extract (a1 : Int).toNat a0.size)).bind fun bt101 => (some (bt101.2 == 1))) else (none)) else (none)) else (some false)) = some r := h
  clear h
  by_cases c4 : a2 = 65533
  · rw [if_pos c4] at H
    have c4b0 : (a2 == 65533) = true := beq_iff_eq.mpr c4
    have c4b1 : (a2 != 65533) = false := bne_eq_false_iff_eq.mpr c4
    clear c4
    by_cases c5 : 0 ≤ a1
    · rw [if_pos c5] at H
      have c5b0 := eq_true c5
      have c5b1 : decide (0 ≤ a1) = true := decide_eq_true c5
      clear c5
      by_cases c6 : a1 ≤ (a0.size : Int)
      · rw [if_pos c6] at H
        have c6b0 := eq_true c6
        have c6b1 : decide (a1 ≤ (a0.size : Int)) = true := decide_eq_true c6
        clear c6
        replace H := Option.bind_eq_some_iff.mp H
        obtain ⟨⟨t101, t102⟩, A70, H⟩ := H
        replace H : (some (t102 == 1)) = some r := H
        have A7 := Aside0.mk A70
        clear A70
        obtain rfl := Option.some.inj H
        go_enter Tryd.func27, Tryd.ntmps27
        go_wp2_with (first | ((with_reducible refine gate_callee (f := 38) rfl ?_); refine goesL_ (some 15) rfl rfl Tryd.func38 (by kernel_rfl) rfl #[.string (a0.extract (a1 : Int).toNat a0.size)] rfl (by (try simp only [List.map_toArray, List.map_cons, List.map_nil]); first | done | rfl | (simp only [List.length_drop, List.length_take]; rfl)) ?_; (with_reducible refine (utf8_DecodeRuneInString.calls (hT0 := by first | exact hT0 | exact Tabs.a hT0 (by repeat (first | (with_reducible first | exact HB.out | apply below_alloc | apply pw_below_drewN | apply below_drew1) | exact HB.out))) (a0.extract (a1 : Int).toNat a0.size) t101 t102 _ A7.out).mono ?_); rintro e w8 ⟨rfl, hb⟩; refine ⟨_, rfl, ?_⟩; have n0_ := Aside0.mk (below_step (by repeat (first | (with_reducible first | exact HB.out | apply below_alloc | apply pw_below_drewN | apply below_drew1) | exact HB.out)) hb); clear HB; have HB := n0_; clear n0_; (try clear hb); (try clear hb2); (try clear hk); (try clear hi)))
        go_ret
        exact ⟨by first | rfl | (simp [errW_none, errW_some] <;> rfl) | (simp [*, errW_none, errW_some] <;> rfl), by repeat (first | (with_reducible first | exact HB.out | apply below_alloc | apply pw_below_drewN | apply below_drew1) | exact HB.out)⟩
      · rw [if_neg c6] at H
        exact absurd H (by simp)
    · rw [if_neg c5] at H
      exact absurd H (by simp)
  · rw [if_neg c4] at H
    have c4b0 : (a2 == 65533) = false := beq_eq_false_iff_ne.mpr c4
    have c4b1 : (a2 != 65533) = true := bne_iff_ne.mpr c4
    obtain rfl := Option.some.inj H
    go_enter Tryd.func27, Tryd.ntmps27
    go_wp2
    go_ret
    exact ⟨by first | rfl | (simp [errW_none, errW_some] <;> rfl) | (simp [*, errW_none, errW_some] <;> rfl), by repeat (first | (with_reducible first | exact HB.out | apply below_alloc | apply pw_below_drewN | apply below_drew1) | exact HB.out)⟩

/-! ### glyph_Valid: function 10, a contract written by hand -/
-- IMPORT Derived.Lib.OthersKept
def glyph_Valid.l0 : Nat → ByteArray → Nat → Option Bool
  | 0, _, _ => none
  | k + 1, s, p => if p < s.size then (glyph_bad.f s (p : Int) ((Utf8.decode s p).1 : Int)).bind fun b => if b = true then some false else glyph_Valid.l0 k s (p + (Utf8.decode s p).2) else some true
def glyph_Valid.f (k : Nat) (a0 : ByteArray) : Option Bool := glyph_Valid.l0 k a0 0
theorem glyph_Valid.mono_l : ∀ k, (∀ y0 y1, LeO (glyph_Valid.l0 k y0 y1) (glyph_Valid.l0 (k + 1) y0 y1))
  | 0 => fun _ _ r h => by simp [glyph_Valid.l0] at h
  | k + 1 => fun y0 y1 => by
    have ih := glyph_Valid.mono_l k
    unfold glyph_Valid.l0
    exact LeO.ite (LeO.bind (LeO.refl _) (fun _ => LeO.ite (LeO.refl _) (ih _ _))) (LeO.refl _)
theorem glyph_Valid.mono : ∀ a0 k, LeO (glyph_Valid.f k a0) (glyph_Valid.f (k + 1) a0) := fun a0 k => glyph_Valid.mono_l k a0 _
set_option maxHeartbeats 4000000 in
set_option maxRecDepth 100000 in
theorem glyph_Valid.calls (k : Nat) (a0 : ByteArray) (r : Bool) (w : World) (hT0 : Aside0 (Tabs w)) (h : glyph_Valid.f k a0 = some r) : Calls Tryd.prog 10 #[.string a0] w fun e w' => e = .returned (.bool r) ∧ Below w.heap.size w w' := by
  have H := Aside0.mk (show glyph_Valid.l0 k a0 0 = some r from h)
  clear h
  go_enter Tryd.func10, Tryd.ntmps10
  go_wp2
  go_loopg [] k (fun kq wr => ∃ (p : Nat), Aside0 (glyph_Valid.l0 kq a0 p = some r) ∧ wr.heap[w.heap.size]? = some (.stringIter a0 p) ∧ Below w.heap.size w wr)
  case atStart => exact ⟨0, H, World.iter_heap w a0 0, (Below.refl _ w).alloc (Nat.le_refl _) _⟩
  case round =>
    clear H
    obtain ⟨p, HA, hit, hB⟩ := hrel
    cases gk with
    | zero => exact absurd HA.out (by simp [glyph_Valid.l0])
    | succ k1 =>
      have hg := HA.out
      clear HA
      simp only [glyph_Valid.l0] at hg
      by_cases hp : p < a0.size
      · rw [if_pos hp] at hg
        obtain ⟨b, hb, hg⟩ := Option.bind_eq_some_iff.mp hg
        have HBD := Aside0.mk hb
        have HG := Aside0.mk hg
        clear hb hg
        have hnx : ∀ ty, (Instr.next (.pointer (some ⟨w.heap.size, 0, none⟩)) true ty).run Tryd.prog wr = _ := fun ty => Lib.run_next_any_at wr w.heap.size a0 p ty hit hp
        have hit2 := Lib.iterAt_heap wr w.heap.size a0 p (p + (Utf8.decode a0 p).2) hit
        have hB2 := Lib.below_iterAt hB (k := w.heap.size) (Nat.le_refl _) a0 (p + (Utf8.decode a0 p).2)
        have HT1 := Tabs.a hT0 hB2
        go_wp2_with fail
        refine (glyph_bad.calls (hT0 := HT1) _ _ _ b _ HBD.out).mono ?_
        rintro e w1 ⟨rfl, hb1⟩
        have hit3 := (hb1.block _ (blk_lt hit2)).trans hit2
        have hB3 := hB2.trans (hb1.mono hB2.size)
        cases b with
        | true =>
          have HG2 : some false = some r := HG.out
          obtain rfl := Option.some.inj HG2
          go_wp2
          go_ret
          exact ⟨rfl, hB3⟩
        | false =>
          have HG2 : glyph_Valid.l0 k1 a0 (p + (Utf8.decode a0 p).2) = some r := HG.out
          have HG3 := Aside0.mk HG2
          clear HG HG2
          go_wp2
          go_roundg k1
          case measure => omega
          case rel => exact ⟨_, HG3, hit3, hB3⟩
      · rw [if_neg hp] at hg
        obtain rfl := Option.some.inj hg
        have hnx : ∀ ty, (Instr.next (.pointer (some ⟨w.heap.size, 0, none⟩)) true ty).run Tryd.prog wr = _ := fun ty => Lib.run_next_end_at wr w.heap.size a0 p ty hit hp
        go_wp2
        go_ret
        exact ⟨rfl, hB⟩

/-! ### glyph_Count: function 11, a contract written by hand -/
-- IMPORT Derived.Lib.OthersKept
def glyph_Count.l0 : Nat → ByteArray → Int → Nat → Option Int
  | 0, _, _, _ => none
  | k + 1, s, n, p => if p < s.size then glyph_Count.l0 k s (wrap64 (n + 1)) (p + (Utf8.decode s p).2) else some n
def glyph_Count.f (k : Nat) (a0 : ByteArray) : Option Int := glyph_Count.l0 k a0 0 0
theorem glyph_Count.mono_l : ∀ k, (∀ y0 y1 y2, LeO (glyph_Count.l0 k y0 y1 y2) (glyph_Count.l0 (k + 1) y0 y1 y2))
  | 0 => fun _ _ _ r h => by simp [glyph_Count.l0] at h
  | k + 1 => fun y0 y1 y2 => by
    have ih := glyph_Count.mono_l k
    unfold glyph_Count.l0
    exact LeO.ite (ih _ _ _) (LeO.refl _)
theorem glyph_Count.mono : ∀ a0 k, LeO (glyph_Count.f k a0) (glyph_Count.f (k + 1) a0) := fun a0 k => glyph_Count.mono_l k a0 _ _
set_option maxHeartbeats 4000000 in
set_option maxRecDepth 100000 in
theorem glyph_Count.calls (k : Nat) (a0 : ByteArray) (r : Int) (w : World) (h : glyph_Count.f k a0 = some r) : Calls Tryd.prog 11 #[.string a0] w fun e w' => e = .returned (.int .i64 r) ∧ Below w.heap.size w w' := by
  have H := Aside0.mk (show glyph_Count.l0 k a0 0 0 = some r from h)
  clear h
  go_enter Tryd.func11, Tryd.ntmps11
  go_wp2
  go_loopg [3] k (fun kq v0 wr => ∃ (n : Int) (p : Nat), v0 = .int .i64 n ∧ Aside0 (glyph_Count.l0 kq a0 n p = some r) ∧ wr.heap[w.heap.size]? = some (.stringIter a0 p) ∧ Below w.heap.size w wr)
  case atStart => exact ⟨0, 0, rfl, H, World.iter_heap w a0 0, (Below.refl _ w).alloc (Nat.le_refl _) _⟩
  case round =>
    clear H
    obtain ⟨n, p, rfl, HA, hit, hB⟩ := hrel
    cases gk with
    | zero => exact absurd HA.out (by simp [glyph_Count.l0])
    | succ k1 =>
      have hg := HA.out
      clear HA
      simp only [glyph_Count.l0] at hg
      by_cases hp : p < a0.size
      · rw [if_pos hp] at hg
        have HG := Aside0.mk hg
        clear hg
        have hnx : ∀ ty, (Instr.next (.pointer (some ⟨w.heap.size, 0, none⟩)) true ty).run Tryd.prog wr = _ := fun ty => Lib.run_next_any_at wr w.heap.size a0 p ty hit hp
        have hit2 := Lib.iterAt_heap wr w.heap.size a0 p (p + (Utf8.decode a0 p).2) hit
        have hB2 := Lib.below_iterAt hB (k := w.heap.size) (Nat.le_refl _) a0 (p + (Utf8.decode a0 p).2)
        go_wp2
        go_roundg k1
        case measure => omega
        case rel => exact ⟨_, _, rfl, HG, hit2, hB2⟩
      · rw [if_neg hp] at hg
        obtain rfl := Option.some.inj hg
        have hnx : ∀ ty, (Instr.next (.pointer (some ⟨w.heap.size, 0, none⟩)) true ty).run Tryd.prog wr = _ := fun ty => Lib.run_next_end_at wr w.heap.size a0 p ty hit hp
        go_wp2
        go_ret
        exact ⟨rfl, hB⟩

/-! ### glyph_plain: function 28 -/
def glyph_plain.f (a0 : Int) : Option (Bool) := if a0 ≥ 32 then (some (decide (a0 ≤ 126))) else (some false)
set_option maxHeartbeats 8000000 in
set_option maxRecDepth 100000 in
theorem glyph_plain.calls (a0 : Int) (r : Bool) (w : World) (h : glyph_plain.f a0 = some r) :
    Calls Tryd.prog 28 #[.int .i32 a0] w fun e w' => e = .returned (.bool r) ∧ Drawn0 w w' := by
  have H : (if a0 ≥ 32 then (some (decide (a0 ≤ 126))) else (some false)) = some r := h
  clear h
  by_cases c2 : a0 ≥ 32
  · rw [if_pos c2] at H
    have c2b0 : decide (32 ≤ a0) = true := decide_eq_true c2
    clear c2
    obtain rfl := Option.some.inj H
    go_enter Tryd.func28, Tryd.ntmps28
    go_wp2
    go_ret
    exact ⟨by first | rfl | (simp; done) | (simp [*]; done), by repeat (first | exact Drawn0.refl _ | apply Drawn0.step)⟩
  · rw [if_neg c2] at H
    have c2b0 : decide (32 ≤ a0) = false := decide_eq_false c2
    clear c2
    obtain rfl := Option.some.inj H
    go_enter Tryd.func28, Tryd.ntmps28
    go_wp2
    go_ret
    exact ⟨by first | rfl | (simp; done) | (simp [*]; done), by repeat (first | exact Drawn0.refl _ | apply Drawn0.step)⟩

/-! ### strings_Builder_WriteString: function 29, a contract written by hand -/
set_option maxHeartbeats 2000000 in
set_option maxRecDepth 100000 in
theorem bld_WriteString (B b : Nat) (bs : List Value) (s : ByteArray) (w : World) (h : Lib.IsBuilderF 37 5 B b bs w) (hlen : bs.length + s.size ≤ 140737488355328) (hBw : B ≤ w.heap.size) :
    Calls Tryd.prog 29 #[.pointer (some ⟨b, 0, none⟩), .string s] w fun e w' => e = .returned (.tuple #[.int .i64 s.size, .nilIface]) ∧ (Lib.BuilderAtF 37 5 B b (.pointer (some ⟨b, 0, none⟩)) (bs ++ Lib.strCells s) w' ∧ Below B w w' ∧ Lib.OthersKept 5 (some b) w w') := by
  obtain ⟨i0, hi, hz0, hz1, hz2⟩ := info_parts bld_byte
  go_enter Tryd.func29, Tryd.ntmps29
  go_wp2_with (go_at_call 36; refine (bld_copyCheck B b bs _ h).mono ?_)
  rintro e w1 ⟨rfl, h1, hb1, hk1⟩
  obtain ⟨hB, v, hbk, hown, hne⟩ := h1
  have c0 : w1.cell? ⟨b, 0, none⟩ = some (.pointer (some ⟨b, 0, none⟩)) := by rw [Lib.cell_of_heap hbk]; rfl
  have c1 : w1.cell? ⟨b, 1, none⟩ = some v := by rw [Lib.cell_of_heap hbk]; rfl
  go_wp2_with (at_builtin; refine Lib.wpList_append_own_stringF _ rfl _ _ 35 9 rfl B 5 i0 Tryd.underlying35 Tryd.underlying9 hi hz0 hz1 hz2 _ _ _ rfl hown s rfl ?c3 ?c4 ?c5 ?_)
  case c3 => unfold maxLen; omega
  case c4 => omega
  case c5 => have := hb1.size; omega
  intro v' w2 hown' hgrow _
  have hlt : b < w1.heap.size := by
    rcases Nat.lt_or_ge b w1.heap.size with h' | h'
    · exact h'
    · simp [Array.getElem?_eq_none h'] at hbk
  have hb2 : w2.heap[b]? = some (.cells #[.pointer (some ⟨b, 0, none⟩), v] 37 (0, 0)) := by
    rw [hgrow.block b hlt (fun e => hne e.symm)]
    exact hbk
  have d0 : w2.cell? ⟨b, 0, none⟩ = some (.pointer (some ⟨b, 0, none⟩)) := by rw [Lib.cell_of_heap hb2]; rfl
  have d1 : w2.cell? ⟨b, 1, none⟩ = some v := by rw [Lib.cell_of_heap hb2]; rfl
  have f1 : w2.frozen? ⟨b, 1, none⟩ = false := Lib.frozen_of_heap hb2 1
  obtain ⟨ao, n', cap, rfl⟩ : ∃ ao n' cap, v' = .slice ao n' cap := by
    rcases hown'.2 with ⟨hv, _⟩ | ⟨g, cap, cur, fz, hv, _⟩
    · exact ⟨_, _, _, hv⟩
    · exact ⟨_, _, _, hv⟩
  go_wp2
  go_ret2
  refine ⟨rfl, ?_, ?_, (hk1.grown hgrow (Lib.ownsRowF_kind hown)).setCell ⟨b, 1, none⟩ rfl _⟩
  · exact Lib.BuilderAtF.put (T := 37) (e := 5) hB hb2 (bs' := bs ++ Lib.strCells s) (by simpa [Lib.strCells_length] using hown') bld_ne
  · exact (hb1.grown hgrow (by have := hb1.size; omega) (fun k hk => (hown.lt k hk).1)).setCell (p := ⟨b, 1, none⟩) hB _

end Go.Proofs.YtlkppogpoodjlaaDoor.X
