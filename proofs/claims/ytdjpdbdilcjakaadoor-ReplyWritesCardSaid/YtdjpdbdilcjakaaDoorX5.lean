-- Written by a program (print.py's text, with contracts of this session's own put in). Not trusted: Lean checks it.
import Derived.Test.YtdjpdbdilcjakaaDoorX0
import Derived.Test.YtdjpdbdilcjakaaDoorX4
namespace Go.Proofs.YtdjpdbdilcjakaaDoor.X
open Go.RowKit Go.Proofs.YtdjpdbdilcjakaaDoorW.PrintWords Go.Proofs.YtdjpdbdilcjakaaDoorW.PrintLast Go.Proofs.YtdjpdbdilcjakaaDoorW.PrintMore
attribute [local go_sem] max2_int min2_int max_two min_two max_three min_three max_four min_four   -- for this text's walks alone
set_option linter.unusedVariables false
set_option linter.unusedSimpArgs false

/-! ### glyph_Plain: function 41, a contract written by hand -/
-- IMPORT Derived.Lib.OthersKept
def glyph_Plain.l0 : Nat → ByteArray → Nat → Option Bool
  | 0, _, _ => none
  | k + 1, s, p => if p < s.size then (glyph_plain.f ((Utf8.decode s p).1 : Int)).bind fun b => if b = true then glyph_Plain.l0 k s (p + (Utf8.decode s p).2) else some false else some true
def glyph_Plain.f (k : Nat) (a0 : ByteArray) : Option Bool := glyph_Plain.l0 k a0 0
theorem glyph_Plain.mono_l : ∀ k, (∀ y0 y1, LeO (glyph_Plain.l0 k y0 y1) (glyph_Plain.l0 (k + 1) y0 y1))
  | 0 => fun _ _ r h => by simp [glyph_Plain.l0] at h
  | k + 1 => fun y0 y1 => by
    have ih := glyph_Plain.mono_l k
    unfold glyph_Plain.l0
    exact LeO.ite (LeO.bind (LeO.refl _) (fun _ => LeO.ite (ih _ _) (LeO.refl _))) (LeO.refl _)
theorem glyph_Plain.mono : ∀ a0 k, LeO (glyph_Plain.f k a0) (glyph_Plain.f (k + 1) a0) := fun a0 k => glyph_Plain.mono_l k a0 _
set_option maxHeartbeats 4000000 in
set_option maxRecDepth 100000 in
theorem glyph_Plain.calls (k : Nat) (a0 : ByteArray) (r : Bool) (w : World) (h : glyph_Plain.f k a0 = some r) : Calls Tryd.prog 41 #[.string a0] w fun e w' => e = .returned (.bool r) ∧ Below w.heap.size w w' := by
  have H := Aside0.mk (show glyph_Plain.l0 k a0 0 = some r from h)
  clear h
  go_enter Tryd.func41, Tryd.ntmps41
  go_wp2
  go_loopg [] k (fun kq wr => ∃ (p : Nat), Aside0 (glyph_Plain.l0 kq a0 p = some r) ∧ wr.heap[w.heap.size]? = some (.stringIter a0 p) ∧ Below w.heap.size w wr)
  case atStart => exact ⟨0, H, World.iter_heap w a0 0, (Below.refl _ w).alloc (Nat.le_refl _) _⟩
  case round =>
    clear H
    obtain ⟨p, HA, hit, hB⟩ := hrel
    cases gk with
    | zero => exact absurd HA.out (by simp [glyph_Plain.l0])
    | succ k1 =>
      have hg := HA.out
      clear HA
      simp only [glyph_Plain.l0] at hg
      by_cases hp : p < a0.size
      · rw [if_pos hp] at hg
        obtain ⟨b, hb, hg⟩ := Option.bind_eq_some_iff.mp hg
        have HBD := Aside0.mk hb
        have HG := Aside0.mk hg
        clear hb hg
        have hnx : ∀ ty, (Instr.next (.pointer (some ⟨w.heap.size, 0, none⟩)) true ty).run Tryd.prog wr = _ := fun ty => Lib.run_next_any_at wr w.heap.size a0 p ty hit hp
        have hit2 := Lib.iterAt_heap wr w.heap.size a0 p (p + (Utf8.decode a0 p).2) hit
        have hB2 := Lib.below_iterAt hB (k := w.heap.size) (Nat.le_refl _) a0 (p + (Utf8.decode a0 p).2)
        go_wp2_with fail
        refine (glyph_plain.calls _ b _ HBD.out).mono ?_
        rintro e w1 ⟨rfl, hd⟩
        have hb1 := hd.below
        have hit3 := (hb1.block _ (blk_lt hit2)).trans hit2
        have hB3 := hB2.trans (hb1.mono hB2.size)
        cases b with
        | false =>
          have HG2 : some false = some r := HG.out
          obtain rfl := Option.some.inj HG2
          go_wp2
          go_ret
          exact ⟨rfl, hB3⟩
        | true =>
          have HG2 : glyph_Plain.l0 k1 a0 (p + (Utf8.decode a0 p).2) = some r := HG.out
          have HG3 := Aside0.mk HG2
          clear HG HG2
          go_wp2
          go_roundg k1
          case measure => omega
          case rel => exact ⟨_, HG3, hit3, hB3⟩
      · rw [if_neg hp] at hg
        obtain rfl := Option.some.inj hg
        have hnx : ∀ ty, (Instr.next (.pointer (some ⟨w.heap.size, 0, none⟩)) true ty).run Tryd.prog wr = _ := fun ty => Lib.run_next_end_at wr w.heap.size a0 p ty hit hp
        go_wp2
        go_ret
        exact ⟨rfl, hB⟩

/-! ### reply_lined: function 31 -/
def reply_lined.f (k : Nat) (a0 : ByteArray) : Option (Bool) := (glyph_Plain.f k a0).bind fun t108 => (if t108 = true then (some (decide ((a0.size : Int) ≤ 500))) else (some false))
theorem reply_lined.mono : ∀ a0 k, LeO (reply_lined.f k a0) (reply_lined.f (k + 1) a0) := by
  intro a0 k
  unfold reply_lined.f
  repeat' first
      | (with_reducible exact glyph_Plain.mono _ _)
      | (with_reducible exact LeO.refl _)
      | (with_reducible exact LeO.none _)
      | (with_reducible refine LeO.ite ?_ ?_)
      | (with_reducible refine LeO.bind ?_ (fun _ => ?_))
      | exact glyph_Plain.mono _ _
      | exact LeO.none _
      | refine LeO.ite ?_ ?_
      | refine LeO.bind ?_ (fun _ => ?_)
set_option maxHeartbeats 8000000 in
set_option maxRecDepth 100000 in
theorem reply_lined.calls (k : Nat) (a0 : ByteArray) (r : Bool) (w : World) (h : reply_lined.f k a0 = some r) :
    Calls Tryd.prog 31 #[.string a0] w fun e w' => e = .returned (.bool r) ∧ Below w.heap.size w w' := by
  have HB := Aside0.mk (Below.refl w.heap.size w)
  have H : ((glyph_Plain.f k a0).bind fun t108 => (if t108 = true then (some (decide ((a0.size : Int) ≤ 500))) else (some false))) = some r := h
  clear h
  replace H := Option.bind_eq_some_iff.mp H
  obtain ⟨t108, A20, H⟩ := H
  replace H : (if t108 = true then (some (decide ((a0.size : Int) ≤ 500))) else (some false)) = some r := H
  have A2 := Aside0.mk A20
  clear A20
  by_cases c3 : t108 = true
  · subst c3
    have H1 : (some (decide ((a0.size : Int) ≤ 500))) = some r := by rw [if_pos rfl] at H; exact H
    clear H
    have H := H1
    clear H1
    obtain rfl := Option.some.inj H
    go_enter Tryd.func31, Tryd.ntmps31
    go_wp2_with (first | ((with_reducible refine gate_callee (f := 41) rfl ?_); refine goesL_ (some 4) rfl rfl Tryd.func41 (by kernel_rfl) rfl #[.string a0] rfl (by (try simp only [List.map_toArray, List.map_cons, List.map_nil]); first | done | rfl | (simp only [List.length_drop, List.length_take]; rfl)) ?_; (with_reducible refine (glyph_Plain.calls k a0 true _ A2.out).mono ?_); rintro e w4 ⟨rfl, hb⟩; refine ⟨_, rfl, ?_⟩; have n0_ := Aside0.mk (below_step (by repeat (first | (with_reducible first | exact HB.out | apply below_alloc | apply pw_below_drewN | apply below_drew1) | exact HB.out)) hb); clear HB; have HB := n0_; clear n0_; (try clear hb); (try clear hb2); (try clear hk); (try clear hi)))
    go_ret
    exact ⟨by first | rfl | (simp [errW_none, errW_some] <;> rfl) | (simp [*, errW_none, errW_some] <;> rfl), by repeat (first | (with_reducible first | exact HB.out | apply below_alloc | apply pw_below_drewN | apply below_drew1) | exact HB.out)⟩
  · replace c3 := Bool.eq_false_iff.mpr c3
    subst c3
    have H1 : (some false) = some r := by rw [if_neg (show ¬ (false = true) by decide)] at H; exact H
    clear H
    have H := H1
    clear H1
    obtain rfl := Option.some.inj H
    go_enter Tryd.func31, Tryd.ntmps31
    go_wp2_with (first | ((with_reducible refine gate_callee (f := 41) rfl ?_); refine goesL_ (some 4) rfl rfl Tryd.func41 (by kernel_rfl) rfl #[.string a0] rfl (by (try simp only [List.map_toArray, List.map_cons, List.map_nil]); first | done | rfl | (simp only [List.length_drop, List.length_take]; rfl)) ?_; (with_reducible refine (glyph_Plain.calls k a0 false _ A2.out).mono ?_); rintro e w5 ⟨rfl, hb⟩; refine ⟨_, rfl, ?_⟩; have n0_ := Aside0.mk (below_step (by repeat (first | (with_reducible first | exact HB.out | apply below_alloc | apply pw_below_drewN | apply below_drew1) | exact HB.out)) hb); clear HB; have HB := n0_; clear n0_; (try clear hb); (try clear hb2); (try clear hk); (try clear hi)))
    go_ret
    exact ⟨by first | rfl | (simp [errW_none, errW_some] <;> rfl) | (simp [*, errW_none, errW_some] <;> rfl), by repeat (first | (with_reducible first | exact HB.out | apply below_alloc | apply pw_below_drewN | apply below_drew1) | exact HB.out)⟩

end Go.Proofs.YtdjpdbdilcjakaaDoor.X
