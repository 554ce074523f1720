-- Written by a program (print.py's text, with contracts of this session's own put in). Not trusted: Lean checks it.
import Derived.Test.YtlkppogpoodjlaaDoorX0
import Derived.Test.YtlkppogpoodjlaaDoorX8
namespace Go.Proofs.YtlkppogpoodjlaaDoor.X
open Go.RowKit Go.Proofs.YtlkppogpoodjlaaDoorW.PrintWords Go.Proofs.YtlkppogpoodjlaaDoorW.PrintLast Go.Proofs.YtlkppogpoodjlaaDoorW.PrintMore
attribute [local go_sem] max2_int min2_int max_two min_two max_three min_three max_four min_four   -- for this text's walks alone
set_option linter.unusedVariables false
set_option linter.unusedSimpArgs false

/-! ### bulletinref06_Signs: function 14 -/
def bulletinref06_Signs.l0 : Nat → ByteArray → List Int → Int → Option (List Int)
  | 0, _, _, _ => none
  | k + 1, x0, x3, x4 => if x4 < (x0.size : Int) then ((bulletinref06_One.f k x0 x4).bind fun bt125 => (if x3.length < 17592186044416 then (bulletinref06_Signs.l0 k x0 (x3 ++ [bt125.1]) (wrap64 (x4 + bt125.2))) else (none))) else (some x3)
def bulletinref06_Signs.f (k : Nat) (a0 : ByteArray) : Option (List Int) := bulletinref06_Signs.l0 k a0 ([] : List Int) 0
theorem bulletinref06_Signs.mono_l : ∀ k, (∀ y0 y1 y2, LeO (bulletinref06_Signs.l0 k y0 y1 y2) (bulletinref06_Signs.l0 (k + 1) y0 y1 y2))
  | 0 => fun _ _ _ r h => by simp [bulletinref06_Signs.l0] at h
  | k + 1 => by
    have ih0 := bulletinref06_Signs.mono_l k
    · intro y0 y1 y2
      unfold bulletinref06_Signs.l0
      repeat' first
      | (with_reducible exact ih0 _ _ _)
      | (with_reducible exact bulletinref06_One.mono _ _ _)
      | (with_reducible exact LeO.refl _)
      | (with_reducible exact LeO.none _)
      | (with_reducible refine LeO.ite ?_ ?_)
      | (with_reducible refine LeO.bind ?_ (fun _ => ?_))
      | exact ih0 _ _ _
      | exact bulletinref06_One.mono _ _ _
      | exact LeO.none _
      | refine LeO.ite ?_ ?_
      | refine LeO.bind ?_ (fun _ => ?_)
theorem bulletinref06_Signs.mono : ∀ a0 k, LeO (bulletinref06_Signs.f k a0) (bulletinref06_Signs.f (k + 1) a0) := by
  intro a0 k
  have ih0 := bulletinref06_Signs.mono_l k
  unfold bulletinref06_Signs.f
  repeat' first
      | (with_reducible exact ih0 _ _ _)
      | (with_reducible exact bulletinref06_One.mono _ _ _)
      | (with_reducible exact LeO.refl _)
      | (with_reducible exact LeO.none _)
      | (with_reducible refine LeO.ite ?_ ?_)
      | (with_reducible refine LeO.bind ?_ (fun _ => ?_))
      | exact ih0 _ _ _
      | exact bulletinref06_One.mono _ _ _
      | exact LeO.none _
      | refine LeO.ite ?_ ?_
      | refine LeO.bind ?_ (fun _ => ?_)
set_option maxHeartbeats 8000000 in
set_option maxRecDepth 100000 in
theorem bulletinref06_Signs.calls (k : Nat) (a0 : ByteArray) (r : List Int) (w : World) (h : bulletinref06_Signs.f k a0 = some r) :
    Calls Tryd.prog 14 #[.string a0] w fun e w' => ∃ v0_ : Value, e = .returned (v0_) ∧ Kd.R (Kd.int .i64) 3 w' w.heap.size (fun _ => True) v0_ r ∧ Below w.heap.size w w' := by
  have HB := Aside0.mk (Below.refl w.heap.size w)
  have H : (bulletinref06_Signs.l0 k a0 ([] : List Int) 0) = some r := h
  clear h
  have H' := Aside0.mk H
  clear H
  go_enter Tryd.func14, Tryd.ntmps14
  go_wp2
  go_loopg [3, 4] k (fun kq v3 v4 w' => ∃ (x3_1 : List Int) (x4_1 : Int), v4 = .int .i64 x4_1 ∧ Aside0 (bulletinref06_Signs.l0 kq a0 x3_1 x4_1 = some r) ∧ Aside0 (kq ≤ k) ∧ Aside0 (Kd.R (Kd.int .i64) 3 w' w.heap.size (fun _ => True) v3 x3_1) ∧ Aside0 (Below w.heap.size w w'))
  case atStart => exact ⟨(([] : List Int)), (0), (by first | rfl | (simp; done) | (simp [*]; done)), H', ⟨Nat.le_refl _⟩, ⟨by first | exact Kd.R_nil _ _ _ _ _ | exact Kd.N_nil _ _ _ _ _ | exact Kd.V_nil _ _ _ _ _ | exact Kd.Q_nil _ _ _ _ _ | exact Kd.S_nil _ _ _ _ _⟩, ⟨by repeat (first | (with_reducible first | exact HB.out | apply below_alloc | apply pw_below_drewN | apply below_drew1) | exact HB.out)⟩⟩
  case round =>
    clear H'
    try clear c1
    obtain ⟨x3_1, x4_1, rfl, HA, HK1, HO_3, HB⟩ := hrel
    cases gk with
    | zero => exact absurd HA.out (by simp [bulletinref06_Signs.l0])
    | succ k1 =>
      have H := HA.out
      clear HA
      simp only [bulletinref06_Signs.l0] at H
      by_cases c2 : x4_1 < (a0.size : Int)
      · rw [if_pos c2] at H
        have c2b0 : decide (x4_1 < (a0.size : Int)) = true := decide_eq_true c2
        clear c2
        replace H := Option.bind_eq_some_iff.mp H
        obtain ⟨⟨t125, t126⟩, A30, H⟩ := H
        replace H : (if x3_1.length < 17592186044416 then (bulletinref06_Signs.l0 k1 a0 (x3_1 ++ [t125]) (wrap64 (x4_1 + t126))) else (none)) = some r := H
        have A3 := Aside0.mk A30
        clear A30
        by_cases c4 : x3_1.length < 17592186044416
        · rw [if_pos c4] at H
          have LMc4 := Aside0.mk c4
          clear c4
          obtain ⟨y127, hy127⟩ : ∃ y_ : List Int, y_ = (x3_1 ++ [t125]) := ⟨_, rfl⟩
          replace H : (bulletinref06_Signs.l0 k1 a0 y127 (wrap64 (x4_1 + t126))) = some r := by first | (rw [hy127]; with_reducible exact H) | (have H2_ := (Option.bind_some _ _).symm.trans H; rw [hy127]; with_reducible exact H2_) | (have H2_ := (Option.bind_some _ _).symm.trans H; with_reducible exact H2_) | with_reducible exact H | (rw [hy127]; exact H) | exact H
          have Ny127 := Aside0.mk hy127
          clear hy127
          have H' := Aside0.mk H
          clear H
          go_wp2_with (first | ((with_reducible refine gate_callee (f := 31) rfl ?_); refine goesL_ (some 14) rfl rfl Tryd.func31 (by kernel_rfl) rfl #[.string a0, .int .i64 x4_1] rfl (by (try simp only [List.map_toArray, List.map_cons, List.map_nil]); first | done | rfl | (simp only [List.length_drop, List.length_take]; rfl)) ?_; (with_reducible refine (bulletinref06_One.calls k1 a0 x4_1 t125 t126 _ A3.out).mono ?_); rintro e w5 ⟨rfl, hb⟩; refine ⟨_, rfl, ?_⟩; have n0_ := Aside0.mk (Kd.R_below (by (with_reducible repeat (first | apply Kd.R_alloc | apply Kd.R_drewN | apply Kd.R_drew)); exact HO_3.out) hb); have n1_ := Aside0.mk (below_step (by repeat (first | (with_reducible first | exact HB.out | apply below_alloc | apply pw_below_drewN | apply below_drew1) | exact HB.out)) hb); clear HO_3; clear HB; have HO_3 := n0_; have HB := n1_; clear n0_ n1_; (try clear hb); (try clear hb2); (try clear hk); (try clear hi)) | ((with_reducible refine gate_builtin (b := .append) (xs := #[.tmp 17, .tmp 19]) rfl ?_); at_builtin; refine Kd.R_append (Kd.int .i64) (w0 := w) w.heap.size rfl (.tmp 17) (.tmp 19) 26 3 (.int .i64 0) 8 rfl Tryd.underlying26 info3 rfl (by decide) (by omega) u3 x3_1 t125 [.int .i64 t125] (fun _ => True) (fun _ => False) rfl rfl ?aP (fun _ hk => hk.elim) ?aF ?aO ?aB ?aS ?aL ?_; (case aP => exact rfl); (case aB => exact (by repeat (first | (with_reducible first | exact HB.out | apply below_alloc | apply pw_below_drewN | apply below_drew1) | exact HB.out))); (case aF => exact (fun _ _ => trivial)); (case aO => exact (by (with_reducible repeat (first | apply Kd.R_alloc | apply Kd.R_drewN | apply Kd.R_drew)); exact HO_3.out)); (case aS => exact (below_size (by repeat (first | (with_reducible first | exact HB.out | apply below_alloc | apply pw_below_drewN | apply below_drew1) | exact HB.out)))); (case aL => have := LMc4.out; omega); intro v128 w6 ho hb hg hat; rw [← Ny127.out] at ho; have n0_ := Aside0.mk (hb); have n1_ := Aside0.mk (ho); clear HB; clear HO_3; have HB := n0_; have HO129 := n1_; clear n0_ n1_; clear ho hb hg hat))
          go_roundg k1
          case measure => have := HK1.out; omega
          case rel => exact ⟨(y127), (wrap64 (x4_1 + t126)), (by first | rfl | (simp; done) | (simp [*]; done)), H', ⟨by have := HK1.out; omega⟩, ⟨by (with_reducible repeat (first | apply Kd.R_alloc | apply Kd.R_drewN | apply Kd.R_drew)); exact HO129.out⟩, ⟨by repeat (first | (with_reducible first | exact HB.out | apply below_alloc | apply pw_below_drewN | apply below_drew1) | exact HB.out)⟩⟩
        · rw [if_neg c4] at H
          exact absurd H (by simp)
      · rw [if_neg c2] at H
        have c2b0 : decide (x4_1 < (a0.size : Int)) = false := decide_eq_false c2
        clear c2
        obtain rfl := Option.some.inj H
        go_wp2
        go_ret
        exact ⟨_, by first | rfl | (simp [errW_none, errW_some] <;> rfl) | (simp [*, errW_none, errW_some] <;> rfl), by (with_reducible repeat (first | apply Kd.R_alloc | apply Kd.R_drewN | apply Kd.R_drew)); exact HO_3.out, by repeat (first | (with_reducible first | exact HB.out | apply below_alloc | apply pw_below_drewN | apply below_drew1) | exact HB.out)⟩

/-! ### glyph_Clip: function 15, a contract written by hand -/
-- IMPORT Derived.Lib.OthersKept
def glyph_Clip.l0 : Nat → ByteArray → Int → Nat → Option ByteArray
  | 0, _, _, _ => none
  | k + 1, s, n, p => if p < s.size then (if n ≤ 0 then some (s.extract 0 p) else glyph_Clip.l0 k s (wrap64 (n - 1)) (p + (Utf8.decode s p).2)) else some s
def glyph_Clip.f (k : Nat) (a0 : ByteArray) (a1 : Int) : Option ByteArray := glyph_Clip.l0 k a0 a1 0
theorem glyph_Clip.mono_l : ∀ k, (∀ y0 y1 y2, LeO (glyph_Clip.l0 k y0 y1 y2) (glyph_Clip.l0 (k + 1) y0 y1 y2))
  | 0 => fun _ _ _ r h => by simp [glyph_Clip.l0] at h
  | k + 1 => fun y0 y1 y2 => by
    have ih := glyph_Clip.mono_l k
    unfold glyph_Clip.l0
    exact LeO.ite (LeO.ite (LeO.refl _) (ih _ _ _)) (LeO.refl _)
theorem glyph_Clip.mono : ∀ a0 a1 k, LeO (glyph_Clip.f k a0 a1) (glyph_Clip.f (k + 1) a0 a1) := fun a0 a1 k => glyph_Clip.mono_l k a0 _ _
set_option maxHeartbeats 4000000 in
set_option maxRecDepth 100000 in
theorem glyph_Clip.calls (k : Nat) (a0 : ByteArray) (a1 : Int) (r : ByteArray) (w : World) (h : glyph_Clip.f k a0 a1 = some r) : Calls Tryd.prog 15 #[.string a0, .int .i64 a1] w fun e w' => e = .returned (.string r) ∧ Below w.heap.size w w' := by
  have H := Aside0.mk (show glyph_Clip.l0 k a0 a1 0 = some r from h)
  clear h
  go_enter Tryd.func15, Tryd.ntmps15
  go_wp2
  go_loopg [1] k (fun kq v0 wr => ∃ (n : Int) (p : Nat), v0 = .int .i64 n ∧ Aside0 (glyph_Clip.l0 kq a0 n p = some r) ∧ wr.heap[w.heap.size]? = some (.stringIter a0 p) ∧ Below w.heap.size w wr)
  case atStart => exact ⟨a1, 0, rfl, H, World.iter_heap w a0 0, (Below.refl _ w).alloc (Nat.le_refl _) _⟩
  case round =>
    clear H
    obtain ⟨n, p, rfl, HA, hit, hB⟩ := hrel
    cases gk with
    | zero => exact absurd HA.out (by simp [glyph_Clip.l0])
    | succ k1 =>
      have hg := HA.out
      clear HA
      simp only [glyph_Clip.l0] at hg
      by_cases hp : p < a0.size
      · rw [if_pos hp] at hg
        have hnx : ∀ ty, (Instr.next (.pointer (some ⟨w.heap.size, 0, none⟩)) true ty).run Tryd.prog wr = _ := fun ty => Lib.run_next_any_at wr w.heap.size a0 p ty hit hp
        have hit2 := Lib.iterAt_heap wr w.heap.size a0 p (p + (Utf8.decode a0 p).2) hit
        have hB2 := Lib.below_iterAt hB (k := w.heap.size) (Nat.le_refl _) a0 (p + (Utf8.decode a0 p).2)
        by_cases hn : n ≤ 0
        · rw [if_pos hn] at hg
          obtain rfl := Option.some.inj hg
          have hn1 := decide_eq_true hn
          have q0 : (0 : Int) ≤ (p : Int) := by omega
          have q1 : (p : Int) ≤ (a0.size : Int) := by omega
          have q2 : p ≤ a0.size := by omega
          go_wp2
          go_ret
          exact ⟨rfl, hB2⟩
        · rw [if_neg hn] at hg
          have HG := Aside0.mk hg
          clear hg
          have hn1 := decide_eq_false hn
          go_wp2
          go_roundg k1
          case measure => omega
          case rel => exact ⟨_, _, rfl, HG, hit2, hB2⟩
      · rw [if_neg hp] at hg
        obtain rfl := Option.some.inj hg
        have hnx : ∀ ty, (Instr.next (.pointer (some ⟨w.heap.size, 0, none⟩)) true ty).run Tryd.prog wr = _ := fun ty => Lib.run_next_end_at wr w.heap.size a0 p ty hit hp
        go_wp2
        go_ret
        exact ⟨rfl, hB⟩

end Go.Proofs.YtlkppogpoodjlaaDoor.X
