-- Written by a program (print.py's text, with contracts of this session's own put in). Not trusted: Lean checks it.
import Derived.Test.YtaamnpomclenpaaDoorX0
import Derived.Test.YtaamnpomclenpaaDoorX7
import Derived.Test.YtaamnpomclenpaaDoorX8
namespace Go.Proofs.YtaamnpomclenpaaDoor.X
open Go.RowKit Go.Proofs.YtaamnpomclenpaaDoorW.PrintWords Go.Proofs.YtaamnpomclenpaaDoorW.PrintLast Go.Proofs.YtaamnpomclenpaaDoorW.PrintMore
attribute [local go_sem] max2_int min2_int max_two min_two max_three min_three max_four min_four   -- for this text's walks alone
set_option linter.unusedVariables false
set_option linter.unusedSimpArgs false

/-! ### bulletinref27_Read: function 7 -/
mutual
def bulletinref27_Read.j1 : Nat → ByteArray → Int → Option (Int × ByteArray × Int)
  | 0, _, _ => none
  | k + 1, x0, x4 => bulletinref27_Read.l1 k x0 x4 1 0 (⟨#[]⟩ : ByteArray)
def bulletinref27_Read.l1 : Nat → ByteArray → Int → Int → Int → ByteArray → Option (Int × ByteArray × Int)
  | 0, _, _, _, _, _ => none
  | k + 1, x0, x4, x6, x124000, x124001 => if x6 ≤ 9 then ((bulletinref27_word.f x6).bind fun t124 => ((bulletinref06_Fold.f k t124).bind fun t125 => (if 0 ≤ x4 then (if x4 ≤ (x0.size : Int) then ((bulletinref06_Fold.f k (x0.extract 0 (x4 : Int).toNat)).bind fun t126 => (if t125.toList = t126.toList then (bulletinref27_Read.l1 k x0 x4 (wrap64 (x6 + 1)) x6 x124001) else (bulletinref27_Read.l1 k x0 x4 (wrap64 (x6 + 1)) x124000 x124001))) else (none)) else (none)))) else (if x124000 = 0 then (some (0, (⟨#[]⟩ : ByteArray), 270)) else (bulletinref27_Read.l2 k x0 x4 0 x124000 x124001))
def bulletinref27_Read.l2 : Nat → ByteArray → Int → Int → Int → ByteArray → Option (Int × ByteArray × Int)
  | 0, _, _, _, _, _ => none
  | k + 1, x0, x4, x7, x124000, x124001 => if x7 < (x0.size : Int) then (if 0 ≤ x7 then (if (bt x0 x7) < 32 then (some (0, (⟨#[]⟩ : ByteArray), 3)) else (if (bt x0 x7) > 126 then (some (0, (⟨#[]⟩ : ByteArray), 3)) else (bulletinref27_Read.l2 k x0 x4 (wrap64 (x7 + 1)) x124000 x124001))) else (none)) else (if 0 ≤ x4 then (if x4 ≤ (x0.size : Int) then ((bulletinref27_trim.f k (x0.extract (x4 : Int).toNat x0.size)).bind fun t127 => (if x124000 = 3 then (if (t127.size : Int) < 5 then (some (0, (⟨#[]⟩ : ByteArray), 3)) else (if 0 ≤ 5 then (if 5 ≤ (t127.size : Int) then ((bulletinref06_Fold.f k (t127.extract 0 5)).bind fun t128 => (if t128.toList = ([102, 114, 111, 109, 58] : List UInt8) then ((bulletinref27_trim.f k (t127.extract 5 t127.size)).bind fun t129 => (bulletinref27_Read.j4 k x124000 t129)) else (some (0, (⟨#[]⟩ : ByteArray), 3)))) else (none)) else (none))) else (bulletinref27_Read.j4 k x124000 t127))) else (none)) else (none))
def bulletinref27_Read.j4 : Nat → Int → ByteArray → Option (Int × ByteArray × Int)
  | 0, _, _ => none
  | k + 1, x124000, x124001 => if x124000 = 4 then (if (x124001.size : Int) < 3 then (some (0, (⟨#[]⟩ : ByteArray), 3)) else (if 0 ≤ 3 then (if 3 ≤ (x124001.size : Int) then ((bulletinref06_Fold.f k (x124001.extract 0 3)).bind fun t130 => (if t130.toList = ([116, 111, 58] : List UInt8) then ((bulletinref27_trim.f k (x124001.extract 3 x124001.size)).bind fun t131 => (bulletinref27_Read.j5 k x124000 t131)) else (some (0, (⟨#[]⟩ : ByteArray), 3)))) else (none)) else (none))) else (bulletinref27_Read.j5 k x124000 x124001)
def bulletinref27_Read.j5 : Nat → Int → ByteArray → Option (Int × ByteArray × Int)
  | 0, _, _ => none
  | k + 1, x124000, x124001 => if x124001.toList = ([] : List UInt8) then (if x124000 ≤ 4 then (bulletinref27_Read.j6 k true x124000 x124001) else (bulletinref27_Read.j6 k (x124000 == 8) x124000 x124001)) else (bulletinref27_Read.j6 k false x124000 x124001)
def bulletinref27_Read.j6 : Nat → Bool → Int → ByteArray → Option (Int × ByteArray × Int)
  | 0, _, _, _ => none
  | k + 1, x113, x124000, x124001 => if x113 = true then (some (0, (⟨#[]⟩ : ByteArray), 3)) else (if x124001.toList = ([] : List UInt8) then (some (x124000, x124001, 0)) else (if x124000 = 5 then (some (0, (⟨#[]⟩ : ByteArray), 3)) else (if x124000 = 6 then (some (0, (⟨#[]⟩ : ByteArray), 3)) else (if x124000 = 9 then (some (0, (⟨#[]⟩ : ByteArray), 3)) else (some (x124000, x124001, 0))))))
def bulletinref27_Read.l0 : Nat → ByteArray → Int → Option (Int × ByteArray × Int)
  | 0, _, _ => none
  | k + 1, x0, x4 => if x4 < (x0.size : Int) then (if 0 ≤ x4 then (if (bt x0 x4) = 32 then (bulletinref27_Read.j1 k x0 x4) else (bulletinref27_Read.l0 k x0 (wrap64 (x4 + 1)))) else (none)) else (bulletinref27_Read.j1 k x0 x4)
end
def bulletinref27_Read.f (k : Nat) (a0 : ByteArray) : Option (Int × ByteArray × Int) := bulletinref27_Read.l0 k a0 0
theorem bulletinref27_Read.mono_l : ∀ k, (∀ y0 y1, LeO (bulletinref27_Read.j1 k y0 y1) (bulletinref27_Read.j1 (k + 1) y0 y1)) ∧ (∀ y0 y1 y2 y3 y4, LeO (bulletinref27_Read.l1 k y0 y1 y2 y3 y4) (bulletinref27_Read.l1 (k + 1) y0 y1 y2 y3 y4)) ∧ (∀ y0 y1 y2 y3 y4, LeO (bulletinref27_Read.l2 k y0 y1 y2 y3 y4) (bulletinref27_Read.l2 (k + 1) y0 y1 y2 y3 y4)) ∧ (∀ y0 y1, LeO (bulletinref27_Read.j4 k y0 y1) (bulletinref27_Read.j4 (k + 1) y0 y1)) ∧ (∀ y0 y1, LeO (bulletinref27_Read.j5 k y0 y1) (bulletinref27_Read.j5 (k + 1) y0 y1)) ∧ (∀ y0 y1 y2, LeO (bulletinref27_Read.j6 k y0 y1 y2) (bulletinref27_Read.j6 (k + 1) y0 y1 y2)) ∧ (∀ y0 y1, LeO (bulletinref27_Read.l0 k y0 y1) (bulletinref27_Read.l0 (k + 1) y0 y1))
  | 0 => ⟨fun _ _ r h => by simp [bulletinref27_Read.j1] at h, fun _ _ _ _ _ r h => by simp [bulletinref27_Read.l1] at h, fun _ _ _ _ _ r h => by simp [bulletinref27_Read.l2] at h, fun _ _ r h => by simp [bulletinref27_Read.j4] at h, fun _ _ r h => by simp [bulletinref27_Read.j5] at h, fun _ _ _ r h => by simp [bulletinref27_Read.j6] at h, fun _ _ r h => by simp [bulletinref27_Read.l0] at h⟩
  | k + 1 => by
    obtain ⟨ih0, ih1, ih2, ih3, ih4, ih5, ih6⟩ := bulletinref27_Read.mono_l k
    refine ⟨?_, ?_, ?_, ?_, ?_, ?_, ?_⟩
    · intro y0 y1
      unfold bulletinref27_Read.j1
      repeat' first
      | (with_reducible exact ih0 _ _)
      | (with_reducible exact ih1 _ _ _ _ _)
      | (with_reducible exact ih2 _ _ _ _ _)
      | (with_reducible exact ih3 _ _)
      | (with_reducible exact ih4 _ _)
      | (with_reducible exact ih5 _ _ _)
      | (with_reducible exact ih6 _ _)
      | (with_reducible exact bulletinref06_Fold.mono _ _)
      | (with_reducible exact bulletinref27_trim.mono _ _)
      | (with_reducible exact LeO.refl _)
      | (with_reducible exact LeO.none _)
      | (with_reducible refine LeO.ite ?_ ?_)
      | (with_reducible refine LeO.bind ?_ (fun _ => ?_))
      | exact ih0 _ _
      | exact ih1 _ _ _ _ _
      | exact ih2 _ _ _ _ _
      | exact ih3 _ _
      | exact ih4 _ _
      | exact ih5 _ _ _
      | exact ih6 _ _
      | exact bulletinref06_Fold.mono _ _
      | exact bulletinref27_trim.mono _ _
      | exact LeO.none _
      | refine LeO.ite ?_ ?_
      | refine LeO.bind ?_ (fun _ => ?_)
    · intro y0 y1 y2 y3 y4
      unfold bulletinref27_Read.l1
      repeat' first
      | (with_reducible exact ih0 _ _)
      | (with_reducible exact ih1 _ _ _ _ _)
      | (with_reducible exact ih2 _ _ _ _ _)
      | (with_reducible exact ih3 _ _)
      | (with_reducible exact ih4 _ _)
      | (with_reducible exact ih5 _ _ _)
      | (with_reducible exact ih6 _ _)
      | (with_reducible exact bulletinref06_Fold.mono _ _)
      | (with_reducible exact bulletinref27_trim.mono _ _)
      | (with_reducible exact LeO.refl _)
      | (with_reducible exact LeO.none _)
      | (with_reducible refine LeO.ite ?_ ?_)
      | (with_reducible refine LeO.bind ?_ (fun _ => ?_))
      | exact ih0 _ _
      | exact ih1 _ _ _ _ _
      | exact ih2 _ _ _ _ _
      | exact ih3 _ _
      | exact ih4 _ _
      | exact ih5 _ _ _
      | exact ih6 _ _
      | exact bulletinref06_Fold.mono _ _
      | exact bulletinref27_trim.mono _ _
      | exact LeO.none _
      | refine LeO.ite ?_ ?_
      | refine LeO.bind ?_ (fun _ => ?_)
    · intro y0 y1 y2 y3 y4
      unfold bulletinref27_Read.l2
      repeat' first
      | (with_reducible exact ih0 _ _)
      | (with_reducible exact ih1 _ _ _ _ _)
      | (with_reducible exact ih2 _ _ _ _ _)
      | (with_reducible exact ih3 _ _)
      | (with_reducible exact ih4 _ _)
      | (with_reducible exact ih5 _ _ _)
      | (with_reducible exact ih6 _ _)
      | (with_reducible exact bulletinref06_Fold.mono _ _)
      | (with_reducible exact bulletinref27_trim.mono _ _)
      | (with_reducible exact LeO.refl _)
      | (with_reducible exact LeO.none _)
      | (with_reducible refine LeO.ite ?_ ?_)
      | (with_reducible refine LeO.bind ?_ (fun _ => ?_))
      | exact ih0 _ _
      | exact ih1 _ _ _ _ _
      | exact ih2 _ _ _ _ _
      | exact ih3 _ _
      | exact ih4 _ _
      | exact ih5 _ _ _
      | exact ih6 _ _
      | exact bulletinref06_Fold.mono _ _
      | exact bulletinref27_trim.mono _ _
      | exact LeO.none _
      | refine LeO.ite ?_ ?_
      | refine LeO.bind ?_ (fun _ => ?_)
    · intro y0 y1
      unfold bulletinref27_Read.j4
      repeat' first
      | (with_reducible exact ih0 _ _)
      | (with_reducible exact ih1 _ _ _ _ _)
      | (with_reducible exact ih2 _ _ _ _ _)
      | (with_reducible exact ih3 _ _)
      | (with_reducible exact ih4 _ _)
      | (with_reducible exact ih5 _ _ _)
      | (with_reducible exact ih6 _ _)
      | (with_reducible exact bulletinref06_Fold.mono _ _)
      | (with_reducible exact bulletinref27_trim.mono _ _)
      | (with_reducible exact LeO.refl _)
      | (with_reducible exact LeO.none _)
      | (with_reducible refine LeO.ite ?_ ?_)
      | (with_reducible refine LeO.bind ?_ (fun _ => ?_))
      | exact ih0 _ _
      | exact ih1 _ _ _ _ _
      | exact ih2 _ _ _ _ _
      | exact ih3 _ _
      | exact ih4 _ _
      | exact ih5 _ _ _
      | exact ih6 _ _
      | exact bulletinref06_Fold.mono _ _
      | exact bulletinref27_trim.mono _ _
      | exact LeO.none _
      | refine LeO.ite ?_ ?_
      | refine LeO.bind ?_ (fun _ => ?_)
    · intro y0 y1
      unfold bulletinref27_Read.j5
      repeat' first
      | (with_reducible exact ih0 _ _)
      | (with_reducible exact ih1 _ _ _ _ _)
      | (with_reducible exact ih2 _ _ _ _ _)
      | (with_reducible exact ih3 _ _)
      | (with_reducible exact ih4 _ _)
      | (with_reducible exact ih5 _ _ _)
      | (with_reducible exact ih6 _ _)
      | (with_reducible exact bulletinref06_Fold.mono _ _)
      | (with_reducible exact bulletinref27_trim.mono _ _)
      | (with_reducible exact LeO.refl _)
      | (with_reducible exact LeO.none _)
      | (with_reducible refine LeO.ite ?_ ?_)
      | (with_reducible refine LeO.bind ?_ (fun _ => ?_))
      | exact ih0 _ _
      | exact ih1 _ _ _ _ _
      | exact ih2 _ _ _ _ _
      | exact ih3 _ _
      | exact ih4 _ _
      | exact ih5 _ _ _
      | exact ih6 _ _
      | exact bulletinref06_Fold.mono _ _
      | exact bulletinref27_trim.mono _ _
      | exact LeO.none _
      | refine LeO.ite ?_ ?_
      | refine LeO.bind ?_ (fun _ => ?_)
    · intro y0 y1 y2
      unfold bulletinref27_Read.j6
      repeat' first
      | (with_reducible exact ih0 _ _)
      | (with_reducible exact ih1 _ _ _ _ _)
      | (with_reducible exact ih2 _ _ _ _ _)
      | (with_reducible exact ih3 _ _)
      | (with_reducible exact ih4 _ _)
      | (with_reducible exact ih5 _ _ _)
      | (with_reducible exact ih6 _ _)
      | (with_reducible exact bulletinref06_Fold.mono _ _)
      | (with_reducible exact bulletinref27_trim.mono _ _)
      | (with_reducible exact LeO.refl _)
      | (with_reducible exact LeO.none _)
      | (with_reducible refine LeO.ite ?_ ?_)
      | (with_reducible refine LeO.bind ?_ (fun _ => ?_))
      | exact ih0 _ _
      | exact ih1 _ _ _ _ _
      | exact ih2 _ _ _ _ _
      | exact ih3 _ _
      | exact ih4 _ _
      | exact ih5 _ _ _
      | exact ih6 _ _
      | exact bulletinref06_Fold.mono _ _
      | exact bulletinref27_trim.mono _ _
      | exact LeO.none _
      | refine LeO.ite ?_ ?_
      | refine LeO.bind ?_ (fun _ => ?_)
    · intro y0 y1
      unfold bulletinref27_Read.l0
      repeat' first
      | (with_reducible exact ih0 _ _)
      | (with_reducible exact ih1 _ _ _ _ _)
      | (with_reducible exact ih2 _ _ _ _ _)
      | (with_reducible exact ih3 _ _)
      | (with_reducible exact ih4 _ _)
      | (with_reducible exact ih5 _ _ _)
      | (with_reducible exact ih6 _ _)
      | (with_reducible exact bulletinref06_Fold.mono _ _)
      | (with_reducible exact bulletinref27_trim.mono _ _)
      | (with_reducible exact LeO.refl _)
      | (with_reducible exact LeO.none _)
      | (with_reducible refine LeO.ite ?_ ?_)
      | (with_reducible refine LeO.bind ?_ (fun _ => ?_))
      | exact ih0 _ _
      | exact ih1 _ _ _ _ _
      | exact ih2 _ _ _ _ _
      | exact ih3 _ _
      | exact ih4 _ _
      | exact ih5 _ _ _
      | exact ih6 _ _
      | exact bulletinref06_Fold.mono _ _
      | exact bulletinref27_trim.mono _ _
      | exact LeO.none _
      | refine LeO.ite ?_ ?_
      | refine LeO.bind ?_ (fun _ => ?_)
theorem bulletinref27_Read.mono : ∀ a0 k, LeO (bulletinref27_Read.f k a0) (bulletinref27_Read.f (k + 1) a0) := by
  intro a0 k
  obtain ⟨ih0, ih1, ih2, ih3, ih4, ih5, ih6⟩ := bulletinref27_Read.mono_l k
  unfold bulletinref27_Read.f
  repeat' first
      | (with_reducible exact ih0 _ _)
      | (with_reducible exact ih1 _ _ _ _ _)
      | (with_reducible exact ih2 _ _ _ _ _)
      | (with_reducible exact ih3 _ _)
      | (with_reducible exact ih4 _ _)
      | (with_reducible exact ih5 _ _ _)
      | (with_reducible exact ih6 _ _)
      | (with_reducible exact bulletinref06_Fold.mono _ _)
      | (with_reducible exact bulletinref27_trim.mono _ _)
      | (with_reducible exact LeO.refl _)
      | (with_reducible exact LeO.none _)
      | (with_reducible refine LeO.ite ?_ ?_)
      | (with_reducible refine LeO.bind ?_ (fun _ => ?_))
      | exact ih0 _ _
      | exact ih1 _ _ _ _ _
      | exact ih2 _ _ _ _ _
      | exact ih3 _ _
      | exact ih4 _ _
      | exact ih5 _ _ _
      | exact ih6 _ _
      | exact bulletinref06_Fold.mono _ _
      | exact bulletinref27_trim.mono _ _
      | exact LeO.none _
      | refine LeO.ite ?_ ?_
      | refine LeO.bind ?_ (fun _ => ?_)
def bulletinref27_Read.T8 : Bool × List (List Nat × List Nat) := (true, [([], []), ([0], [0]), ([1, 1], [1]), ([], []), ([], []), ([3, 4], [3, 4]), ([5, 2], [5]), ([2, 6], [2, 6])])
def bulletinref27_Read.B8 : List Nat := [0, 1, 3, 0, 0, 24, 63, 127]
theorem bulletinref27_Read.tab8 : rtab .any (opsOf Tryd.f7 8) = bulletinref27_Read.T8 := by kernel_rfl
theorem bulletinref27_Read.bits8 : waitsOk bulletinref27_Read.T8.2 bulletinref27_Read.B8 = true := by kernel_rfl
set_option maxHeartbeats 8000000 in
set_option maxRecDepth 100000 in
theorem bulletinref27_Read.calls (k : Nat) (a0 : ByteArray) (r1 : Int) (r2 : ByteArray) (r3 : Int) (w : World) (h : bulletinref27_Read.f k a0 = some (r1, r2, r3)) :
    Calls Tryd.prog 7 #[.string a0] w fun e w' => e = .returned (.tuple #[.agg #[.int .i64 r1, .string r2], .int .i64 r3]) ∧ Below w.heap.size w w' := by
  have hu23 := Tryd.underlying23
  have HB := Aside0.mk (Below.refl w.heap.size w)
  have H : (bulletinref27_Read.l0 k a0 0) = some (r1, r2, r3) := h
  clear h
  have HC2 := Aside0.mk H
  clear H
  go_enter Tryd.func7, Tryd.ntmps7
  go_upto_block 0 with (first | ((with_reducible refine gate_dst (N := 2) rfl ?_); refine box_event ?hg (N := 2) ?hd (cs := #[.int .i64 0, .string (⟨#[]⟩ : ByteArray)]) (t := 23) ?hr ?_; (case hd => rfl); (case hg => rfl); (case hr => first | (go_simp; done) | (go_simp; rfl)); intro gb122 hg w3 hbox hb; have n0_ := Aside0.mk (below_step (by repeat (first | (with_reducible first | exact HB.out | apply below_alloc | apply pw_below_drewN | apply below_drew1) | exact HB.out)) hb); have n1_ := Aside0.mk (hbox); have n2_ := Aside0.mk ((by rw [hg]; exact (below_size (by repeat (first | (with_reducible first | exact HB.out | apply below_alloc | apply pw_below_drewN | apply below_drew1) | exact HB.out))) : w.heap.size ≤ gb122)); have n3_ := Aside0.mk ((by rw [hg]; exact (below_size (by repeat (first | (with_reducible first | exact HB.out | apply below_alloc | apply pw_below_drewN | apply below_drew1) | exact HB.out))) : w.heap.size ≤ gb122)); clear HB; have HB := n0_; have BK122 := n1_; have GW122 := n2_; have GE122 := n3_; clear n0_ n1_ n2_ n3_; clear hb hbox hg))
  (try simp only [Act.put, List.setIfInBounds_toArray, List.set_cons_zero, List.set_cons_succ])
  go_cut [4] (fun v4 wc => ∃ (kq : Nat) (x4_1 : Int), v4 = .int .i64 x4_1 ∧ Aside0 (bulletinref27_Read.j1 kq a0 x4_1 = some (r1, r2, r3)) ∧ Aside0 (kq ≤ k) ∧ Aside0 (wc.heap[gb122]? = some (.cells #[.int .i64 0, .string (⟨#[]⟩ : ByteArray)] 23 (0, 0))) ∧ Aside0 (Below w.heap.size w wc))
  case first =>
    have H := HC2.out
    clear HC2
    have H' := Aside0.mk H
    clear H
    go_wp2
    go_loopg [4] k (fun kq v4 w' => ∃ (x4_1 : Int), v4 = .int .i64 x4_1 ∧ Aside0 (bulletinref27_Read.l0 kq a0 x4_1 = some (r1, r2, r3)) ∧ Aside0 (kq ≤ k) ∧ Aside0 (w'.heap[gb122]? = some (.cells #[.int .i64 0, .string (⟨#[]⟩ : ByteArray)] 23 (0, 0))) ∧ Aside0 (Below w.heap.size w w'))
    case atStart => exact ⟨(0), (by first | rfl | (simp; done) | (simp [*]; done)), H', ⟨Nat.le_refl _⟩, ⟨by (with_reducible repeat (first | refine blk_drewN ?_ _ | refine blk_drew ?_ | refine blk_alloc ?_ _)); exact BK122.out⟩, ⟨by repeat (first | (with_reducible first | exact HB.out | apply below_alloc | apply pw_below_drewN | apply below_drew1 | refine below_set ?_ GE122.out) | exact HB.out)⟩⟩
    case round =>
      clear H'
      try clear p2
      obtain ⟨x4_1, rfl, HA, HK1, BK122, HB⟩ := hrel
      cases gk with
      | zero => exact absurd HA.out (by simp [bulletinref27_Read.l0])
      | succ k1 =>
        have H := HA.out
        clear HA
        simp only [bulletinref27_Read.l0] at H
        by_cases c4 : x4_1 < (a0.size : Int)
        · rw [if_pos c4] at H
          have c4b0 : decide (x4_1 < (a0.size : Int)) = true := decide_eq_true c4
          clear c4
          (first | rw [c4b0] | (simp only [i64_w, i32_w]; rw [c4b0]) | skip)
          by_cases c5 : 0 ≤ x4_1
          · rw [if_pos c5] at H
            have c5b0 : decide (0 ≤ x4_1) = true := decide_eq_true c5
            clear c5
            by_cases c7 : (bt a0 x4_1) = 32
            · rw [if_pos c7] at H
              have c7b0 : ((bt a0 x4_1) == 32) = true := beq_iff_eq.mpr c7
              have c7b1 : ((bt a0 x4_1) != 32) = false := bne_eq_false_iff_eq.mpr c7
              clear c7
              have H' := Aside0.mk H
              clear H
              have p6 : 0 ≤ (x4_1 : Int) := of_decide_eq_true (by first | (with_reducible assumption) | assumption)
              have q6 : x4_1 < (a0.size : Int) := of_decide_eq_true (by first | (with_reducible assumption) | assumption)
              have hx6 := bt_at a0 x4_1
              replace p6 := eq_true p6
              replace q6 := eq_true q6; try (have qs6 := q6; simp only [ByteArray.size_append, ByteArray.size_extract, Nat.min_self, Xsize_mk, List.size_toArray, List.length_cons, List.length_nil, Nat.zero_add, Nat.reduceAdd, List.length_append, List.length_drop, List.length_take] at qs6)
              go_wp2
              go_meet
              case rel => exact ⟨_, (x4_1), (by first | rfl | (simp; done) | (simp [*]; done)), H', ⟨by have := HK1.out; first | omega | exact Nat.le_refl _⟩, ⟨by (with_reducible repeat (first | refine blk_drewN ?_ _ | refine blk_drew ?_ | refine blk_alloc ?_ _)); exact BK122.out⟩, ⟨by repeat (first | (with_reducible first | exact HB.out | apply below_alloc | apply pw_below_drewN | apply below_drew1 | refine below_set ?_ GE122.out) | exact HB.out)⟩⟩
            · rw [if_neg c7] at H
              have c7b0 : ((bt a0 x4_1) == 32) = false := beq_eq_false_iff_ne.mpr c7
              have c7b1 : ((bt a0 x4_1) != 32) = true := bne_iff_ne.mpr c7
              have H' := Aside0.mk H
              clear H
              have p6 : 0 ≤ (x4_1 : Int) := of_decide_eq_true (by first | (with_reducible assumption) | assumption)
              have q6 : x4_1 < (a0.size : Int) := of_decide_eq_true (by first | (with_reducible assumption) | assumption)
              have hx6 := bt_at a0 x4_1
              replace p6 := eq_true p6
              replace q6 := eq_true q6; try (have qs6 := q6; simp only [ByteArray.size_append, ByteArray.size_extract, Nat.min_self, Xsize_mk, List.size_toArray, List.length_cons, List.length_nil, Nat.zero_add, Nat.reduceAdd, List.length_append, List.length_drop, List.length_take] at qs6)
              go_wp2
              go_roundg k1
              case measure => have := HK1.out; omega
              case rel => exact ⟨(wrap64 (x4_1 + 1)), (by first | rfl | (simp; done) | (simp [*]; done)), H', ⟨by have := HK1.out; omega⟩, ⟨by (with_reducible repeat (first | refine blk_drewN ?_ _ | refine blk_drew ?_ | refine blk_alloc ?_ _)); exact BK122.out⟩, ⟨by repeat (first | (with_reducible first | exact HB.out | apply below_alloc | apply pw_below_drewN | apply below_drew1 | refine below_set ?_ GE122.out) | exact HB.out)⟩⟩
          · rw [if_neg c5] at H
            exact absurd H (by simp)
        · rw [if_neg c4] at H
          have c4b0 : decide (x4_1 < (a0.size : Int)) = false := decide_eq_false c4
          clear c4
          (first | rw [c4b0] | (simp only [i64_w, i32_w]; rw [c4b0]) | skip)
          have H' := Aside0.mk H
          clear H
          go_wp2
          go_meet
          case rel => exact ⟨_, (x4_1), (by first | rfl | (simp; done) | (simp [*]; done)), H', ⟨by have := HK1.out; first | omega | exact Nat.le_refl _⟩, ⟨by (with_reducible repeat (first | refine blk_drewN ?_ _ | refine blk_drew ?_ | refine blk_alloc ?_ _)); exact BK122.out⟩, ⟨by repeat (first | (with_reducible first | exact HB.out | apply below_alloc | apply pw_below_drewN | apply below_drew1 | refine below_set ?_ GE122.out) | exact HB.out)⟩⟩
  case rest =>
    clear HC2
    try clear p2
    try clear c4
    try clear c4b0
    try clear c5
    try clear c5b0
    try clear p6
    try clear q6
    try clear hx6
    try clear c7
    try clear c7b0
    try clear c7b1
    try clear p2
    try clear p6
    try clear q6
    obtain ⟨kq, x4_1, rfl, HA, HJ1, BK122, HB⟩ := hcut
    cases kq with
    | zero => exact absurd HA.out (by simp [bulletinref27_Read.j1])
    | succ kj1 =>
      have H := HA.out
      clear HA
      simp only [bulletinref27_Read.j1] at H
      have H' := Aside0.mk H
      clear H
      go_wp2_with (first | ((with_reducible refine gate_dst (N := 5) rfl ?_); refine box_event ?hg (N := 5) ?hd (cs := #[.int .i64 0, .string (⟨#[]⟩ : ByteArray)]) (t := 23) ?hr ?_; (case hd => rfl); (case hg => rfl); (case hr => first | (go_simp; done) | (go_simp; rfl)); intro gb123 hg w8 hbox hb; have n0_ := Aside0.mk (blk_below (g := gb122) (o := .cells #[.int .i64 0, .string (⟨#[]⟩ : ByteArray)] 23 (0, 0)) (by (with_reducible repeat (first | refine blk_drewN ?_ _ | refine blk_drew ?_ | refine blk_alloc ?_ _)); exact BK122.out) hb); have n1_ := Aside0.mk (below_step (by repeat (first | (with_reducible first | exact HB.out | apply below_alloc | apply pw_below_drewN | apply below_drew1 | refine below_set ?_ GE122.out) | exact HB.out)) hb); have n2_ := Aside0.mk (hbox); have n3_ := Aside0.mk ((by rw [hg]; exact (below_size (by repeat (first | (with_reducible first | exact HB.out | apply below_alloc | apply pw_below_drewN | apply below_drew1 | refine below_set ?_ GE122.out) | exact HB.out))) : w.heap.size ≤ gb123)); have n4_ := Aside0.mk ((by rw [hg]; exact (below_size (by repeat (first | (with_reducible first | exact HB.out | apply below_alloc | apply pw_below_drewN | apply below_drew1 | refine below_set ?_ GE122.out) | exact HB.out))) : w.heap.size ≤ gb123)); have n5_ := Aside0.mk ((by rw [hg]; exact Nat.ne_of_lt (blk_lt (g := gb122) (o := .cells #[.int .i64 0, .string (⟨#[]⟩ : ByteArray)] 23 (0, 0)) (by (with_reducible repeat (first | refine blk_drewN ?_ _ | refine blk_drew ?_ | refine blk_alloc ?_ _)); exact BK122.out)) : gb122 ≠ gb123)); have n6_ := Aside0.mk ((by rw [hg]; exact Nat.ne_of_gt (blk_lt (g := gb122) (o := .cells #[.int .i64 0, .string (⟨#[]⟩ : ByteArray)] 23 (0, 0)) (by (with_reducible repeat (first | refine blk_drewN ?_ _ | refine blk_drew ?_ | refine blk_alloc ?_ _)); exact BK122.out)) : gb123 ≠ gb122)); clear BK122; clear HB; have BK122 := n0_; have HB := n1_; have BK123 := n2_; have GW123 := n3_; have GE123 := n4_; have NB122_123 := n5_; have NB123_122 := n6_; clear n0_ n1_ n2_ n3_ n4_ n5_ n6_; clear hb hbox hg; have hnb9 := NB123_122.out; have hnc9 := NB122_123.out; have hcz10_0 : w8.cell? ⟨gb123, 0, none⟩ = some (.int .i64 0) := (blk_cell BK123.out 0).trans rfl; have hcz10_1 : w8.cell? ⟨gb123, 1, none⟩ = some (.string (⟨#[]⟩ : ByteArray)) := (blk_cell BK123.out 1).trans rfl; have hfz10_0 := blk_frozen BK123.out 0; have hfz10_1 := blk_frozen BK123.out 1))
      go_loopg [6] kj1 (fun kq v6 w' => ∃ (x6_2 : Int) (x124000_2 : Int), v6 = .int .i64 x6_2 ∧ Aside0 (bulletinref27_Read.l1 kq a0 x4_1 x6_2 x124000_2 (⟨#[]⟩ : ByteArray) = some (r1, r2, r3)) ∧ Aside0 (kq ≤ kj1) ∧ Aside0 (w'.heap[gb122]? = some (.cells #[.int .i64 0, .string (⟨#[]⟩ : ByteArray)] 23 (0, 0))) ∧ Aside0 (w'.heap[gb123]? = some (.cells #[.int .i64 x124000_2, .string (⟨#[]⟩ : ByteArray)] 23 (0, 0))) ∧ Aside0 (Below w.heap.size w w'))
      case atStart => exact ⟨(1), (0), (by first | rfl | (simp; done) | (simp [*]; done)), H', ⟨Nat.le_refl _⟩, ⟨by (with_reducible repeat (first | refine blk_drewN ?_ _ | refine blk_drew ?_ | refine blk_alloc ?_ _)); refine blk_far ?_ NB122_123.out _; (with_reducible repeat (first | refine blk_drewN ?_ _ | refine blk_drew ?_ | refine blk_alloc ?_ _)); refine blk_far ?_ NB122_123.out _; (with_reducible repeat (first | refine blk_drewN ?_ _ | refine blk_drew ?_ | refine blk_alloc ?_ _)); exact BK122.out⟩, ⟨by (with_reducible repeat (first | refine blk_drewN ?_ _ | refine blk_drew ?_ | refine blk_alloc ?_ _)); refine blk_put (cs := #[.int .i64 0, .string (⟨#[]⟩ : ByteArray)]) ?_ 1 _ rfl; (with_reducible repeat (first | refine blk_drewN ?_ _ | refine blk_drew ?_ | refine blk_alloc ?_ _)); refine blk_put (cs := #[.int .i64 0, .string (⟨#[]⟩ : ByteArray)]) ?_ 0 _ rfl; (with_reducible repeat (first | refine blk_drewN ?_ _ | refine blk_drew ?_ | refine blk_alloc ?_ _)); exact BK123.out⟩, ⟨by repeat (first | (with_reducible first | exact HB.out | apply below_alloc | apply pw_below_drewN | apply below_drew1 | refine below_set ?_ GE122.out | refine below_set ?_ GE123.out) | exact HB.out)⟩⟩
      case round =>
        clear H'
        try clear p2
        try clear c4
        try clear c4b0
        try clear c5
        try clear c5b0
        try clear p6
        try clear q6
        try clear hx6
        try clear c7
        try clear c7b0
        try clear c7b1
        try clear c9
        try clear hcz10_0
        try clear hcz10_1
        try clear hfz10_0
        try clear hfz10_1
        try clear p2
        try clear p6
        try clear q6
        obtain ⟨x6_2, x124000_2, rfl, HA, HK2, BK122, BK123, HB⟩ := hrel
        cases gk with
        | zero => exact absurd HA.out (by simp [bulletinref27_Read.l1])
        | succ k2 =>
          have H := HA.out
          clear HA
          simp only [bulletinref27_Read.l1] at H
          by_cases c11 : x6_2 ≤ 9
          · rw [if_pos c11] at H
            have c11b0 : decide (x6_2 ≤ 9) = true := decide_eq_true c11
            clear c11
            replace H := Option.bind_eq_some_iff.mp H
            obtain ⟨t124, A120, H⟩ := H
            replace H : ((bulletinref06_Fold.f k2 t124).bind fun t125 => (if 0 ≤ x4_1 then (if x4_1 ≤ (a0.size : Int) then ((bulletinref06_Fold.f k2 (a0.extract 0 (x4_1 : Int).toNat)).bind fun t126 => (if t125.toList = t126.toList then (bulletinref27_Read.l1 k2 a0 x4_1 (wrap64 (x6_2 + 1)) x6_2 (⟨#[]⟩ : ByteArray)) else (bulletinref27_Read.l1 k2 a0 x4_1 (wrap64 (x6_2 + 1)) x124000_2 (⟨#[]⟩ : ByteArray)))) else (none)) else (none))) = some (r1, r2, r3) := H
            have A12 := Aside0.mk A120
            clear A120
            replace H := Option.bind_eq_some_iff.mp H
            obtain ⟨t125, A130, H⟩ := H
            replace H : (if 0 ≤ x4_1 then (if x4_1 ≤ (a0.size : Int) then ((bulletinref06_Fold.f k2 (a0.extract 0 (x4_1 : Int).toNat)).bind fun t126 => (if t125.toList = t126.toList then (bulletinref27_Read.l1 k2 a0 x4_1 (wrap64 (x6_2 + 1)) x6_2 (⟨#[]⟩ : ByteArray)) else (bulletinref27_Read.l1 k2 a0 x4_1 (wrap64 (x6_2 + 1)) x124000_2 (⟨#[]⟩ : ByteArray)))) else (none)) else (none)) = some (r1, r2, r3) := H
            have A13 := Aside0.mk A130
            clear A130
            by_cases c14 : 0 ≤ x4_1
            · rw [if_pos c14] at H
              have c14b0 := eq_true c14
              have c14b1 : decide (0 ≤ x4_1) = true := decide_eq_true c14
              clear c14
              by_cases c15 : x4_1 ≤ (a0.size : Int)
              · rw [if_pos c15] at H
                have c15b0 := eq_true c15
                have c15b1 : decide (x4_1 ≤ (a0.size : Int)) = true := decide_eq_true c15
                clear c15
                replace H := Option.bind_eq_some_iff.mp H
                obtain ⟨t126, A160, H⟩ := H
                replace H : (if t125.toList = t126.toList then (bulletinref27_Read.l1 k2 a0 x4_1 (wrap64 (x6_2 + 1)) x6_2 (⟨#[]⟩ : ByteArray)) else (bulletinref27_Read.l1 k2 a0 x4_1 (wrap64 (x6_2 + 1)) x124000_2 (⟨#[]⟩ : ByteArray))) = some (r1, r2, r3) := H
                have A16 := Aside0.mk A160
                clear A160
                by_cases c17 : t125.toList = t126.toList
                · rw [if_pos c17] at H
                  have c17b0 : (t125.toList == t126.toList) = true := beq_iff_eq.mpr c17
                  have c17b1 : (t125.toList != t126.toList) = false := bne_eq_false_iff_eq.mpr c17
                  clear c17
                  have H' := Aside0.mk H
                  clear H
                  try go_wp2
                  have n0_ := Aside0.mk (blk_drew BK122.out)
                  have n1_ := Aside0.mk (blk_drew BK123.out)
                  have n2_ := Aside0.mk (below_drew1 HB.out)
                  clear BK122
                  clear BK123
                  clear HB
                  have BK122 := n0_
                  have BK123 := n1_
                  have HB := n2_
                  clear n0_ n1_ n2_
                  refine start_ (n := 8) (S := fun w' => True) (ds := []) #[false, false, false, false, false, false, false, false] (by kernel_rfl) rfl rfl trivial (fun hHeld => ?_); refine with_tabW bulletinref27_Read.tab8 bulletinref27_Read.bits8 (fun HT_ HW_ => ?_)
                  generalize wr.drew = w18 at BK122 BK123 HB hHeld ⊢
                  refine pure_ (i := 0) (N := some 25) (v := ?_) (a' := ?_) #[true, false, false, false, false, false, false, false] rfl rfl (any_of HT_.out (by kernel_rfl)) (fun _ _ _ h => h) (Or.inl ⟨by rfl, ?_⟩) ?_ ?_
                  rotate_left
                  · intro w'
                    go_simp
                    with_reducible rfl
                  rotate_left
                  · simp only [Act.put, List.setIfInBounds_toArray, List.set_cons_zero, List.set_cons_succ, i64_w, i32_w]
                    rfl
                  refine pure_ (i := 3) (N := some 28) (v := ?_) (a' := ?_) #[true, false, false, true, false, false, false, false] rfl rfl (any_of HT_.out (by kernel_rfl)) (fun _ _ _ h => h) (Or.inl ⟨by rfl, ?_⟩) ?_ ?_
                  rotate_left
                  · intro w'
                    go_simp
                    with_reducible rfl
                  rotate_left
                  · simp only [Act.put, List.setIfInBounds_toArray, List.set_cons_zero, List.set_cons_succ, i64_w, i32_w]
                    rfl
                  refine pure_ (i := 4) (N := some 29) (v := ?_) (a' := ?_) #[true, false, false, true, true, false, false, false] rfl rfl (any_of HT_.out (by kernel_rfl)) (fun _ _ _ h => h) (Or.inl ⟨by rfl, ?_⟩) ?_ ?_
                  rotate_left
                  · intro w'
                    go_simp
                    with_reducible rfl
                  rotate_left
                  · simp only [Act.put, List.setIfInBounds_toArray, List.set_cons_zero, List.set_cons_succ, i64_w, i32_w]
                    rfl
                  refine pure_ (i := 5) (N := some 30) (v := ?_) (a' := ?_) #[true, false, false, true, true, true, false, false] rfl rfl (any_of HT_.out (by kernel_rfl)) (fun _ _ _ h => h) (Or.inl ⟨by rfl, ?_⟩) ?_ ?_
                  rotate_left
                  · intro w'
                    go_simp
                    with_reducible rfl
                  rotate_left
                  · simp only [Act.put, List.setIfInBounds_toArray, List.set_cons_zero, List.set_cons_succ, i64_w, i32_w]
                    rfl
                  refine one_ (i := 1) (N := some 26) #[true, true, false, true, true, true, false, false] rfl rfl (one_of HT_.out (by kernel_rfl)) (by decide) (fun K hK => ?_)
                  refine goes_ Tryd.func19 (by kernel_rfl) rfl #[.int .i64 x6_2] (by rfl) rfl rfl (by (try simp only [List.map_toArray, List.map_cons, List.map_nil]); first | done | rfl | (simp only [List.length_drop, List.length_take]; rfl)) ?_
                  with_reducible refine (bulletinref27_word.calls x6_2 t124 _ A12.out).mono ?_
                  rintro e w' ⟨rfl, ⟨nd, rfl⟩⟩
                  refine ⟨_, rfl, ?_⟩
                  refine hK.out _ _ trivial (fun hHeld => ?_)
                  clear hK K
                  refine norm_ (a' := ?_) ?_ ?_
                  rotate_left
                  · show Act.put _ (some 26) _ = _
                    simp only [Act.put, List.setIfInBounds_toArray, List.set_cons_zero, List.set_cons_succ, i64_w, i32_w]
                    rfl
                  refine one_ (i := 2) (N := some 27) #[true, true, true, true, true, true, false, false] rfl rfl (one_of HT_.out (by kernel_rfl)) (by decide) (fun K hK => ?_)
                  refine goes_ Tryd.func18 (by kernel_rfl) rfl #[.string t124] (by rfl) rfl rfl (by (try simp only [List.map_toArray, List.map_cons, List.map_nil]); first | done | rfl | (simp only [List.length_drop, List.length_take]; rfl)) ?_
                  with_reducible refine (bulletinref06_Fold.calls k2 t124 t125 _ A13.out).mono ?_
                  rintro e w19 ⟨rfl, hb⟩
                  refine ⟨_, rfl, ?_⟩
                  have n0_ := Aside0.mk (blk_below (g := gb122) (o := .cells #[.int .i64 0, .string (⟨#[]⟩ : ByteArray)] 23 (0, 0)) (by (with_reducible repeat (first | refine blk_drewN ?_ _ | refine blk_drew ?_ | refine blk_alloc ?_ _)); exact BK122.out) hb)
                  have n1_ := Aside0.mk (blk_below (g := gb123) (o := .cells #[.int .i64 x124000_2, .string (⟨#[]⟩ : ByteArray)] 23 (0, 0)) (by (with_reducible repeat (first | refine blk_drewN ?_ _ | refine blk_drew ?_ | refine blk_alloc ?_ _)); exact BK123.out) hb)
                  have n2_ := Aside0.mk (below_step (by repeat (first | (with_reducible first | exact HB.out | apply below_alloc | apply pw_below_drewN | apply below_drew1 | refine below_set ?_ GE122.out | refine below_set ?_ GE123.out) | exact HB.out)) hb)
                  clear BK122
                  clear BK123
                  clear HB
                  have BK122 := n0_
                  have BK123 := n1_
                  have HB := n2_
                  clear n0_ n1_ n2_
                  (try clear hb)
                  (try clear hb2)
                  (try clear hk)
                  (try clear hi)
                  refine hK.out _ _ trivial (fun hHeld => ?_)
                  clear hK K
                  refine norm_ (a' := ?_) ?_ ?_
                  rotate_left
                  · show Act.put _ (some 27) _ = _
                    simp only [Act.put, List.setIfInBounds_toArray, List.set_cons_zero, List.set_cons_succ, i64_w, i32_w]
                    rfl
                  refine one_ (i := 6) (N := some 31) #[true, true, true, true, true, true, true, false] rfl rfl (one_of HT_.out (by kernel_rfl)) (by decide) (fun K hK => ?_)
                  refine goes_ Tryd.func18 (by kernel_rfl) rfl #[.string (a0.extract 0 (x4_1 : Int).toNat)] (by rfl) rfl rfl (by (try simp only [List.map_toArray, List.map_cons, List.map_nil]); first | done | rfl | (simp only [List.length_drop, List.length_take]; rfl)) ?_
                  with_reducible refine (bulletinref06_Fold.calls k2 (a0.extract 0 (x4_1 : Int).toNat) t126 _ A16.out).mono ?_
                  rintro e w20 ⟨rfl, hb⟩
                  refine ⟨_, rfl, ?_⟩
                  have n0_ := Aside0.mk (blk_below (g := gb122) (o := .cells #[.int .i64 0, .string (⟨#[]⟩ : ByteArray)] 23 (0, 0)) (by (with_reducible repeat (first | refine blk_drewN ?_ _ | refine blk_drew ?_ | refine blk_alloc ?_ _)); exact BK122.out) hb)
                  have n1_ := Aside0.mk (blk_below (g := gb123) (o := .cells #[.int .i64 x124000_2, .string (⟨#[]⟩ : ByteArray)] 23 (0, 0)) (by (with_reducible repeat (first | refine blk_drewN ?_ _ | refine blk_drew ?_ | refine blk_alloc ?_ _)); exact BK123.out) hb)
                  have n2_ := Aside0.mk (below_step (by repeat (first | (with_reducible first | exact HB.out | apply below_alloc | apply pw_below_drewN | apply below_drew1 | refine below_set ?_ GE122.out | refine below_set ?_ GE123.out) | exact HB.out)) hb)
                  clear BK122
                  clear BK123
                  clear HB
                  have BK122 := n0_
                  have BK123 := n1_
                  have HB := n2_
                  clear n0_ n1_ n2_
                  (try clear hb)
                  (try clear hb2)
                  (try clear hk)
                  (try clear hi)
                  refine hK.out _ _ trivial (fun hHeld => ?_)
                  clear hK K
                  refine norm_ (a' := ?_) ?_ ?_
                  rotate_left
                  · show Act.put _ (some 31) _ = _
                    simp only [Act.put, List.setIfInBounds_toArray, List.set_cons_zero, List.set_cons_succ, i64_w, i32_w]
                    rfl
                  refine pure_ (i := 7) (N := some 32) (v := ?_) (a' := ?_) #[true, true, true, true, true, true, true, true] rfl rfl (any_of HT_.out (by kernel_rfl)) (fun _ _ _ h => h) (Or.inl ⟨by rfl, ?_⟩) ?_ ?_
                  rotate_left
                  · intro w'
                    go_simp
                    with_reducible rfl
                  rotate_left
                  · simp only [Act.put, List.setIfInBounds_toArray, List.set_cons_zero, List.set_cons_succ, i64_w, i32_w]
                    rfl
                  refine done_ (done_of HT_.out (by kernel_rfl)) ?_
                  have hnb21 := NB123_122.out
                  have hnc21 := NB122_123.out
                  have hcz22_0 : w20.cell? ⟨gb123, 0, none⟩ = some (.int .i64 x124000_2) := (blk_cell BK123.out 0).trans rfl
                  have hcz22_1 : w20.cell? ⟨gb123, 1, none⟩ = some (.string (⟨#[]⟩ : ByteArray)) := (blk_cell BK123.out 1).trans rfl
                  have hfz22_0 := blk_frozen BK123.out 0
                  have hfz22_1 := blk_frozen BK123.out 1
                  try go_wp2
                  go_roundg k2
                  case measure => have := HJ1.out; have := HK2.out; omega
                  case rel => exact ⟨(wrap64 (x6_2 + 1)), (x6_2), (by first | rfl | (simp; done) | (simp [*]; done)), H', ⟨by have := HJ1.out; have := HK2.out; omega⟩, ⟨by (with_reducible repeat (first | refine blk_drewN ?_ _ | refine blk_drew ?_ | refine blk_alloc ?_ _)); refine blk_far ?_ NB122_123.out _; (with_reducible repeat (first | refine blk_drewN ?_ _ | refine blk_drew ?_ | refine blk_alloc ?_ _)); exact BK122.out⟩, ⟨by (with_reducible repeat (first | refine blk_drewN ?_ _ | refine blk_drew ?_ | refine blk_alloc ?_ _)); refine blk_put (cs := #[.int .i64 x124000_2, .string (⟨#[]⟩ : ByteArray)]) ?_ 0 _ rfl; (with_reducible repeat (first | refine blk_drewN ?_ _ | refine blk_drew ?_ | refine blk_alloc ?_ _)); exact BK123.out⟩, ⟨by repeat (first | (with_reducible first | exact HB.out | apply below_alloc | apply pw_below_drewN | apply below_drew1 | refine below_set ?_ GE122.out | refine below_set ?_ GE123.out) | exact HB.out)⟩⟩
                · rw [if_neg c17] at H
                  have c17b0 : (t125.toList == t126.toList) = false := beq_eq_false_iff_ne.mpr c17
                  have c17b1 : (t125.toList != t126.toList) = true := bne_iff_ne.mpr c17
                  have H' := Aside0.mk H
                  clear H
                  try go_wp2
                  have n0_ := Aside0.mk (blk_drew BK122.out)
                  have n1_ := Aside0.mk (blk_drew BK123.out)
                  have n2_ := Aside0.mk (below_drew1 HB.out)
                  clear BK122
                  clear BK123
                  clear HB
                  have BK122 := n0_
                  have BK123 := n1_
                  have HB := n2_
                  clear n0_ n1_ n2_
                  refine start_ (n := 8) (S := fun w' => True) (ds := []) #[false, false, false, false, false, false, false, false] (by kernel_rfl) rfl rfl trivial (fun hHeld => ?_); refine with_tabW bulletinref27_Read.tab8 bulletinref27_Read.bits8 (fun HT_ HW_ => ?_)
                  generalize wr.drew = w23 at BK122 BK123 HB hHeld ⊢
                  refine pure_ (i := 0) (N := some 25) (v := ?_) (a' := ?_) #[true, false, false, false, false, false, false, false] rfl rfl (any_of HT_.out (by kernel_rfl)) (fun _ _ _ h => h) (Or.inl ⟨by rfl, ?_⟩) ?_ ?_
                  rotate_left
                  · intro w'
                    go_simp
                    with_reducible rfl
                  rotate_left
                  · simp only [Act.put, List.setIfInBounds_toArray, List.set_cons_zero, List.set_cons_succ, i64_w, i32_w]
                    rfl
                  refine pure_ (i := 3) (N := some 28) (v := ?_) (a' := ?_) #[true, false, false, true, false, false, false, false] rfl rfl (any_of HT_.out (by kernel_rfl)) (fun _ _ _ h => h) (Or.inl ⟨by rfl, ?_⟩) ?_ ?_
                  rotate_left
                  · intro w'
                    go_simp
                    with_reducible rfl
                  rotate_left
                  · simp only [Act.put, List.setIfInBounds_toArray, List.set_cons_zero, List.set_cons_succ, i64_w, i32_w]
                    rfl
                  refine pure_ (i := 4) (N := some 29) (v := ?_) (a' := ?_) #[true, false, false, true, true, false, false, false] rfl rfl (any_of HT_.out (by kernel_rfl)) (fun _ _ _ h => h) (Or.inl ⟨by rfl, ?_⟩) ?_ ?_
                  rotate_left
                  · intro w'
                    go_simp
                    with_reducible rfl
                  rotate_left
                  · simp only [Act.put, List.setIfInBounds_toArray, List.set_cons_zero, List.set_cons_succ, i64_w, i32_w]
                    rfl
                  refine pure_ (i := 5) (N := some 30) (v := ?_) (a' := ?_) #[true, false, false, true, true, true, false, false] rfl rfl (any_of HT_.out (by kernel_rfl)) (fun _ _ _ h => h) (Or.inl ⟨by rfl, ?_⟩) ?_ ?_
                  rotate_left
                  · intro w'
                    go_simp
                    with_reducible rfl
                  rotate_left
                  · simp only [Act.put, List.setIfInBounds_toArray, List.set_cons_zero, List.set_cons_succ, i64_w, i32_w]
                    rfl
                  refine one_ (i := 1) (N := some 26) #[true, true, false, true, true, true, false, false] rfl rfl (one_of HT_.out (by kernel_rfl)) (by decide) (fun K hK => ?_)
                  refine goes_ Tryd.func19 (by kernel_rfl) rfl #[.int .i64 x6_2] (by rfl) rfl rfl (by (try simp only [List.map_toArray, List.map_cons, List.map_nil]); first | done | rfl | (simp only [List.length_drop, List.length_take]; rfl)) ?_
                  with_reducible refine (bulletinref27_word.calls x6_2 t124 _ A12.out).mono ?_
                  rintro e w' ⟨rfl, ⟨nd, rfl⟩⟩
                  refine ⟨_, rfl, ?_⟩
                  refine hK.out _ _ trivial (fun hHeld => ?_)
                  clear hK K
                  refine norm_ (a' := ?_) ?_ ?_
                  rotate_left
                  · show Act.put _ (some 26) _ = _
                    simp only [Act.put, List.setIfInBounds_toArray, List.set_cons_zero, List.set_cons_succ, i64_w, i32_w]
                    rfl
                  refine one_ (i := 2) (N := some 27) #[true, true, true, true, true, true, false, false] rfl rfl (one_of HT_.out (by kernel_rfl)) (by decide) (fun K hK => ?_)
                  refine goes_ Tryd.func18 (by kernel_rfl) rfl #[.string t124] (by rfl) rfl rfl (by (try simp only [List.map_toArray, List.map_cons, List.map_nil]); first | done | rfl | (simp only [List.length_drop, List.length_take]; rfl)) ?_
                  with_reducible refine (bulletinref06_Fold.calls k2 t124 t125 _ A13.out).mono ?_
                  rintro e w24 ⟨rfl, hb⟩
                  refine ⟨_, rfl, ?_⟩
                  have n0_ := Aside0.mk (blk_below (g := gb122) (o := .cells #[.int .i64 0, .string (⟨#[]⟩ : ByteArray)] 23 (0, 0)) (by (with_reducible repeat (first | refine blk_drewN ?_ _ | refine blk_drew ?_ | refine blk_alloc ?_ _)); exact BK122.out) hb)
                  have n1_ := Aside0.mk (blk_below (g := gb123) (o := .cells #[.int .i64 x124000_2, .string (⟨#[]⟩ : ByteArray)] 23 (0, 0)) (by (with_reducible repeat (first | refine blk_drewN ?_ _ | refine blk_drew ?_ | refine blk_alloc ?_ _)); exact BK123.out) hb)
                  have n2_ := Aside0.mk (below_step (by repeat (first | (with_reducible first | exact HB.out | apply below_alloc | apply pw_below_drewN | apply below_drew1 | refine below_set ?_ GE122.out | refine below_set ?_ GE123.out) | exact HB.out)) hb)
                  clear BK122
                  clear BK123
                  clear HB
                  have BK122 := n0_
                  have BK123 := n1_
                  have HB := n2_
                  clear n0_ n1_ n2_
                  (try clear hb)
                  (try clear hb2)
                  (try clear hk)
                  (try clear hi)
                  refine hK.out _ _ trivial (fun hHeld => ?_)
                  clear hK K
                  refine norm_ (a' := ?_) ?_ ?_
                  rotate_left
                  · show Act.put _ (some 27) _ = _
                    simp only [Act.put, List.setIfInBounds_toArray, List.set_cons_zero, List.set_cons_succ, i64_w, i32_w]
                    rfl
                  refine one_ (i := 6) (N := some 31) #[true, true, true, true, true, true, true, false] rfl rfl (one_of HT_.out (by kernel_rfl)) (by decide) (fun K hK => ?_)
                  refine goes_ Tryd.func18 (by kernel_rfl) rfl #[.string (a0.extract 0 (x4_1 : Int).toNat)] (by rfl) rfl rfl (by (try simp only [List.map_toArray, List.map_cons, List.map_nil]); first | done | rfl | (simp only [List.length_drop, List.length_take]; rfl)) ?_
                  with_reducible refine (bulletinref06_Fold.calls k2 (a0.extract 0 (x4_1 : Int).toNat) t126 _ A16.out).mono ?_
                  rintro e w25 ⟨rfl, hb⟩
                  refine ⟨_, rfl, ?_⟩
                  have n0_ := Aside0.mk (blk_below (g := gb122) (o := .cells #[.int .i64 0, .string (⟨#[]⟩ : ByteArray)] 23 (0, 0)) (by (with_reducible repeat (first | refine blk_drewN ?_ _ | refine blk_drew ?_ | refine blk_alloc ?_ _)); exact BK122.out) hb)
                  have n1_ := Aside0.mk (blk_below (g := gb123) (o := .cells #[.int .i64 x124000_2, .string (⟨#[]⟩ : ByteArray)] 23 (0, 0)) (by (with_reducible repeat (first | refine blk_drewN ?_ _ | refine blk_drew ?_ | refine blk_alloc ?_ _)); exact BK123.out) hb)
                  have n2_ := Aside0.mk (below_step (by repeat (first | (with_reducible first | exact HB.out | apply below_alloc | apply pw_below_drewN | apply below_drew1 | refine below_set ?_ GE122.out | refine below_set ?_ GE123.out) | exact HB.out)) hb)
                  clear BK122
                  clear BK123
                  clear HB
                  have BK122 := n0_
                  have BK123 := n1_
                  have HB := n2_
                  clear n0_ n1_ n2_
                  (try clear hb)
                  (try clear hb2)
                  (try clear hk)
                  (try clear hi)
                  refine hK.out _ _ trivial (fun hHeld => ?_)
                  clear hK K
                  refine norm_ (a' := ?_) ?_ ?_
                  rotate_left
                  · show Act.put _ (some 31) _ = _
                    simp only [Act.put, List.setIfInBounds_toArray, List.set_cons_zero, List.set_cons_succ, i64_w, i32_w]
                    rfl
                  refine pure_ (i := 7) (N := some 32) (v := ?_) (a' := ?_) #[true, true, true, true, true, true, true, true] rfl rfl (any_of HT_.out (by kernel_rfl)) (fun _ _ _ h => h) (Or.inl ⟨by rfl, ?_⟩) ?_ ?_
                  rotate_left
                  · intro w'
                    go_simp
                    with_reducible rfl
                  rotate_left
                  · simp only [Act.put, List.setIfInBounds_toArray, List.set_cons_zero, List.set_cons_succ, i64_w, i32_w]
                    rfl
                  refine done_ (done_of HT_.out (by kernel_rfl)) ?_
                  try go_wp2
                  go_roundg k2
                  case measure => have := HJ1.out; have := HK2.out; omega
                  case rel => exact ⟨(wrap64 (x6_2 + 1)), (x124000_2), (by first | rfl | (simp; done) | (simp [*]; done)), H', ⟨by have := HJ1.out; have := HK2.out; omega⟩, ⟨by (with_reducible repeat (first | refine blk_drewN ?_ _ | refine blk_drew ?_ | refine blk_alloc ?_ _)); exact BK122.out⟩, ⟨by (with_reducible repeat (first | refine blk_drewN ?_ _ | refine blk_drew ?_ | refine blk_alloc ?_ _)); exact BK123.out⟩, ⟨by repeat (first | (with_reducible first | exact HB.out | apply below_alloc | apply pw_below_drewN | apply below_drew1 | refine below_set ?_ GE122.out | refine below_set ?_ GE123.out) | exact HB.out)⟩⟩
              · rw [if_neg c15] at H
                exact absurd H (by simp)
            · rw [if_neg c14] at H
              exact absurd H (by simp)
          · rw [if_neg c11] at H
            have c11b0 : decide (x6_2 ≤ 9) = false := decide_eq_false c11
            clear c11
            by_cases c26 : x124000_2 = 0
            · rw [if_pos c26] at H
              have c26b0 : (x124000_2 == 0) = true := beq_iff_eq.mpr c26
              have c26b1 : (x124000_2 != 0) = false := bne_eq_false_iff_eq.mpr c26
              clear c26
              simp only [Option.some.injEq, Prod.mk.injEq] at H
              obtain ⟨rfl, rfl, rfl⟩ := H
              have hnb27 := NB123_122.out
              have hnc27 := NB122_123.out
              have hcz28_0 : wr.cell? ⟨gb123, 0, none⟩ = some (.int .i64 x124000_2) := (blk_cell BK123.out 0).trans rfl
              have hcz28_1 : wr.cell? ⟨gb123, 1, none⟩ = some (.string (⟨#[]⟩ : ByteArray)) := (blk_cell BK123.out 1).trans rfl
              have hfz28_0 := blk_frozen BK123.out 0
              have hfz28_1 := blk_frozen BK123.out 1
              have hcz29_0 : wr.cell? ⟨gb122, 0, none⟩ = some (.int .i64 0) := (blk_cell BK122.out 0).trans rfl
              have hcz29_1 : wr.cell? ⟨gb122, 1, none⟩ = some (.string (⟨#[]⟩ : ByteArray)) := (blk_cell BK122.out 1).trans rfl
              have hfz29_0 := blk_frozen BK122.out 0
              have hfz29_1 := blk_frozen BK122.out 1
              go_wp2
              refine bodyPost_ret (results_ct rfl _ _ gb122 23 #[.int .i64 0, .string (⟨#[]⟩ : ByteArray)] (0, 0) _ rfl (by (with_reducible repeat (first | refine blk_drewN ?_ _ | refine blk_drew ?_ | refine blk_alloc ?_ _)); refine blk_put (cs := #[.int .i64 0, .string (⟨#[]⟩ : ByteArray)]) ?_ 1 _ rfl; (with_reducible repeat (first | refine blk_drewN ?_ _ | refine blk_drew ?_ | refine blk_alloc ?_ _)); refine blk_put (cs := #[.int .i64 0, .string (⟨#[]⟩ : ByteArray)]) ?_ 0 _ rfl; (with_reducible repeat (first | refine blk_drewN ?_ _ | refine blk_drew ?_ | refine blk_alloc ?_ _)); exact BK122.out) Tryd.underlying23 rfl (by kernel_rfl)) rfl ?_
              exact ⟨by first | rfl | (simp [errW_none, errW_some] <;> rfl) | (simp [*, errW_none, errW_some] <;> rfl), by repeat (first | (with_reducible first | exact HB.out | apply below_alloc | apply pw_below_drewN | apply below_drew1 | refine below_set ?_ GE122.out | refine below_set ?_ GE123.out) | exact HB.out)⟩
            · rw [if_neg c26] at H
              have c26b0 : (x124000_2 == 0) = false := beq_eq_false_iff_ne.mpr c26
              have c26b1 : (x124000_2 != 0) = true := bne_iff_ne.mpr c26
              have H' := Aside0.mk H
              clear H
              have hnb30 := NB123_122.out
              have hnc30 := NB122_123.out
              have hcz31_0 : wr.cell? ⟨gb123, 0, none⟩ = some (.int .i64 x124000_2) := (blk_cell BK123.out 0).trans rfl
              have hcz31_1 : wr.cell? ⟨gb123, 1, none⟩ = some (.string (⟨#[]⟩ : ByteArray)) := (blk_cell BK123.out 1).trans rfl
              have hfz31_0 := blk_frozen BK123.out 0
              have hfz31_1 := blk_frozen BK123.out 1
              go_wp2
              go_loopg [7] k2 (fun kq v7 w' => ∃ (x7_3 : Int) (x123000_3 : Int) (x123001_3 : ByteArray), v7 = .int .i64 x7_3 ∧ Aside0 (bulletinref27_Read.l2 kq a0 x4_1 x7_3 x124000_2 (⟨#[]⟩ : ByteArray) = some (r1, r2, r3)) ∧ Aside0 (kq ≤ k2) ∧ Aside0 (w'.heap[gb122]? = some (.cells #[.int .i64 x123000_3, .string x123001_3] 23 (0, 0))) ∧ Aside0 (w'.heap[gb123]? = some (.cells #[.int .i64 x124000_2, .string (⟨#[]⟩ : ByteArray)] 23 (0, 0))) ∧ Aside0 (Below w.heap.size w w'))
              case atStart => exact ⟨(0), (0), ((⟨#[]⟩ : ByteArray)), (by first | rfl | (simp; done) | (simp [*]; done)), H', ⟨Nat.le_refl _⟩, ⟨by (with_reducible repeat (first | refine blk_drewN ?_ _ | refine blk_drew ?_ | refine blk_alloc ?_ _)); exact BK122.out⟩, ⟨by (with_reducible repeat (first | refine blk_drewN ?_ _ | refine blk_drew ?_ | refine blk_alloc ?_ _)); exact BK123.out⟩, ⟨by repeat (first | (with_reducible first | exact HB.out | apply below_alloc | apply pw_below_drewN | apply below_drew1 | refine below_set ?_ GE122.out | refine below_set ?_ GE123.out) | exact HB.out)⟩⟩
              case round =>
                clear H'
                try clear c1
                try clear c2
                try clear p2
                try clear c3
                try clear c4
                try clear c4b0
                try clear c5
                try clear c5b0
                try clear p6
                try clear q6
                try clear hx6
                try clear c7
                try clear c7b0
                try clear c7b1
                try clear c9
                try clear c11
                try clear c11b0
                try clear c14
                try clear c14b0
                try clear c14b1
                try clear c15
                try clear c15b0
                try clear c15b1
                try clear c17
                try clear c17b0
                try clear c17b1
                try clear c18
                try clear c19
                try clear c21
                try clear c26
                try clear c26b0
                try clear c26b1
                try clear c27
                try clear c30
                try clear hcz10_0
                try clear hcz10_1
                try clear hcz22_0
                try clear hcz22_1
                try clear hcz28_0
                try clear hcz28_1
                try clear hcz29_0
                try clear hcz29_1
                try clear hcz31_0
                try clear hcz31_1
                try clear hfz10_0
                try clear hfz10_1
                try clear hfz22_0
                try clear hfz22_1
                try clear hfz28_0
                try clear hfz28_1
                try clear hfz29_0
                try clear hfz29_1
                try clear hfz31_0
                try clear hfz31_1
                try clear p2
                try clear p6
                try clear q6
                obtain ⟨x7_3, x123000_3, x123001_3, rfl, HA, HK3, BK122, BK123, HB⟩ := hrel
                cases gk with
                | zero => exact absurd HA.out (by simp [bulletinref27_Read.l2])
                | succ k3 =>
                  have H := HA.out
                  clear HA
                  simp only [bulletinref27_Read.l2] at H
                  by_cases c32 : x7_3 < (a0.size : Int)
                  · rw [if_pos c32] at H
                    have c32b0 : decide (x7_3 < (a0.size : Int)) = true := decide_eq_true c32
                    clear c32
                    by_cases c33 : 0 ≤ x7_3
                    · rw [if_pos c33] at H
                      have c33b0 : decide (0 ≤ x7_3) = true := decide_eq_true c33
                      clear c33
                      by_cases c35 : (bt a0 x7_3) < 32
                      · rw [if_pos c35] at H
                        have c35b0 : decide ((bt a0 x7_3) < 32) = true := decide_eq_true c35
                        clear c35
                        simp only [Option.some.injEq, Prod.mk.injEq] at H
                        obtain ⟨rfl, rfl, rfl⟩ := H
                        have p34 : 0 ≤ (x7_3 : Int) := of_decide_eq_true (by first | (with_reducible assumption) | assumption)
                        have q34 : x7_3 < (a0.size : Int) := of_decide_eq_true (by first | (with_reducible assumption) | assumption)
                        have hx34 := bt_at a0 x7_3
                        replace p34 := eq_true p34
                        replace q34 := eq_true q34; try (have qs34 := q34; simp only [ByteArray.size_append, ByteArray.size_extract, Nat.min_self, Xsize_mk, List.size_toArray, List.length_cons, List.length_nil, Nat.zero_add, Nat.reduceAdd, List.length_append, List.length_drop, List.length_take] at qs34)
                        have hnb36 := NB122_123.out
                        have hnc36 := NB123_122.out
                        have hcz37_0 : wr.cell? ⟨gb122, 0, none⟩ = some (.int .i64 x123000_3) := (blk_cell BK122.out 0).trans rfl
                        have hcz37_1 : wr.cell? ⟨gb122, 1, none⟩ = some (.string x123001_3) := (blk_cell BK122.out 1).trans rfl
                        have hfz37_0 := blk_frozen BK122.out 0
                        have hfz37_1 := blk_frozen BK122.out 1
                        go_wp2
                        refine bodyPost_ret (results_ct rfl _ _ gb122 23 #[.int .i64 0, .string (⟨#[]⟩ : ByteArray)] (0, 0) _ rfl (by (with_reducible repeat (first | refine blk_drewN ?_ _ | refine blk_drew ?_ | refine blk_alloc ?_ _)); refine blk_put (cs := #[.int .i64 0, .string x123001_3]) ?_ 1 _ rfl; (with_reducible repeat (first | refine blk_drewN ?_ _ | refine blk_drew ?_ | refine blk_alloc ?_ _)); refine blk_put (cs := #[.int .i64 x123000_3, .string x123001_3]) ?_ 0 _ rfl; (with_reducible repeat (first | refine blk_drewN ?_ _ | refine blk_drew ?_ | refine blk_alloc ?_ _)); exact BK122.out) Tryd.underlying23 rfl (by kernel_rfl)) rfl ?_
                        exact ⟨by first | rfl | (simp [errW_none, errW_some] <;> rfl) | (simp [*, errW_none, errW_some] <;> rfl), by repeat (first | (with_reducible first | exact HB.out | apply below_alloc | apply pw_below_drewN | apply below_drew1 | refine below_set ?_ GE122.out | refine below_set ?_ GE123.out) | exact HB.out)⟩
                      · rw [if_neg c35] at H
                        have c35b0 : decide ((bt a0 x7_3) < 32) = false := decide_eq_false c35
                        clear c35
                        by_cases c39 : (bt a0 x7_3) > 126
                        · rw [if_pos c39] at H
                          have c39b0 : decide (126 < (bt a0 x7_3)) = true := decide_eq_true c39
                          clear c39
                          simp only [Option.some.injEq, Prod.mk.injEq] at H
                          obtain ⟨rfl, rfl, rfl⟩ := H
                          have p34 : 0 ≤ (x7_3 : Int) := of_decide_eq_true (by first | (with_reducible assumption) | assumption)
                          have q34 : x7_3 < (a0.size : Int) := of_decide_eq_true (by first | (with_reducible assumption) | assumption)
                          have hx34 := bt_at a0 x7_3
                          replace p34 := eq_true p34
                          replace q34 := eq_true q34; try (have qs34 := q34; simp only [ByteArray.size_append, ByteArray.size_extract, Nat.min_self, Xsize_mk, List.size_toArray, List.length_cons, List.length_nil, Nat.zero_add, Nat.reduceAdd, List.length_append, List.length_drop, List.length_take] at qs34)
                          have p38 : 0 ≤ (x7_3 : Int) := of_decide_eq_true (by first | (with_reducible assumption) | assumption)
                          have q38 : x7_3 < (a0.size : Int) := of_decide_eq_true (by first | (with_reducible assumption) | assumption)
                          have hx38 := bt_at a0 x7_3
                          replace p38 := eq_true p38
                          replace q38 := eq_true q38; try (have qs38 := q38; simp only [ByteArray.size_append, ByteArray.size_extract, Nat.min_self, Xsize_mk, List.size_toArray, List.length_cons, List.length_nil, Nat.zero_add, Nat.reduceAdd, List.length_append, List.length_drop, List.length_take] at qs38)
                          have hnb40 := NB122_123.out
                          have hnc40 := NB123_122.out
                          have hcz41_0 : wr.cell? ⟨gb122, 0, none⟩ = some (.int .i64 x123000_3) := (blk_cell BK122.out 0).trans rfl
                          have hcz41_1 : wr.cell? ⟨gb122, 1, none⟩ = some (.string x123001_3) := (blk_cell BK122.out 1).trans rfl
                          have hfz41_0 := blk_frozen BK122.out 0
                          have hfz41_1 := blk_frozen BK122.out 1
                          go_wp2
                          refine bodyPost_ret (results_ct rfl _ _ gb122 23 #[.int .i64 0, .string (⟨#[]⟩ : ByteArray)] (0, 0) _ rfl (by (with_reducible repeat (first | refine blk_drewN ?_ _ | refine blk_drew ?_ | refine blk_alloc ?_ _)); refine blk_put (cs := #[.int .i64 0, .string x123001_3]) ?_ 1 _ rfl; (with_reducible repeat (first | refine blk_drewN ?_ _ | refine blk_drew ?_ | refine blk_alloc ?_ _)); refine blk_put (cs := #[.int .i64 x123000_3, .string x123001_3]) ?_ 0 _ rfl; (with_reducible repeat (first | refine blk_drewN ?_ _ | refine blk_drew ?_ | refine blk_alloc ?_ _)); exact BK122.out) Tryd.underlying23 rfl (by kernel_rfl)) rfl ?_
                          exact ⟨by first | rfl | (simp [errW_none, errW_some] <;> rfl) | (simp [*, errW_none, errW_some] <;> rfl), by repeat (first | (with_reducible first | exact HB.out | apply below_alloc | apply pw_below_drewN | apply below_drew1 | refine below_set ?_ GE122.out | refine below_set ?_ GE123.out) | exact HB.out)⟩
                        · rw [if_neg c39] at H
                          have c39b0 : decide (126 < (bt a0 x7_3)) = false := decide_eq_false c39
                          clear c39
                          have H' := Aside0.mk H
                          clear H
                          have p34 : 0 ≤ (x7_3 : Int) := of_decide_eq_true (by first | (with_reducible assumption) | assumption)
                          have q34 : x7_3 < (a0.size : Int) := of_decide_eq_true (by first | (with_reducible assumption) | assumption)
                          have hx34 := bt_at a0 x7_3
                          replace p34 := eq_true p34
                          replace q34 := eq_true q34; try (have qs34 := q34; simp only [ByteArray.size_append, ByteArray.size_extract, Nat.min_self, Xsize_mk, List.size_toArray, List.length_cons, List.length_nil, Nat.zero_add, Nat.reduceAdd, List.length_append, List.length_drop, List.length_take] at qs34)
                          have p38 : 0 ≤ (x7_3 : Int) := of_decide_eq_true (by first | (with_reducible assumption) | assumption)
                          have q38 : x7_3 < (a0.size : Int) := of_decide_eq_true (by first | (with_reducible assumption) | assumption)
                          have hx38 := bt_at a0 x7_3
                          replace p38 := eq_true p38
                          replace q38 := eq_true q38; try (have qs38 := q38; simp only [ByteArray.size_append, ByteArray.size_extract, Nat.min_self, Xsize_mk, List.size_toArray, List.length_cons, List.length_nil, Nat.zero_add, Nat.reduceAdd, List.length_append, List.length_drop, List.length_take] at qs38)
                          go_wp2
                          go_roundg k3
                          case measure => have := HJ1.out; have := HK2.out; have := HK3.out; omega
                          case rel => exact ⟨(wrap64 (x7_3 + 1)), (x123000_3), (x123001_3), (by first | rfl | (simp; done) | (simp [*]; done)), H', ⟨by have := HJ1.out; have := HK2.out; have := HK3.out; omega⟩, ⟨by (with_reducible repeat (first | refine blk_drewN ?_ _ | refine blk_drew ?_ | refine blk_alloc ?_ _)); exact BK122.out⟩, ⟨by (with_reducible repeat (first | refine blk_drewN ?_ _ | refine blk_drew ?_ | refine blk_alloc ?_ _)); exact BK123.out⟩, ⟨by repeat (first | (with_reducible first | exact HB.out | apply below_alloc | apply pw_below_drewN | apply below_drew1 | refine below_set ?_ GE122.out | refine below_set ?_ GE123.out) | exact HB.out)⟩⟩
                    · rw [if_neg c33] at H
                      exact absurd H (by simp)
                  · rw [if_neg c32] at H
                    have c32b0 : decide (x7_3 < (a0.size : Int)) = false := decide_eq_false c32
                    clear c32
                    by_cases c42 : 0 ≤ x4_1
                    · rw [if_pos c42] at H
                      have c42b0 := eq_true c42
                      have c42b1 : decide (0 ≤ x4_1) = true := decide_eq_true c42
                      clear c42
                      by_cases c43 : x4_1 ≤ (a0.size : Int)
                      · rw [if_pos c43] at H
                        have c43b0 := eq_true c43
                        have c43b1 : decide (x4_1 ≤ (a0.size : Int)) = true := decide_eq_true c43
                        clear c43
                        replace H := Option.bind_eq_some_iff.mp H
                        obtain ⟨t127, A440, H⟩ := H
                        replace H : (if x124000_2 = 3 then (if (t127.size : Int) < 5 then (some (0, (⟨#[]⟩ : ByteArray), 3)) else (if 0 ≤ 5 then (if 5 ≤ (t127.size : Int) then ((bulletinref06_Fold.f k3 (t127.extract 0 5)).bind fun t128 => (if t128.toList = ([102, 114, 111, 109, 58] : List UInt8) then ((bulletinref27_trim.f k3 (t127.extract 5 t127.size)).bind fun t129 => (bulletinref27_Read.j4 k3 x124000_2 t129)) else (some (0, (⟨#[]⟩ : ByteArray), 3)))) else (none)) else (none))) else (bulletinref27_Read.j4 k3 x124000_2 t127)) = some (r1, r2, r3) := H
                        have A44 := Aside0.mk A440
                        clear A440
                        have HC45 := Aside0.mk H
                        clear H
                        go_upto_if 63 with (first | ((with_reducible refine gate_callee (f := 20) rfl ?_); refine goesL_ (some 59) rfl rfl Tryd.func20 (by kernel_rfl) rfl #[.string (a0.extract (x4_1 : Int).toNat a0.size)] rfl (by (try simp only [List.map_toArray, List.map_cons, List.map_nil]); first | done | rfl | (simp only [List.length_drop, List.length_take]; rfl)) ?_; (with_reducible refine (bulletinref27_trim.calls k3 (a0.extract (x4_1 : Int).toNat a0.size) t127 _ A44.out).mono ?_); rintro e w' ⟨rfl, ⟨nd, rfl⟩⟩; refine ⟨_, rfl, ?_⟩; (try (rw [drewN_self wr]; generalize hq_ : World.drewN wr _ = wr; have n0_ : Aside0 (wr.heap[gb122]? = some (.cells #[.int .i64 x123000_3, .string x123001_3] 23 (0, 0))) := ⟨by rw [← hq_]; exact (by (with_reducible repeat (first | refine blk_drewN ?_ _ | refine blk_drew ?_ | refine blk_alloc ?_ _)); exact BK122.out)⟩; have n1_ : Aside0 (wr.heap[gb123]? = some (.cells #[.int .i64 x124000_2, .string (⟨#[]⟩ : ByteArray)] 23 (0, 0))) := ⟨by rw [← hq_]; exact (by (with_reducible repeat (first | refine blk_drewN ?_ _ | refine blk_drew ?_ | refine blk_alloc ?_ _)); exact BK123.out)⟩; have n2_ : Aside0 (Below w.heap.size w wr) := ⟨by rw [← hq_]; exact (by repeat (first | (with_reducible first | exact HB.out | apply below_alloc | apply pw_below_drewN | apply below_drew1 | refine below_set ?_ GE122.out | refine below_set ?_ GE123.out) | exact HB.out))⟩; clear BK122 BK123 HB hq_; have BK122 := n0_; have BK123 := n1_; have HB := n2_; clear n0_ n1_ n2_; have hczq122_0 : wr.cell? ⟨gb122, 0, none⟩ = some (.int .i64 x123000_3) := (blk_cell BK122.out 0).trans rfl; have hfzq122_0 := blk_frozen BK122.out 0; have hczq122_1 : wr.cell? ⟨gb122, 1, none⟩ = some (.string x123001_3) := (blk_cell BK122.out 1).trans rfl; have hfzq122_1 := blk_frozen BK122.out 1; have hczq123_0 : wr.cell? ⟨gb123, 0, none⟩ = some (.int .i64 x124000_2) := (blk_cell BK123.out 0).trans rfl; have hfzq123_0 := blk_frozen BK123.out 0; have hczq123_1 : wr.cell? ⟨gb123, 1, none⟩ = some (.string (⟨#[]⟩ : ByteArray)) := (blk_cell BK123.out 1).trans rfl; have hfzq123_1 := blk_frozen BK123.out 1)); have hnb46 := NB123_122.out; have hnc46 := NB122_123.out; have hcz47_0 : wr.cell? ⟨gb123, 0, none⟩ = some (.int .i64 x124000_2) := (blk_cell BK123.out 0).trans rfl; have hcz47_1 : wr.cell? ⟨gb123, 1, none⟩ = some (.string (⟨#[]⟩ : ByteArray)) := (blk_cell BK123.out 1).trans rfl; have hfz47_0 := blk_frozen BK123.out 0; have hfz47_1 := blk_frozen BK123.out 1))
                        (try simp only [Act.put, List.setIfInBounds_toArray, List.set_cons_zero, List.set_cons_succ])
                        go_cut [] (fun wc => ∃ (kq : Nat) (x123000_44 : Int) (x123001_44 : ByteArray) (x124001_44 : ByteArray), Aside0 (bulletinref27_Read.j4 kq x124000_2 x124001_44 = some (r1, r2, r3)) ∧ Aside0 (kq ≤ k3) ∧ Aside0 (wc.heap[gb122]? = some (.cells #[.int .i64 x123000_44, .string x123001_44] 23 (0, 0))) ∧ Aside0 (wc.heap[gb123]? = some (.cells #[.int .i64 x124000_2, .string x124001_44] 23 (0, 0))) ∧ Aside0 (Below w.heap.size w wc))
                        case first =>
                          have H := HC45.out
                          clear HC45
                          by_cases c48 : x124000_2 = 3
                          · rw [if_pos c48] at H
                            have c48b0 : (x124000_2 == 3) = true := beq_iff_eq.mpr c48
                            have c48b1 : (x124000_2 != 3) = false := bne_eq_false_iff_eq.mpr c48
                            clear c48
                            (first | rw [c48b0] | (simp only [i64_w, i32_w]; rw [c48b0]) | skip)
                            by_cases c49 : (t127.size : Int) < 5
                            · rw [if_pos c49] at H
                              have c49b0 : decide ((t127.size : Int) < 5) = true := decide_eq_true c49
                              have c49b1 : decide (t127.size < 5) = true := decide_eq_true (by omega)
                              clear c49
                              simp only [Option.some.injEq, Prod.mk.injEq] at H
                              obtain ⟨rfl, rfl, rfl⟩ := H
                              have hnb50 := NB123_122.out
                              have hnc50 := NB122_123.out
                              have hcz51_0 : wr.cell? ⟨gb123, 0, none⟩ = some (.int .i64 x124000_2) := (blk_cell BK123.out 0).trans rfl
                              have hcz51_1 : wr.cell? ⟨gb123, 1, none⟩ = some (.string (⟨#[]⟩ : ByteArray)) := (blk_cell BK123.out 1).trans rfl
                              have hfz51_0 := blk_frozen BK123.out 0
                              have hfz51_1 := blk_frozen BK123.out 1
                              have hcz52_0 : wr.cell? ⟨gb122, 0, none⟩ = some (.int .i64 x123000_3) := (blk_cell BK122.out 0).trans rfl
                              have hcz52_1 : wr.cell? ⟨gb122, 1, none⟩ = some (.string x123001_3) := (blk_cell BK122.out 1).trans rfl
                              have hfz52_0 := blk_frozen BK122.out 0
                              have hfz52_1 := blk_frozen BK122.out 1
                              go_wp2
                              refine bodyPost_ret (results_ct rfl _ _ gb122 23 #[.int .i64 0, .string (⟨#[]⟩ : ByteArray)] (0, 0) _ rfl (by (with_reducible repeat (first | refine blk_drewN ?_ _ | refine blk_drew ?_ | refine blk_alloc ?_ _)); refine blk_put (cs := #[.int .i64 0, .string x123001_3]) ?_ 1 _ rfl; (with_reducible repeat (first | refine blk_drewN ?_ _ | refine blk_drew ?_ | refine blk_alloc ?_ _)); refine blk_put (cs := #[.int .i64 x123000_3, .string x123001_3]) ?_ 0 _ rfl; (with_reducible repeat (first | refine blk_drewN ?_ _ | refine blk_drew ?_ | refine blk_alloc ?_ _)); refine blk_far ?_ NB122_123.out _; (with_reducible repeat (first | refine blk_drewN ?_ _ | refine blk_drew ?_ | refine blk_alloc ?_ _)); exact BK122.out) Tryd.underlying23 rfl (by kernel_rfl)) rfl ?_
                              exact ⟨by first | rfl | (simp [errW_none, errW_some] <;> rfl) | (simp [*, errW_none, errW_some] <;> rfl), by repeat (first | (with_reducible first | exact HB.out | apply below_alloc | apply pw_below_drewN | apply below_drew1 | refine below_set ?_ GE122.out | refine below_set ?_ GE123.out) | exact HB.out)⟩
                            · rw [if_neg c49] at H
                              have c49b0 : decide ((t127.size : Int) < 5) = false := decide_eq_false c49
                              have c49b1 : decide (t127.size < 5) = false := decide_eq_false (by omega)
                              clear c49
                              have c53 : 0 ≤ 5 := by decide
                              rw [if_pos c53] at H
                              have c53b0 := eq_true c53
                              have c53b1 : decide (0 ≤ 5) = true := decide_eq_true c53
                              clear c53
                              by_cases c54 : 5 ≤ (t127.size : Int)
                              · rw [if_pos c54] at H
                                have c54b0 := eq_true c54
                                have c54b1 : decide (5 ≤ (t127.size : Int)) = true := decide_eq_true c54
                                clear c54
                                replace H := Option.bind_eq_some_iff.mp H
                                obtain ⟨t128, A550, H⟩ := H
                                replace H : (if t128.toList = ([102, 114, 111, 109, 58] : List UInt8) then ((bulletinref27_trim.f k3 (t127.extract 5 t127.size)).bind fun t129 => (bulletinref27_Read.j4 k3 x124000_2 t129)) else (some (0, (⟨#[]⟩ : ByteArray), 3))) = some (r1, r2, r3) := H
                                have A55 := Aside0.mk A550
                                clear A550
                                by_cases c56 : t128.toList = ([102, 114, 111, 109, 58] : List UInt8)
                                · rw [if_pos c56] at H
                                  have c56b0 : (t128.toList == ([102, 114, 111, 109, 58] : List UInt8)) = true := beq_iff_eq.mpr c56
                                  have c56b1 : (t128.toList != ([102, 114, 111, 109, 58] : List UInt8)) = false := bne_eq_false_iff_eq.mpr c56
                                  clear c56
                                  have c57b0 := eq_true (of_decide_eq_true (by first | (with_reducible assumption) | assumption) : 5 ≤ (t127.size : Int))
                                  replace H := Option.bind_eq_some_iff.mp H
                                  obtain ⟨t129, A580, H⟩ := H
                                  replace H : (bulletinref27_Read.j4 k3 x124000_2 t129) = some (r1, r2, r3) := H
                                  have A58 := Aside0.mk A580
                                  clear A580
                                  have H' := Aside0.mk H
                                  clear H
                                  have hnb59 := NB123_122.out
                                  have hnc59 := NB122_123.out
                                  have hcz60_0 : wr.cell? ⟨gb123, 0, none⟩ = some (.int .i64 x124000_2) := (blk_cell BK123.out 0).trans rfl
                                  have hcz60_1 : wr.cell? ⟨gb123, 1, none⟩ = some (.string (⟨#[]⟩ : ByteArray)) := (blk_cell BK123.out 1).trans rfl
                                  have hfz60_0 := blk_frozen BK123.out 0
                                  have hfz60_1 := blk_frozen BK123.out 1
                                  go_wp2_with (first | (go_at_call 18; (with_reducible refine (bulletinref06_Fold.calls k3 (t127.extract 0 5) t128 _ A55.out).mono ?_); rintro e w61 ⟨rfl, hb⟩; have n0_ := Aside0.mk (blk_below (g := gb122) (o := .cells #[.int .i64 x123000_3, .string x123001_3] 23 (0, 0)) (by (with_reducible repeat (first | refine blk_drewN ?_ _ | refine blk_drew ?_ | refine blk_alloc ?_ _)); refine blk_far ?_ NB122_123.out _; (with_reducible repeat (first | refine blk_drewN ?_ _ | refine blk_drew ?_ | refine blk_alloc ?_ _)); exact BK122.out) hb); have n1_ := Aside0.mk (blk_below (g := gb123) (o := .cells #[.int .i64 x124000_2, .string t127] 23 (0, 0)) (by (with_reducible repeat (first | refine blk_drewN ?_ _ | refine blk_drew ?_ | refine blk_alloc ?_ _)); refine blk_put (cs := #[.int .i64 x124000_2, .string (⟨#[]⟩ : ByteArray)]) ?_ 1 _ rfl; (with_reducible repeat (first | refine blk_drewN ?_ _ | refine blk_drew ?_ | refine blk_alloc ?_ _)); exact BK123.out) hb); have n2_ := Aside0.mk (below_step (by repeat (first | (with_reducible first | exact HB.out | apply below_alloc | apply pw_below_drewN | apply below_drew1 | refine below_set ?_ GE122.out | refine below_set ?_ GE123.out) | exact HB.out)) hb); clear BK122; clear BK123; clear HB; have BK122 := n0_; have BK123 := n1_; have HB := n2_; clear n0_ n1_ n2_; (try clear hb); (try clear hb2); (try clear hk); (try clear hi); have hcz62_0 : w61.cell? ⟨gb123, 0, none⟩ = some (.int .i64 x124000_2) := (blk_cell BK123.out 0).trans rfl; have hcz62_1 : w61.cell? ⟨gb123, 1, none⟩ = some (.string t127) := (blk_cell BK123.out 1).trans rfl; have hfz62_0 := blk_frozen BK123.out 0; have hfz62_1 := blk_frozen BK123.out 1) | ((with_reducible refine gate_callee (f := 20) rfl ?_); refine goesL_ (some 79) rfl rfl Tryd.func20 (by kernel_rfl) rfl #[.string (t127.extract 5 t127.size)] rfl (by (try simp only [List.map_toArray, List.map_cons, List.map_nil]); first | done | rfl | (simp only [List.length_drop, List.length_take]; rfl)) ?_; (with_reducible refine (bulletinref27_trim.calls k3 (t127.extract 5 t127.size) t129 _ A58.out).mono ?_); rintro e w' ⟨rfl, ⟨nd, rfl⟩⟩; refine ⟨_, rfl, ?_⟩; (try (rw [drewN_self w61]; generalize hq_ : World.drewN w61 _ = w61; have n0_ : Aside0 (w61.heap[gb122]? = some (.cells #[.int .i64 x123000_3, .string x123001_3] 23 (0, 0))) := ⟨by rw [← hq_]; exact (by (with_reducible repeat (first | refine blk_drewN ?_ _ | refine blk_drew ?_ | refine blk_alloc ?_ _)); exact BK122.out)⟩; have n1_ : Aside0 (w61.heap[gb123]? = some (.cells #[.int .i64 x124000_2, .string t127] 23 (0, 0))) := ⟨by rw [← hq_]; exact (by (with_reducible repeat (first | refine blk_drewN ?_ _ | refine blk_drew ?_ | refine blk_alloc ?_ _)); exact BK123.out)⟩; have n2_ : Aside0 (Below w.heap.size w w61) := ⟨by rw [← hq_]; exact (by repeat (first | (with_reducible first | exact HB.out | apply below_alloc | apply pw_below_drewN | apply below_drew1 | refine below_set ?_ GE122.out | refine below_set ?_ GE123.out) | exact HB.out))⟩; clear BK122 BK123 HB hq_; have BK122 := n0_; have BK123 := n1_; have HB := n2_; clear n0_ n1_ n2_; have hczq122_0 : w61.cell? ⟨gb122, 0, none⟩ = some (.int .i64 x123000_3) := (blk_cell BK122.out 0).trans rfl; have hfzq122_0 := blk_frozen BK122.out 0; have hczq122_1 : w61.cell? ⟨gb122, 1, none⟩ = some (.string x123001_3) := (blk_cell BK122.out 1).trans rfl; have hfzq122_1 := blk_frozen BK122.out 1; have hczq123_0 : w61.cell? ⟨gb123, 0, none⟩ = some (.int .i64 x124000_2) := (blk_cell BK123.out 0).trans rfl; have hfzq123_0 := blk_frozen BK123.out 0; have hczq123_1 : w61.cell? ⟨gb123, 1, none⟩ = some (.string t127) := (blk_cell BK123.out 1).trans rfl; have hfzq123_1 := blk_frozen BK123.out 1))))
                                  go_meet
                                  case rel => exact ⟨_, (x123000_3), (x123001_3), (t129), H', ⟨by have := HJ1.out; have := HK2.out; have := HK3.out; first | omega | exact Nat.le_refl _⟩, ⟨by (with_reducible repeat (first | refine blk_drewN ?_ _ | refine blk_drew ?_ | refine blk_alloc ?_ _)); refine blk_far ?_ NB122_123.out _; (with_reducible repeat (first | refine blk_drewN ?_ _ | refine blk_drew ?_ | refine blk_alloc ?_ _)); exact BK122.out⟩, ⟨by (with_reducible repeat (first | refine blk_drewN ?_ _ | refine blk_drew ?_ | refine blk_alloc ?_ _)); refine blk_put (cs := #[.int .i64 x124000_2, .string t127]) ?_ 1 _ rfl; (with_reducible repeat (first | refine blk_drewN ?_ _ | refine blk_drew ?_ | refine blk_alloc ?_ _)); exact BK123.out⟩, ⟨by repeat (first | (with_reducible first | exact HB.out | apply below_alloc | apply pw_below_drewN | apply below_drew1 | refine below_set ?_ GE122.out | refine below_set ?_ GE123.out) | exact HB.out)⟩⟩
                                · rw [if_neg c56] at H
                                  have c56b0 : (t128.toList == ([102, 114, 111, 109, 58] : List UInt8)) = false := beq_eq_false_iff_ne.mpr c56
                                  have c56b1 : (t128.toList != ([102, 114, 111, 109, 58] : List UInt8)) = true := bne_iff_ne.mpr c56
                                  simp only [Option.some.injEq, Prod.mk.injEq] at H
                                  obtain ⟨rfl, rfl, rfl⟩ := H
                                  have hnb63 := NB123_122.out
                                  have hnc63 := NB122_123.out
                                  have hcz64_0 : wr.cell? ⟨gb123, 0, none⟩ = some (.int .i64 x124000_2) := (blk_cell BK123.out 0).trans rfl
                                  have hcz64_1 : wr.cell? ⟨gb123, 1, none⟩ = some (.string (⟨#[]⟩ : ByteArray)) := (blk_cell BK123.out 1).trans rfl
                                  have hfz64_0 := blk_frozen BK123.out 0
                                  have hfz64_1 := blk_frozen BK123.out 1
                                  go_wp2_with (first | (go_at_call 18; (with_reducible refine (bulletinref06_Fold.calls k3 (t127.extract 0 5) t128 _ A55.out).mono ?_); rintro e w65 ⟨rfl, hb⟩; have n0_ := Aside0.mk (blk_below (g := gb122) (o := .cells #[.int .i64 x123000_3, .string x123001_3] 23 (0, 0)) (by (with_reducible repeat (first | refine blk_drewN ?_ _ | refine blk_drew ?_ | refine blk_alloc ?_ _)); refine blk_far ?_ NB122_123.out _; (with_reducible repeat (first | refine blk_drewN ?_ _ | refine blk_drew ?_ | refine blk_alloc ?_ _)); exact BK122.out) hb); have n1_ := Aside0.mk (blk_below (g := gb123) (o := .cells #[.int .i64 x124000_2, .string t127] 23 (0, 0)) (by (with_reducible repeat (first | refine blk_drewN ?_ _ | refine blk_drew ?_ | refine blk_alloc ?_ _)); refine blk_put (cs := #[.int .i64 x124000_2, .string (⟨#[]⟩ : ByteArray)]) ?_ 1 _ rfl; (with_reducible repeat (first | refine blk_drewN ?_ _ | refine blk_drew ?_ | refine blk_alloc ?_ _)); exact BK123.out) hb); have n2_ := Aside0.mk (below_step (by repeat (first | (with_reducible first | exact HB.out | apply below_alloc | apply pw_below_drewN | apply below_drew1 | refine below_set ?_ GE122.out | refine below_set ?_ GE123.out) | exact HB.out)) hb); clear BK122; clear BK123; clear HB; have BK122 := n0_; have BK123 := n1_; have HB := n2_; clear n0_ n1_ n2_; (try clear hb); (try clear hb2); (try clear hk); (try clear hi); have hcz66_0 : w65.cell? ⟨gb122, 0, none⟩ = some (.int .i64 x123000_3) := (blk_cell BK122.out 0).trans rfl; have hcz66_1 : w65.cell? ⟨gb122, 1, none⟩ = some (.string x123001_3) := (blk_cell BK122.out 1).trans rfl; have hfz66_0 := blk_frozen BK122.out 0; have hfz66_1 := blk_frozen BK122.out 1))
                                  refine bodyPost_ret (results_ct rfl _ _ gb122 23 #[.int .i64 0, .string (⟨#[]⟩ : ByteArray)] (0, 0) _ rfl (by (with_reducible repeat (first | refine blk_drewN ?_ _ | refine blk_drew ?_ | refine blk_alloc ?_ _)); refine blk_put (cs := #[.int .i64 0, .string x123001_3]) ?_ 1 _ rfl; (with_reducible repeat (first | refine blk_drewN ?_ _ | refine blk_drew ?_ | refine blk_alloc ?_ _)); refine blk_put (cs := #[.int .i64 x123000_3, .string x123001_3]) ?_ 0 _ rfl; (with_reducible repeat (first | refine blk_drewN ?_ _ | refine blk_drew ?_ | refine blk_alloc ?_ _)); exact BK122.out) Tryd.underlying23 rfl (by kernel_rfl)) rfl ?_
                                  exact ⟨by first | rfl | (simp [errW_none, errW_some] <;> rfl) | (simp [*, errW_none, errW_some] <;> rfl), by repeat (first | (with_reducible first | exact HB.out | apply below_alloc | apply pw_below_drewN | apply below_drew1 | refine below_set ?_ GE122.out | refine below_set ?_ GE123.out) | exact HB.out)⟩
                              · rw [if_neg c54] at H
                                exact absurd H (by simp)
                          · rw [if_neg c48] at H
                            have c48b0 : (x124000_2 == 3) = false := beq_eq_false_iff_ne.mpr c48
                            have c48b1 : (x124000_2 != 3) = true := bne_iff_ne.mpr c48
                            (first | rw [c48b0] | (simp only [i64_w, i32_w]; rw [c48b0]) | skip)
                            have H' := Aside0.mk H
                            clear H
                            go_wp2
                            go_meet
                            case rel => exact ⟨_, (x123000_3), (x123001_3), (t127), H', ⟨by have := HJ1.out; have := HK2.out; have := HK3.out; first | omega | exact Nat.le_refl _⟩, ⟨by (with_reducible repeat (first | refine blk_drewN ?_ _ | refine blk_drew ?_ | refine blk_alloc ?_ _)); refine blk_far ?_ NB122_123.out _; (with_reducible repeat (first | refine blk_drewN ?_ _ | refine blk_drew ?_ | refine blk_alloc ?_ _)); exact BK122.out⟩, ⟨by (with_reducible repeat (first | refine blk_drewN ?_ _ | refine blk_drew ?_ | refine blk_alloc ?_ _)); refine blk_put (cs := #[.int .i64 x124000_2, .string (⟨#[]⟩ : ByteArray)]) ?_ 1 _ rfl; (with_reducible repeat (first | refine blk_drewN ?_ _ | refine blk_drew ?_ | refine blk_alloc ?_ _)); exact BK123.out⟩, ⟨by repeat (first | (with_reducible first | exact HB.out | apply below_alloc | apply pw_below_drewN | apply below_drew1 | refine below_set ?_ GE122.out | refine below_set ?_ GE123.out) | exact HB.out)⟩⟩
                        case rest =>
                          clear HC45
                          try clear c1
                          try clear c2
                          try clear p2
                          try clear c3
                          try clear p3
                          try clear q3
                          try clear hx3
                          try clear c4
                          try clear c4b0
                          try clear c5
                          try clear c5b0
                          try clear c6
                          try clear p6
                          try clear q6
                          try clear hx6
                          try clear c7
                          try clear c7b0
                          try clear c7b1
                          try clear c9
                          try clear c11
                          try clear c11b0
                          try clear c14
                          try clear c14b0
                          try clear c14b1
                          try clear c15
                          try clear c15b0
                          try clear c15b1
                          try clear c17
                          try clear c17b0
                          try clear c17b1
                          try clear c18
                          try clear c19
                          try clear c20
                          try clear c21
                          try clear c26
                          try clear c26b0
                          try clear c26b1
                          try clear c27
                          try clear c30
                          try clear c32
                          try clear c32b0
                          try clear c33
                          try clear c33b0
                          try clear p34
                          try clear q34
                          try clear hx34
                          try clear c35
                          try clear c35b0
                          try clear c36
                          try clear p38
                          try clear q38
                          try clear hx38
                          try clear c39
                          try clear c39b0
                          try clear c40
                          try clear c42
                          try clear c42b0
                          try clear c42b1
                          try clear c43
                          try clear c43b0
                          try clear c43b1
                          try clear c46
                          try clear c48
                          try clear c48b0
                          try clear c48b1
                          try clear c49
                          try clear c49b0
                          try clear c49b1
                          try clear c50
                          try clear c53
                          try clear c53b0
                          try clear c53b1
                          try clear c54
                          try clear c54b0
                          try clear c54b1
                          try clear c56
                          try clear c56b0
                          try clear c56b1
                          try clear c57
                          try clear c57b0
                          try clear c59
                          try clear c63
                          try clear p64
                          try clear hcz10_0
                          try clear hcz10_1
                          try clear hcz22_0
                          try clear hcz22_1
                          try clear hcz28_0
                          try clear hcz28_1
                          try clear hcz29_0
                          try clear hcz29_1
                          try clear hcz31_0
                          try clear hcz31_1
                          try clear hcz37_0
                          try clear hcz37_1
                          try clear hcz41_0
                          try clear hcz41_1
                          try clear hcz47_0
                          try clear hcz47_1
                          try clear hcz51_0
                          try clear hcz51_1
                          try clear hcz52_0
                          try clear hcz52_1
                          try clear hcz60_0
                          try clear hcz60_1
                          try clear hcz62_0
                          try clear hcz62_1
                          try clear hcz64_0
                          try clear hcz64_1
                          try clear hcz66_0
                          try clear hcz66_1
                          try clear hfz10_0
                          try clear hfz10_1
                          try clear hfz22_0
                          try clear hfz22_1
                          try clear hfz28_0
                          try clear hfz28_1
                          try clear hfz29_0
                          try clear hfz29_1
                          try clear hfz31_0
                          try clear hfz31_1
                          try clear hfz37_0
                          try clear hfz37_1
                          try clear hfz41_0
                          try clear hfz41_1
                          try clear hfz47_0
                          try clear hfz47_1
                          try clear hfz51_0
                          try clear hfz51_1
                          try clear hfz52_0
                          try clear hfz52_1
                          try clear hfz60_0
                          try clear hfz60_1
                          try clear hfz62_0
                          try clear hfz62_1
                          try clear hfz64_0
                          try clear hfz64_1
                          try clear hfz66_0
                          try clear hfz66_1
                          try clear p2
                          try clear p34
                          try clear p38
                          try clear p6
                          try clear q34
                          try clear q38
                          try clear q6
                          obtain ⟨kq, x123000_44, x123001_44, x124001_44, HA, HJ44, BK122, BK123, HB⟩ := hcut
                          cases kq with
                          | zero => exact absurd HA.out (by simp [bulletinref27_Read.j4])
                          | succ kj44 =>
                            have H := HA.out
                            clear HA
                            simp only [bulletinref27_Read.j4] at H
                            have HC67 := Aside0.mk H
                            clear H
                            have hnb68 := NB123_122.out
                            have hnc68 := NB122_123.out
                            have hcz69_0 : wc.cell? ⟨gb123, 0, none⟩ = some (.int .i64 x124000_2) := (blk_cell BK123.out 0).trans rfl
                            have hcz69_1 : wc.cell? ⟨gb123, 1, none⟩ = some (.string x124001_44) := (blk_cell BK123.out 1).trans rfl
                            have hfz69_0 := blk_frozen BK123.out 0
                            have hfz69_1 := blk_frozen BK123.out 1
                            go_upto_if 83 with (fail)
                            go_cut [] (fun wc => ∃ (kq : Nat) (x123000_66 : Int) (x123001_66 : ByteArray) (x124001_66 : ByteArray), Aside0 (bulletinref27_Read.j5 kq x124000_2 x124001_66 = some (r1, r2, r3)) ∧ Aside0 (kq ≤ kj44) ∧ Aside0 (wc.heap[gb122]? = some (.cells #[.int .i64 x123000_66, .string x123001_66] 23 (0, 0))) ∧ Aside0 (wc.heap[gb123]? = some (.cells #[.int .i64 x124000_2, .string x124001_66] 23 (0, 0))) ∧ Aside0 (Below w.heap.size w wc))
                            case first =>
                              have H := HC67.out
                              clear HC67
                              by_cases c70 : x124000_2 = 4
                              · rw [if_pos c70] at H
                                have c70b0 : (x124000_2 == 4) = true := beq_iff_eq.mpr c70
                                have c70b1 : (x124000_2 != 4) = false := bne_eq_false_iff_eq.mpr c70
                                clear c70
                                (first | rw [c70b0] | (simp only [i64_w, i32_w]; rw [c70b0]) | skip)
                                by_cases c71 : (x124001_44.size : Int) < 3
                                · rw [if_pos c71] at H
                                  have c71b0 : decide ((x124001_44.size : Int) < 3) = true := decide_eq_true c71
                                  have c71b1 : decide (x124001_44.size < 3) = true := decide_eq_true (by omega)
                                  clear c71
                                  simp only [Option.some.injEq, Prod.mk.injEq] at H
                                  obtain ⟨rfl, rfl, rfl⟩ := H
                                  have hnb72 := NB123_122.out
                                  have hnc72 := NB122_123.out
                                  have hcz73_0 : wc.cell? ⟨gb123, 0, none⟩ = some (.int .i64 x124000_2) := (blk_cell BK123.out 0).trans rfl
                                  have hcz73_1 : wc.cell? ⟨gb123, 1, none⟩ = some (.string x124001_44) := (blk_cell BK123.out 1).trans rfl
                                  have hfz73_0 := blk_frozen BK123.out 0
                                  have hfz73_1 := blk_frozen BK123.out 1
                                  have hcz74_0 : wc.cell? ⟨gb122, 0, none⟩ = some (.int .i64 x123000_44) := (blk_cell BK122.out 0).trans rfl
                                  have hcz74_1 : wc.cell? ⟨gb122, 1, none⟩ = some (.string x123001_44) := (blk_cell BK122.out 1).trans rfl
                                  have hfz74_0 := blk_frozen BK122.out 0
                                  have hfz74_1 := blk_frozen BK122.out 1
                                  go_wp2
                                  refine bodyPost_ret (results_ct rfl _ _ gb122 23 #[.int .i64 0, .string (⟨#[]⟩ : ByteArray)] (0, 0) _ rfl (by (with_reducible repeat (first | refine blk_drewN ?_ _ | refine blk_drew ?_ | refine blk_alloc ?_ _)); refine blk_put (cs := #[.int .i64 0, .string x123001_44]) ?_ 1 _ rfl; (with_reducible repeat (first | refine blk_drewN ?_ _ | refine blk_drew ?_ | refine blk_alloc ?_ _)); refine blk_put (cs := #[.int .i64 x123000_44, .string x123001_44]) ?_ 0 _ rfl; (with_reducible repeat (first | refine blk_drewN ?_ _ | refine blk_drew ?_ | refine blk_alloc ?_ _)); exact BK122.out) Tryd.underlying23 rfl (by kernel_rfl)) rfl ?_
                                  exact ⟨by first | rfl | (simp [errW_none, errW_some] <;> rfl) | (simp [*, errW_none, errW_some] <;> rfl), by repeat (first | (with_reducible first | exact HB.out | apply below_alloc | apply pw_below_drewN | apply below_drew1 | refine below_set ?_ GE122.out | refine below_set ?_ GE123.out) | exact HB.out)⟩
                                · rw [if_neg c71] at H
                                  have c71b0 : decide ((x124001_44.size : Int) < 3) = false := decide_eq_false c71
                                  have c71b1 : decide (x124001_44.size < 3) = false := decide_eq_false (by omega)
                                  clear c71
                                  have c75 : 0 ≤ 3 := by decide
                                  rw [if_pos c75] at H
                                  have c75b0 := eq_true c75
                                  have c75b1 : decide (0 ≤ 3) = true := decide_eq_true c75
                                  clear c75
                                  by_cases c76 : 3 ≤ (x124001_44.size : Int)
                                  · rw [if_pos c76] at H
                                    have c76b0 := eq_true c76
                                    have c76b1 : decide (3 ≤ (x124001_44.size : Int)) = true := decide_eq_true c76
                                    clear c76
                                    replace H := Option.bind_eq_some_iff.mp H
                                    obtain ⟨t130, A770, H⟩ := H
                                    replace H : (if t130.toList = ([116, 111, 58] : List UInt8) then ((bulletinref27_trim.f kj44 (x124001_44.extract 3 x124001_44.size)).bind fun t131 => (bulletinref27_Read.j5 kj44 x124000_2 t131)) else (some (0, (⟨#[]⟩ : ByteArray), 3))) = some (r1, r2, r3) := H
                                    have A77 := Aside0.mk A770
                                    clear A770
                                    by_cases c78 : t130.toList = ([116, 111, 58] : List UInt8)
                                    · rw [if_pos c78] at H
                                      have c78b0 : (t130.toList == ([116, 111, 58] : List UInt8)) = true := beq_iff_eq.mpr c78
                                      have c78b1 : (t130.toList != ([116, 111, 58] : List UInt8)) = false := bne_eq_false_iff_eq.mpr c78
                                      clear c78
                                      have c79b0 := eq_true (of_decide_eq_true (by first | (with_reducible assumption) | assumption) : 3 ≤ (x124001_44.size : Int))
                                      replace H := Option.bind_eq_some_iff.mp H
                                      obtain ⟨t131, A800, H⟩ := H
                                      replace H : (bulletinref27_Read.j5 kj44 x124000_2 t131) = some (r1, r2, r3) := H
                                      have A80 := Aside0.mk A800
                                      clear A800
                                      have H' := Aside0.mk H
                                      clear H
                                      have hnb81 := NB123_122.out
                                      have hnc81 := NB122_123.out
                                      have hcz82_0 : wc.cell? ⟨gb123, 0, none⟩ = some (.int .i64 x124000_2) := (blk_cell BK123.out 0).trans rfl
                                      have hcz82_1 : wc.cell? ⟨gb123, 1, none⟩ = some (.string x124001_44) := (blk_cell BK123.out 1).trans rfl
                                      have hfz82_0 := blk_frozen BK123.out 0
                                      have hfz82_1 := blk_frozen BK123.out 1
                                      go_wp2_with (first | (go_at_call 18; (with_reducible refine (bulletinref06_Fold.calls kj44 (x124001_44.extract 0 3) t130 _ A77.out).mono ?_); rintro e w83 ⟨rfl, hb⟩; have n0_ := Aside0.mk (blk_below (g := gb122) (o := .cells #[.int .i64 x123000_44, .string x123001_44] 23 (0, 0)) (by (with_reducible repeat (first | refine blk_drewN ?_ _ | refine blk_drew ?_ | refine blk_alloc ?_ _)); exact BK122.out) hb); have n1_ := Aside0.mk (blk_below (g := gb123) (o := .cells #[.int .i64 x124000_2, .string x124001_44] 23 (0, 0)) (by (with_reducible repeat (first | refine blk_drewN ?_ _ | refine blk_drew ?_ | refine blk_alloc ?_ _)); exact BK123.out) hb); have n2_ := Aside0.mk (below_step (by repeat (first | (with_reducible first | exact HB.out | apply below_alloc | apply pw_below_drewN | apply below_drew1 | refine below_set ?_ GE122.out | refine below_set ?_ GE123.out) | exact HB.out)) hb); clear BK122; clear BK123; clear HB; have BK122 := n0_; have BK123 := n1_; have HB := n2_; clear n0_ n1_ n2_; (try clear hb); (try clear hb2); (try clear hk); (try clear hi); have hcz84_0 : w83.cell? ⟨gb123, 0, none⟩ = some (.int .i64 x124000_2) := (blk_cell BK123.out 0).trans rfl; have hcz84_1 : w83.cell? ⟨gb123, 1, none⟩ = some (.string x124001_44) := (blk_cell BK123.out 1).trans rfl; have hfz84_0 := blk_frozen BK123.out 0; have hfz84_1 := blk_frozen BK123.out 1) | ((with_reducible refine gate_callee (f := 20) rfl ?_); refine goesL_ (some 99) rfl rfl Tryd.func20 (by kernel_rfl) rfl #[.string (x124001_44.extract 3 x124001_44.size)] rfl (by (try simp only [List.map_toArray, List.map_cons, List.map_nil]); first | done | rfl | (simp only [List.length_drop, List.length_take]; rfl)) ?_; (with_reducible refine (bulletinref27_trim.calls kj44 (x124001_44.extract 3 x124001_44.size) t131 _ A80.out).mono ?_); rintro e w' ⟨rfl, ⟨nd, rfl⟩⟩; refine ⟨_, rfl, ?_⟩; (try (rw [drewN_self w83]; generalize hq_ : World.drewN w83 _ = w83; have n0_ : Aside0 (w83.heap[gb122]? = some (.cells #[.int .i64 x123000_44, .string x123001_44] 23 (0, 0))) := ⟨by rw [← hq_]; exact (by (with_reducible repeat (first | refine blk_drewN ?_ _ | refine blk_drew ?_ | refine blk_alloc ?_ _)); exact BK122.out)⟩; have n1_ : Aside0 (w83.heap[gb123]? = some (.cells #[.int .i64 x124000_2, .string x124001_44] 23 (0, 0))) := ⟨by rw [← hq_]; exact (by (with_reducible repeat (first | refine blk_drewN ?_ _ | refine blk_drew ?_ | refine blk_alloc ?_ _)); exact BK123.out)⟩; have n2_ : Aside0 (Below w.heap.size w w83) := ⟨by rw [← hq_]; exact (by repeat (first | (with_reducible first | exact HB.out | apply below_alloc | apply pw_below_drewN | apply below_drew1 | refine below_set ?_ GE122.out | refine below_set ?_ GE123.out) | exact HB.out))⟩; clear BK122 BK123 HB hq_; have BK122 := n0_; have BK123 := n1_; have HB := n2_; clear n0_ n1_ n2_; have hczq122_0 : w83.cell? ⟨gb122, 0, none⟩ = some (.int .i64 x123000_44) := (blk_cell BK122.out 0).trans rfl; have hfzq122_0 := blk_frozen BK122.out 0; have hczq122_1 : w83.cell? ⟨gb122, 1, none⟩ = some (.string x123001_44) := (blk_cell BK122.out 1).trans rfl; have hfzq122_1 := blk_frozen BK122.out 1; have hczq123_0 : w83.cell? ⟨gb123, 0, none⟩ = some (.int .i64 x124000_2) := (blk_cell BK123.out 0).trans rfl; have hfzq123_0 := blk_frozen BK123.out 0; have hczq123_1 : w83.cell? ⟨gb123, 1, none⟩ = some (.string x124001_44) := (blk_cell BK123.out 1).trans rfl; have hfzq123_1 := blk_frozen BK123.out 1))))
                                      go_meet
                                      case rel => exact ⟨_, (x123000_44), (x123001_44), (t131), H', ⟨by have := HJ1.out; have := HK2.out; have := HK3.out; have := HJ44.out; first | omega | exact Nat.le_refl _⟩, ⟨by (with_reducible repeat (first | refine blk_drewN ?_ _ | refine blk_drew ?_ | refine blk_alloc ?_ _)); refine blk_far ?_ NB122_123.out _; (with_reducible repeat (first | refine blk_drewN ?_ _ | refine blk_drew ?_ | refine blk_alloc ?_ _)); exact BK122.out⟩, ⟨by (with_reducible repeat (first | refine blk_drewN ?_ _ | refine blk_drew ?_ | refine blk_alloc ?_ _)); refine blk_put (cs := #[.int .i64 x124000_2, .string x124001_44]) ?_ 1 _ rfl; (with_reducible repeat (first | refine blk_drewN ?_ _ | refine blk_drew ?_ | refine blk_alloc ?_ _)); exact BK123.out⟩, ⟨by repeat (first | (with_reducible first | exact HB.out | apply below_alloc | apply pw_below_drewN | apply below_drew1 | refine below_set ?_ GE122.out | refine below_set ?_ GE123.out) | exact HB.out)⟩⟩
                                    · rw [if_neg c78] at H
                                      have c78b0 : (t130.toList == ([116, 111, 58] : List UInt8)) = false := beq_eq_false_iff_ne.mpr c78
                                      have c78b1 : (t130.toList != ([116, 111, 58] : List UInt8)) = true := bne_iff_ne.mpr c78
                                      simp only [Option.some.injEq, Prod.mk.injEq] at H
                                      obtain ⟨rfl, rfl, rfl⟩ := H
                                      have hnb85 := NB123_122.out
                                      have hnc85 := NB122_123.out
                                      have hcz86_0 : wc.cell? ⟨gb123, 0, none⟩ = some (.int .i64 x124000_2) := (blk_cell BK123.out 0).trans rfl
                                      have hcz86_1 : wc.cell? ⟨gb123, 1, none⟩ = some (.string x124001_44) := (blk_cell BK123.out 1).trans rfl
                                      have hfz86_0 := blk_frozen BK123.out 0
                                      have hfz86_1 := blk_frozen BK123.out 1
                                      go_wp2_with (first | (go_at_call 18; (with_reducible refine (bulletinref06_Fold.calls kj44 (x124001_44.extract 0 3) t130 _ A77.out).mono ?_); rintro e w87 ⟨rfl, hb⟩; have n0_ := Aside0.mk (blk_below (g := gb122) (o := .cells #[.int .i64 x123000_44, .string x123001_44] 23 (0, 0)) (by (with_reducible repeat (first | refine blk_drewN ?_ _ | refine blk_drew ?_ | refine blk_alloc ?_ _)); exact BK122.out) hb); have n1_ := Aside0.mk (blk_below (g := gb123) (o := .cells #[.int .i64 x124000_2, .string x124001_44] 23 (0, 0)) (by (with_reducible repeat (first | refine blk_drewN ?_ _ | refine blk_drew ?_ | refine blk_alloc ?_ _)); exact BK123.out) hb); have n2_ := Aside0.mk (below_step (by repeat (first | (with_reducible first | exact HB.out | apply below_alloc | apply pw_below_drewN | apply below_drew1 | refine below_set ?_ GE122.out | refine below_set ?_ GE123.out) | exact HB.out)) hb); clear BK122; clear BK123; clear HB; have BK122 := n0_; have BK123 := n1_; have HB := n2_; clear n0_ n1_ n2_; (try clear hb); (try clear hb2); (try clear hk); (try clear hi); have hcz88_0 : w87.cell? ⟨gb122, 0, none⟩ = some (.int .i64 x123000_44) := (blk_cell BK122.out 0).trans rfl; have hcz88_1 : w87.cell? ⟨gb122, 1, none⟩ = some (.string x123001_44) := (blk_cell BK122.out 1).trans rfl; have hfz88_0 := blk_frozen BK122.out 0; have hfz88_1 := blk_frozen BK122.out 1))
                                      refine bodyPost_ret (results_ct rfl _ _ gb122 23 #[.int .i64 0, .string (⟨#[]⟩ : ByteArray)] (0, 0) _ rfl (by (with_reducible repeat (first | refine blk_drewN ?_ _ | refine blk_drew ?_ | refine blk_alloc ?_ _)); refine blk_put (cs := #[.int .i64 0, .string x123001_44]) ?_ 1 _ rfl; (with_reducible repeat (first | refine blk_drewN ?_ _ | refine blk_drew ?_ | refine blk_alloc ?_ _)); refine blk_put (cs := #[.int .i64 x123000_44, .string x123001_44]) ?_ 0 _ rfl; (with_reducible repeat (first | refine blk_drewN ?_ _ | refine blk_drew ?_ | refine blk_alloc ?_ _)); exact BK122.out) Tryd.underlying23 rfl (by kernel_rfl)) rfl ?_
                                      exact ⟨by first | rfl | (simp [errW_none, errW_some] <;> rfl) | (simp [*, errW_none, errW_some] <;> rfl), by repeat (first | (with_reducible first | exact HB.out | apply below_alloc | apply pw_below_drewN | apply below_drew1 | refine below_set ?_ GE122.out | refine below_set ?_ GE123.out) | exact HB.out)⟩
                                  · rw [if_neg c76] at H
                                    exact absurd H (by simp)
                              · rw [if_neg c70] at H
                                have c70b0 : (x124000_2 == 4) = false := beq_eq_false_iff_ne.mpr c70
                                have c70b1 : (x124000_2 != 4) = true := bne_iff_ne.mpr c70
                                (first | rw [c70b0] | (simp only [i64_w, i32_w]; rw [c70b0]) | skip)
                                have H' := Aside0.mk H
                                clear H
                                go_wp2
                                go_meet
                                case rel => exact ⟨_, (x123000_44), (x123001_44), (x124001_44), H', ⟨by have := HJ1.out; have := HK2.out; have := HK3.out; have := HJ44.out; first | omega | exact Nat.le_refl _⟩, ⟨by (with_reducible repeat (first | refine blk_drewN ?_ _ | refine blk_drew ?_ | refine blk_alloc ?_ _)); exact BK122.out⟩, ⟨by (with_reducible repeat (first | refine blk_drewN ?_ _ | refine blk_drew ?_ | refine blk_alloc ?_ _)); exact BK123.out⟩, ⟨by repeat (first | (with_reducible first | exact HB.out | apply below_alloc | apply pw_below_drewN | apply below_drew1 | refine below_set ?_ GE122.out | refine below_set ?_ GE123.out) | exact HB.out)⟩⟩
                            case rest =>
                              clear HC67
                              try clear c1
                              try clear c2
                              try clear p2
                              try clear c3
                              try clear p3
                              try clear q3
                              try clear hx3
                              try clear c4
                              try clear c4b0
                              try clear c5
                              try clear c5b0
                              try clear c6
                              try clear p6
                              try clear q6
                              try clear hx6
                              try clear c7
                              try clear c7b0
                              try clear c7b1
                              try clear c8
                              try clear c9
                              try clear c11
                              try clear c11b0
                              try clear c14
                              try clear c14b0
                              try clear c14b1
                              try clear c15
                              try clear c15b0
                              try clear c15b1
                              try clear c17
                              try clear c17b0
                              try clear c17b1
                              try clear c18
                              try clear c19
                              try clear c20
                              try clear c21
                              try clear c26
                              try clear c26b0
                              try clear c26b1
                              try clear c27
                              try clear c30
                              try clear c32
                              try clear c32b0
                              try clear c33
                              try clear c33b0
                              try clear p34
                              try clear q34
                              try clear hx34
                              try clear c35
                              try clear c35b0
                              try clear c36
                              try clear p38
                              try clear q38
                              try clear hx38
                              try clear c39
                              try clear c39b0
                              try clear c40
                              try clear c42
                              try clear c42b0
                              try clear c42b1
                              try clear c43
                              try clear c43b0
                              try clear c43b1
                              try clear c46
                              try clear c48
                              try clear c48b0
                              try clear c48b1
                              try clear c49
                              try clear c49b0
                              try clear c49b1
                              try clear c50
                              try clear c53
                              try clear c53b0
                              try clear c53b1
                              try clear c54
                              try clear c54b0
                              try clear c54b1
                              try clear c56
                              try clear c56b0
                              try clear c56b1
                              try clear c57
                              try clear c57b0
                              try clear c59
                              try clear c63
                              try clear p64
                              try clear c68
                              try clear c70
                              try clear c70b0
                              try clear c70b1
                              try clear c71
                              try clear c71b0
                              try clear c71b1
                              try clear c72
                              try clear c75
                              try clear c75b0
                              try clear c75b1
                              try clear c76
                              try clear c76b0
                              try clear c76b1
                              try clear c78
                              try clear c78b0
                              try clear c78b1
                              try clear c79
                              try clear c79b0
                              try clear c81
                              try clear c85
                              try clear hcz10_0
                              try clear hcz10_1
                              try clear hcz22_0
                              try clear hcz22_1
                              try clear hcz28_0
                              try clear hcz28_1
                              try clear hcz29_0
                              try clear hcz29_1
                              try clear hcz31_0
                              try clear hcz31_1
                              try clear hcz37_0
                              try clear hcz37_1
                              try clear hcz41_0
                              try clear hcz41_1
                              try clear hcz47_0
                              try clear hcz47_1
                              try clear hcz51_0
                              try clear hcz51_1
                              try clear hcz52_0
                              try clear hcz52_1
                              try clear hcz60_0
                              try clear hcz60_1
                              try clear hcz62_0
                              try clear hcz62_1
                              try clear hcz64_0
                              try clear hcz64_1
                              try clear hcz66_0
                              try clear hcz66_1
                              try clear hcz69_0
                              try clear hcz69_1
                              try clear hcz73_0
                              try clear hcz73_1
                              try clear hcz74_0
                              try clear hcz74_1
                              try clear hcz82_0
                              try clear hcz82_1
                              try clear hcz84_0
                              try clear hcz84_1
                              try clear hcz86_0
                              try clear hcz86_1
                              try clear hcz88_0
                              try clear hcz88_1
                              try clear hfz10_0
                              try clear hfz10_1
                              try clear hfz22_0
                              try clear hfz22_1
                              try clear hfz28_0
                              try clear hfz28_1
                              try clear hfz29_0
                              try clear hfz29_1
                              try clear hfz31_0
                              try clear hfz31_1
                              try clear hfz37_0
                              try clear hfz37_1
                              try clear hfz41_0
                              try clear hfz41_1
                              try clear hfz47_0
                              try clear hfz47_1
                              try clear hfz51_0
                              try clear hfz51_1
                              try clear hfz52_0
                              try clear hfz52_1
                              try clear hfz60_0
                              try clear hfz60_1
                              try clear hfz62_0
                              try clear hfz62_1
                              try clear hfz64_0
                              try clear hfz64_1
                              try clear hfz66_0
                              try clear hfz66_1
                              try clear hfz69_0
                              try clear hfz69_1
                              try clear hfz73_0
                              try clear hfz73_1
                              try clear hfz74_0
                              try clear hfz74_1
                              try clear hfz82_0
                              try clear hfz82_1
                              try clear hfz84_0
                              try clear hfz84_1
                              try clear hfz86_0
                              try clear hfz86_1
                              try clear hfz88_0
                              try clear hfz88_1
                              try clear p2
                              try clear p3
                              try clear p34
                              try clear p38
                              try clear p6
                              try clear p64
                              try clear q3
                              try clear q34
                              try clear q38
                              try clear q6
                              obtain ⟨kq, x123000_66, x123001_66, x124001_66, HA, HJ66, BK122, BK123, HB⟩ := hcut
                              cases kq with
                              | zero => exact absurd HA.out (by simp [bulletinref27_Read.j5])
                              | succ kj66 =>
                                have H := HA.out
                                clear HA
                                simp only [bulletinref27_Read.j5] at H
                                have HC89 := Aside0.mk H
                                clear H
                                go_upto_region 26 with (fail)
                                go_cut [113] (fun v113 wc => ∃ (kq : Nat) (x113_88 : Bool), v113 = .bool x113_88 ∧ Aside0 (bulletinref27_Read.j6 kq x113_88 x124000_2 x124001_66 = some (r1, r2, r3)) ∧ Aside0 (kq ≤ kj66) ∧ Aside0 (wc.heap[gb122]? = some (.cells #[.int .i64 x123000_66, .string x123001_66] 23 (0, 0))) ∧ Aside0 (wc.heap[gb123]? = some (.cells #[.int .i64 x124000_2, .string x124001_66] 23 (0, 0))) ∧ Aside0 (Below w.heap.size w wc))
                                case first =>
                                  have H := HC89.out
                                  clear HC89
                                  by_cases c90 : x124001_66.toList = ([] : List UInt8)
                                  · rw [if_pos c90] at H
                                    have c90b0 : (x124001_66.toList == ([] : List UInt8)) = true := beq_iff_eq.mpr c90
                                    have c90b1 : (x124001_66.toList != ([] : List UInt8)) = false := bne_eq_false_iff_eq.mpr c90
                                    clear c90
                                    (first | rw [c90b0] | (simp only [i64_w, i32_w]; rw [c90b0]) | skip)
                                    by_cases c91 : x124000_2 ≤ 4
                                    · rw [if_pos c91] at H
                                      have c91b0 : decide (x124000_2 ≤ 4) = true := decide_eq_true c91
                                      clear c91
                                      have H' := Aside0.mk H
                                      clear H
                                      have hnb92 := NB123_122.out
                                      have hnc92 := NB122_123.out
                                      have hcz93_0 : wc.cell? ⟨gb123, 0, none⟩ = some (.int .i64 x124000_2) := (blk_cell BK123.out 0).trans rfl
                                      have hcz93_1 : wc.cell? ⟨gb123, 1, none⟩ = some (.string x124001_66) := (blk_cell BK123.out 1).trans rfl
                                      have hfz93_0 := blk_frozen BK123.out 0
                                      have hfz93_1 := blk_frozen BK123.out 1
                                      go_wp2
                                      go_meet
                                      case rel => exact ⟨_, (true), (by first | rfl | (simp; done) | (simp [*]; done)), H', ⟨by have := HJ1.out; have := HK2.out; have := HK3.out; have := HJ44.out; have := HJ66.out; first | omega | exact Nat.le_refl _⟩, ⟨by (with_reducible repeat (first | refine blk_drewN ?_ _ | refine blk_drew ?_ | refine blk_alloc ?_ _)); exact BK122.out⟩, ⟨by (with_reducible repeat (first | refine blk_drewN ?_ _ | refine blk_drew ?_ | refine blk_alloc ?_ _)); exact BK123.out⟩, ⟨by repeat (first | (with_reducible first | exact HB.out | apply below_alloc | apply pw_below_drewN | apply below_drew1 | refine below_set ?_ GE122.out | refine below_set ?_ GE123.out) | exact HB.out)⟩⟩
                                    · rw [if_neg c91] at H
                                      have c91b0 : decide (x124000_2 ≤ 4) = false := decide_eq_false c91
                                      clear c91
                                      have H' := Aside0.mk H
                                      clear H
                                      have hnb94 := NB123_122.out
                                      have hnc94 := NB122_123.out
                                      have hcz95_0 : wc.cell? ⟨gb123, 0, none⟩ = some (.int .i64 x124000_2) := (blk_cell BK123.out 0).trans rfl
                                      have hcz95_1 : wc.cell? ⟨gb123, 1, none⟩ = some (.string x124001_66) := (blk_cell BK123.out 1).trans rfl
                                      have hfz95_0 := blk_frozen BK123.out 0
                                      have hfz95_1 := blk_frozen BK123.out 1
                                      go_wp2
                                      go_meet
                                      case rel => exact ⟨_, ((x124000_2 == 8)), (by first | rfl | (simp; done) | (simp [*]; done)), H', ⟨by have := HJ1.out; have := HK2.out; have := HK3.out; have := HJ44.out; have := HJ66.out; first | omega | exact Nat.le_refl _⟩, ⟨by (with_reducible repeat (first | refine blk_drewN ?_ _ | refine blk_drew ?_ | refine blk_alloc ?_ _)); exact BK122.out⟩, ⟨by (with_reducible repeat (first | refine blk_drewN ?_ _ | refine blk_drew ?_ | refine blk_alloc ?_ _)); exact BK123.out⟩, ⟨by repeat (first | (with_reducible first | exact HB.out | apply below_alloc | apply pw_below_drewN | apply below_drew1 | refine below_set ?_ GE122.out | refine below_set ?_ GE123.out) | exact HB.out)⟩⟩
                                  · rw [if_neg c90] at H
                                    have c90b0 : (x124001_66.toList == ([] : List UInt8)) = false := beq_eq_false_iff_ne.mpr c90
                                    have c90b1 : (x124001_66.toList != ([] : List UInt8)) = true := bne_iff_ne.mpr c90
                                    (first | rw [c90b0] | (simp only [i64_w, i32_w]; rw [c90b0]) | skip)
                                    have H' := Aside0.mk H
                                    clear H
                                    have hnb96 := NB123_122.out
                                    have hnc96 := NB122_123.out
                                    have hcz97_0 : wc.cell? ⟨gb123, 0, none⟩ = some (.int .i64 x124000_2) := (blk_cell BK123.out 0).trans rfl
                                    have hcz97_1 : wc.cell? ⟨gb123, 1, none⟩ = some (.string x124001_66) := (blk_cell BK123.out 1).trans rfl
                                    have hfz97_0 := blk_frozen BK123.out 0
                                    have hfz97_1 := blk_frozen BK123.out 1
                                    go_wp2
                                    go_meet
                                    case rel => exact ⟨_, (false), (by first | rfl | (simp; done) | (simp [*]; done)), H', ⟨by have := HJ1.out; have := HK2.out; have := HK3.out; have := HJ44.out; have := HJ66.out; first | omega | exact Nat.le_refl _⟩, ⟨by (with_reducible repeat (first | refine blk_drewN ?_ _ | refine blk_drew ?_ | refine blk_alloc ?_ _)); exact BK122.out⟩, ⟨by (with_reducible repeat (first | refine blk_drewN ?_ _ | refine blk_drew ?_ | refine blk_alloc ?_ _)); exact BK123.out⟩, ⟨by repeat (first | (with_reducible first | exact HB.out | apply below_alloc | apply pw_below_drewN | apply below_drew1 | refine below_set ?_ GE122.out | refine below_set ?_ GE123.out) | exact HB.out)⟩⟩
                                case rest =>
                                  clear HC89
                                  try clear c1
                                  try clear c2
                                  try clear p2
                                  try clear c3
                                  try clear p3
                                  try clear q3
                                  try clear hx3
                                  try clear c4
                                  try clear c4b0
                                  try clear c5
                                  try clear c5b0
                                  try clear c6
                                  try clear p6
                                  try clear q6
                                  try clear hx6
                                  try clear c7
                                  try clear c7b0
                                  try clear c7b1
                                  try clear c8
                                  try clear c9
                                  try clear c11
                                  try clear c11b0
                                  try clear c14
                                  try clear c14b0
                                  try clear c14b1
                                  try clear c15
                                  try clear c15b0
                                  try clear c15b1
                                  try clear c17
                                  try clear c17b0
                                  try clear c17b1
                                  try clear c18
                                  try clear c19
                                  try clear c20
                                  try clear c21
                                  try clear c26
                                  try clear c26b0
                                  try clear c26b1
                                  try clear c27
                                  try clear c30
                                  try clear c32
                                  try clear c32b0
                                  try clear c33
                                  try clear c33b0
                                  try clear p34
                                  try clear q34
                                  try clear hx34
                                  try clear c35
                                  try clear c35b0
                                  try clear c36
                                  try clear p38
                                  try clear q38
                                  try clear hx38
                                  try clear c39
                                  try clear c39b0
                                  try clear c40
                                  try clear c42
                                  try clear c42b0
                                  try clear c42b1
                                  try clear c43
                                  try clear c43b0
                                  try clear c43b1
                                  try clear c46
                                  try clear c48
                                  try clear c48b0
                                  try clear c48b1
                                  try clear c49
                                  try clear c49b0
                                  try clear c49b1
                                  try clear c50
                                  try clear c53
                                  try clear c53b0
                                  try clear c53b1
                                  try clear c54
                                  try clear c54b0
                                  try clear c54b1
                                  try clear c56
                                  try clear c56b0
                                  try clear c56b1
                                  try clear c57
                                  try clear c57b0
                                  try clear c59
                                  try clear c63
                                  try clear p64
                                  try clear c68
                                  try clear c70
                                  try clear c70b0
                                  try clear c70b1
                                  try clear c71
                                  try clear c71b0
                                  try clear c71b1
                                  try clear c72
                                  try clear c75
                                  try clear c75b0
                                  try clear c75b1
                                  try clear c76
                                  try clear c76b0
                                  try clear c76b1
                                  try clear c78
                                  try clear c78b0
                                  try clear c78b1
                                  try clear c79
                                  try clear c79b0
                                  try clear c81
                                  try clear c85
                                  try clear c90
                                  try clear c90b0
                                  try clear c90b1
                                  try clear c91
                                  try clear c91b0
                                  try clear c92
                                  try clear c94
                                  try clear c96
                                  try clear hcz10_0
                                  try clear hcz10_1
                                  try clear hcz22_0
                                  try clear hcz22_1
                                  try clear hcz28_0
                                  try clear hcz28_1
                                  try clear hcz29_0
                                  try clear hcz29_1
                                  try clear hcz31_0
                                  try clear hcz31_1
                                  try clear hcz37_0
                                  try clear hcz37_1
                                  try clear hcz41_0
                                  try clear hcz41_1
                                  try clear hcz47_0
                                  try clear hcz47_1
                                  try clear hcz51_0
                                  try clear hcz51_1
                                  try clear hcz52_0
                                  try clear hcz52_1
                                  try clear hcz60_0
                                  try clear hcz60_1
                                  try clear hcz62_0
                                  try clear hcz62_1
                                  try clear hcz64_0
                                  try clear hcz64_1
                                  try clear hcz66_0
                                  try clear hcz66_1
                                  try clear hcz69_0
                                  try clear hcz69_1
                                  try clear hcz73_0
                                  try clear hcz73_1
                                  try clear hcz74_0
                                  try clear hcz74_1
                                  try clear hcz82_0
                                  try clear hcz82_1
                                  try clear hcz84_0
                                  try clear hcz84_1
                                  try clear hcz86_0
                                  try clear hcz86_1
                                  try clear hcz88_0
                                  try clear hcz88_1
                                  try clear hcz93_0
                                  try clear hcz93_1
                                  try clear hcz95_0
                                  try clear hcz95_1
                                  try clear hcz97_0
                                  try clear hcz97_1
                                  try clear hfz10_0
                                  try clear hfz10_1
                                  try clear hfz22_0
                                  try clear hfz22_1
                                  try clear hfz28_0
                                  try clear hfz28_1
                                  try clear hfz29_0
                                  try clear hfz29_1
                                  try clear hfz31_0
                                  try clear hfz31_1
                                  try clear hfz37_0
                                  try clear hfz37_1
                                  try clear hfz41_0
                                  try clear hfz41_1
                                  try clear hfz47_0
                                  try clear hfz47_1
                                  try clear hfz51_0
                                  try clear hfz51_1
                                  try clear hfz52_0
                                  try clear hfz52_1
                                  try clear hfz60_0
                                  try clear hfz60_1
                                  try clear hfz62_0
                                  try clear hfz62_1
                                  try clear hfz64_0
                                  try clear hfz64_1
                                  try clear hfz66_0
                                  try clear hfz66_1
                                  try clear hfz69_0
                                  try clear hfz69_1
                                  try clear hfz73_0
                                  try clear hfz73_1
                                  try clear hfz74_0
                                  try clear hfz74_1
                                  try clear hfz82_0
                                  try clear hfz82_1
                                  try clear hfz84_0
                                  try clear hfz84_1
                                  try clear hfz86_0
                                  try clear hfz86_1
                                  try clear hfz88_0
                                  try clear hfz88_1
                                  try clear hfz93_0
                                  try clear hfz93_1
                                  try clear hfz95_0
                                  try clear hfz95_1
                                  try clear hfz97_0
                                  try clear hfz97_1
                                  try clear p2
                                  try clear p3
                                  try clear p34
                                  try clear p38
                                  try clear p6
                                  try clear p64
                                  try clear q3
                                  try clear q34
                                  try clear q38
                                  try clear q6
                                  obtain ⟨kq, x113_88, rfl, HA, HJ88, BK122, BK123, HB⟩ := hcut
                                  cases kq with
                                  | zero => exact absurd HA.out (by simp [bulletinref27_Read.j6])
                                  | succ kj88 =>
                                    have H := HA.out
                                    clear HA
                                    simp only [bulletinref27_Read.j6] at H
                                    by_cases c98 : x113_88 = true
                                    · subst c98
                                      have H1 : (some (0, (⟨#[]⟩ : ByteArray), 3)) = some (r1, r2, r3) := by rw [if_pos rfl] at H; exact H
                                      clear H
                                      have H := H1
                                      clear H1
                                      simp only [Option.some.injEq, Prod.mk.injEq] at H
                                      obtain ⟨rfl, rfl, rfl⟩ := H
                                      have hnb99 := NB122_123.out
                                      have hnc99 := NB123_122.out
                                      have hcz100_0 : wc.cell? ⟨gb122, 0, none⟩ = some (.int .i64 x123000_66) := (blk_cell BK122.out 0).trans rfl
                                      have hcz100_1 : wc.cell? ⟨gb122, 1, none⟩ = some (.string x123001_66) := (blk_cell BK122.out 1).trans rfl
                                      have hfz100_0 := blk_frozen BK122.out 0
                                      have hfz100_1 := blk_frozen BK122.out 1
                                      go_wp2
                                      refine bodyPost_ret (results_ct rfl _ _ gb122 23 #[.int .i64 0, .string (⟨#[]⟩ : ByteArray)] (0, 0) _ rfl (by (with_reducible repeat (first | refine blk_drewN ?_ _ | refine blk_drew ?_ | refine blk_alloc ?_ _)); refine blk_put (cs := #[.int .i64 0, .string x123001_66]) ?_ 1 _ rfl; (with_reducible repeat (first | refine blk_drewN ?_ _ | refine blk_drew ?_ | refine blk_alloc ?_ _)); refine blk_put (cs := #[.int .i64 x123000_66, .string x123001_66]) ?_ 0 _ rfl; (with_reducible repeat (first | refine blk_drewN ?_ _ | refine blk_drew ?_ | refine blk_alloc ?_ _)); exact BK122.out) Tryd.underlying23 rfl (by kernel_rfl)) rfl ?_
                                      exact ⟨by first | rfl | (simp [errW_none, errW_some] <;> rfl) | (simp [*, errW_none, errW_some] <;> rfl), by repeat (first | (with_reducible first | exact HB.out | apply below_alloc | apply pw_below_drewN | apply below_drew1 | refine below_set ?_ GE122.out | refine below_set ?_ GE123.out) | exact HB.out)⟩
                                    · replace c98 := Bool.eq_false_iff.mpr c98
                                      subst c98
                                      have H1 : (if x124001_66.toList = ([] : List UInt8) then (some (x124000_2, x124001_66, 0)) else (if x124000_2 = 5 then (some (0, (⟨#[]⟩ : ByteArray), 3)) else (if x124000_2 = 6 then (some (0, (⟨#[]⟩ : ByteArray), 3)) else (if x124000_2 = 9 then (some (0, (⟨#[]⟩ : ByteArray), 3)) else (some (x124000_2, x124001_66, 0)))))) = some (r1, r2, r3) := by rw [if_neg (show ¬ (false = true) by decide)] at H; exact H
                                      clear H
                                      have H := H1
                                      clear H1
                                      by_cases c101 : x124001_66.toList = ([] : List UInt8)
                                      · rw [if_pos c101] at H
                                        have c101b0 : (x124001_66.toList == ([] : List UInt8)) = true := beq_iff_eq.mpr c101
                                        have c101b1 : (x124001_66.toList != ([] : List UInt8)) = false := bne_eq_false_iff_eq.mpr c101
                                        clear c101
                                        simp only [Option.some.injEq, Prod.mk.injEq] at H
                                        obtain ⟨rfl, rfl, rfl⟩ := H
                                        have hnb102 := NB123_122.out
                                        have hnc102 := NB122_123.out
                                        have hcz103_0 : wc.cell? ⟨gb123, 0, none⟩ = some (.int .i64 x124000_2) := (blk_cell BK123.out 0).trans rfl
                                        have hcz103_1 : wc.cell? ⟨gb123, 1, none⟩ = some (.string x124001_66) := (blk_cell BK123.out 1).trans rfl
                                        have hfz103_0 := blk_frozen BK123.out 0
                                        have hfz103_1 := blk_frozen BK123.out 1
                                        have hcz104_0 : wc.cell? ⟨gb122, 0, none⟩ = some (.int .i64 x123000_66) := (blk_cell BK122.out 0).trans rfl
                                        have hcz104_1 : wc.cell? ⟨gb122, 1, none⟩ = some (.string x123001_66) := (blk_cell BK122.out 1).trans rfl
                                        have hfz104_0 := blk_frozen BK122.out 0
                                        have hfz104_1 := blk_frozen BK122.out 1
                                        go_wp2
                                        refine bodyPost_ret (results_ct rfl _ _ gb122 23 #[.int .i64 x124000_2, .string x124001_66] (0, 0) _ rfl (by (with_reducible repeat (first | refine blk_drewN ?_ _ | refine blk_drew ?_ | refine blk_alloc ?_ _)); refine blk_put (cs := #[.int .i64 x124000_2, .string x123001_66]) ?_ 1 _ rfl; (with_reducible repeat (first | refine blk_drewN ?_ _ | refine blk_drew ?_ | refine blk_alloc ?_ _)); refine blk_put (cs := #[.int .i64 x123000_66, .string x123001_66]) ?_ 0 _ rfl; (with_reducible repeat (first | refine blk_drewN ?_ _ | refine blk_drew ?_ | refine blk_alloc ?_ _)); exact BK122.out) Tryd.underlying23 rfl (by kernel_rfl)) rfl ?_
                                        exact ⟨by first | rfl | (simp [errW_none, errW_some] <;> rfl) | (simp [*, errW_none, errW_some] <;> rfl), by repeat (first | (with_reducible first | exact HB.out | apply below_alloc | apply pw_below_drewN | apply below_drew1 | refine below_set ?_ GE122.out | refine below_set ?_ GE123.out) | exact HB.out)⟩
                                      · rw [if_neg c101] at H
                                        have c101b0 : (x124001_66.toList == ([] : List UInt8)) = false := beq_eq_false_iff_ne.mpr c101
                                        have c101b1 : (x124001_66.toList != ([] : List UInt8)) = true := bne_iff_ne.mpr c101
                                        by_cases c105 : x124000_2 = 5
                                        · rw [if_pos c105] at H
                                          have c105b0 : (x124000_2 == 5) = true := beq_iff_eq.mpr c105
                                          have c105b1 : (x124000_2 != 5) = false := bne_eq_false_iff_eq.mpr c105
                                          clear c105
                                          simp only [Option.some.injEq, Prod.mk.injEq] at H
                                          obtain ⟨rfl, rfl, rfl⟩ := H
                                          have hnb106 := NB123_122.out
                                          have hnc106 := NB122_123.out
                                          have hcz107_0 : wc.cell? ⟨gb123, 0, none⟩ = some (.int .i64 x124000_2) := (blk_cell BK123.out 0).trans rfl
                                          have hcz107_1 : wc.cell? ⟨gb123, 1, none⟩ = some (.string x124001_66) := (blk_cell BK123.out 1).trans rfl
                                          have hfz107_0 := blk_frozen BK123.out 0
                                          have hfz107_1 := blk_frozen BK123.out 1
                                          have hcz108_0 : wc.cell? ⟨gb122, 0, none⟩ = some (.int .i64 x123000_66) := (blk_cell BK122.out 0).trans rfl
                                          have hcz108_1 : wc.cell? ⟨gb122, 1, none⟩ = some (.string x123001_66) := (blk_cell BK122.out 1).trans rfl
                                          have hfz108_0 := blk_frozen BK122.out 0
                                          have hfz108_1 := blk_frozen BK122.out 1
                                          go_wp2
                                          refine bodyPost_ret (results_ct rfl _ _ gb122 23 #[.int .i64 0, .string (⟨#[]⟩ : ByteArray)] (0, 0) _ rfl (by (with_reducible repeat (first | refine blk_drewN ?_ _ | refine blk_drew ?_ | refine blk_alloc ?_ _)); refine blk_put (cs := #[.int .i64 0, .string x123001_66]) ?_ 1 _ rfl; (with_reducible repeat (first | refine blk_drewN ?_ _ | refine blk_drew ?_ | refine blk_alloc ?_ _)); refine blk_put (cs := #[.int .i64 x123000_66, .string x123001_66]) ?_ 0 _ rfl; (with_reducible repeat (first | refine blk_drewN ?_ _ | refine blk_drew ?_ | refine blk_alloc ?_ _)); exact BK122.out) Tryd.underlying23 rfl (by kernel_rfl)) rfl ?_
                                          exact ⟨by first | rfl | (simp [errW_none, errW_some] <;> rfl) | (simp [*, errW_none, errW_some] <;> rfl), by repeat (first | (with_reducible first | exact HB.out | apply below_alloc | apply pw_below_drewN | apply below_drew1 | refine below_set ?_ GE122.out | refine below_set ?_ GE123.out) | exact HB.out)⟩
                                        · rw [if_neg c105] at H
                                          have c105b0 : (x124000_2 == 5) = false := beq_eq_false_iff_ne.mpr c105
                                          have c105b1 : (x124000_2 != 5) = true := bne_iff_ne.mpr c105
                                          by_cases c109 : x124000_2 = 6
                                          · rw [if_pos c109] at H
                                            have c109b0 : (x124000_2 == 6) = true := beq_iff_eq.mpr c109
                                            have c109b1 : (x124000_2 != 6) = false := bne_eq_false_iff_eq.mpr c109
                                            clear c109
                                            simp only [Option.some.injEq, Prod.mk.injEq] at H
                                            obtain ⟨rfl, rfl, rfl⟩ := H
                                            have hnb110 := NB123_122.out
                                            have hnc110 := NB122_123.out
                                            have hcz111_0 : wc.cell? ⟨gb123, 0, none⟩ = some (.int .i64 x124000_2) := (blk_cell BK123.out 0).trans rfl
                                            have hcz111_1 : wc.cell? ⟨gb123, 1, none⟩ = some (.string x124001_66) := (blk_cell BK123.out 1).trans rfl
                                            have hfz111_0 := blk_frozen BK123.out 0
                                            have hfz111_1 := blk_frozen BK123.out 1
                                            have hcz112_0 : wc.cell? ⟨gb122, 0, none⟩ = some (.int .i64 x123000_66) := (blk_cell BK122.out 0).trans rfl
                                            have hcz112_1 : wc.cell? ⟨gb122, 1, none⟩ = some (.string x123001_66) := (blk_cell BK122.out 1).trans rfl
                                            have hfz112_0 := blk_frozen BK122.out 0
                                            have hfz112_1 := blk_frozen BK122.out 1
                                            go_wp2
                                            refine bodyPost_ret (results_ct rfl _ _ gb122 23 #[.int .i64 0, .string (⟨#[]⟩ : ByteArray)] (0, 0) _ rfl (by (with_reducible repeat (first | refine blk_drewN ?_ _ | refine blk_drew ?_ | refine blk_alloc ?_ _)); refine blk_put (cs := #[.int .i64 0, .string x123001_66]) ?_ 1 _ rfl; (with_reducible repeat (first | refine blk_drewN ?_ _ | refine blk_drew ?_ | refine blk_alloc ?_ _)); refine blk_put (cs := #[.int .i64 x123000_66, .string x123001_66]) ?_ 0 _ rfl; (with_reducible repeat (first | refine blk_drewN ?_ _ | refine blk_drew ?_ | refine blk_alloc ?_ _)); exact BK122.out) Tryd.underlying23 rfl (by kernel_rfl)) rfl ?_
                                            exact ⟨by first | rfl | (simp [errW_none, errW_some] <;> rfl) | (simp [*, errW_none, errW_some] <;> rfl), by repeat (first | (with_reducible first | exact HB.out | apply below_alloc | apply pw_below_drewN | apply below_drew1 | refine below_set ?_ GE122.out | refine below_set ?_ GE123.out) | exact HB.out)⟩
                                          · rw [if_neg c109] at H
                                            have c109b0 : (x124000_2 == 6) = false := beq_eq_false_iff_ne.mpr c109
                                            have c109b1 : (x124000_2 != 6) = true := bne_iff_ne.mpr c109
                                            by_cases c113 : x124000_2 = 9
                                            · rw [if_pos c113] at H
                                              have c113b0 : (x124000_2 == 9) = true := beq_iff_eq.mpr c113
                                              have c113b1 : (x124000_2 != 9) = false := bne_eq_false_iff_eq.mpr c113
                                              clear c113
                                              simp only [Option.some.injEq, Prod.mk.injEq] at H
                                              obtain ⟨rfl, rfl, rfl⟩ := H
                                              have hnb114 := NB123_122.out
                                              have hnc114 := NB122_123.out
                                              have hcz115_0 : wc.cell? ⟨gb123, 0, none⟩ = some (.int .i64 x124000_2) := (blk_cell BK123.out 0).trans rfl
                                              have hcz115_1 : wc.cell? ⟨gb123, 1, none⟩ = some (.string x124001_66) := (blk_cell BK123.out 1).trans rfl
                                              have hfz115_0 := blk_frozen BK123.out 0
                                              have hfz115_1 := blk_frozen BK123.out 1
                                              have hcz116_0 : wc.cell? ⟨gb122, 0, none⟩ = some (.int .i64 x123000_66) := (blk_cell BK122.out 0).trans rfl
                                              have hcz116_1 : wc.cell? ⟨gb122, 1, none⟩ = some (.string x123001_66) := (blk_cell BK122.out 1).trans rfl
                                              have hfz116_0 := blk_frozen BK122.out 0
                                              have hfz116_1 := blk_frozen BK122.out 1
                                              go_wp2
                                              refine bodyPost_ret (results_ct rfl _ _ gb122 23 #[.int .i64 0, .string (⟨#[]⟩ : ByteArray)] (0, 0) _ rfl (by (with_reducible repeat (first | refine blk_drewN ?_ _ | refine blk_drew ?_ | refine blk_alloc ?_ _)); refine blk_put (cs := #[.int .i64 0, .string x123001_66]) ?_ 1 _ rfl; (with_reducible repeat (first | refine blk_drewN ?_ _ | refine blk_drew ?_ | refine blk_alloc ?_ _)); refine blk_put (cs := #[.int .i64 x123000_66, .string x123001_66]) ?_ 0 _ rfl; (with_reducible repeat (first | refine blk_drewN ?_ _ | refine blk_drew ?_ | refine blk_alloc ?_ _)); exact BK122.out) Tryd.underlying23 rfl (by kernel_rfl)) rfl ?_
                                              exact ⟨by first | rfl | (simp [errW_none, errW_some] <;> rfl) | (simp [*, errW_none, errW_some] <;> rfl), by repeat (first | (with_reducible first | exact HB.out | apply below_alloc | apply pw_below_drewN | apply below_drew1 | refine below_set ?_ GE122.out | refine below_set ?_ GE123.out) | exact HB.out)⟩
                                            · rw [if_neg c113] at H
                                              have c113b0 : (x124000_2 == 9) = false := beq_eq_false_iff_ne.mpr c113
                                              have c113b1 : (x124000_2 != 9) = true := bne_iff_ne.mpr c113
                                              simp only [Option.some.injEq, Prod.mk.injEq] at H
                                              obtain ⟨rfl, rfl, rfl⟩ := H
                                              have hnb117 := NB123_122.out
                                              have hnc117 := NB122_123.out
                                              have hcz118_0 : wc.cell? ⟨gb123, 0, none⟩ = some (.int .i64 x124000_2) := (blk_cell BK123.out 0).trans rfl
                                              have hcz118_1 : wc.cell? ⟨gb123, 1, none⟩ = some (.string x124001_66) := (blk_cell BK123.out 1).trans rfl
                                              have hfz118_0 := blk_frozen BK123.out 0
                                              have hfz118_1 := blk_frozen BK123.out 1
                                              have hcz119_0 : wc.cell? ⟨gb122, 0, none⟩ = some (.int .i64 x123000_66) := (blk_cell BK122.out 0).trans rfl
                                              have hcz119_1 : wc.cell? ⟨gb122, 1, none⟩ = some (.string x123001_66) := (blk_cell BK122.out 1).trans rfl
                                              have hfz119_0 := blk_frozen BK122.out 0
                                              have hfz119_1 := blk_frozen BK122.out 1
                                              go_wp2
                                              refine bodyPost_ret (results_ct rfl _ _ gb122 23 #[.int .i64 x124000_2, .string x124001_66] (0, 0) _ rfl (by (with_reducible repeat (first | refine blk_drewN ?_ _ | refine blk_drew ?_ | refine blk_alloc ?_ _)); refine blk_put (cs := #[.int .i64 x124000_2, .string x123001_66]) ?_ 1 _ rfl; (with_reducible repeat (first | refine blk_drewN ?_ _ | refine blk_drew ?_ | refine blk_alloc ?_ _)); refine blk_put (cs := #[.int .i64 x123000_66, .string x123001_66]) ?_ 0 _ rfl; (with_reducible repeat (first | refine blk_drewN ?_ _ | refine blk_drew ?_ | refine blk_alloc ?_ _)); exact BK122.out) Tryd.underlying23 rfl (by kernel_rfl)) rfl ?_
                                              exact ⟨by first | rfl | (simp [errW_none, errW_some] <;> rfl) | (simp [*, errW_none, errW_some] <;> rfl), by repeat (first | (with_reducible first | exact HB.out | apply below_alloc | apply pw_below_drewN | apply below_drew1 | refine below_set ?_ GE122.out | refine below_set ?_ GE123.out) | exact HB.out)⟩
                      · rw [if_neg c43] at H
                        exact absurd H (by simp)
                    · rw [if_neg c42] at H
                      exact absurd H (by simp)

end Go.Proofs.YtaamnpomclenpaaDoor.X
