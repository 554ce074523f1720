-- Written by a program (print.py's text, with contracts of this session's own put in). Not trusted: Lean checks it.
import Derived.Test.YtgbkjgngpceeiaaDoorX0
import Derived.Test.YtgbkjgngpceeiaaDoorX1
namespace Go.Proofs.YtgbkjgngpceeiaaDoor.X
open Go.RowKit Go.Proofs.YtgbkjgngpceeiaaDoorW.PrintWords Go.Proofs.YtgbkjgngpceeiaaDoorW.PrintLast Go.Proofs.YtgbkjgngpceeiaaDoorW.PrintMore
attribute [local go_sem] max2_int min2_int max_two min_two max_three min_three max_four min_four   -- for this text's walks alone
set_option linter.unusedVariables false
set_option linter.unusedSimpArgs false

/-! ### b64_group: function 20, a contract written by hand -/
-- IMPORT Derived.LoopN
-- IMPORT Derived.Deep.RegionWith
theorem bt_step {P : Program} {Q : Exit → Act → World → Prop} {a : Act} {w : World} {c : Code} {n : Nat} (h : c.wp P (Exit.then (Code.rounds P c Q n) Q) a w) : Code.rounds P c Q (n + 1) a w := h
/-- the first k of three bytes as a number -/
def b64_nv (s : ByteArray) : Nat → Int
  | 0 => 0
  | k + 1 => b64_nv s k * 256 + bt s (k : Int)
/-- the letter of a number from 0 to 63 -/
def b64_q (y : Int) : Int := bt (⟨#[65, 66, 67, 68, 69, 70, 71, 72, 73, 74, 75, 76, 77, 78, 79, 80, 81, 82, 83, 84, 85, 86, 87, 88, 89, 90, 97, 98, 99, 100, 101, 102, 103, 104, 105, 106, 107, 108, 109, 110, 111, 112, 113, 114, 115, 116, 117, 118, 119, 120, 121, 122, 48, 49, 50, 51, 52, 53, 54, 55, 56, 57, 43, 47]⟩ : ByteArray) y
def b64_group.f (a0 : ByteArray) : Option ByteArray := if a0.size ≤ 3 then some (strOfNums ([b64_q (b64_nv a0 3 / 262144 % 64), b64_q (b64_nv a0 3 / 4096 % 64), b64_q (b64_nv a0 3 / 64 % 64), b64_q (b64_nv a0 3 % 64)].take (a0.size + 1)) ++ ⟨(Lib.repeatL [61] (3 - a0.size)).toArray⟩) else none
theorem b64_nv_range (s : ByteArray) : ∀ k, 0 ≤ b64_nv s k ∧ b64_nv s k < 256 ^ k
  | 0 => ⟨by simp [b64_nv], by simp [b64_nv]⟩
  | k + 1 => by
    have h := b64_nv_range s k
    have hb := bt_range s (k : Int)
    simp only [b64_nv]
    rw [Int.pow_succ]
    omega
theorem wraps62 (n : Int) (h₀ : 0 ≤ n) (h₁ : n < 2 ^ 62) : IntKind.i64.wrap n = n := by rw [IntKind.wrap_i64]; omega
theorem or_byte (x y : Int) (h0 : 0 ≤ x) (h1 : x < 65536) (h2 : 0 ≤ y) (h3 : y < 256) : bits BinOp.or IntKind.i64 (x * 256) y = x * 256 + y :=
  bits_join .i64 62 (by decide) wraps62 8 _ _ (by omega) (by omega) (by omega) h2 (by omega) (by omega)
theorem b64_conv (W : World) (g : Nat) (q3 q2 q1 q0 : Int) (n : Nat) (hn : n ≤ 4) (hb : W.heap[g]? = some (.cells #[.int .u8 q3, .int .u8 q2, .int .u8 q1, .int .u8 q0] 56 (0, 0))) :
    (convert 33 9 (.slice (some ⟨g, 0, none⟩) n 4)).run Tryd.prog W = .ok (.string (strOfNums ([q3, q2, q1, q0].take n))) W := by
  refine string_of_reads Tryd.underlying33 Tryd.underlying5 Tryd.underlying9 ?_
  refine ⟨by simp; omega, by omega, fun h => ⟨⟨g, 0, none⟩, rfl, fun j hj => ?_⟩⟩
  rw [add_plain, Lib.cell_of_heap hb]
  rcases (by omega : j = 0 ∨ j = 1 ∨ j = 2 ∨ j = 3) with rfl | rfl | rfl | rfl
  · simp [List.getD_eq_getElem?_getD, hj]
  · simp [List.getD_eq_getElem?_getD, hj]
  · simp [List.getD_eq_getElem?_getD, hj]
  · simp [List.getD_eq_getElem?_getD, hj]
set_option maxHeartbeats 4000000 in
set_option maxRecDepth 100000 in
theorem b64_group.calls (a0 : ByteArray) (r : ByteArray) (w : World) (h : b64_group.f a0 = some r) : Calls Tryd.prog 20 #[.string a0] w fun e w' => e = .returned (.string r) ∧ Below w.heap.size w w' := by
  obtain ⟨s, rfl⟩ : ∃ s, s = a0 := ⟨_, rfl⟩
  unfold b64_group.f at h
  by_cases h1 : s.size ≤ 3
  case neg => rw [if_neg h1] at h; exact absurd h (by simp)
  rw [if_pos h1] at h
  have HF := Aside0.mk (Option.some.inj h)
  clear h
  go_enter Tryd.func20, Tryd.ntmps20
  go_wp2
  go_loop [3, 4, 7] (fun n j i => ∃ (k : Nat), k ≤ 3 ∧ i = .int .i64 k ∧ n = .int .i64 (b64_nv s k)) (fun _ _ i => 3 - (intOf i).toNat)
  case atStart => exact ⟨0, by omega, rfl, rfl⟩
  case round =>
    obtain ⟨k, hk, rfl, rfl⟩ := hrel
    have hr := b64_nv_range s k
    by_cases hlt : k < 3
    · have hr0 := hr.1
      have hr2 : b64_nv s k < 65536 := by
        rcases (by omega : k = 0 ∨ k = 1 ∨ k = 2) with rfl | rfl | rfl <;> omega
      clear hr
      by_cases h2 : k < s.size
      · have hb := bt_range s (k : Int)
        have hbe : ((s[k]'h2).toNat : Int) = bt s (k : Int) := by simp [bt, h2]
        have HBE := Aside0.mk hbe
        clear hbe
        have hb2 : ((s[k]'h2).toNat : Int) < 256 := by have := UInt8.toNat_lt (s[k]'h2); omega
        go_wp2
        refine ⟨⟨k + 1, by omega, by go_num, ?_⟩, by simp [intOf]; omega⟩
        rw [HBE.out, or_byte _ _ hr0 hr2 hb.1 (by omega)]
        rfl
      · have hbe : bt s (k : Int) = 0 := by simp [bt, h2]
        have HBE := Aside0.mk hbe
        clear hbe
        go_wp2
        refine ⟨⟨k + 1, by omega, by go_num, ?_⟩, by simp [intOf]; omega⟩
        rw [show b64_nv s (k + 1) = b64_nv s k * 256 + bt s (k : Int) from rfl, HBE.out, Int.add_zero]
    · obtain rfl : k = 3 := by omega
      obtain ⟨x, hx⟩ : ∃ x, x = b64_nv s 3 := ⟨_, rfl⟩
      rw [← hx] at hr ⊢
      have hr0 := hr.1
      have hr1 : x < 16777216 := by have := hr.2; omega
      clear hr
      have HX := Aside0.mk hx
      clear hx
      have m63 : ∀ y : Int, 0 ≤ y → y < 16777216 → ∃ z : Int, bits BinOp.and IntKind.i64 y 63 = z ∧ 0 ≤ z ∧ z < 64 ∧ Aside0 (z = y % 64) := fun y h0 h1 =>
        ⟨y % 64, bits_mask .i64 62 (by decide) wraps62 6 (by omega) y h0 (by omega), by omega, by omega, ⟨rfl⟩⟩
      obtain ⟨y0, e0, l0, u0, a0⟩ := m63 x hr0 hr1
      obtain ⟨y1, e1, l1, u1, a1⟩ := m63 (x / 64) (by omega) (by omega)
      obtain ⟨y2, e2, l2, u2, a2⟩ := m63 (x / 4096) (by omega) (by omega)
      obtain ⟨y3, e3, l3, u3, a3⟩ := m63 (x / 262144) (by omega) (by omega)
      clear m63
      have x0 := bt_at (⟨#[65, 66, 67, 68, 69, 70, 71, 72, 73, 74, 75, 76, 77, 78, 79, 80, 81, 82, 83, 84, 85, 86, 87, 88, 89, 90, 97, 98, 99, 100, 101, 102, 103, 104, 105, 106, 107, 108, 109, 110, 111, 112, 113, 114, 115, 116, 117, 118, 119, 120, 121, 122, 48, 49, 50, 51, 52, 53, 54, 55, 56, 57, 43, 47]⟩ : ByteArray) y0
      obtain ⟨q0, hq0⟩ : ∃ q, bt (⟨#[65, 66, 67, 68, 69, 70, 71, 72, 73, 74, 75, 76, 77, 78, 79, 80, 81, 82, 83, 84, 85, 86, 87, 88, 89, 90, 97, 98, 99, 100, 101, 102, 103, 104, 105, 106, 107, 108, 109, 110, 111, 112, 113, 114, 115, 116, 117, 118, 119, 120, 121, 122, 48, 49, 50, 51, 52, 53, 54, 55, 56, 57, 43, 47]⟩ : ByteArray) y0 = q := ⟨_, rfl⟩
      rw [hq0] at x0
      have HQ0 := Aside0.mk (show b64_q y0 = q0 from hq0)
      clear hq0
      have x1 := bt_at (⟨#[65, 66, 67, 68, 69, 70, 71, 72, 73, 74, 75, 76, 77, 78, 79, 80, 81, 82, 83, 84, 85, 86, 87, 88, 89, 90, 97, 98, 99, 100, 101, 102, 103, 104, 105, 106, 107, 108, 109, 110, 111, 112, 113, 114, 115, 116, 117, 118, 119, 120, 121, 122, 48, 49, 50, 51, 52, 53, 54, 55, 56, 57, 43, 47]⟩ : ByteArray) y1
      obtain ⟨q1, hq1⟩ : ∃ q, bt (⟨#[65, 66, 67, 68, 69, 70, 71, 72, 73, 74, 75, 76, 77, 78, 79, 80, 81, 82, 83, 84, 85, 86, 87, 88, 89, 90, 97, 98, 99, 100, 101, 102, 103, 104, 105, 106, 107, 108, 109, 110, 111, 112, 113, 114, 115, 116, 117, 118, 119, 120, 121, 122, 48, 49, 50, 51, 52, 53, 54, 55, 56, 57, 43, 47]⟩ : ByteArray) y1 = q := ⟨_, rfl⟩
      rw [hq1] at x1
      have HQ1 := Aside0.mk (show b64_q y1 = q1 from hq1)
      clear hq1
      have x2 := bt_at (⟨#[65, 66, 67, 68, 69, 70, 71, 72, 73, 74, 75, 76, 77, 78, 79, 80, 81, 82, 83, 84, 85, 86, 87, 88, 89, 90, 97, 98, 99, 100, 101, 102, 103, 104, 105, 106, 107, 108, 109, 110, 111, 112, 113, 114, 115, 116, 117, 118, 119, 120, 121, 122, 48, 49, 50, 51, 52, 53, 54, 55, 56, 57, 43, 47]⟩ : ByteArray) y2
      obtain ⟨q2, hq2⟩ : ∃ q, bt (⟨#[65, 66, 67, 68, 69, 70, 71, 72, 73, 74, 75, 76, 77, 78, 79, 80, 81, 82, 83, 84, 85, 86, 87, 88, 89, 90, 97, 98, 99, 100, 101, 102, 103, 104, 105, 106, 107, 108, 109, 110, 111, 112, 113, 114, 115, 116, 117, 118, 119, 120, 121, 122, 48, 49, 50, 51, 52, 53, 54, 55, 56, 57, 43, 47]⟩ : ByteArray) y2 = q := ⟨_, rfl⟩
      rw [hq2] at x2
      have HQ2 := Aside0.mk (show b64_q y2 = q2 from hq2)
      clear hq2
      have x3 := bt_at (⟨#[65, 66, 67, 68, 69, 70, 71, 72, 73, 74, 75, 76, 77, 78, 79, 80, 81, 82, 83, 84, 85, 86, 87, 88, 89, 90, 97, 98, 99, 100, 101, 102, 103, 104, 105, 106, 107, 108, 109, 110, 111, 112, 113, 114, 115, 116, 117, 118, 119, 120, 121, 122, 48, 49, 50, 51, 52, 53, 54, 55, 56, 57, 43, 47]⟩ : ByteArray) y3
      obtain ⟨q3, hq3⟩ : ∃ q, bt (⟨#[65, 66, 67, 68, 69, 70, 71, 72, 73, 74, 75, 76, 77, 78, 79, 80, 81, 82, 83, 84, 85, 86, 87, 88, 89, 90, 97, 98, 99, 100, 101, 102, 103, 104, 105, 106, 107, 108, 109, 110, 111, 112, 113, 114, 115, 116, 117, 118, 119, 120, 121, 122, 48, 49, 50, 51, 52, 53, 54, 55, 56, 57, 43, 47]⟩ : ByteArray) y3 = q := ⟨_, rfl⟩
      rw [hq3] at x3
      have HQ3 := Aside0.mk (show b64_q y3 = q3 from hq3)
      clear hq3
      have fin : ∀ (z : Nat), z ≤ 3 → s.size = z → ∀ {T R : ByteArray}, T = strOfNums ([q3, q2, q1, q0].take (z + 1)) → strings_Repeat.f (⟨#[61]⟩ : ByteArray) ((3 - z : Nat) : Int) = some R → T ++ R = r := by
        intro z hz hs T R hT hR
        rw [← HF.out, hT, ← HX.out, ← a0.out, ← a1.out, ← a2.out, ← a3.out, HQ0.out, HQ1.out, HQ2.out, HQ3.out, hs]
        congr 1
        unfold strings_Repeat.f at hR
        rw [if_pos ⟨by omega, by omega, by rw [Int.toNat_natCast]; have : (⟨#[61]⟩ : ByteArray).size = 1 := rfl; rw [this]; omega⟩] at hR
        rw [Int.toNat_natCast] at hR
        exact (Option.some.inj hR).symm
      go_wp2
      refine wp_loop_rounds 5 ?_
      refine bt_step ?_
      go_wp2
      refine bt_step ?_
      go_wp2
      refine bt_step ?_
      go_wp2
      refine bt_step ?_
      go_wp2
      refine bt_step ?_
      go_wp2
      clear e0 l0 u0 e1 l1 u1 e2 l2 u2 e3 l3 u3 x0 x1 x2 x3 a0 a1 a2 a3 HQ0 HQ1 HQ2 HQ3
      obtain ⟨W, hW⟩ : ∃ W, W = w.alloc (.cells #[.int .u8 q3, .int .u8 q2, .int .u8 q1, .int .u8 q0] 56) := ⟨_, rfl⟩
      have hbk : W.heap[w.heap.size]? = some (.cells #[.int .u8 q3, .int .u8 q2, .int .u8 q1, .int .u8 q0] 56 (0, 0)) := by rw [hW]; exact heap_alloc_new w _
      have hBW : Below w.heap.size w W := by rw [hW]; exact (Below.refl _ w).alloc (Nat.le_refl _) _
      have HB := Aside0.mk hBW
      clear hBW
      rw [← hW]
      clear hW
      have c0 : W.cell? ⟨w.heap.size, 0, none⟩ = some (.int .u8 q3) := by rw [Lib.cell_of_heap hbk]; rfl
      have c1 : W.cell? ⟨w.heap.size, 1, none⟩ = some (.int .u8 q2) := by rw [Lib.cell_of_heap hbk]; rfl
      have c2 : W.cell? ⟨w.heap.size, 2, none⟩ = some (.int .u8 q1) := by rw [Lib.cell_of_heap hbk]; rfl
      have c3 : W.cell? ⟨w.heap.size, 3, none⟩ = some (.int .u8 q0) := by rw [Lib.cell_of_heap hbk]; rfl
      have v0 : IntKind.i64.wrap 0 = 0 := by decide
      have v1 : IntKind.i64.wrap 1 = 1 := by decide
      have v2 : IntKind.i64.wrap 2 = 2 := by decide
      have v3 : IntKind.i64.wrap 3 = 3 := by decide
      have v4 : IntKind.i64.wrap 4 = 4 := by decide
      have FIN := Aside0.mk fin
      clear fin HF HX
      rcases (by omega : s.size = 0 ∨ s.size = 1 ∨ s.size = 2 ∨ s.size = 3) with hz | hz | hz | hz
      · have hcv : ∀ W' : World, W'.heap[w.heap.size]? = some (.cells #[.int .u8 q3, .int .u8 q2, .int .u8 q1, .int .u8 q0] 56 (0, 0)) → (convert 33 9 (.slice (some ⟨w.heap.size, 0, none⟩) 1 4)).run Tryd.prog W' = .ok (.string (strOfNums ([q3, q2, q1, q0].take 1))) W' := fun W' h => b64_conv W' w.heap.size q3 q2 q1 q0 1 (by omega) h
        obtain ⟨T, hT, hTs⟩ : ∃ T : ByteArray, T = strOfNums ([q3, q2, q1, q0].take 1) ∧ T.size = 1 := ⟨_, rfl, rfl⟩
        rw [← hT] at hcv
        have HT := Aside0.mk hT
        clear hT
        have HCV := Aside0.mk hcv
        have hcv0 := hcv W.drew hbk
        clear hcv
        obtain ⟨R, hR, hRs⟩ : ∃ R : ByteArray, strings_Repeat.f (⟨#[61]⟩ : ByteArray) 3 = some R ∧ R.size = 3 := ⟨_, rfl, rfl⟩
        have HR := Aside0.mk hR
        clear hR
        go_region_with (go_at_call 31; refine (strings_Repeat.calls _ _ R _ HR.out).mono ?_; rintro e w1 ⟨rfl, hb1⟩; have hcv1 := HCV.out w1 ((hb1.block _ (blk_lt hbk)).trans hbk); have HB1 := Aside0.mk (below_step (by repeat (first | (with_reducible first | exact HB.out | apply below_alloc | apply pw_below_drewN | apply below_drew1) | exact HB.out)) hb1); clear hb1)
        all_goals
          go_wp2
          go_ret
          refine ⟨?_, by exact HB1.out⟩
          exact congrArg (fun q => Ending.returned (.string q)) (FIN.out 0 (by omega) hz HT.out HR.out)
      · have hcv : ∀ W' : World, W'.heap[w.heap.size]? = some (.cells #[.int .u8 q3, .int .u8 q2, .int .u8 q1, .int .u8 q0] 56 (0, 0)) → (convert 33 9 (.slice (some ⟨w.heap.size, 0, none⟩) 2 4)).run Tryd.prog W' = .ok (.string (strOfNums ([q3, q2, q1, q0].take 2))) W' := fun W' h => b64_conv W' w.heap.size q3 q2 q1 q0 2 (by omega) h
        obtain ⟨T, hT, hTs⟩ : ∃ T : ByteArray, T = strOfNums ([q3, q2, q1, q0].take 2) ∧ T.size = 2 := ⟨_, rfl, rfl⟩
        rw [← hT] at hcv
        have HT := Aside0.mk hT
        clear hT
        have HCV := Aside0.mk hcv
        have hcv0 := hcv W.drew hbk
        clear hcv
        obtain ⟨R, hR, hRs⟩ : ∃ R : ByteArray, strings_Repeat.f (⟨#[61]⟩ : ByteArray) 2 = some R ∧ R.size = 2 := ⟨_, rfl, rfl⟩
        have HR := Aside0.mk hR
        clear hR
        go_region_with (go_at_call 31; refine (strings_Repeat.calls _ _ R _ HR.out).mono ?_; rintro e w1 ⟨rfl, hb1⟩; have hcv1 := HCV.out w1 ((hb1.block _ (blk_lt hbk)).trans hbk); have HB1 := Aside0.mk (below_step (by repeat (first | (with_reducible first | exact HB.out | apply below_alloc | apply pw_below_drewN | apply below_drew1) | exact HB.out)) hb1); clear hb1)
        all_goals
          go_wp2
          go_ret
          refine ⟨?_, by exact HB1.out⟩
          exact congrArg (fun q => Ending.returned (.string q)) (FIN.out 1 (by omega) hz HT.out HR.out)
      · have hcv : ∀ W' : World, W'.heap[w.heap.size]? = some (.cells #[.int .u8 q3, .int .u8 q2, .int .u8 q1, .int .u8 q0] 56 (0, 0)) → (convert 33 9 (.slice (some ⟨w.heap.size, 0, none⟩) 3 4)).run Tryd.prog W' = .ok (.string (strOfNums ([q3, q2, q1, q0].take 3))) W' := fun W' h => b64_conv W' w.heap.size q3 q2 q1 q0 3 (by omega) h
        obtain ⟨T, hT, hTs⟩ : ∃ T : ByteArray, T = strOfNums ([q3, q2, q1, q0].take 3) ∧ T.size = 3 := ⟨_, rfl, rfl⟩
        rw [← hT] at hcv
        have HT := Aside0.mk hT
        clear hT
        have HCV := Aside0.mk hcv
        have hcv0 := hcv W.drew hbk
        clear hcv
        obtain ⟨R, hR, hRs⟩ : ∃ R : ByteArray, strings_Repeat.f (⟨#[61]⟩ : ByteArray) 1 = some R ∧ R.size = 1 := ⟨_, rfl, rfl⟩
        have HR := Aside0.mk hR
        clear hR
        go_region_with (go_at_call 31; refine (strings_Repeat.calls _ _ R _ HR.out).mono ?_; rintro e w1 ⟨rfl, hb1⟩; have hcv1 := HCV.out w1 ((hb1.block _ (blk_lt hbk)).trans hbk); have HB1 := Aside0.mk (below_step (by repeat (first | (with_reducible first | exact HB.out | apply below_alloc | apply pw_below_drewN | apply below_drew1) | exact HB.out)) hb1); clear hb1)
        all_goals
          go_wp2
          go_ret
          refine ⟨?_, by exact HB1.out⟩
          exact congrArg (fun q => Ending.returned (.string q)) (FIN.out 2 (by omega) hz HT.out HR.out)
      · have hcv : ∀ W' : World, W'.heap[w.heap.size]? = some (.cells #[.int .u8 q3, .int .u8 q2, .int .u8 q1, .int .u8 q0] 56 (0, 0)) → (convert 33 9 (.slice (some ⟨w.heap.size, 0, none⟩) 4 4)).run Tryd.prog W' = .ok (.string (strOfNums ([q3, q2, q1, q0].take 4))) W' := fun W' h => b64_conv W' w.heap.size q3 q2 q1 q0 4 (by omega) h
        obtain ⟨T, hT, hTs⟩ : ∃ T : ByteArray, T = strOfNums ([q3, q2, q1, q0].take 4) ∧ T.size = 4 := ⟨_, rfl, rfl⟩
        rw [← hT] at hcv
        have HT := Aside0.mk hT
        clear hT
        have HCV := Aside0.mk hcv
        have hcv0 := hcv W.drew hbk
        clear hcv
        obtain ⟨R, hR, hRs⟩ : ∃ R : ByteArray, strings_Repeat.f (⟨#[61]⟩ : ByteArray) 0 = some R ∧ R.size = 0 := ⟨_, rfl, rfl⟩
        have HR := Aside0.mk hR
        clear hR
        go_region_with (go_at_call 31; refine (strings_Repeat.calls _ _ R _ HR.out).mono ?_; rintro e w1 ⟨rfl, hb1⟩; have hcv1 := HCV.out w1 ((hb1.block _ (blk_lt hbk)).trans hbk); have HB1 := Aside0.mk (below_step (by repeat (first | (with_reducible first | exact HB.out | apply below_alloc | apply pw_below_drewN | apply below_drew1) | exact HB.out)) hb1); clear hb1)
        all_goals
          go_wp2
          go_ret
          refine ⟨?_, by exact HB1.out⟩
          exact congrArg (fun q => Ending.returned (.string q)) (FIN.out 3 (by omega) hz HT.out HR.out)

end Go.Proofs.YtgbkjgngpceeiaaDoor.X
