-- Written by a program (print.py's text, with contracts of this session's own put in). Not trusted: Lean checks it.
import Derived.Test.YtaflpmpffppfaaaDoorX0
import Derived.Test.YtaflpmpffppfaaaDoorX10
import Derived.Test.YtaflpmpffppfaaaDoorX11
import Derived.Test.YtaflpmpffppfaaaDoorX14
namespace Go.Proofs.YtaflpmpffppfaaaDoor.X
open Go.RowKit Go.Proofs.YtaflpmpffppfaaaDoorW.PrintWords Go.Proofs.YtaflpmpffppfaaaDoorW.PrintLast Go.Proofs.YtaflpmpffppfaaaDoorW.PrintMore
attribute [local go_sem] max2_int min2_int max_two min_two max_three min_three max_four min_four   -- for this text's walks alone
set_option linter.unusedVariables false
set_option linter.unusedSimpArgs false

/-! ### bulletinref17_Decode: function 12 -/
mutual
def bulletinref17_Decode.l0 : Nat → List ByteArray → ByteArray → Bool → Int → Option (ByteArray × Int)
  | 0, _, _, _, _ => none
  | k + 1, x4, x5, x6, x7 => if x7 < (x4.length : Int) then (if 0 ≤ x7 then (bulletinref17_Decode.l1 k x4 x5 x6 x7 (rdOf ByteArray.empty x4 x7)) else (none)) else (some (x5, 0))
def bulletinref17_Decode.j2 : Nat → List ByteArray → ByteArray → Bool → Int → ByteArray → Option (ByteArray × Int)
  | 0, _, _, _, _, _ => none
  | k + 1, x4, x5, x6, x7, x8 => if x6 = true then (bulletinref17_Decode.j3 k x4 x5 x7 x8) else (if x5.size + 2 ≤ 9223372036854775807 then (bulletinref17_Decode.j3 k x4 (x5 ++ (⟨#[13, 10]⟩ : ByteArray)) x7 x8) else (none))
def bulletinref17_Decode.j3 : Nat → List ByteArray → ByteArray → Int → ByteArray → Option (ByteArray × Int)
  | 0, _, _, _, _ => none
  | k + 1, x4, x5, x7, x8 => if (x8.size : Int) > 0 then (if 0 ≤ (wrap64 ((x8.size : Int) - 1)) then (if (wrap64 ((x8.size : Int) - 1)) < (x8.size : Int) then (bulletinref17_Decode.j4 k x4 x5 ((bt x8 (wrap64 ((x8.size : Int) - 1))) == 61) x7 x8) else (none)) else (none)) else (bulletinref17_Decode.j4 k x4 x5 false x7 x8)
def bulletinref17_Decode.j4 : Nat → List ByteArray → ByteArray → Bool → Int → ByteArray → Option (ByteArray × Int)
  | 0, _, _, _, _, _ => none
  | k + 1, x4, x5, x6, x7, x8 => if x6 = true then (if 0 ≤ (wrap64 ((x8.size : Int) - 1)) then (if (wrap64 ((x8.size : Int) - 1)) ≤ (x8.size : Int) then (bulletinref17_Decode.j5 k x4 x5 x6 x7 (x8.extract 0 ((wrap64 ((x8.size : Int) - 1)) : Int).toNat)) else (none)) else (none)) else (bulletinref17_Decode.j5 k x4 x5 x6 x7 x8)
def bulletinref17_Decode.j5 : Nat → List ByteArray → ByteArray → Bool → Int → ByteArray → Option (ByteArray × Int)
  | 0, _, _, _, _, _ => none
  | k + 1, x4, x5, x6, x7, x8 => bulletinref17_Decode.l2 k x4 x5 x6 x7 x8 0
def bulletinref17_Decode.l2 : Nat → List ByteArray → ByteArray → Bool → Int → ByteArray → Int → Option (ByteArray × Int)
  | 0, _, _, _, _, _, _ => none
  | k + 1, x4, x5, x6, x7, x8, x9 => if x9 < (x8.size : Int) then (if 0 ≤ x9 then (if (bt x8 x9) = 61 then (if (wrap64 (x9 + 2)) ≥ (x8.size : Int) then (some ((⟨#[]⟩ : ByteArray), 3)) else (if 0 ≤ (wrap64 (x9 + 1)) then (if (wrap64 (x9 + 1)) ≤ (wrap64 (x9 + 3)) then (if (wrap64 (x9 + 3)) ≤ (x8.size : Int) then ((bulletinref17_Byte.f k (x8.extract ((wrap64 (x9 + 1)) : Int).toNat ((wrap64 (x9 + 3)) : Int).toNat)).bind fun bt152 => (if bt152.2 = true then ((some (([bt152.1] : List Int) : List Int)).bind fun y154 => (if x5.size + (strOfNums y154).size ≤ 9223372036854775807 then (bulletinref17_Decode.l2 k x4 (x5 ++ (strOfNums y154)) x6 x7 x8 (wrap64 ((wrap64 (x9 + 2)) + 1))) else (none))) else (some ((⟨#[]⟩ : ByteArray), 3)))) else (none)) else (none)) else (none))) else ((bulletinref17_itself.f (bt x8 x9)).bind fun t157 => (if t157 = true then (if x9 ≤ (wrap64 (x9 + 1)) then (if (wrap64 (x9 + 1)) ≤ (x8.size : Int) then (if x5.size + (x8.extract (x9 : Int).toNat ((wrap64 (x9 + 1)) : Int).toNat).size ≤ 9223372036854775807 then (bulletinref17_Decode.l2 k x4 (x5 ++ (x8.extract (x9 : Int).toNat ((wrap64 (x9 + 1)) : Int).toNat)) x6 x7 x8 (wrap64 (x9 + 1))) else (none)) else (none)) else (none)) else ((bulletinref17_blank.f (bt x8 x9)).bind fun t158 => (if t158 = true then (if x9 ≤ (wrap64 (x9 + 1)) then (if (wrap64 (x9 + 1)) ≤ (x8.size : Int) then (if x5.size + (x8.extract (x9 : Int).toNat ((wrap64 (x9 + 1)) : Int).toNat).size ≤ 9223372036854775807 then (bulletinref17_Decode.l2 k x4 (x5 ++ (x8.extract (x9 : Int).toNat ((wrap64 (x9 + 1)) : Int).toNat)) x6 x7 x8 (wrap64 (x9 + 1))) else (none)) else (none)) else (none)) else (some ((⟨#[]⟩ : ByteArray), 3))))))) else (none)) else (bulletinref17_Decode.l0 k x4 x5 x6 (wrap64 (x7 + 1)))
def bulletinref17_Decode.l1 : Nat → List ByteArray → ByteArray → Bool → Int → ByteArray → Option (ByteArray × Int)
  | 0, _, _, _, _, _ => none
  | k + 1, x4, x5, x6, x7, x8 => if (x8.size : Int) > 0 then (if 0 ≤ (wrap64 ((x8.size : Int) - 1)) then (if (wrap64 ((x8.size : Int) - 1)) < (x8.size : Int) then ((bulletinref17_blank.f (bt x8 (wrap64 ((x8.size : Int) - 1)))).bind fun t151 => (if t151 = true then (if (wrap64 ((x8.size : Int) - 1)) ≤ (x8.size : Int) then (bulletinref17_Decode.l1 k x4 x5 x6 x7 (x8.extract 0 ((wrap64 ((x8.size : Int) - 1)) : Int).toNat)) else (none)) else (bulletinref17_Decode.j2 k x4 x5 x6 x7 x8))) else (none)) else (none)) else (bulletinref17_Decode.j2 k x4 x5 x6 x7 x8)
end
def bulletinref17_Decode.f (k : Nat) (a0 : ByteArray) : Option (ByteArray × Int) := (bulletinref17_Lines.f k a0).bind fun t147 => (bulletinref17_Decode.l0 k t147 (⟨#[]⟩ : ByteArray) true 0)
theorem bulletinref17_Decode.mono_l : ∀ k, (∀ y0 y1 y2 y3, LeO (bulletinref17_Decode.l0 k y0 y1 y2 y3) (bulletinref17_Decode.l0 (k + 1) y0 y1 y2 y3)) ∧ (∀ y0 y1 y2 y3 y4, LeO (bulletinref17_Decode.j2 k y0 y1 y2 y3 y4) (bulletinref17_Decode.j2 (k + 1) y0 y1 y2 y3 y4)) ∧ (∀ y0 y1 y2 y3, LeO (bulletinref17_Decode.j3 k y0 y1 y2 y3) (bulletinref17_Decode.j3 (k + 1) y0 y1 y2 y3)) ∧ (∀ y0 y1 y2 y3 y4, LeO (bulletinref17_Decode.j4 k y0 y1 y2 y3 y4) (bulletinref17_Decode.j4 (k + 1) y0 y1 y2 y3 y4)) ∧ (∀ y0 y1 y2 y3 y4, LeO (bulletinref17_Decode.j5 k y0 y1 y2 y3 y4) (bulletinref17_Decode.j5 (k + 1) y0 y1 y2 y3 y4)) ∧ (∀ y0 y1 y2 y3 y4 y5, LeO (bulletinref17_Decode.l2 k y0 y1 y2 y3 y4 y5) (bulletinref17_Decode.l2 (k + 1) y0 y1 y2 y3 y4 y5)) ∧ (∀ y0 y1 y2 y3 y4, LeO (bulletinref17_Decode.l1 k y0 y1 y2 y3 y4) (bulletinref17_Decode.l1 (k + 1) y0 y1 y2 y3 y4))
  | 0 => ⟨fun _ _ _ _ r h => by simp [bulletinref17_Decode.l0] at h, fun _ _ _ _ _ r h => by simp [bulletinref17_Decode.j2] at h, fun _ _ _ _ r h => by simp [bulletinref17_Decode.j3] at h, fun _ _ _ _ _ r h => by simp [bulletinref17_Decode.j4] at h, fun _ _ _ _ _ r h => by simp [bulletinref17_Decode.j5] at h, fun _ _ _ _ _ _ r h => by simp [bulletinref17_Decode.l2] at h, fun _ _ _ _ _ r h => by simp [bulletinref17_Decode.l1] at h⟩
  | k + 1 => by
    obtain ⟨ih0, ih1, ih2, ih3, ih4, ih5, ih6⟩ := bulletinref17_Decode.mono_l k
    refine ⟨?_, ?_, ?_, ?_, ?_, ?_, ?_⟩
    · intro y0 y1 y2 y3
      unfold bulletinref17_Decode.l0
      repeat' first
      | (with_reducible exact ih0 _ _ _ _)
      | (with_reducible exact ih1 _ _ _ _ _)
      | (with_reducible exact ih2 _ _ _ _)
      | (with_reducible exact ih3 _ _ _ _ _)
      | (with_reducible exact ih4 _ _ _ _ _)
      | (with_reducible exact ih5 _ _ _ _ _ _)
      | (with_reducible exact ih6 _ _ _ _ _)
      | (with_reducible exact bulletinref17_Byte.mono _ _)
      | (with_reducible exact bulletinref17_Lines.mono _ _)
      | (with_reducible exact LeO.refl _)
      | (with_reducible exact LeO.none _)
      | (with_reducible refine LeO.ite ?_ ?_)
      | (with_reducible refine LeO.bind ?_ (fun _ => ?_))
      | exact ih0 _ _ _ _
      | exact ih1 _ _ _ _ _
      | exact ih2 _ _ _ _
      | exact ih3 _ _ _ _ _
      | exact ih4 _ _ _ _ _
      | exact ih5 _ _ _ _ _ _
      | exact ih6 _ _ _ _ _
      | exact bulletinref17_Byte.mono _ _
      | exact bulletinref17_Lines.mono _ _
      | exact LeO.none _
      | refine LeO.ite ?_ ?_
      | refine LeO.bind ?_ (fun _ => ?_)
    · intro y0 y1 y2 y3 y4
      unfold bulletinref17_Decode.j2
      repeat' first
      | (with_reducible exact ih0 _ _ _ _)
      | (with_reducible exact ih1 _ _ _ _ _)
      | (with_reducible exact ih2 _ _ _ _)
      | (with_reducible exact ih3 _ _ _ _ _)
      | (with_reducible exact ih4 _ _ _ _ _)
      | (with_reducible exact ih5 _ _ _ _ _ _)
      | (with_reducible exact ih6 _ _ _ _ _)
      | (with_reducible exact bulletinref17_Byte.mono _ _)
      | (with_reducible exact bulletinref17_Lines.mono _ _)
      | (with_reducible exact LeO.refl _)
      | (with_reducible exact LeO.none _)
      | (with_reducible refine LeO.ite ?_ ?_)
      | (with_reducible refine LeO.bind ?_ (fun _ => ?_))
      | exact ih0 _ _ _ _
      | exact ih1 _ _ _ _ _
      | exact ih2 _ _ _ _
      | exact ih3 _ _ _ _ _
      | exact ih4 _ _ _ _ _
      | exact ih5 _ _ _ _ _ _
      | exact ih6 _ _ _ _ _
      | exact bulletinref17_Byte.mono _ _
      | exact bulletinref17_Lines.mono _ _
      | exact LeO.none _
      | refine LeO.ite ?_ ?_
      | refine LeO.bind ?_ (fun _ => ?_)
    · intro y0 y1 y2 y3
      unfold bulletinref17_Decode.j3
      repeat' first
      | (with_reducible exact ih0 _ _ _ _)
      | (with_reducible exact ih1 _ _ _ _ _)
      | (with_reducible exact ih2 _ _ _ _)
      | (with_reducible exact ih3 _ _ _ _ _)
      | (with_reducible exact ih4 _ _ _ _ _)
      | (with_reducible exact ih5 _ _ _ _ _ _)
      | (with_reducible exact ih6 _ _ _ _ _)
      | (with_reducible exact bulletinref17_Byte.mono _ _)
      | (with_reducible exact bulletinref17_Lines.mono _ _)
      | (with_reducible exact LeO.refl _)
      | (with_reducible exact LeO.none _)
      | (with_reducible refine LeO.ite ?_ ?_)
      | (with_reducible refine LeO.bind ?_ (fun _ => ?_))
      | exact ih0 _ _ _ _
      | exact ih1 _ _ _ _ _
      | exact ih2 _ _ _ _
      | exact ih3 _ _ _ _ _
      | exact ih4 _ _ _ _ _
      | exact ih5 _ _ _ _ _ _
      | exact ih6 _ _ _ _ _
      | exact bulletinref17_Byte.mono _ _
      | exact bulletinref17_Lines.mono _ _
      | exact LeO.none _
      | refine LeO.ite ?_ ?_
      | refine LeO.bind ?_ (fun _ => ?_)
    · intro y0 y1 y2 y3 y4
      unfold bulletinref17_Decode.j4
      repeat' first
      | (with_reducible exact ih0 _ _ _ _)
      | (with_reducible exact ih1 _ _ _ _ _)
      | (with_reducible exact ih2 _ _ _ _)
      | (with_reducible exact ih3 _ _ _ _ _)
      | (with_reducible exact ih4 _ _ _ _ _)
      | (with_reducible exact ih5 _ _ _ _ _ _)
      | (with_reducible exact ih6 _ _ _ _ _)
      | (with_reducible exact bulletinref17_Byte.mono _ _)
      | (with_reducible exact bulletinref17_Lines.mono _ _)
      | (with_reducible exact LeO.refl _)
      | (with_reducible exact LeO.none _)
      | (with_reducible refine LeO.ite ?_ ?_)
      | (with_reducible refine LeO.bind ?_ (fun _ => ?_))
      | exact ih0 _ _ _ _
      | exact ih1 _ _ _ _ _
      | exact ih2 _ _ _ _
      | exact ih3 _ _ _ _ _
      | exact ih4 _ _ _ _ _
      | exact ih5 _ _ _ _ _ _
      | exact ih6 _ _ _ _ _
      | exact bulletinref17_Byte.mono _ _
      | exact bulletinref17_Lines.mono _ _
      | exact LeO.none _
      | refine LeO.ite ?_ ?_
      | refine LeO.bind ?_ (fun _ => ?_)
    · intro y0 y1 y2 y3 y4
      unfold bulletinref17_Decode.j5
      repeat' first
      | (with_reducible exact ih0 _ _ _ _)
      | (with_reducible exact ih1 _ _ _ _ _)
      | (with_reducible exact ih2 _ _ _ _)
      | (with_reducible exact ih3 _ _ _ _ _)
      | (with_reducible exact ih4 _ _ _ _ _)
      | (with_reducible exact ih5 _ _ _ _ _ _)
      | (with_reducible exact ih6 _ _ _ _ _)
      | (with_reducible exact bulletinref17_Byte.mono _ _)
      | (with_reducible exact bulletinref17_Lines.mono _ _)
      | (with_reducible exact LeO.refl _)
      | (with_reducible exact LeO.none _)
      | (with_reducible refine LeO.ite ?_ ?_)
      | (with_reducible refine LeO.bind ?_ (fun _ => ?_))
      | exact ih0 _ _ _ _
      | exact ih1 _ _ _ _ _
      | exact ih2 _ _ _ _
      | exact ih3 _ _ _ _ _
      | exact ih4 _ _ _ _ _
      | exact ih5 _ _ _ _ _ _
      | exact ih6 _ _ _ _ _
      | exact bulletinref17_Byte.mono _ _
      | exact bulletinref17_Lines.mono _ _
      | exact LeO.none _
      | refine LeO.ite ?_ ?_
      | refine LeO.bind ?_ (fun _ => ?_)
    · intro y0 y1 y2 y3 y4 y5
      unfold bulletinref17_Decode.l2
      repeat' first
      | (with_reducible exact ih0 _ _ _ _)
      | (with_reducible exact ih1 _ _ _ _ _)
      | (with_reducible exact ih2 _ _ _ _)
      | (with_reducible exact ih3 _ _ _ _ _)
      | (with_reducible exact ih4 _ _ _ _ _)
      | (with_reducible exact ih5 _ _ _ _ _ _)
      | (with_reducible exact ih6 _ _ _ _ _)
      | (with_reducible exact bulletinref17_Byte.mono _ _)
      | (with_reducible exact bulletinref17_Lines.mono _ _)
      | (with_reducible exact LeO.refl _)
      | (with_reducible exact LeO.none _)
      | (with_reducible refine LeO.ite ?_ ?_)
      | (with_reducible refine LeO.bind ?_ (fun _ => ?_))
      | exact ih0 _ _ _ _
      | exact ih1 _ _ _ _ _
      | exact ih2 _ _ _ _
      | exact ih3 _ _ _ _ _
      | exact ih4 _ _ _ _ _
      | exact ih5 _ _ _ _ _ _
      | exact ih6 _ _ _ _ _
      | exact bulletinref17_Byte.mono _ _
      | exact bulletinref17_Lines.mono _ _
      | exact LeO.none _
      | refine LeO.ite ?_ ?_
      | refine LeO.bind ?_ (fun _ => ?_)
    · intro y0 y1 y2 y3 y4
      unfold bulletinref17_Decode.l1
      repeat' first
      | (with_reducible exact ih0 _ _ _ _)
      | (with_reducible exact ih1 _ _ _ _ _)
      | (with_reducible exact ih2 _ _ _ _)
      | (with_reducible exact ih3 _ _ _ _ _)
      | (with_reducible exact ih4 _ _ _ _ _)
      | (with_reducible exact ih5 _ _ _ _ _ _)
      | (with_reducible exact ih6 _ _ _ _ _)
      | (with_reducible exact bulletinref17_Byte.mono _ _)
      | (with_reducible exact bulletinref17_Lines.mono _ _)
      | (with_reducible exact LeO.refl _)
      | (with_reducible exact LeO.none _)
      | (with_reducible refine LeO.ite ?_ ?_)
      | (with_reducible refine LeO.bind ?_ (fun _ => ?_))
      | exact ih0 _ _ _ _
      | exact ih1 _ _ _ _ _
      | exact ih2 _ _ _ _
      | exact ih3 _ _ _ _ _
      | exact ih4 _ _ _ _ _
      | exact ih5 _ _ _ _ _ _
      | exact ih6 _ _ _ _ _
      | exact bulletinref17_Byte.mono _ _
      | exact bulletinref17_Lines.mono _ _
      | exact LeO.none _
      | refine LeO.ite ?_ ?_
      | refine LeO.bind ?_ (fun _ => ?_)
theorem bulletinref17_Decode.mono : ∀ a0 k, LeO (bulletinref17_Decode.f k a0) (bulletinref17_Decode.f (k + 1) a0) := by
  intro a0 k
  obtain ⟨ih0, ih1, ih2, ih3, ih4, ih5, ih6⟩ := bulletinref17_Decode.mono_l k
  unfold bulletinref17_Decode.f
  repeat' first
      | (with_reducible exact ih0 _ _ _ _)
      | (with_reducible exact ih1 _ _ _ _ _)
      | (with_reducible exact ih2 _ _ _ _)
      | (with_reducible exact ih3 _ _ _ _ _)
      | (with_reducible exact ih4 _ _ _ _ _)
      | (with_reducible exact ih5 _ _ _ _ _ _)
      | (with_reducible exact ih6 _ _ _ _ _)
      | (with_reducible exact bulletinref17_Byte.mono _ _)
      | (with_reducible exact bulletinref17_Lines.mono _ _)
      | (with_reducible exact LeO.refl _)
      | (with_reducible exact LeO.none _)
      | (with_reducible refine LeO.ite ?_ ?_)
      | (with_reducible refine LeO.bind ?_ (fun _ => ?_))
      | exact ih0 _ _ _ _
      | exact ih1 _ _ _ _ _
      | exact ih2 _ _ _ _
      | exact ih3 _ _ _ _ _
      | exact ih4 _ _ _ _ _
      | exact ih5 _ _ _ _ _ _
      | exact ih6 _ _ _ _ _
      | exact bulletinref17_Byte.mono _ _
      | exact bulletinref17_Lines.mono _ _
      | exact LeO.none _
      | refine LeO.ite ?_ ?_
      | refine LeO.bind ?_ (fun _ => ?_)
set_option maxHeartbeats 8000000 in
set_option maxRecDepth 100000 in
theorem bulletinref17_Decode.calls (k : Nat) (a0 : ByteArray) (r1 : ByteArray) (r2 : Int) (w : World) (h : bulletinref17_Decode.f k a0 = some (r1, r2)) :
    Calls Tryd.prog 12 #[.string a0] w fun e w' => e = .returned (.tuple #[.string r1, .int .i64 r2]) ∧ Below w.heap.size w w' := by
  have HB := Aside0.mk (Below.refl w.heap.size w)
  have H : ((bulletinref17_Lines.f k a0).bind fun t147 => (bulletinref17_Decode.l0 k t147 (⟨#[]⟩ : ByteArray) true 0)) = some (r1, r2) := h
  clear h
  replace H := Option.bind_eq_some_iff.mp H
  obtain ⟨t147, A20, H⟩ := H
  replace H : (bulletinref17_Decode.l0 k t147 (⟨#[]⟩ : ByteArray) true 0) = some (r1, r2) := H
  have A2 := Aside0.mk A20
  clear A20
  have H' := Aside0.mk H
  clear H
  go_enter Tryd.func12, Tryd.ntmps12
  go_wp2_with (first | ((with_reducible refine gate_callee (f := 19) rfl ?_); refine goesL_ (some 13) rfl rfl Tryd.func19 (by kernel_rfl) rfl #[.string a0] rfl (by (try simp only [List.map_toArray, List.map_cons, List.map_nil]); first | done | rfl | (simp only [List.length_drop, List.length_take]; rfl)) ?_; (with_reducible refine (bulletinref17_Lines.calls k a0 t147 _ A2.out).mono ?_); rintro e w3 ⟨v148, rfl, ho0, hb⟩; refine ⟨_, rfl, ?_⟩; have n0_ := Aside0.mk (Kd.R_lower ho0 (below_size (by repeat (first | (with_reducible first | exact HB.out | apply below_alloc | apply pw_below_drewN | apply below_drew1) | exact HB.out)))); have n1_ := Aside0.mk (below_step (by repeat (first | (with_reducible first | exact HB.out | apply below_alloc | apply pw_below_drewN | apply below_drew1) | exact HB.out)) hb); clear HB; have HO149 := n0_; have HB := n1_; clear n0_ n1_; (try clear hb); (try clear hb2); (try clear hk); (try clear hi); (try clear ho0)))
  go_loopg [5, 6, 7] k (fun kq v5 v6 v7 w' => ∃ (x5_1 : ByteArray) (x6_1 : Bool) (x7_1 : Int), v5 = .string x5_1 ∧ v6 = .bool x6_1 ∧ v7 = .int .i64 x7_1 ∧ Aside0 (bulletinref17_Decode.l0 kq t147 x5_1 x6_1 x7_1 = some (r1, r2)) ∧ Aside0 (kq ≤ k) ∧ Aside0 (Kd.R Kd.string 9 w' w.heap.size (fun _ => True) v148 t147) ∧ Aside0 (Below w.heap.size w w'))
  case atStart => exact ⟨((⟨#[]⟩ : ByteArray)), (true), (0), (by first | rfl | (simp; done) | (simp [*]; done) | (simp [IntKind.wrap_u8, IntKind.wrap_i64, wrap64]; done)), (by first | rfl | (simp; done) | (simp [*]; done) | (simp [IntKind.wrap_u8, IntKind.wrap_i64, wrap64]; done)), (by first | rfl | (simp; done) | (simp [*]; done) | (simp [IntKind.wrap_u8, IntKind.wrap_i64, wrap64]; done)), H', ⟨Nat.le_refl _⟩, ⟨by (with_reducible repeat (first | apply Kd.R_alloc | apply Kd.R_drewN | apply Kd.R_drew)); exact HO149.out⟩, ⟨by repeat (first | (with_reducible first | exact HB.out | apply below_alloc | apply pw_below_drewN | apply below_drew1) | exact HB.out)⟩⟩
  case round =>
    clear H'
    try clear c1
    try clear p2
    obtain ⟨x5_1, x6_1, x7_1, rfl, rfl, rfl, HA, HK1, HO_4, HB⟩ := hrel
    cases gk with
    | zero => exact absurd HA.out (by simp [bulletinref17_Decode.l0])
    | succ k1 =>
      have H := HA.out
      clear HA
      simp only [bulletinref17_Decode.l0] at H
      by_cases c4 : x7_1 < (t147.length : Int)
      · rw [if_pos c4] at H
        have c4b0 : decide (x7_1 < (t147.length : Int)) = true := decide_eq_true c4
        clear c4
        by_cases c5 : 0 ≤ x7_1
        · rw [if_pos c5] at H
          have c5b0 : decide (0 ≤ x7_1) = true := decide_eq_true c5
          clear c5
          have HC6 := Aside0.mk H
          clear H
          obtain ⟨Ao7, co7, eo7⟩ := Kd.R_slice HO_4.out
          subst eo7
          have p150 : 0 ≤ (x7_1 : Int) := of_decide_eq_true (by first | (with_reducible assumption) | assumption)
          have q150 : x7_1 < (t147.length : Int) := of_decide_eq_true (by first | (with_reducible assumption) | assumption)
          obtain ⟨ad150, e150, hx150_0⟩ := Kd.at_string (Kd.R_reads' HO_4.out).2.2 x7_1 p150 q150
          cases e150
          replace p150 := eq_true p150
          replace q150 := eq_true q150; (try (have qs150 := q150; simp only [ByteArray.size_append, ByteArray.size_extract, Nat.min_self, Xsize_mk, List.size_toArray, List.length_cons, List.length_nil, Nat.zero_add, Nat.reduceAdd, List.length_append, List.length_drop, List.length_take] at qs150))
          go_upto_block 2 with (fail)
          go_cut [8] (fun v8 wc => ∃ (kq : Nat) (x8_5 : ByteArray), v8 = .string x8_5 ∧ Aside0 (bulletinref17_Decode.j2 kq t147 x5_1 x6_1 x7_1 x8_5 = some (r1, r2)) ∧ Aside0 (kq ≤ k1) ∧ Aside0 (Kd.R Kd.string 9 wc w.heap.size (fun _ => True) (.slice (some ad150) t147.length co7) t147) ∧ Aside0 (Below w.heap.size w wc))
          case first =>
            have H := HC6.out
            clear HC6
            have H' := Aside0.mk H
            clear H
            go_wp2
            go_loopg [8] k1 (fun kq v8 w' => ∃ (x8_2 : ByteArray), v8 = .string x8_2 ∧ Aside0 (bulletinref17_Decode.l1 kq t147 x5_1 x6_1 x7_1 x8_2 = some (r1, r2)) ∧ Aside0 (kq ≤ k1) ∧ Aside0 (Kd.R Kd.string 9 w' w.heap.size (fun _ => True) (.slice (some ad150) t147.length co7) t147) ∧ Aside0 (Below w.heap.size w w'))
            case atStart => exact ⟨(rdOf ByteArray.empty t147 x7_1), (by first | rfl | (simp; done) | (simp [*]; done) | (simp [IntKind.wrap_u8, IntKind.wrap_i64, wrap64]; done)), H', ⟨Nat.le_refl _⟩, ⟨by (with_reducible repeat (first | apply Kd.R_alloc | apply Kd.R_drewN | apply Kd.R_drew)); exact HO_4.out⟩, ⟨by repeat (first | (with_reducible first | exact HB.out | apply below_alloc | apply pw_below_drewN | apply below_drew1) | exact HB.out)⟩⟩
            case round =>
              clear H'
              try clear c1
              try clear p1
              try clear q1
              try clear hx1
              try clear p2
              try clear c4
              try clear c4b0
              try clear c5
              try clear c5b0
              try clear p6
              try clear hx150_0
              try clear p150
              try clear p2
              try clear q150
              obtain ⟨x8_2, rfl, HA, HK2, HO_4, HB⟩ := hrel
              cases gk with
              | zero => exact absurd HA.out (by simp [bulletinref17_Decode.l1])
              | succ k2 =>
                have H := HA.out
                clear HA
                simp only [bulletinref17_Decode.l1] at H
                by_cases c8 : (x8_2.size : Int) > 0
                · rw [if_pos c8] at H
                  have c8b0 : decide (0 < (x8_2.size : Int)) = true := decide_eq_true c8
                  have c8b1 : decide (0 < x8_2.size) = true := decide_eq_true (by omega)
                  clear c8
                  (first | rw [c8b0] | (simp only [i64_w, i32_w]; rw [c8b0]) | skip)
                  obtain ⟨ji9, hji9⟩ : ∃ j_ : Int, (wrap64 ((x8_2.size : Int) - 1)) = j_ := ⟨_, rfl⟩
                  replace H : (if 0 ≤ (ji9) then (if (ji9) < (x8_2.size : Int) then ((bulletinref17_blank.f (bt x8_2 (ji9))).bind fun t151 => (if t151 = true then (if (ji9) ≤ (x8_2.size : Int) then (bulletinref17_Decode.l1 k2 t147 x5_1 x6_1 x7_1 (x8_2.extract 0 ((ji9) : Int).toNat)) else (none)) else (bulletinref17_Decode.j2 k2 t147 x5_1 x6_1 x7_1 x8_2))) else (none)) else (none)) = some (r1, r2) := by first | (rw [hji9] at H; exact H) | (simp only [hji9] at H ⊢; exact H)
                  have hji9w : (IntKind.i64.wrap ((x8_2.size : Int) - 1)) = ji9 := (i64_w _).trans hji9
                  by_cases c10 : 0 ≤ (ji9)
                  · rw [if_pos c10] at H
                    have c10b0 : decide (0 ≤ (ji9)) = true := decide_eq_true c10
                    clear c10
                    by_cases c11 : (ji9) < (x8_2.size : Int)
                    · rw [if_pos c11] at H
                      have c11b0 : decide ((ji9) < (x8_2.size : Int)) = true := decide_eq_true c11
                      clear c11
                      replace H := Option.bind_eq_some_iff.mp H
                      obtain ⟨t151, A130, H⟩ := H
                      replace H : (if t151 = true then (if (ji9) ≤ (x8_2.size : Int) then (bulletinref17_Decode.l1 k2 t147 x5_1 x6_1 x7_1 (x8_2.extract 0 ((ji9) : Int).toNat)) else (none)) else (bulletinref17_Decode.j2 k2 t147 x5_1 x6_1 x7_1 x8_2)) = some (r1, r2) := H
                      have A13 := Aside0.mk A130
                      clear A130
                      by_cases c14 : t151 = true
                      · subst c14
                        have H1 : (if (ji9) ≤ (x8_2.size : Int) then (bulletinref17_Decode.l1 k2 t147 x5_1 x6_1 x7_1 (x8_2.extract 0 ((ji9) : Int).toNat)) else (none)) = some (r1, r2) := by rw [if_pos rfl] at H; exact H
                        clear H
                        have H := H1
                        clear H1
                        have c15b0 := eq_true (of_decide_eq_true (by first | (with_reducible assumption) | assumption) : 0 ≤ (ji9))
                        by_cases c16 : (ji9) ≤ (x8_2.size : Int)
                        · rw [if_pos c16] at H
                          have c16b0 := eq_true c16
                          have c16b1 : decide ((ji9) ≤ (x8_2.size : Int)) = true := decide_eq_true c16
                          clear c16
                          have H' := Aside0.mk H
                          clear H
                          have p12 : 0 ≤ ((ji9) : Int) := of_decide_eq_true (by first | (with_reducible assumption) | assumption)
                          have q12 : (ji9) < (x8_2.size : Int) := of_decide_eq_true (by first | (with_reducible assumption) | assumption)
                          have hx12 := bt_at x8_2 (ji9)
                          replace p12 := eq_true p12
                          replace q12 := eq_true q12; (try (have qs12 := q12; simp only [ByteArray.size_append, ByteArray.size_extract, Nat.min_self, Xsize_mk, List.size_toArray, List.length_cons, List.length_nil, Nat.zero_add, Nat.reduceAdd, List.length_append, List.length_drop, List.length_take] at qs12))
                          go_wp2_with (first | (go_at_call 24; (with_reducible refine (bulletinref17_blank.calls (bt x8_2 (ji9)) true _ A13.out).mono ?_); rintro e w' ⟨rfl, ⟨nd, rfl⟩⟩))
                          go_roundg k2
                          case measure => have := HK1.out; have := HK2.out; omega
                          case rel => exact ⟨(x8_2.extract 0 ((ji9) : Int).toNat), (by first | rfl | (simp; done) | (simp only [← hji9] <;> (first | rfl | simp)) | (simp [*]; done) | (simp [IntKind.wrap_u8, IntKind.wrap_i64, wrap64]; done)), H', ⟨by have := HK1.out; have := HK2.out; omega⟩, ⟨by (with_reducible repeat (first | apply Kd.R_alloc | apply Kd.R_drewN | apply Kd.R_drew)); exact HO_4.out⟩, ⟨by repeat (first | (with_reducible first | exact HB.out | apply below_alloc | apply pw_below_drewN | apply below_drew1) | exact HB.out)⟩⟩
                        · rw [if_neg c16] at H
                          exact absurd H (by simp)
                      · replace c14 := Bool.eq_false_iff.mpr c14
                        subst c14
                        have H1 : (bulletinref17_Decode.j2 k2 t147 x5_1 x6_1 x7_1 x8_2) = some (r1, r2) := by rw [if_neg (show ¬ (false = true) by decide)] at H; exact H
                        clear H
                        have H := H1
                        clear H1
                        have H' := Aside0.mk H
                        clear H
                        have p12 : 0 ≤ ((ji9) : Int) := of_decide_eq_true (by first | (with_reducible assumption) | assumption)
                        have q12 : (ji9) < (x8_2.size : Int) := of_decide_eq_true (by first | (with_reducible assumption) | assumption)
                        have hx12 := bt_at x8_2 (ji9)
                        replace p12 := eq_true p12
                        replace q12 := eq_true q12; (try (have qs12 := q12; simp only [ByteArray.size_append, ByteArray.size_extract, Nat.min_self, Xsize_mk, List.size_toArray, List.length_cons, List.length_nil, Nat.zero_add, Nat.reduceAdd, List.length_append, List.length_drop, List.length_take] at qs12))
                        go_wp2_with (first | (go_at_call 24; (with_reducible refine (bulletinref17_blank.calls (bt x8_2 (ji9)) false _ A13.out).mono ?_); rintro e w' ⟨rfl, ⟨nd, rfl⟩⟩))
                        go_meet
                        case rel => exact ⟨_, (x8_2), (by first | rfl | (simp; done) | (simp [*]; done) | (simp [IntKind.wrap_u8, IntKind.wrap_i64, wrap64]; done)), H', ⟨by have := HK1.out; have := HK2.out; first | omega | exact Nat.le_refl _⟩, ⟨by (with_reducible repeat (first | apply Kd.R_alloc | apply Kd.R_drewN | apply Kd.R_drew)); exact HO_4.out⟩, ⟨by repeat (first | (with_reducible first | exact HB.out | apply below_alloc | apply pw_below_drewN | apply below_drew1) | exact HB.out)⟩⟩
                    · rw [if_neg c11] at H
                      exact absurd H (by simp)
                  · rw [if_neg c10] at H
                    exact absurd H (by simp)
                · rw [if_neg c8] at H
                  have c8b0 : decide (0 < (x8_2.size : Int)) = false := decide_eq_false c8
                  have c8b1 : decide (0 < x8_2.size) = false := decide_eq_false (by omega)
                  clear c8
                  (first | rw [c8b0] | (simp only [i64_w, i32_w]; rw [c8b0]) | skip)
                  have H' := Aside0.mk H
                  clear H
                  go_wp2
                  go_meet
                  case rel => exact ⟨_, (x8_2), (by first | rfl | (simp; done) | (simp [*]; done) | (simp [IntKind.wrap_u8, IntKind.wrap_i64, wrap64]; done)), H', ⟨by have := HK1.out; have := HK2.out; first | omega | exact Nat.le_refl _⟩, ⟨by (with_reducible repeat (first | apply Kd.R_alloc | apply Kd.R_drewN | apply Kd.R_drew)); exact HO_4.out⟩, ⟨by repeat (first | (with_reducible first | exact HB.out | apply below_alloc | apply pw_below_drewN | apply below_drew1) | exact HB.out)⟩⟩
          case rest =>
            clear HC6
            try clear c1
            try clear p1
            try clear q1
            try clear hx1
            try clear p2
            try clear c4
            try clear c4b0
            try clear c5
            try clear c5b0
            try clear p6
            try clear c8
            try clear c8b0
            try clear c8b1
            try clear c10
            try clear c10b0
            try clear c11
            try clear c11b0
            try clear c12
            try clear p12
            try clear q12
            try clear hx12
            try clear c14
            try clear c15
            try clear c15b0
            try clear p15
            try clear q15
            try clear hx15
            try clear c16
            try clear c16b0
            try clear c16b1
            try clear hx150_0
            try clear p1
            try clear p12
            try clear p150
            try clear p2
            try clear p6
            try clear q1
            try clear q12
            try clear q150
            obtain ⟨kq, x8_5, rfl, HA, HJ5, HO_4, HB⟩ := hcut
            cases kq with
            | zero => exact absurd HA.out (by simp [bulletinref17_Decode.j2])
            | succ kj5 =>
              have H := HA.out
              clear HA
              simp only [bulletinref17_Decode.j2] at H
              have HC17 := Aside0.mk H
              clear H
              go_upto_if 41 with (fail)
              go_cut [5] (fun v5 wc => ∃ (kq : Nat) (x5_16 : ByteArray), v5 = .string x5_16 ∧ Aside0 (bulletinref17_Decode.j3 kq t147 x5_16 x7_1 x8_5 = some (r1, r2)) ∧ Aside0 (kq ≤ kj5) ∧ Aside0 (Kd.R Kd.string 9 wc w.heap.size (fun _ => True) (.slice (some ad150) t147.length co7) t147) ∧ Aside0 (Below w.heap.size w wc))
              case first =>
                have H := HC17.out
                clear HC17
                by_cases c18 : x6_1 = true
                · subst c18
                  have H1 : (bulletinref17_Decode.j3 kj5 t147 x5_1 x7_1 x8_5) = some (r1, r2) := by rw [if_pos rfl] at H; exact H
                  clear H
                  have H := H1
                  clear H1
                  have H' := Aside0.mk H
                  clear H
                  go_wp2
                  go_meet
                  case rel => exact ⟨_, (x5_1), (by first | rfl | (simp; done) | (simp [*]; done) | (simp [IntKind.wrap_u8, IntKind.wrap_i64, wrap64]; done)), H', ⟨by have := HK1.out; have := HJ5.out; first | omega | exact Nat.le_refl _⟩, ⟨by (with_reducible repeat (first | apply Kd.R_alloc | apply Kd.R_drewN | apply Kd.R_drew)); exact HO_4.out⟩, ⟨by repeat (first | (with_reducible first | exact HB.out | apply below_alloc | apply pw_below_drewN | apply below_drew1) | exact HB.out)⟩⟩
                · replace c18 := Bool.eq_false_iff.mpr c18
                  subst c18
                  have H1 : (if x5_1.size + 2 ≤ 9223372036854775807 then (bulletinref17_Decode.j3 kj5 t147 (x5_1 ++ (⟨#[13, 10]⟩ : ByteArray)) x7_1 x8_5) else (none)) = some (r1, r2) := by rw [if_neg (show ¬ (false = true) by decide)] at H; exact H
                  clear H
                  have H := H1
                  clear H1
                  by_cases c19 : x5_1.size + 2 ≤ 9223372036854775807
                  · rw [if_pos c19] at H
                    have c19b0 := eq_true c19
                    have c19b1 : decide (x5_1.size + 2 ≤ 9223372036854775807) = true := decide_eq_true c19
                    try have c19b2 : (9223372036854775807 < x5_1.size + 2) = False := eq_false (Nat.not_lt.2 c19)
                    have H' := Aside0.mk H
                    clear H
                    go_wp2
                    go_meet
                    case rel => exact ⟨_, (x5_1 ++ (⟨#[13, 10]⟩ : ByteArray)), (by first | rfl | (simp; done) | (simp [*]; done) | (simp [IntKind.wrap_u8, IntKind.wrap_i64, wrap64]; done)), H', ⟨by have := HK1.out; have := HJ5.out; first | omega | exact Nat.le_refl _⟩, ⟨by (with_reducible repeat (first | apply Kd.R_alloc | apply Kd.R_drewN | apply Kd.R_drew)); exact HO_4.out⟩, ⟨by repeat (first | (with_reducible first | exact HB.out | apply below_alloc | apply pw_below_drewN | apply below_drew1) | exact HB.out)⟩⟩
                  · rw [if_neg c19] at H
                    exact absurd H (by simp)
              case rest =>
                clear HC17
                try clear c1
                try clear p1
                try clear q1
                try clear hx1
                try clear p2
                try clear c4
                try clear c4b0
                try clear c5
                try clear c5b0
                try clear p6
                try clear c8
                try clear c8b0
                try clear c8b1
                try clear c10
                try clear c10b0
                try clear c11
                try clear c11b0
                try clear c12
                try clear p12
                try clear q12
                try clear hx12
                try clear c14
                try clear c15
                try clear c15b0
                try clear p15
                try clear q15
                try clear hx15
                try clear c16
                try clear c16b0
                try clear c16b1
                try clear c18
                try clear c19
                try clear c19b0
                try clear c19b1
                try clear c19b2
                try clear hx150_0
                try clear p1
                try clear p12
                try clear p15
                try clear p150
                try clear p2
                try clear p6
                try clear q1
                try clear q12
                try clear q15
                try clear q150
                obtain ⟨kq, x5_16, rfl, HA, HJ16, HO_4, HB⟩ := hcut
                cases kq with
                | zero => exact absurd HA.out (by simp [bulletinref17_Decode.j3])
                | succ kj16 =>
                  have H := HA.out
                  clear HA
                  simp only [bulletinref17_Decode.j3] at H
                  have HC20 := Aside0.mk H
                  clear H
                  go_upto_region 12 with (fail)
                  go_cut [6] (fun v6 wc => ∃ (kq : Nat) (x6_19 : Bool), v6 = .bool x6_19 ∧ Aside0 (bulletinref17_Decode.j4 kq t147 x5_16 x6_19 x7_1 x8_5 = some (r1, r2)) ∧ Aside0 (kq ≤ kj16) ∧ Aside0 (Kd.R Kd.string 9 wc w.heap.size (fun _ => True) (.slice (some ad150) t147.length co7) t147) ∧ Aside0 (Below w.heap.size w wc))
                  case first =>
                    have H := HC20.out
                    clear HC20
                    by_cases c21 : (x8_5.size : Int) > 0
                    · rw [if_pos c21] at H
                      have c21b0 : decide (0 < (x8_5.size : Int)) = true := decide_eq_true c21
                      have c21b1 : decide (0 < x8_5.size) = true := decide_eq_true (by omega)
                      clear c21
                      (first | rw [c21b0] | (simp only [i64_w, i32_w]; rw [c21b0]) | skip)
                      obtain ⟨ji22, hji22⟩ : ∃ j_ : Int, (wrap64 ((x8_5.size : Int) - 1)) = j_ := ⟨_, rfl⟩
                      replace H : (if 0 ≤ (ji22) then (if (ji22) < (x8_5.size : Int) then (bulletinref17_Decode.j4 kj16 t147 x5_16 ((bt x8_5 (ji22)) == 61) x7_1 x8_5) else (none)) else (none)) = some (r1, r2) := by first | (rw [hji22] at H; exact H) | (simp only [hji22] at H ⊢; exact H)
                      have hji22w : (IntKind.i64.wrap ((x8_5.size : Int) - 1)) = ji22 := (i64_w _).trans hji22
                      by_cases c23 : 0 ≤ (ji22)
                      · rw [if_pos c23] at H
                        have c23b0 : decide (0 ≤ (ji22)) = true := decide_eq_true c23
                        clear c23
                        by_cases c24 : (ji22) < (x8_5.size : Int)
                        · rw [if_pos c24] at H
                          have c24b0 : decide ((ji22) < (x8_5.size : Int)) = true := decide_eq_true c24
                          clear c24
                          have H' := Aside0.mk H
                          clear H
                          have p25 : 0 ≤ ((ji22) : Int) := of_decide_eq_true (by first | (with_reducible assumption) | assumption)
                          have q25 : (ji22) < (x8_5.size : Int) := of_decide_eq_true (by first | (with_reducible assumption) | assumption)
                          have hx25 := bt_at x8_5 (ji22)
                          replace p25 := eq_true p25
                          replace q25 := eq_true q25; (try (have qs25 := q25; simp only [ByteArray.size_append, ByteArray.size_extract, Nat.min_self, Xsize_mk, List.size_toArray, List.length_cons, List.length_nil, Nat.zero_add, Nat.reduceAdd, List.length_append, List.length_drop, List.length_take] at qs25))
                          go_wp2
                          go_meet
                          case rel => exact ⟨_, (((bt x8_5 (ji22)) == 61)), (by first | rfl | (simp; done) | (simp only [← hji22] <;> (first | rfl | simp)) | (simp [*]; done) | (simp [IntKind.wrap_u8, IntKind.wrap_i64, wrap64]; done)), H', ⟨by have := HK1.out; have := HJ5.out; have := HJ16.out; first | omega | exact Nat.le_refl _⟩, ⟨by (with_reducible repeat (first | apply Kd.R_alloc | apply Kd.R_drewN | apply Kd.R_drew)); exact HO_4.out⟩, ⟨by repeat (first | (with_reducible first | exact HB.out | apply below_alloc | apply pw_below_drewN | apply below_drew1) | exact HB.out)⟩⟩
                        · rw [if_neg c24] at H
                          exact absurd H (by simp)
                      · rw [if_neg c23] at H
                        exact absurd H (by simp)
                    · rw [if_neg c21] at H
                      have c21b0 : decide (0 < (x8_5.size : Int)) = false := decide_eq_false c21
                      have c21b1 : decide (0 < x8_5.size) = false := decide_eq_false (by omega)
                      clear c21
                      (first | rw [c21b0] | (simp only [i64_w, i32_w]; rw [c21b0]) | skip)
                      have H' := Aside0.mk H
                      clear H
                      go_wp2
                      go_meet
                      case rel => exact ⟨_, (false), (by first | rfl | (simp; done) | (simp [*]; done) | (simp [IntKind.wrap_u8, IntKind.wrap_i64, wrap64]; done)), H', ⟨by have := HK1.out; have := HJ5.out; have := HJ16.out; first | omega | exact Nat.le_refl _⟩, ⟨by (with_reducible repeat (first | apply Kd.R_alloc | apply Kd.R_drewN | apply Kd.R_drew)); exact HO_4.out⟩, ⟨by repeat (first | (with_reducible first | exact HB.out | apply below_alloc | apply pw_below_drewN | apply below_drew1) | exact HB.out)⟩⟩
                  case rest =>
                    clear HC20
                    try clear c1
                    try clear p1
                    try clear q1
                    try clear hx1
                    try clear c2
                    try clear p2
                    try clear q2
                    try clear hx2
                    try clear c4
                    try clear c4b0
                    try clear c5
                    try clear c5b0
                    try clear p6
                    try clear c8
                    try clear c8b0
                    try clear c8b1
                    try clear c10
                    try clear c10b0
                    try clear c11
                    try clear c11b0
                    try clear c12
                    try clear p12
                    try clear q12
                    try clear hx12
                    try clear c14
                    try clear c15
                    try clear c15b0
                    try clear p15
                    try clear q15
                    try clear hx15
                    try clear c16
                    try clear c16b0
                    try clear c16b1
                    try clear c18
                    try clear c19
                    try clear c19b0
                    try clear c19b1
                    try clear c19b2
                    try clear c21
                    try clear c21b0
                    try clear c21b1
                    try clear c23
                    try clear c23b0
                    try clear c24
                    try clear c24b0
                    try clear p25
                    try clear q25
                    try clear hx25
                    try clear hx150_0
                    try clear p1
                    try clear p12
                    try clear p15
                    try clear p150
                    try clear p2
                    try clear p25
                    try clear p6
                    try clear q1
                    try clear q12
                    try clear q15
                    try clear q150
                    try clear q25
                    obtain ⟨kq, x6_19, rfl, HA, HJ19, HO_4, HB⟩ := hcut
                    cases kq with
                    | zero => exact absurd HA.out (by simp [bulletinref17_Decode.j4])
                    | succ kj19 =>
                      have H := HA.out
                      clear HA
                      simp only [bulletinref17_Decode.j4] at H
                      have HC26 := Aside0.mk H
                      clear H
                      go_upto_if 55 with (fail)
                      go_cut [8] (fun v8 wc => ∃ (kq : Nat) (x8_25 : ByteArray), v8 = .string x8_25 ∧ Aside0 (bulletinref17_Decode.j5 kq t147 x5_16 x6_19 x7_1 x8_25 = some (r1, r2)) ∧ Aside0 (kq ≤ kj19) ∧ Aside0 (Kd.R Kd.string 9 wc w.heap.size (fun _ => True) (.slice (some ad150) t147.length co7) t147) ∧ Aside0 (Below w.heap.size w wc))
                      case first =>
                        have H := HC26.out
                        clear HC26
                        by_cases c27 : x6_19 = true
                        · subst c27
                          have H1 : (if 0 ≤ (wrap64 ((x8_5.size : Int) - 1)) then (if (wrap64 ((x8_5.size : Int) - 1)) ≤ (x8_5.size : Int) then (bulletinref17_Decode.j5 kj19 t147 x5_16 true x7_1 (x8_5.extract 0 ((wrap64 ((x8_5.size : Int) - 1)) : Int).toNat)) else (none)) else (none)) = some (r1, r2) := by rw [if_pos rfl] at H; exact H
                          clear H
                          have H := H1
                          clear H1
                          obtain ⟨ji28, hji28⟩ : ∃ j_ : Int, (wrap64 ((x8_5.size : Int) - 1)) = j_ := ⟨_, rfl⟩
                          replace H : (if 0 ≤ (ji28) then (if (ji28) ≤ (x8_5.size : Int) then (bulletinref17_Decode.j5 kj19 t147 x5_16 true x7_1 (x8_5.extract 0 ((ji28) : Int).toNat)) else (none)) else (none)) = some (r1, r2) := by first | (rw [hji28] at H; exact H) | (simp only [hji28] at H ⊢; exact H)
                          have hji28w : (IntKind.i64.wrap ((x8_5.size : Int) - 1)) = ji28 := (i64_w _).trans hji28
                          by_cases c29 : 0 ≤ (ji28)
                          · rw [if_pos c29] at H
                            have c29b0 := eq_true c29
                            have c29b1 : decide (0 ≤ (ji28)) = true := decide_eq_true c29
                            clear c29
                            by_cases c30 : (ji28) ≤ (x8_5.size : Int)
                            · rw [if_pos c30] at H
                              have c30b0 := eq_true c30
                              have c30b1 : decide ((ji28) ≤ (x8_5.size : Int)) = true := decide_eq_true c30
                              clear c30
                              have H' := Aside0.mk H
                              clear H
                              go_wp2
                              go_meet
                              case rel => exact ⟨_, (x8_5.extract 0 ((ji28) : Int).toNat), (by first | rfl | (simp; done) | (simp only [← hji28] <;> (first | rfl | simp)) | (simp [*]; done) | (simp [IntKind.wrap_u8, IntKind.wrap_i64, wrap64]; done)), H', ⟨by have := HK1.out; have := HJ5.out; have := HJ16.out; have := HJ19.out; first | omega | exact Nat.le_refl _⟩, ⟨by (with_reducible repeat (first | apply Kd.R_alloc | apply Kd.R_drewN | apply Kd.R_drew)); exact HO_4.out⟩, ⟨by repeat (first | (with_reducible first | exact HB.out | apply below_alloc | apply pw_below_drewN | apply below_drew1) | exact HB.out)⟩⟩
                            · rw [if_neg c30] at H
                              exact absurd H (by simp)
                          · rw [if_neg c29] at H
                            exact absurd H (by simp)
                        · replace c27 := Bool.eq_false_iff.mpr c27
                          subst c27
                          have H1 : (bulletinref17_Decode.j5 kj19 t147 x5_16 false x7_1 x8_5) = some (r1, r2) := by rw [if_neg (show ¬ (false = true) by decide)] at H; exact H
                          clear H
                          have H := H1
                          clear H1
                          have H' := Aside0.mk H
                          clear H
                          go_wp2
                          go_meet
                          case rel => exact ⟨_, (x8_5), (by first | rfl | (simp; done) | (simp [*]; done) | (simp [IntKind.wrap_u8, IntKind.wrap_i64, wrap64]; done)), H', ⟨by have := HK1.out; have := HJ5.out; have := HJ16.out; have := HJ19.out; first | omega | exact Nat.le_refl _⟩, ⟨by (with_reducible repeat (first | apply Kd.R_alloc | apply Kd.R_drewN | apply Kd.R_drew)); exact HO_4.out⟩, ⟨by repeat (first | (with_reducible first | exact HB.out | apply below_alloc | apply pw_below_drewN | apply below_drew1) | exact HB.out)⟩⟩
                      case rest =>
                        clear HC26
                        try clear c1
                        try clear p1
                        try clear q1
                        try clear hx1
                        try clear c2
                        try clear p2
                        try clear q2
                        try clear hx2
                        try clear c3
                        try clear c4
                        try clear c4b0
                        try clear c5
                        try clear c5b0
                        try clear p6
                        try clear c8
                        try clear c8b0
                        try clear c8b1
                        try clear c10
                        try clear c10b0
                        try clear c11
                        try clear c11b0
                        try clear c12
                        try clear p12
                        try clear q12
                        try clear hx12
                        try clear c14
                        try clear c15
                        try clear c15b0
                        try clear p15
                        try clear q15
                        try clear hx15
                        try clear c16
                        try clear c16b0
                        try clear c16b1
                        try clear c18
                        try clear c19
                        try clear c19b0
                        try clear c19b1
                        try clear c19b2
                        try clear c21
                        try clear c21b0
                        try clear c21b1
                        try clear c23
                        try clear c23b0
                        try clear c24
                        try clear c24b0
                        try clear p25
                        try clear q25
                        try clear hx25
                        try clear c27
                        try clear c29
                        try clear c29b0
                        try clear c29b1
                        try clear c30
                        try clear c30b0
                        try clear c30b1
                        try clear hx150_0
                        try clear p1
                        try clear p12
                        try clear p15
                        try clear p150
                        try clear p2
                        try clear p25
                        try clear p6
                        try clear q1
                        try clear q12
                        try clear q15
                        try clear q150
                        try clear q2
                        try clear q25
                        obtain ⟨kq, x8_25, rfl, HA, HJ25, HO_4, HB⟩ := hcut
                        cases kq with
                        | zero => exact absurd HA.out (by simp [bulletinref17_Decode.j5])
                        | succ kj25 =>
                          have H := HA.out
                          clear HA
                          simp only [bulletinref17_Decode.j5] at H
                          have H' := Aside0.mk H
                          clear H
                          go_wp2
                          go_loopg [5, 9] kj25 (fun kq v5 v9 w' => ∃ (x5_6 : ByteArray) (x9_6 : Int), v5 = .string x5_6 ∧ v9 = .int .i64 x9_6 ∧ Aside0 (bulletinref17_Decode.l2 kq t147 x5_6 x6_19 x7_1 x8_25 x9_6 = some (r1, r2)) ∧ Aside0 (kq ≤ kj25) ∧ Aside0 (Kd.R Kd.string 9 w' w.heap.size (fun _ => True) (.slice (some ad150) t147.length co7) t147) ∧ Aside0 (Below w.heap.size w w'))
                          case atStart => exact ⟨(x5_16), (0), (by first | rfl | (simp; done) | (simp [*]; done) | (simp [IntKind.wrap_u8, IntKind.wrap_i64, wrap64]; done)), (by first | rfl | (simp; done) | (simp [*]; done) | (simp [IntKind.wrap_u8, IntKind.wrap_i64, wrap64]; done)), H', ⟨Nat.le_refl _⟩, ⟨by (with_reducible repeat (first | apply Kd.R_alloc | apply Kd.R_drewN | apply Kd.R_drew)); exact HO_4.out⟩, ⟨by repeat (first | (with_reducible first | exact HB.out | apply below_alloc | apply pw_below_drewN | apply below_drew1) | exact HB.out)⟩⟩
                          case round =>
                            clear H'
                            try clear c1
                            try clear p1
                            try clear q1
                            try clear hx1
                            try clear c2
                            try clear p2
                            try clear q2
                            try clear hx2
                            try clear c3
                            try clear c4
                            try clear c4b0
                            try clear c5
                            try clear c5b0
                            try clear p6
                            try clear c8
                            try clear c8b0
                            try clear c8b1
                            try clear c10
                            try clear c10b0
                            try clear c11
                            try clear c11b0
                            try clear c12
                            try clear p12
                            try clear q12
                            try clear hx12
                            try clear c14
                            try clear c15
                            try clear c15b0
                            try clear p15
                            try clear q15
                            try clear hx15
                            try clear c16
                            try clear c16b0
                            try clear c16b1
                            try clear c18
                            try clear c19
                            try clear c19b0
                            try clear c19b1
                            try clear c19b2
                            try clear c21
                            try clear c21b0
                            try clear c21b1
                            try clear c23
                            try clear c23b0
                            try clear c24
                            try clear c24b0
                            try clear p25
                            try clear q25
                            try clear hx25
                            try clear c27
                            try clear c29
                            try clear c29b0
                            try clear c29b1
                            try clear c30
                            try clear c30b0
                            try clear c30b1
                            try clear hx150_0
                            try clear p1
                            try clear p12
                            try clear p15
                            try clear p150
                            try clear p2
                            try clear p25
                            try clear p6
                            try clear q1
                            try clear q12
                            try clear q15
                            try clear q150
                            try clear q2
                            try clear q25
                            obtain ⟨x5_6, x9_6, rfl, rfl, HA, HK6, HO_4, HB⟩ := hrel
                            cases gk with
                            | zero => exact absurd HA.out (by simp [bulletinref17_Decode.l2])
                            | succ k6 =>
                              have H := HA.out
                              clear HA
                              simp only [bulletinref17_Decode.l2] at H
                              by_cases c31 : x9_6 < (x8_25.size : Int)
                              · rw [if_pos c31] at H
                                have c31b0 : decide (x9_6 < (x8_25.size : Int)) = true := decide_eq_true c31
                                clear c31
                                by_cases c32 : 0 ≤ x9_6
                                · rw [if_pos c32] at H
                                  have c32b0 : decide (0 ≤ x9_6) = true := decide_eq_true c32
                                  clear c32
                                  by_cases c34 : (bt x8_25 x9_6) = 61
                                  · rw [if_pos c34] at H
                                    have c34b0 : ((bt x8_25 x9_6) == 61) = true := beq_iff_eq.mpr c34
                                    have c34b1 : ((bt x8_25 x9_6) != 61) = false := bne_eq_false_iff_eq.mpr c34
                                    clear c34
                                    by_cases c35 : (wrap64 (x9_6 + 2)) ≥ (x8_25.size : Int)
                                    · rw [if_pos c35] at H
                                      have c35b0 : decide ((x8_25.size : Int) ≤ (wrap64 (x9_6 + 2))) = true := decide_eq_true c35
                                      clear c35
                                      simp only [Option.some.injEq, Prod.mk.injEq] at H
                                      obtain ⟨rfl, rfl⟩ := H
                                      have p33 : 0 ≤ (x9_6 : Int) := of_decide_eq_true (by first | (with_reducible assumption) | assumption)
                                      have q33 : x9_6 < (x8_25.size : Int) := of_decide_eq_true (by first | (with_reducible assumption) | assumption)
                                      have hx33 := bt_at x8_25 x9_6
                                      replace p33 := eq_true p33
                                      replace q33 := eq_true q33; (try (have qs33 := q33; simp only [ByteArray.size_append, ByteArray.size_extract, Nat.min_self, Xsize_mk, List.size_toArray, List.length_cons, List.length_nil, Nat.zero_add, Nat.reduceAdd, List.length_append, List.length_drop, List.length_take] at qs33))
                                      go_wp2
                                      go_ret2
                                      exact ⟨by first | rfl | (simp [errW_none, errW_some] <;> rfl) | (simp [*, errW_none, errW_some] <;> rfl), by repeat (first | (with_reducible first | exact HB.out | apply below_alloc | apply pw_below_drewN | apply below_drew1) | exact HB.out)⟩
                                    · rw [if_neg c35] at H
                                      have c35b0 : decide ((x8_25.size : Int) ≤ (wrap64 (x9_6 + 2))) = false := decide_eq_false c35
                                      clear c35
                                      obtain ⟨ji36, hji36⟩ : ∃ j_ : Int, (wrap64 (x9_6 + 1)) = j_ := ⟨_, rfl⟩
                                      replace H : (if 0 ≤ (ji36) then (if (ji36) ≤ (wrap64 (x9_6 + 3)) then (if (wrap64 (x9_6 + 3)) ≤ (x8_25.size : Int) then ((bulletinref17_Byte.f k6 (x8_25.extract ((ji36) : Int).toNat ((wrap64 (x9_6 + 3)) : Int).toNat)).bind fun bt152 => (if bt152.2 = true then ((some (([bt152.1] : List Int) : List Int)).bind fun y154 => (if x5_6.size + (strOfNums y154).size ≤ 9223372036854775807 then (bulletinref17_Decode.l2 k6 t147 (x5_6 ++ (strOfNums y154)) x6_19 x7_1 x8_25 (wrap64 ((wrap64 (x9_6 + 2)) + 1))) else (none))) else (some ((⟨#[]⟩ : ByteArray), 3)))) else (none)) else (none)) else (none)) = some (r1, r2) := by first | (rw [hji36] at H; exact H) | (simp only [hji36] at H ⊢; exact H)
                                      have hji36w : (IntKind.i64.wrap (x9_6 + 1)) = ji36 := (i64_w _).trans hji36
                                      by_cases c37 : 0 ≤ (ji36)
                                      · rw [if_pos c37] at H
                                        have c37b0 := eq_true c37
                                        have c37b1 : decide (0 ≤ (ji36)) = true := decide_eq_true c37
                                        clear c37
                                        by_cases c38 : (ji36) ≤ (wrap64 (x9_6 + 3))
                                        · rw [if_pos c38] at H
                                          have c38b0 := eq_true c38
                                          have c38b1 : decide ((ji36) ≤ (wrap64 (x9_6 + 3))) = true := decide_eq_true c38
                                          by_cases c39 : (wrap64 (x9_6 + 3)) ≤ (x8_25.size : Int)
                                          · rw [if_pos c39] at H
                                            have c39b0 := eq_true c39
                                            have c39b1 : decide ((wrap64 (x9_6 + 3)) ≤ (x8_25.size : Int)) = true := decide_eq_true c39
                                            replace H := Option.bind_eq_some_iff.mp H
                                            obtain ⟨⟨t152, t153⟩, A400, H⟩ := H
                                            replace H : (if t153 = true then ((some (([t152] : List Int) : List Int)).bind fun y154 => (if x5_6.size + (strOfNums y154).size ≤ 9223372036854775807 then (bulletinref17_Decode.l2 k6 t147 (x5_6 ++ (strOfNums y154)) x6_19 x7_1 x8_25 (wrap64 ((wrap64 (x9_6 + 2)) + 1))) else (none))) else (some ((⟨#[]⟩ : ByteArray), 3))) = some (r1, r2) := H
                                            have A40 := Aside0.mk A400
                                            clear A400
                                            by_cases c41 : t153 = true
                                            · subst c41
                                              have H1 : ((some (([t152] : List Int) : List Int)).bind fun y154 => (if x5_6.size + (strOfNums y154).size ≤ 9223372036854775807 then (bulletinref17_Decode.l2 k6 t147 (x5_6 ++ (strOfNums y154)) x6_19 x7_1 x8_25 (wrap64 ((wrap64 (x9_6 + 2)) + 1))) else (none))) = some (r1, r2) := by rw [if_pos rfl] at H; exact H
                                              clear H
                                              have H := H1
                                              clear H1
                                              obtain ⟨y154, hy154⟩ : ∃ y_ : List Int, y_ = (([t152] : List Int)) := ⟨_, rfl⟩
                                              replace H : (if x5_6.size + (strOfNums y154).size ≤ 9223372036854775807 then (bulletinref17_Decode.l2 k6 t147 (x5_6 ++ (strOfNums y154)) x6_19 x7_1 x8_25 (wrap64 ((wrap64 (x9_6 + 2)) + 1))) else (none)) = some (r1, r2) := by first | (rw [hy154]; with_reducible exact H) | (have H2_ := (Option.bind_some _ _).symm.trans H; rw [hy154]; with_reducible exact H2_) | (have H2_ := (Option.bind_some _ _).symm.trans H; with_reducible exact H2_) | with_reducible exact H | (rw [hy154]; exact H) | exact H
                                              have Ny154 := Aside0.mk hy154
                                              clear hy154
                                              by_cases c42 : x5_6.size + (strOfNums y154).size ≤ 9223372036854775807
                                              · rw [if_pos c42] at H
                                                have c42b0 := eq_true c42
                                                have c42b1 : decide (x5_6.size + (strOfNums y154).size ≤ 9223372036854775807) = true := decide_eq_true c42
                                                try have c42b2 : (9223372036854775807 < x5_6.size + (strOfNums y154).size) = False := eq_false (Nat.not_lt.2 c42)
                                                have H' := Aside0.mk H
                                                clear H
                                                have p33 : 0 ≤ (x9_6 : Int) := of_decide_eq_true (by first | (with_reducible assumption) | assumption)
                                                have q33 : x9_6 < (x8_25.size : Int) := of_decide_eq_true (by first | (with_reducible assumption) | assumption)
                                                have hx33 := bt_at x8_25 x9_6
                                                replace p33 := eq_true p33
                                                replace q33 := eq_true q33; (try (have qs33 := q33; simp only [ByteArray.size_append, ByteArray.size_extract, Nat.min_self, Xsize_mk, List.size_toArray, List.length_cons, List.length_nil, Nat.zero_add, Nat.reduceAdd, List.length_append, List.length_drop, List.length_take] at qs33))
                                                go_wp2_with (first | ((with_reducible refine gate_callee (f := 14) rfl ?_); refine goesL_ (some 83) rfl rfl Tryd.func14 (by kernel_rfl) rfl #[.string (x8_25.extract ((ji36) : Int).toNat ((wrap64 (x9_6 + 3)) : Int).toNat)] rfl (by (try simp only [List.map_toArray, List.map_cons, List.map_nil]); first | done | (simp only [hji36]; rfl) | rfl | (simp only [List.length_drop, List.length_take]; rfl)) ?_; (with_reducible refine (bulletinref17_Byte.calls k6 (x8_25.extract ((ji36) : Int).toNat ((wrap64 (x9_6 + 3)) : Int).toNat) t152 true _ A40.out).mono ?_); rintro e w' ⟨rfl, ⟨nd, rfl⟩⟩; refine ⟨_, rfl, ?_⟩) | ((with_reducible refine gate_dst (N := 90) rfl ?_); (try (refine gate_guard (by rfl) ?_; dsimp only)); refine Kd.R_lit (Kd.int .u8) _ 5 ?hg (N := 90) ?hd (xs := ([t152] : List Int)) (inner := [.int .u8 t152]) (ok := fun _ => True) (okp := fun _ => True) ?hr ?hp (fun _ hk => hk) trivial (Below.refl _ _) (Nat.le_refl _) (by simp) ?_; (case hd => rfl); (case hg => rfl); (case hr => first | (go_simp; done) | (go_simp; rfl)); (case hp => exact (Reps.one (show Kd.M (Kd.int .u8) _ _ _ t152 [.int .u8 t152] from rfl) (Reps.none _ _))); intro v155 w43 ho44 hb hg_ hnew_; clear hg_ hnew_; (first | rw [← Ny154.out] at ho44 | (simp only [Int.reduceToNat] at ho44; rw [← Ny154.out] at ho44)); have n0_ := Aside0.mk (Kd.R_below (by (with_reducible repeat (first | apply Kd.R_alloc | apply Kd.R_drewN | apply Kd.R_drew)); exact HO_4.out) hb); have n1_ := Aside0.mk (Kd.R_lower ho44 (below_size (by repeat (first | (with_reducible first | exact HB.out | apply below_alloc | apply pw_below_drewN | apply below_drew1) | exact HB.out)))); have n2_ := Aside0.mk (below_step (by repeat (first | (with_reducible first | exact HB.out | apply below_alloc | apply pw_below_drewN | apply below_drew1) | exact HB.out)) hb); clear HO_4; clear HB; have HO_4 := n0_; have HO156 := n1_; have HB := n2_; clear n0_ n1_ n2_; clear hb ho44; have hcv45 := own_string (P := Tryd.prog) Tryd.underlying35 Tryd.underlying5 Tryd.underlying9 (Kd.own_of_R HO156.out)))
                                                go_roundg k6
                                                case measure => have := HK1.out; have := HJ5.out; have := HJ16.out; have := HJ19.out; have := HJ25.out; have := HK6.out; omega
                                                case rel => exact ⟨(x5_6 ++ (strOfNums y154)), (wrap64 ((wrap64 (x9_6 + 2)) + 1)), (by first | rfl | (simp; done) | (simp [*]; done) | (simp [IntKind.wrap_u8, IntKind.wrap_i64, wrap64]; done)), (by first | rfl | (simp; done) | (simp [*]; done) | (simp [IntKind.wrap_u8, IntKind.wrap_i64, wrap64]; done)), H', ⟨by have := HK1.out; have := HJ5.out; have := HJ16.out; have := HJ19.out; have := HJ25.out; have := HK6.out; omega⟩, ⟨by (with_reducible repeat (first | apply Kd.R_alloc | apply Kd.R_drewN | apply Kd.R_drew)); exact HO_4.out⟩, ⟨by repeat (first | (with_reducible first | exact HB.out | apply below_alloc | apply pw_below_drewN | apply below_drew1) | exact HB.out)⟩⟩
                                              · rw [if_neg c42] at H
                                                exact absurd H (by simp)
                                            · replace c41 := Bool.eq_false_iff.mpr c41
                                              subst c41
                                              have H1 : (some ((⟨#[]⟩ : ByteArray), 3)) = some (r1, r2) := by rw [if_neg (show ¬ (false = true) by decide)] at H; exact H
                                              clear H
                                              have H := H1
                                              clear H1
                                              simp only [Option.some.injEq, Prod.mk.injEq] at H
                                              obtain ⟨rfl, rfl⟩ := H
                                              have p33 : 0 ≤ (x9_6 : Int) := of_decide_eq_true (by first | (with_reducible assumption) | assumption)
                                              have q33 : x9_6 < (x8_25.size : Int) := of_decide_eq_true (by first | (with_reducible assumption) | assumption)
                                              have hx33 := bt_at x8_25 x9_6
                                              replace p33 := eq_true p33
                                              replace q33 := eq_true q33; (try (have qs33 := q33; simp only [ByteArray.size_append, ByteArray.size_extract, Nat.min_self, Xsize_mk, List.size_toArray, List.length_cons, List.length_nil, Nat.zero_add, Nat.reduceAdd, List.length_append, List.length_drop, List.length_take] at qs33))
                                              go_wp2_with (first | ((with_reducible refine gate_callee (f := 14) rfl ?_); refine goesL_ (some 83) rfl rfl Tryd.func14 (by kernel_rfl) rfl #[.string (x8_25.extract ((ji36) : Int).toNat ((wrap64 (x9_6 + 3)) : Int).toNat)] rfl (by (try simp only [List.map_toArray, List.map_cons, List.map_nil]); first | done | (simp only [hji36]; rfl) | rfl | (simp only [List.length_drop, List.length_take]; rfl)) ?_; (with_reducible refine (bulletinref17_Byte.calls k6 (x8_25.extract ((ji36) : Int).toNat ((wrap64 (x9_6 + 3)) : Int).toNat) t152 false _ A40.out).mono ?_); rintro e w' ⟨rfl, ⟨nd, rfl⟩⟩; refine ⟨_, rfl, ?_⟩))
                                              go_ret2
                                              exact ⟨by first | rfl | (simp [errW_none, errW_some] <;> rfl) | (simp only [← hji36]; first | rfl | (simp [errW_none, errW_some] <;> rfl)) | (simp [*, errW_none, errW_some] <;> rfl), by repeat (first | (with_reducible first | exact HB.out | apply below_alloc | apply pw_below_drewN | apply below_drew1) | exact HB.out)⟩
                                          · rw [if_neg c39] at H
                                            exact absurd H (by simp)
                                        · rw [if_neg c38] at H
                                          exact absurd H (by simp)
                                      · rw [if_neg c37] at H
                                        exact absurd H (by simp)
                                  · rw [if_neg c34] at H
                                    have c34b0 : ((bt x8_25 x9_6) == 61) = false := beq_eq_false_iff_ne.mpr c34
                                    have c34b1 : ((bt x8_25 x9_6) != 61) = true := bne_iff_ne.mpr c34
                                    replace H := Option.bind_eq_some_iff.mp H
                                    obtain ⟨t157, A470, H⟩ := H
                                    replace H : (if t157 = true then (if x9_6 ≤ (wrap64 (x9_6 + 1)) then (if (wrap64 (x9_6 + 1)) ≤ (x8_25.size : Int) then (if x5_6.size + (x8_25.extract (x9_6 : Int).toNat ((wrap64 (x9_6 + 1)) : Int).toNat).size ≤ 9223372036854775807 then (bulletinref17_Decode.l2 k6 t147 (x5_6 ++ (x8_25.extract (x9_6 : Int).toNat ((wrap64 (x9_6 + 1)) : Int).toNat)) x6_19 x7_1 x8_25 (wrap64 (x9_6 + 1))) else (none)) else (none)) else (none)) else ((bulletinref17_blank.f (bt x8_25 x9_6)).bind fun t158 => (if t158 = true then (if x9_6 ≤ (wrap64 (x9_6 + 1)) then (if (wrap64 (x9_6 + 1)) ≤ (x8_25.size : Int) then (if x5_6.size + (x8_25.extract (x9_6 : Int).toNat ((wrap64 (x9_6 + 1)) : Int).toNat).size ≤ 9223372036854775807 then (bulletinref17_Decode.l2 k6 t147 (x5_6 ++ (x8_25.extract (x9_6 : Int).toNat ((wrap64 (x9_6 + 1)) : Int).toNat)) x6_19 x7_1 x8_25 (wrap64 (x9_6 + 1))) else (none)) else (none)) else (none)) else (some ((⟨#[]⟩ : ByteArray), 3))))) = some (r1, r2) := H
                                    have A47 := Aside0.mk A470
                                    clear A470
                                    by_cases c48 : t157 = true
                                    · subst c48
                                      have H1 : (if x9_6 ≤ (wrap64 (x9_6 + 1)) then (if (wrap64 (x9_6 + 1)) ≤ (x8_25.size : Int) then (if x5_6.size + (x8_25.extract (x9_6 : Int).toNat ((wrap64 (x9_6 + 1)) : Int).toNat).size ≤ 9223372036854775807 then (bulletinref17_Decode.l2 k6 t147 (x5_6 ++ (x8_25.extract (x9_6 : Int).toNat ((wrap64 (x9_6 + 1)) : Int).toNat)) x6_19 x7_1 x8_25 (wrap64 (x9_6 + 1))) else (none)) else (none)) else (none)) = some (r1, r2) := by rw [if_pos rfl] at H; exact H
                                      clear H
                                      have H := H1
                                      clear H1
                                      have c49b0 := eq_true (of_decide_eq_true (by first | (with_reducible assumption) | assumption) : 0 ≤ x9_6)
                                      by_cases c50 : x9_6 ≤ (wrap64 (x9_6 + 1))
                                      · rw [if_pos c50] at H
                                        have c50b0 := eq_true c50
                                        have c50b1 : decide (x9_6 ≤ (wrap64 (x9_6 + 1))) = true := decide_eq_true c50
                                        by_cases c51 : (wrap64 (x9_6 + 1)) ≤ (x8_25.size : Int)
                                        · rw [if_pos c51] at H
                                          have c51b0 := eq_true c51
                                          have c51b1 : decide ((wrap64 (x9_6 + 1)) ≤ (x8_25.size : Int)) = true := decide_eq_true c51
                                          by_cases c52 : x5_6.size + (x8_25.extract (x9_6 : Int).toNat ((wrap64 (x9_6 + 1)) : Int).toNat).size ≤ 9223372036854775807
                                          · rw [if_pos c52] at H
                                            have c52b0 := eq_true c52
                                            try (have c52s0 := c52b0; simp only [ByteArray.size_append, ByteArray.size_extract, Nat.min_self, Xsize_mk, List.size_toArray, List.length_cons, List.length_nil, Nat.zero_add, Nat.reduceAdd, List.length_append, List.length_drop, List.length_take] at c52s0)
                                            try (have c52t0 := c52b0; simp only [Int.toNat_natCast] at c52t0)
                                            try (have c52v0 := c52b0; simp only [ByteArray.size_append, Xsz_ext, Xsz_ext0, c51b0] at c52v0; (try simp only [ByteArray.size_append, ByteArray.size_extract, Nat.min_self, Xsize_mk, List.size_toArray, List.length_cons, List.length_nil, Nat.zero_add, Nat.reduceAdd, List.length_append, List.length_drop, List.length_take] at c52v0))
                                            have c52b1 : decide (x5_6.size + (x8_25.extract (x9_6 : Int).toNat ((wrap64 (x9_6 + 1)) : Int).toNat).size ≤ 9223372036854775807) = true := decide_eq_true c52
                                            try (have c52s1 := c52b1; simp only [ByteArray.size_append, ByteArray.size_extract, Nat.min_self, Xsize_mk, List.size_toArray, List.length_cons, List.length_nil, Nat.zero_add, Nat.reduceAdd, List.length_append, List.length_drop, List.length_take] at c52s1)
                                            try (have c52t1 := c52b1; simp only [Int.toNat_natCast] at c52t1)
                                            try (have c52v1 := c52b1; simp only [ByteArray.size_append, Xsz_ext, Xsz_ext0, c51b0] at c52v1; (try simp only [ByteArray.size_append, ByteArray.size_extract, Nat.min_self, Xsize_mk, List.size_toArray, List.length_cons, List.length_nil, Nat.zero_add, Nat.reduceAdd, List.length_append, List.length_drop, List.length_take] at c52v1))
                                            try have c52b2 : (9223372036854775807 < x5_6.size + (x8_25.extract (x9_6 : Int).toNat ((wrap64 (x9_6 + 1)) : Int).toNat).size) = False := eq_false (Nat.not_lt.2 c52)
                                            try (have c52s2 := c52b2; simp only [ByteArray.size_append, ByteArray.size_extract, Nat.min_self, Xsize_mk, List.size_toArray, List.length_cons, List.length_nil, Nat.zero_add, Nat.reduceAdd, List.length_append, List.length_drop, List.length_take] at c52s2)
                                            try (have c52t2 := c52b2; simp only [Int.toNat_natCast] at c52t2)
                                            try (have c52v2 := c52b2; simp only [ByteArray.size_append, Xsz_ext, Xsz_ext0, c51b0] at c52v2; (try simp only [ByteArray.size_append, ByteArray.size_extract, Nat.min_self, Xsize_mk, List.size_toArray, List.length_cons, List.length_nil, Nat.zero_add, Nat.reduceAdd, List.length_append, List.length_drop, List.length_take] at c52v2))
                                            have H' := Aside0.mk H
                                            clear H
                                            have p33 : 0 ≤ (x9_6 : Int) := of_decide_eq_true (by first | (with_reducible assumption) | assumption)
                                            have q33 : x9_6 < (x8_25.size : Int) := of_decide_eq_true (by first | (with_reducible assumption) | assumption)
                                            have hx33 := bt_at x8_25 x9_6
                                            replace p33 := eq_true p33
                                            replace q33 := eq_true q33; (try (have qs33 := q33; simp only [ByteArray.size_append, ByteArray.size_extract, Nat.min_self, Xsize_mk, List.size_toArray, List.length_cons, List.length_nil, Nat.zero_add, Nat.reduceAdd, List.length_append, List.length_drop, List.length_take] at qs33))
                                            have p46 : 0 ≤ (x9_6 : Int) := of_decide_eq_true (by first | (with_reducible assumption) | assumption)
                                            have q46 : x9_6 < (x8_25.size : Int) := of_decide_eq_true (by first | (with_reducible assumption) | assumption)
                                            have hx46 := bt_at x8_25 x9_6
                                            replace p46 := eq_true p46
                                            replace q46 := eq_true q46; (try (have qs46 := q46; simp only [ByteArray.size_append, ByteArray.size_extract, Nat.min_self, Xsize_mk, List.size_toArray, List.length_cons, List.length_nil, Nat.zero_add, Nat.reduceAdd, List.length_append, List.length_drop, List.length_take] at qs46))
                                            go_wp2_with (first | ((with_reducible refine gate_callee (f := 25) rfl ?_); refine goesL_ (some 98) rfl rfl Tryd.func25 (by kernel_rfl) rfl #[.int .u8 (bt x8_25 x9_6)] rfl (by (try simp only [List.map_toArray, List.map_cons, List.map_nil]); first | done | rfl | (simp only [List.length_drop, List.length_take]; rfl)) ?_; (with_reducible refine (bulletinref17_itself.calls (bt x8_25 x9_6) true _ A47.out).mono ?_); rintro e w' ⟨rfl, ⟨nd, rfl⟩⟩; refine ⟨_, rfl, ?_⟩))
                                            go_roundg k6
                                            case measure => have := HK1.out; have := HJ5.out; have := HJ16.out; have := HJ19.out; have := HJ25.out; have := HK6.out; omega
                                            case rel => exact ⟨(x5_6 ++ (x8_25.extract (x9_6 : Int).toNat ((wrap64 (x9_6 + 1)) : Int).toNat)), (wrap64 (x9_6 + 1)), (by first | rfl | (simp; done) | (simp [*]; done) | (simp [IntKind.wrap_u8, IntKind.wrap_i64, wrap64]; done)), (by first | rfl | (simp; done) | (simp [*]; done) | (simp [IntKind.wrap_u8, IntKind.wrap_i64, wrap64]; done)), H', ⟨by have := HK1.out; have := HJ5.out; have := HJ16.out; have := HJ19.out; have := HJ25.out; have := HK6.out; omega⟩, ⟨by (with_reducible repeat (first | apply Kd.R_alloc | apply Kd.R_drewN | apply Kd.R_drew)); exact HO_4.out⟩, ⟨by repeat (first | (with_reducible first | exact HB.out | apply below_alloc | apply pw_below_drewN | apply below_drew1) | exact HB.out)⟩⟩
                                          · rw [if_neg c52] at H
                                            exact absurd H (by simp)
                                        · rw [if_neg c51] at H
                                          exact absurd H (by simp)
                                      · rw [if_neg c50] at H
                                        exact absurd H (by simp)
                                    · replace c48 := Bool.eq_false_iff.mpr c48
                                      subst c48
                                      have H1 : ((bulletinref17_blank.f (bt x8_25 x9_6)).bind fun t158 => (if t158 = true then (if x9_6 ≤ (wrap64 (x9_6 + 1)) then (if (wrap64 (x9_6 + 1)) ≤ (x8_25.size : Int) then (if x5_6.size + (x8_25.extract (x9_6 : Int).toNat ((wrap64 (x9_6 + 1)) : Int).toNat).size ≤ 9223372036854775807 then (bulletinref17_Decode.l2 k6 t147 (x5_6 ++ (x8_25.extract (x9_6 : Int).toNat ((wrap64 (x9_6 + 1)) : Int).toNat)) x6_19 x7_1 x8_25 (wrap64 (x9_6 + 1))) else (none)) else (none)) else (none)) else (some ((⟨#[]⟩ : ByteArray), 3)))) = some (r1, r2) := by rw [if_neg (show ¬ (false = true) by decide)] at H; exact H
                                      clear H
                                      have H := H1
                                      clear H1
                                      replace H := Option.bind_eq_some_iff.mp H
                                      obtain ⟨t158, A540, H⟩ := H
                                      replace H : (if t158 = true then (if x9_6 ≤ (wrap64 (x9_6 + 1)) then (if (wrap64 (x9_6 + 1)) ≤ (x8_25.size : Int) then (if x5_6.size + (x8_25.extract (x9_6 : Int).toNat ((wrap64 (x9_6 + 1)) : Int).toNat).size ≤ 9223372036854775807 then (bulletinref17_Decode.l2 k6 t147 (x5_6 ++ (x8_25.extract (x9_6 : Int).toNat ((wrap64 (x9_6 + 1)) : Int).toNat)) x6_19 x7_1 x8_25 (wrap64 (x9_6 + 1))) else (none)) else (none)) else (none)) else (some ((⟨#[]⟩ : ByteArray), 3))) = some (r1, r2) := H
                                      have A54 := Aside0.mk A540
                                      clear A540
                                      by_cases c55 : t158 = true
                                      · subst c55
                                        have H1 : (if x9_6 ≤ (wrap64 (x9_6 + 1)) then (if (wrap64 (x9_6 + 1)) ≤ (x8_25.size : Int) then (if x5_6.size + (x8_25.extract (x9_6 : Int).toNat ((wrap64 (x9_6 + 1)) : Int).toNat).size ≤ 9223372036854775807 then (bulletinref17_Decode.l2 k6 t147 (x5_6 ++ (x8_25.extract (x9_6 : Int).toNat ((wrap64 (x9_6 + 1)) : Int).toNat)) x6_19 x7_1 x8_25 (wrap64 (x9_6 + 1))) else (none)) else (none)) else (none)) = some (r1, r2) := by rw [if_pos rfl] at H; exact H
                                        clear H
                                        have H := H1
                                        clear H1
                                        have c56b0 := eq_true (of_decide_eq_true (by first | (with_reducible assumption) | assumption) : 0 ≤ x9_6)
                                        by_cases c57 : x9_6 ≤ (wrap64 (x9_6 + 1))
                                        · rw [if_pos c57] at H
                                          have c57b0 := eq_true c57
                                          have c57b1 : decide (x9_6 ≤ (wrap64 (x9_6 + 1))) = true := decide_eq_true c57
                                          by_cases c58 : (wrap64 (x9_6 + 1)) ≤ (x8_25.size : Int)
                                          · rw [if_pos c58] at H
                                            have c58b0 := eq_true c58
                                            have c58b1 : decide ((wrap64 (x9_6 + 1)) ≤ (x8_25.size : Int)) = true := decide_eq_true c58
                                            by_cases c59 : x5_6.size + (x8_25.extract (x9_6 : Int).toNat ((wrap64 (x9_6 + 1)) : Int).toNat).size ≤ 9223372036854775807
                                            · rw [if_pos c59] at H
                                              have c59b0 := eq_true c59
                                              try (have c59s0 := c59b0; simp only [ByteArray.size_append, ByteArray.size_extract, Nat.min_self, Xsize_mk, List.size_toArray, List.length_cons, List.length_nil, Nat.zero_add, Nat.reduceAdd, List.length_append, List.length_drop, List.length_take] at c59s0)
                                              try (have c59t0 := c59b0; simp only [Int.toNat_natCast] at c59t0)
                                              try (have c59v0 := c59b0; simp only [ByteArray.size_append, Xsz_ext, Xsz_ext0, c58b0] at c59v0; (try simp only [ByteArray.size_append, ByteArray.size_extract, Nat.min_self, Xsize_mk, List.size_toArray, List.length_cons, List.length_nil, Nat.zero_add, Nat.reduceAdd, List.length_append, List.length_drop, List.length_take] at c59v0))
                                              have c59b1 : decide (x5_6.size + (x8_25.extract (x9_6 : Int).toNat ((wrap64 (x9_6 + 1)) : Int).toNat).size ≤ 9223372036854775807) = true := decide_eq_true c59
                                              try (have c59s1 := c59b1; simp only [ByteArray.size_append, ByteArray.size_extract, Nat.min_self, Xsize_mk, List.size_toArray, List.length_cons, List.length_nil, Nat.zero_add, Nat.reduceAdd, List.length_append, List.length_drop, List.length_take] at c59s1)
                                              try (have c59t1 := c59b1; simp only [Int.toNat_natCast] at c59t1)
                                              try (have c59v1 := c59b1; simp only [ByteArray.size_append, Xsz_ext, Xsz_ext0, c58b0] at c59v1; (try simp only [ByteArray.size_append, ByteArray.size_extract, Nat.min_self, Xsize_mk, List.size_toArray, List.length_cons, List.length_nil, Nat.zero_add, Nat.reduceAdd, List.length_append, List.length_drop, List.length_take] at c59v1))
                                              try have c59b2 : (9223372036854775807 < x5_6.size + (x8_25.extract (x9_6 : Int).toNat ((wrap64 (x9_6 + 1)) : Int).toNat).size) = False := eq_false (Nat.not_lt.2 c59)
                                              try (have c59s2 := c59b2; simp only [ByteArray.size_append, ByteArray.size_extract, Nat.min_self, Xsize_mk, List.size_toArray, List.length_cons, List.length_nil, Nat.zero_add, Nat.reduceAdd, List.length_append, List.length_drop, List.length_take] at c59s2)
                                              try (have c59t2 := c59b2; simp only [Int.toNat_natCast] at c59t2)
                                              try (have c59v2 := c59b2; simp only [ByteArray.size_append, Xsz_ext, Xsz_ext0, c58b0] at c59v2; (try simp only [ByteArray.size_append, ByteArray.size_extract, Nat.min_self, Xsize_mk, List.size_toArray, List.length_cons, List.length_nil, Nat.zero_add, Nat.reduceAdd, List.length_append, List.length_drop, List.length_take] at c59v2))
                                              have H' := Aside0.mk H
                                              clear H
                                              have p33 : 0 ≤ (x9_6 : Int) := of_decide_eq_true (by first | (with_reducible assumption) | assumption)
                                              have q33 : x9_6 < (x8_25.size : Int) := of_decide_eq_true (by first | (with_reducible assumption) | assumption)
                                              have hx33 := bt_at x8_25 x9_6
                                              replace p33 := eq_true p33
                                              replace q33 := eq_true q33; (try (have qs33 := q33; simp only [ByteArray.size_append, ByteArray.size_extract, Nat.min_self, Xsize_mk, List.size_toArray, List.length_cons, List.length_nil, Nat.zero_add, Nat.reduceAdd, List.length_append, List.length_drop, List.length_take] at qs33))
                                              have p46 : 0 ≤ (x9_6 : Int) := of_decide_eq_true (by first | (with_reducible assumption) | assumption)
                                              have q46 : x9_6 < (x8_25.size : Int) := of_decide_eq_true (by first | (with_reducible assumption) | assumption)
                                              have hx46 := bt_at x8_25 x9_6
                                              replace p46 := eq_true p46
                                              replace q46 := eq_true q46; (try (have qs46 := q46; simp only [ByteArray.size_append, ByteArray.size_extract, Nat.min_self, Xsize_mk, List.size_toArray, List.length_cons, List.length_nil, Nat.zero_add, Nat.reduceAdd, List.length_append, List.length_drop, List.length_take] at qs46))
                                              go_wp2_with (first | ((with_reducible refine gate_callee (f := 25) rfl ?_); refine goesL_ (some 98) rfl rfl Tryd.func25 (by kernel_rfl) rfl #[.int .u8 (bt x8_25 x9_6)] rfl (by (try simp only [List.map_toArray, List.map_cons, List.map_nil]); first | done | rfl | (simp only [List.length_drop, List.length_take]; rfl)) ?_; (with_reducible refine (bulletinref17_itself.calls (bt x8_25 x9_6) false _ A47.out).mono ?_); rintro e w' ⟨rfl, ⟨nd, rfl⟩⟩; refine ⟨_, rfl, ?_⟩; have p53 : 0 ≤ (x9_6 : Int) := of_decide_eq_true (by first | (with_reducible assumption) | assumption); have q53 : x9_6 < (x8_25.size : Int) := of_decide_eq_true (by first | (with_reducible assumption) | assumption); have hx53 := bt_at x8_25 x9_6; replace p53 := eq_true p53; replace q53 := eq_true q53; (try (have qs53 := q53; simp only [ByteArray.size_append, ByteArray.size_extract, Nat.min_self, Xsize_mk, List.size_toArray, List.length_cons, List.length_nil, Nat.zero_add, Nat.reduceAdd, List.length_append, List.length_drop, List.length_take] at qs53))) | (go_at_call 24; (with_reducible refine (bulletinref17_blank.calls (bt x8_25 x9_6) true _ A54.out).mono ?_); rintro e w' ⟨rfl, ⟨nd, rfl⟩⟩))
                                              go_roundg k6
                                              case measure => have := HK1.out; have := HJ5.out; have := HJ16.out; have := HJ19.out; have := HJ25.out; have := HK6.out; omega
                                              case rel => exact ⟨(x5_6 ++ (x8_25.extract (x9_6 : Int).toNat ((wrap64 (x9_6 + 1)) : Int).toNat)), (wrap64 (x9_6 + 1)), (by first | rfl | (simp; done) | (simp [*]; done) | (simp [IntKind.wrap_u8, IntKind.wrap_i64, wrap64]; done)), (by first | rfl | (simp; done) | (simp [*]; done) | (simp [IntKind.wrap_u8, IntKind.wrap_i64, wrap64]; done)), H', ⟨by have := HK1.out; have := HJ5.out; have := HJ16.out; have := HJ19.out; have := HJ25.out; have := HK6.out; omega⟩, ⟨by (with_reducible repeat (first | apply Kd.R_alloc | apply Kd.R_drewN | apply Kd.R_drew)); exact HO_4.out⟩, ⟨by repeat (first | (with_reducible first | exact HB.out | apply below_alloc | apply pw_below_drewN | apply below_drew1) | exact HB.out)⟩⟩
                                            · rw [if_neg c59] at H
                                              exact absurd H (by simp)
                                          · rw [if_neg c58] at H
                                            exact absurd H (by simp)
                                        · rw [if_neg c57] at H
                                          exact absurd H (by simp)
                                      · replace c55 := Bool.eq_false_iff.mpr c55
                                        subst c55
                                        have H1 : (some ((⟨#[]⟩ : ByteArray), 3)) = some (r1, r2) := by rw [if_neg (show ¬ (false = true) by decide)] at H; exact H
                                        clear H
                                        have H := H1
                                        clear H1
                                        simp only [Option.some.injEq, Prod.mk.injEq] at H
                                        obtain ⟨rfl, rfl⟩ := H
                                        have p33 : 0 ≤ (x9_6 : Int) := of_decide_eq_true (by first | (with_reducible assumption) | assumption)
                                        have q33 : x9_6 < (x8_25.size : Int) := of_decide_eq_true (by first | (with_reducible assumption) | assumption)
                                        have hx33 := bt_at x8_25 x9_6
                                        replace p33 := eq_true p33
                                        replace q33 := eq_true q33; (try (have qs33 := q33; simp only [ByteArray.size_append, ByteArray.size_extract, Nat.min_self, Xsize_mk, List.size_toArray, List.length_cons, List.length_nil, Nat.zero_add, Nat.reduceAdd, List.length_append, List.length_drop, List.length_take] at qs33))
                                        have p46 : 0 ≤ (x9_6 : Int) := of_decide_eq_true (by first | (with_reducible assumption) | assumption)
                                        have q46 : x9_6 < (x8_25.size : Int) := of_decide_eq_true (by first | (with_reducible assumption) | assumption)
                                        have hx46 := bt_at x8_25 x9_6
                                        replace p46 := eq_true p46
                                        replace q46 := eq_true q46; (try (have qs46 := q46; simp only [ByteArray.size_append, ByteArray.size_extract, Nat.min_self, Xsize_mk, List.size_toArray, List.length_cons, List.length_nil, Nat.zero_add, Nat.reduceAdd, List.length_append, List.length_drop, List.length_take] at qs46))
                                        go_wp2_with (first | ((with_reducible refine gate_callee (f := 25) rfl ?_); refine goesL_ (some 98) rfl rfl Tryd.func25 (by kernel_rfl) rfl #[.int .u8 (bt x8_25 x9_6)] rfl (by (try simp only [List.map_toArray, List.map_cons, List.map_nil]); first | done | rfl | (simp only [List.length_drop, List.length_take]; rfl)) ?_; (with_reducible refine (bulletinref17_itself.calls (bt x8_25 x9_6) false _ A47.out).mono ?_); rintro e w' ⟨rfl, ⟨nd, rfl⟩⟩; refine ⟨_, rfl, ?_⟩; have p53 : 0 ≤ (x9_6 : Int) := of_decide_eq_true (by first | (with_reducible assumption) | assumption); have q53 : x9_6 < (x8_25.size : Int) := of_decide_eq_true (by first | (with_reducible assumption) | assumption); have hx53 := bt_at x8_25 x9_6; replace p53 := eq_true p53; replace q53 := eq_true q53; (try (have qs53 := q53; simp only [ByteArray.size_append, ByteArray.size_extract, Nat.min_self, Xsize_mk, List.size_toArray, List.length_cons, List.length_nil, Nat.zero_add, Nat.reduceAdd, List.length_append, List.length_drop, List.length_take] at qs53))) | (go_at_call 24; (with_reducible refine (bulletinref17_blank.calls (bt x8_25 x9_6) false _ A54.out).mono ?_); rintro e w' ⟨rfl, ⟨nd, rfl⟩⟩))
                                        go_ret2
                                        exact ⟨by first | rfl | (simp [errW_none, errW_some] <;> rfl) | (simp [*, errW_none, errW_some] <;> rfl), by repeat (first | (with_reducible first | exact HB.out | apply below_alloc | apply pw_below_drewN | apply below_drew1) | exact HB.out)⟩
                                · rw [if_neg c32] at H
                                  exact absurd H (by simp)
                              · rw [if_neg c31] at H
                                have c31b0 : decide (x9_6 < (x8_25.size : Int)) = false := decide_eq_false c31
                                clear c31
                                have H' := Aside0.mk H
                                clear H
                                go_wp2
                                go_roundg k6
                                case measure => have := HK1.out; have := HJ5.out; have := HJ16.out; have := HJ19.out; have := HJ25.out; have := HK6.out; omega
                                case rel => exact ⟨(x5_6), (x6_19), (wrap64 (x7_1 + 1)), (by first | rfl | (simp; done) | (simp [*]; done) | (simp [IntKind.wrap_u8, IntKind.wrap_i64, wrap64]; done)), (by first | rfl | (simp; done) | (simp [*]; done) | (simp [IntKind.wrap_u8, IntKind.wrap_i64, wrap64]; done)), (by first | rfl | (simp; done) | (simp [*]; done) | (simp [IntKind.wrap_u8, IntKind.wrap_i64, wrap64]; done)), H', ⟨by have := HK1.out; have := HJ5.out; have := HJ16.out; have := HJ19.out; have := HJ25.out; have := HK6.out; omega⟩, ⟨by (with_reducible repeat (first | apply Kd.R_alloc | apply Kd.R_drewN | apply Kd.R_drew)); exact HO_4.out⟩, ⟨by repeat (first | (with_reducible first | exact HB.out | apply below_alloc | apply pw_below_drewN | apply below_drew1) | exact HB.out)⟩⟩
        · rw [if_neg c5] at H
          exact absurd H (by simp)
      · rw [if_neg c4] at H
        have c4b0 : decide (x7_1 < (t147.length : Int)) = false := decide_eq_false c4
        clear c4
        simp only [Option.some.injEq, Prod.mk.injEq] at H
        obtain ⟨rfl, rfl⟩ := H
        obtain ⟨Ao60, co60, eo60⟩ := Kd.R_slice HO_4.out
        subst eo60
        go_wp2
        go_ret2
        exact ⟨by first | rfl | (simp [errW_none, errW_some] <;> rfl) | (simp [*, errW_none, errW_some] <;> rfl), by repeat (first | (with_reducible first | exact HB.out | apply below_alloc | apply pw_below_drewN | apply below_drew1) | exact HB.out)⟩

end Go.Proofs.YtaflpmpffppfaaaDoor.X
