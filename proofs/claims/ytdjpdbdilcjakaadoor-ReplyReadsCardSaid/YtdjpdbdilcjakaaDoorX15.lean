-- Written by a program (print.py's text, with contracts of this session's own put in). Not trusted: Lean checks it.
import Derived.Test.YtdjpdbdilcjakaaDoorX0
import Derived.Test.YtdjpdbdilcjakaaDoorX12
import Derived.Test.YtdjpdbdilcjakaaDoorX14
namespace Go.Proofs.YtdjpdbdilcjakaaDoor.X
open Go.RowKit Go.Proofs.YtdjpdbdilcjakaaDoorW.PrintWords Go.Proofs.YtdjpdbdilcjakaaDoorW.PrintLast Go.Proofs.YtdjpdbdilcjakaaDoorW.PrintMore
attribute [local go_sem] max2_int min2_int max_two min_two max_three min_three max_four min_four   -- for this text's walks alone
set_option linter.unusedVariables false
set_option linter.unusedSimpArgs false

/-! ### bulletinref30_Read: function 17 -/
mutual
def bulletinref30_Read.l0 : Nat → List ByteArray → List (S29) → Int → Int → List ByteArray → Option ((List (S29)) × Int)
  | 0, _, _, _, _, _ => none
  | k + 1, x4, x5, x7, x175000, x175001 => if x7 < (wrap64 ((x4.length : Int) - 1)) then (if 0 ≤ x7 then (if x7 < (x4.length : Int) then (bulletinref30_Read.l1 k x4 x5 x7 (rdOf ByteArray.empty x4 x7) 0 0 x175000 x175001) else (none)) else (none)) else (if 0 ≤ (wrap64 ((x4.length : Int) - 1)) then (if (wrap64 ((x4.length : Int) - 1)) < (x4.length : Int) then (if (rdOf ByteArray.empty x4 (wrap64 ((x4.length : Int) - 1))).toList = ([] : List UInt8) then (if (x175001.length : Int) > 0 then (some (([] : List (S29)), 9)) else (some (x5, 0))) else (some (([] : List (S29)), 9))) else (none)) else (none))
def bulletinref30_Read.l1 : Nat → List ByteArray → List (S29) → Int → ByteArray → Int → Int → Int → List ByteArray → Option ((List (S29)) × Int)
  | 0, _, _, _, _, _, _, _, _ => none
  | k + 1, x4, x5, x7, x8, x9, x10, x175000, x175001 => if x10 < (x8.size : Int) then (bulletinref30_Read.j2 k x4 x5 x7 x8 x9 x10 (decide (x10 < 3)) x175000 x175001) else (bulletinref30_Read.j2 k x4 x5 x7 x8 x9 x10 false x175000 x175001)
def bulletinref30_Read.j2 : Nat → List ByteArray → List (S29) → Int → ByteArray → Int → Int → Bool → Int → List ByteArray → Option ((List (S29)) × Int)
  | 0, _, _, _, _, _, _, _, _, _ => none
  | k + 1, x4, x5, x7, x8, x9, x10, x32, x175000, x175001 => if x32 = true then (if 0 ≤ x10 then (if x10 < (x8.size : Int) then (if (bt x8 x10) < 48 then (some (([] : List (S29)), 3)) else (if (bt x8 x10) > 57 then (some (([] : List (S29)), 3)) else (bulletinref30_Read.l1 k x4 x5 x7 x8 (wrap64 ((wrap64 ((wrap64 (10 * x9)) + (wrap64 (bt x8 x10)))) - 48)) (wrap64 (x10 + 1)) x175000 x175001))) else (none)) else (none)) else (if (x8.size : Int) < 4 then (bulletinref30_Read.j3 k x4 x5 x7 x8 x9 true x175000 x175001) else (if 3 < (x8.size : Int) then (if (bt x8 3) = 32 then ((bulletinref30_Coded.f x9).bind fun t177 => (if t177 = true then (if 4 ≤ (x8.size : Int) then ((bulletinref30_Lined.f k (x8.extract 4 x8.size)).bind fun t178 => (bulletinref30_Read.j3 k x4 x5 x7 x8 x9 (!t178) x175000 x175001)) else (none)) else (bulletinref30_Read.j3 k x4 x5 x7 x8 x9 true x175000 x175001))) else (if (bt x8 3) = 45 then ((bulletinref30_Coded.f x9).bind fun t179 => (if t179 = true then (if 4 ≤ (x8.size : Int) then ((bulletinref30_Lined.f k (x8.extract 4 x8.size)).bind fun t180 => (bulletinref30_Read.j3 k x4 x5 x7 x8 x9 (!t180) x175000 x175001)) else (none)) else (bulletinref30_Read.j3 k x4 x5 x7 x8 x9 true x175000 x175001))) else (bulletinref30_Read.j3 k x4 x5 x7 x8 x9 true x175000 x175001))) else (none)))
def bulletinref30_Read.j3 : Nat → List ByteArray → List (S29) → Int → ByteArray → Int → Bool → Int → List ByteArray → Option ((List (S29)) × Int)
  | 0, _, _, _, _, _, _, _, _ => none
  | k + 1, x4, x5, x7, x8, x9, x76, x175000, x175001 => if x76 = true then (some (([] : List (S29)), 3)) else (if (x175001.length : Int) > 0 then (bulletinref30_Read.j4 k x4 x5 x7 x8 x9 (x175000 != x9) x175000 x175001) else (bulletinref30_Read.j4 k x4 x5 x7 x8 x9 false x175000 x175001))
def bulletinref30_Read.j4 : Nat → List ByteArray → List (S29) → Int → ByteArray → Int → Bool → Int → List ByteArray → Option ((List (S29)) × Int)
  | 0, _, _, _, _, _, _, _, _ => none
  | k + 1, x4, x5, x7, x8, x9, x86, x175000, x175001 => if x86 = true then (some (([] : List (S29)), 3)) else (if 4 ≤ (x8.size : Int) then (if x175001.length < 8796093022208 then ((some (x175001 ++ [x8.extract 4 x8.size] : List ByteArray)).bind fun y181 => (if 3 < (x8.size : Int) then (if (bt x8 3) = 32 then (if x5.length < 4398046511104 then (bulletinref30_Read.l0 k x4 (x5 ++ [(⟨x9, y181⟩ : S29)]) (wrap64 (x7 + 1)) 0 ([] : List ByteArray)) else (none)) else (bulletinref30_Read.l0 k x4 x5 (wrap64 (x7 + 1)) x9 y181)) else (none))) else (none)) else (none))
end
def bulletinref30_Read.f (k : Nat) (a0 : ByteArray) : Option ((List (S29)) × Int) := (bulletinref17_Lines.f k a0).bind fun t171 => (bulletinref30_Read.l0 k t171 ([] : List (S29)) 0 0 ([] : List ByteArray))
theorem bulletinref30_Read.mono_l : ∀ k, (∀ y0 y1 y2 y3 y4, LeO (bulletinref30_Read.l0 k y0 y1 y2 y3 y4) (bulletinref30_Read.l0 (k + 1) y0 y1 y2 y3 y4)) ∧ (∀ y0 y1 y2 y3 y4 y5 y6 y7, LeO (bulletinref30_Read.l1 k y0 y1 y2 y3 y4 y5 y6 y7) (bulletinref30_Read.l1 (k + 1) y0 y1 y2 y3 y4 y5 y6 y7)) ∧ (∀ y0 y1 y2 y3 y4 y5 y6 y7 y8, LeO (bulletinref30_Read.j2 k y0 y1 y2 y3 y4 y5 y6 y7 y8) (bulletinref30_Read.j2 (k + 1) y0 y1 y2 y3 y4 y5 y6 y7 y8)) ∧ (∀ y0 y1 y2 y3 y4 y5 y6 y7, LeO (bulletinref30_Read.j3 k y0 y1 y2 y3 y4 y5 y6 y7) (bulletinref30_Read.j3 (k + 1) y0 y1 y2 y3 y4 y5 y6 y7)) ∧ (∀ y0 y1 y2 y3 y4 y5 y6 y7, LeO (bulletinref30_Read.j4 k y0 y1 y2 y3 y4 y5 y6 y7) (bulletinref30_Read.j4 (k + 1) y0 y1 y2 y3 y4 y5 y6 y7))
  | 0 => ⟨fun _ _ _ _ _ r h => by simp [bulletinref30_Read.l0] at h, fun _ _ _ _ _ _ _ _ r h => by simp [bulletinref30_Read.l1] at h, fun _ _ _ _ _ _ _ _ _ r h => by simp [bulletinref30_Read.j2] at h, fun _ _ _ _ _ _ _ _ r h => by simp [bulletinref30_Read.j3] at h, fun _ _ _ _ _ _ _ _ r h => by simp [bulletinref30_Read.j4] at h⟩
  | k + 1 => by
    obtain ⟨ih0, ih1, ih2, ih3, ih4⟩ := bulletinref30_Read.mono_l k
    refine ⟨?_, ?_, ?_, ?_, ?_⟩
    · intro y0 y1 y2 y3 y4
      unfold bulletinref30_Read.l0
      repeat' first
      | (with_reducible exact ih0 _ _ _ _ _)
      | (with_reducible exact ih1 _ _ _ _ _ _ _ _)
      | (with_reducible exact ih2 _ _ _ _ _ _ _ _ _)
      | (with_reducible exact ih3 _ _ _ _ _ _ _ _)
      | (with_reducible exact ih4 _ _ _ _ _ _ _ _)
      | (with_reducible exact bulletinref17_Lines.mono _ _)
      | (with_reducible exact bulletinref30_Lined.mono _ _)
      | (with_reducible exact LeO.refl _)
      | (with_reducible exact LeO.none _)
      | (with_reducible refine LeO.ite ?_ ?_)
      | (with_reducible refine LeO.bind ?_ (fun _ => ?_))
      | exact ih0 _ _ _ _ _
      | exact ih1 _ _ _ _ _ _ _ _
      | exact ih2 _ _ _ _ _ _ _ _ _
      | exact ih3 _ _ _ _ _ _ _ _
      | exact ih4 _ _ _ _ _ _ _ _
      | exact bulletinref17_Lines.mono _ _
      | exact bulletinref30_Lined.mono _ _
      | exact LeO.none _
      | refine LeO.ite ?_ ?_
      | refine LeO.bind ?_ (fun _ => ?_)
    · intro y0 y1 y2 y3 y4 y5 y6 y7
      unfold bulletinref30_Read.l1
      repeat' first
      | (with_reducible exact ih0 _ _ _ _ _)
      | (with_reducible exact ih1 _ _ _ _ _ _ _ _)
      | (with_reducible exact ih2 _ _ _ _ _ _ _ _ _)
      | (with_reducible exact ih3 _ _ _ _ _ _ _ _)
      | (with_reducible exact ih4 _ _ _ _ _ _ _ _)
      | (with_reducible exact bulletinref17_Lines.mono _ _)
      | (with_reducible exact bulletinref30_Lined.mono _ _)
      | (with_reducible exact LeO.refl _)
      | (with_reducible exact LeO.none _)
      | (with_reducible refine LeO.ite ?_ ?_)
      | (with_reducible refine LeO.bind ?_ (fun _ => ?_))
      | exact ih0 _ _ _ _ _
      | exact ih1 _ _ _ _ _ _ _ _
      | exact ih2 _ _ _ _ _ _ _ _ _
      | exact ih3 _ _ _ _ _ _ _ _
      | exact ih4 _ _ _ _ _ _ _ _
      | exact bulletinref17_Lines.mono _ _
      | exact bulletinref30_Lined.mono _ _
      | exact LeO.none _
      | refine LeO.ite ?_ ?_
      | refine LeO.bind ?_ (fun _ => ?_)
    · intro y0 y1 y2 y3 y4 y5 y6 y7 y8
      unfold bulletinref30_Read.j2
      repeat' first
      | (with_reducible exact ih0 _ _ _ _ _)
      | (with_reducible exact ih1 _ _ _ _ _ _ _ _)
      | (with_reducible exact ih2 _ _ _ _ _ _ _ _ _)
      | (with_reducible exact ih3 _ _ _ _ _ _ _ _)
      | (with_reducible exact ih4 _ _ _ _ _ _ _ _)
      | (with_reducible exact bulletinref17_Lines.mono _ _)
      | (with_reducible exact bulletinref30_Lined.mono _ _)
      | (with_reducible exact LeO.refl _)
      | (with_reducible exact LeO.none _)
      | (with_reducible refine LeO.ite ?_ ?_)
      | (with_reducible refine LeO.bind ?_ (fun _ => ?_))
      | exact ih0 _ _ _ _ _
      | exact ih1 _ _ _ _ _ _ _ _
      | exact ih2 _ _ _ _ _ _ _ _ _
      | exact ih3 _ _ _ _ _ _ _ _
      | exact ih4 _ _ _ _ _ _ _ _
      | exact bulletinref17_Lines.mono _ _
      | exact bulletinref30_Lined.mono _ _
      | exact LeO.none _
      | refine LeO.ite ?_ ?_
      | refine LeO.bind ?_ (fun _ => ?_)
    · intro y0 y1 y2 y3 y4 y5 y6 y7
      unfold bulletinref30_Read.j3
      repeat' first
      | (with_reducible exact ih0 _ _ _ _ _)
      | (with_reducible exact ih1 _ _ _ _ _ _ _ _)
      | (with_reducible exact ih2 _ _ _ _ _ _ _ _ _)
      | (with_reducible exact ih3 _ _ _ _ _ _ _ _)
      | (with_reducible exact ih4 _ _ _ _ _ _ _ _)
      | (with_reducible exact bulletinref17_Lines.mono _ _)
      | (with_reducible exact bulletinref30_Lined.mono _ _)
      | (with_reducible exact LeO.refl _)
      | (with_reducible exact LeO.none _)
      | (with_reducible refine LeO.ite ?_ ?_)
      | (with_reducible refine LeO.bind ?_ (fun _ => ?_))
      | exact ih0 _ _ _ _ _
      | exact ih1 _ _ _ _ _ _ _ _
      | exact ih2 _ _ _ _ _ _ _ _ _
      | exact ih3 _ _ _ _ _ _ _ _
      | exact ih4 _ _ _ _ _ _ _ _
      | exact bulletinref17_Lines.mono _ _
      | exact bulletinref30_Lined.mono _ _
      | exact LeO.none _
      | refine LeO.ite ?_ ?_
      | refine LeO.bind ?_ (fun _ => ?_)
    · intro y0 y1 y2 y3 y4 y5 y6 y7
      unfold bulletinref30_Read.j4
      repeat' first
      | (with_reducible exact ih0 _ _ _ _ _)
      | (with_reducible exact ih1 _ _ _ _ _ _ _ _)
      | (with_reducible exact ih2 _ _ _ _ _ _ _ _ _)
      | (with_reducible exact ih3 _ _ _ _ _ _ _ _)
      | (with_reducible exact ih4 _ _ _ _ _ _ _ _)
      | (with_reducible exact bulletinref17_Lines.mono _ _)
      | (with_reducible exact bulletinref30_Lined.mono _ _)
      | (with_reducible exact LeO.refl _)
      | (with_reducible exact LeO.none _)
      | (with_reducible refine LeO.ite ?_ ?_)
      | (with_reducible refine LeO.bind ?_ (fun _ => ?_))
      | exact ih0 _ _ _ _ _
      | exact ih1 _ _ _ _ _ _ _ _
      | exact ih2 _ _ _ _ _ _ _ _ _
      | exact ih3 _ _ _ _ _ _ _ _
      | exact ih4 _ _ _ _ _ _ _ _
      | exact bulletinref17_Lines.mono _ _
      | exact bulletinref30_Lined.mono _ _
      | exact LeO.none _
      | refine LeO.ite ?_ ?_
      | refine LeO.bind ?_ (fun _ => ?_)
theorem bulletinref30_Read.mono : ∀ a0 k, LeO (bulletinref30_Read.f k a0) (bulletinref30_Read.f (k + 1) a0) := by
  intro a0 k
  obtain ⟨ih0, ih1, ih2, ih3, ih4⟩ := bulletinref30_Read.mono_l k
  unfold bulletinref30_Read.f
  repeat' first
      | (with_reducible exact ih0 _ _ _ _ _)
      | (with_reducible exact ih1 _ _ _ _ _ _ _ _)
      | (with_reducible exact ih2 _ _ _ _ _ _ _ _ _)
      | (with_reducible exact ih3 _ _ _ _ _ _ _ _)
      | (with_reducible exact ih4 _ _ _ _ _ _ _ _)
      | (with_reducible exact bulletinref17_Lines.mono _ _)
      | (with_reducible exact bulletinref30_Lined.mono _ _)
      | (with_reducible exact LeO.refl _)
      | (with_reducible exact LeO.none _)
      | (with_reducible refine LeO.ite ?_ ?_)
      | (with_reducible refine LeO.bind ?_ (fun _ => ?_))
      | exact ih0 _ _ _ _ _
      | exact ih1 _ _ _ _ _ _ _ _
      | exact ih2 _ _ _ _ _ _ _ _ _
      | exact ih3 _ _ _ _ _ _ _ _
      | exact ih4 _ _ _ _ _ _ _ _
      | exact bulletinref17_Lines.mono _ _
      | exact bulletinref30_Lined.mono _ _
      | exact LeO.none _
      | refine LeO.ite ?_ ?_
      | refine LeO.bind ?_ (fun _ => ?_)
def bulletinref30_Read.T20 : Bool × List (List Nat × List Nat) := (true, [([], []), ([0], [0]), ([], []), ([2], [2]), ([3], [3]), ([1, 4], [1, 4]), ([0, 1, 2, 3, 4, 5], []), ([6, 5, 5, 0, 1, 2, 3, 4, 5], [5, 6])])
def bulletinref30_Read.B20 : List Nat := [0, 1, 0, 4, 12, 31, 63, 127]
theorem bulletinref30_Read.tab20 : rtab .any (opsOf Tryd.f17 20) = bulletinref30_Read.T20 := by kernel_rfl
theorem bulletinref30_Read.bits20 : waitsOk bulletinref30_Read.T20.2 bulletinref30_Read.B20 = true := by kernel_rfl
set_option maxHeartbeats 8000000 in
set_option maxRecDepth 100000 in
theorem bulletinref30_Read.calls (k : Nat) (a0 : ByteArray) (r1 : List (S29)) (r2 : Int) (w : World) (h : bulletinref30_Read.f k a0 = some (r1, r2)) :
    Calls Tryd.prog 17 #[.string a0] w fun e w' => ∃ v0_ : Value, e = .returned (.tuple #[v0_, .int .i64 r2]) ∧ Kd.S k29 29 w' w.heap.size (fun _ => True) v0_ r1 ∧ Below w.heap.size w w' := by
  have hu29 := Tryd.underlying29
  have HB := Aside0.mk (Below.refl w.heap.size w)
  have H : ((bulletinref17_Lines.f k a0).bind fun t171 => (bulletinref30_Read.l0 k t171 ([] : List (S29)) 0 0 ([] : List ByteArray))) = some (r1, r2) := h
  clear h
  replace H := Option.bind_eq_some_iff.mp H
  obtain ⟨t171, A20, H⟩ := H
  replace H : (bulletinref30_Read.l0 k t171 ([] : List (S29)) 0 0 ([] : List ByteArray)) = some (r1, r2) := H
  have A2 := Aside0.mk A20
  clear A20
  have H' := Aside0.mk H
  clear H
  go_enter Tryd.func17, Tryd.ntmps17
  go_wp2_with (first | ((with_reducible refine gate_callee (f := 36) rfl ?_); refine goesL_ (some 12) rfl rfl Tryd.func36 (by kernel_rfl) rfl #[.string a0] rfl (by (try simp only [List.map_toArray, List.map_cons, List.map_nil]); first | done | rfl | (simp only [List.length_drop, List.length_take]; rfl)) ?_; (with_reducible refine (bulletinref17_Lines.calls k a0 t171 _ A2.out).mono ?_); rintro e w3 ⟨v172, rfl, ho0, hb⟩; refine ⟨_, rfl, ?_⟩; have n0_ := Aside0.mk (Kd.R_lower ho0 (below_size (by repeat (first | (with_reducible first | exact HB.out | apply below_alloc | apply pw_below_drewN | apply below_drew1) | exact HB.out)))); have n1_ := Aside0.mk (below_step (by repeat (first | (with_reducible first | exact HB.out | apply below_alloc | apply pw_below_drewN | apply below_drew1) | exact HB.out)) hb); clear HB; have HO173 := n0_; have HB := n1_; clear n0_ n1_; (try clear hb); (try clear hb2); (try clear hk); (try clear hi); (try clear ho0)) | ((with_reducible refine gate_dst (N := 6) rfl ?_); (try (refine gate_guard (by rfl) ?_; dsimp only)); refine box_event ?hg (N := 6) ?hd (cs := #[.int .i64 0, .slice none 0 0]) (t := 29) ?hr ?_; (case hd => rfl); (case hg => rfl); (case hr => first | (go_simp; done) | (go_simp; rfl)); intro gb174 hg w4 hbox hb; have n0_ := Aside0.mk (Kd.R_below (by (with_reducible repeat (first | apply Kd.R_alloc | apply Kd.R_drewN | apply Kd.R_drew)); exact HO173.out) hb); have n1_ := Aside0.mk (below_step (by repeat (first | (with_reducible first | exact HB.out | apply below_alloc | apply pw_below_drewN | apply below_drew1) | exact HB.out)) hb); have n2_ := Aside0.mk (hbox); have n3_ := Aside0.mk ((by rw [hg]; exact (below_size (by repeat (first | (with_reducible first | exact HB.out | apply below_alloc | apply pw_below_drewN | apply below_drew1) | exact HB.out))) : w.heap.size ≤ gb174)); have n4_ := Aside0.mk ((by rw [hg]; exact (below_size (by repeat (first | (with_reducible first | exact HB.out | apply below_alloc | apply pw_below_drewN | apply below_drew1) | exact HB.out))) : w.heap.size ≤ gb174)); clear HO173; clear HB; have HO173 := n0_; have HB := n1_; have BK174 := n2_; have GW174 := n3_; have GE174 := n4_; clear n0_ n1_ n2_ n3_ n4_; clear hb hbox hg; have hcz5_0 : w4.cell? ⟨gb174, 0, none⟩ = some (.int .i64 0) := (blk_cell BK174.out 0).trans rfl; have hcz5_1 : w4.cell? ⟨gb174, 1, none⟩ = some (.slice none 0 0) := (blk_cell BK174.out 1).trans rfl; have hfz5_0 := blk_frozen BK174.out 0; have hfz5_1 := blk_frozen BK174.out 1))
  go_loopg [5, 7] k (fun kq v5 v7 w' => ∃ (x5_1 : List (S29)) (x7_1 : Int) (x175000_1 : Int) (x175001_1 : List ByteArray) (u175001 : Value), v7 = .int .i64 x7_1 ∧ Aside0 (bulletinref30_Read.l0 kq t171 x5_1 x7_1 x175000_1 x175001_1 = some (r1, r2)) ∧ Aside0 (kq ≤ k) ∧ Aside0 (Kd.R Kd.string 9 w' w.heap.size (fun k_ => some k_ ≠ (u175001 : Value).ownBlock) v172 t171) ∧ Aside0 (Kd.S k29 29 w' w.heap.size (fun k_ => some k_ ≠ (v172 : Value).ownBlock ∧ some k_ ≠ (u175001 : Value).ownBlock ∧ k_ ≠ gb174) v5 x5_1) ∧ Aside0 (Kd.R Kd.string 9 w' w.heap.size (fun k_ => some k_ ≠ (v172 : Value).ownBlock) u175001 x175001_1) ∧ Aside0 (w'.heap[gb174]? = some (.cells #[.int .i64 x175000_1, u175001] 29 (0, 0))) ∧ Aside0 (Below w.heap.size w w'))
  case atStart => exact ⟨(([] : List (S29))), (0), (0), (([] : List ByteArray)), (.slice none 0 0), (by first | rfl | (simp; done) | (simp [*]; done)), H', ⟨Nat.le_refl _⟩, ⟨by (with_reducible repeat (first | apply Kd.R_alloc | apply Kd.R_drewN | apply Kd.R_drew)); exact Kd.R_mono (Kd.R_far (p := ⟨gb174, 1, none⟩) (Kd.R_far (p := ⟨gb174, 0, none⟩) (Kd.R_types HO173.out BK174.out (by decide)) (fun _ hk => hk.2) (.int .i64 0)) (fun _ hk => hk.2) (.slice none 0 0)) (fun _ hk => (by simp [Value.ownBlock]))⟩, ⟨by first | exact Kd.S_nil _ _ _ _ _ | exact Kd.N_nil _ _ _ _ _ | exact Kd.V_nil _ _ _ _ _ | exact Kd.Q_nil _ _ _ _ _ | exact Kd.R_nil _ _ _ _ _⟩, ⟨by first | exact Kd.R_nil _ _ _ _ _ | exact Kd.N_nil _ _ _ _ _ | exact Kd.V_nil _ _ _ _ _ | exact Kd.Q_nil _ _ _ _ _ | exact Kd.S_nil _ _ _ _ _⟩, ⟨by (with_reducible repeat (first | refine blk_drewN ?_ _ | refine blk_drew ?_ | refine blk_alloc ?_ _)); refine blk_put (cs := #[.int .i64 0, .slice none 0 0]) ?_ 1 _ rfl; (with_reducible repeat (first | refine blk_drewN ?_ _ | refine blk_drew ?_ | refine blk_alloc ?_ _)); refine blk_put (cs := #[.int .i64 0, .slice none 0 0]) ?_ 0 _ rfl; (with_reducible repeat (first | refine blk_drewN ?_ _ | refine blk_drew ?_ | refine blk_alloc ?_ _)); exact BK174.out⟩, ⟨by repeat (first | (with_reducible first | exact HB.out | apply below_alloc | apply pw_below_drewN | apply below_drew1 | refine below_set ?_ GE174.out) | exact HB.out)⟩⟩
  case round =>
    clear H'
    try clear c1
    try clear p2
    try clear c3
    try clear hcz5_0
    try clear hcz5_1
    try clear hfz5_0
    try clear hfz5_1
    obtain ⟨x5_1, x7_1, x175000_1, x175001_1, u175001, rfl, HA, HK1, HO_4, HO_5, HO_175001, BK174, HB⟩ := hrel
    cases gk with
    | zero => exact absurd HA.out (by simp [bulletinref30_Read.l0])
    | succ k1 =>
      have H := HA.out
      clear HA
      simp only [bulletinref30_Read.l0] at H
      by_cases c6 : x7_1 < (wrap64 ((t171.length : Int) - 1))
      · rw [if_pos c6] at H
        have c6b0 : decide (x7_1 < (wrap64 ((t171.length : Int) - 1))) = true := decide_eq_true c6
        clear c6
        by_cases c7 : 0 ≤ x7_1
        · rw [if_pos c7] at H
          have c7b0 : decide (0 ≤ x7_1) = true := decide_eq_true c7
          clear c7
          by_cases c8 : x7_1 < (t171.length : Int)
          · rw [if_pos c8] at H
            have c8b0 : decide (x7_1 < (t171.length : Int)) = true := decide_eq_true c8
            clear c8
            have H' := Aside0.mk H
            clear H
            obtain ⟨Ao9, co9, eo9⟩ := Kd.R_slice HO_4.out
            subst eo9
            have p176 : 0 ≤ (x7_1 : Int) := of_decide_eq_true (by first | (with_reducible assumption) | assumption)
            have q176 : x7_1 < (t171.length : Int) := of_decide_eq_true (by first | (with_reducible assumption) | assumption)
            obtain ⟨ad176, e176, hx176_0⟩ := Kd.at_string (Kd.R_reads' HO_4.out).2.2 x7_1 p176 q176
            cases e176
            replace p176 := eq_true p176
            replace q176 := eq_true q176; (try (have qs176 := q176; simp only [ByteArray.size_append, ByteArray.size_extract, Nat.min_self, Xsize_mk, List.size_toArray, List.length_cons, List.length_nil, Nat.zero_add, Nat.reduceAdd, List.length_append, List.length_drop, List.length_take] at qs176))
            go_wp2
            go_loopg [9, 10] k1 (fun kq v9 v10 w' => ∃ (x9_2 : Int) (x10_2 : Int), v9 = .int .i64 x9_2 ∧ v10 = .int .i64 x10_2 ∧ Aside0 (bulletinref30_Read.l1 kq t171 x5_1 x7_1 (rdOf ByteArray.empty t171 x7_1) x9_2 x10_2 x175000_1 x175001_1 = some (r1, r2)) ∧ Aside0 (kq ≤ k1) ∧ Aside0 (Kd.R Kd.string 9 w' w.heap.size (fun k_ => some k_ ≠ (u175001 : Value).ownBlock) (.slice (some ad176) t171.length co9) t171) ∧ Aside0 (Kd.S k29 29 w' w.heap.size (fun k_ => some k_ ≠ ((.slice (some ad176) t171.length co9) : Value).ownBlock ∧ some k_ ≠ (u175001 : Value).ownBlock ∧ k_ ≠ gb174) u5 x5_1) ∧ Aside0 (Kd.R Kd.string 9 w' w.heap.size (fun k_ => some k_ ≠ ((.slice (some ad176) t171.length co9) : Value).ownBlock) u175001 x175001_1) ∧ Aside0 (w'.heap[gb174]? = some (.cells #[.int .i64 x175000_1, u175001] 29 (0, 0))) ∧ Aside0 (Below w.heap.size w w'))
            case atStart => exact ⟨(0), (0), (by first | rfl | (simp; done) | (simp [*]; done)), (by first | rfl | (simp; done) | (simp [*]; done)), H', ⟨Nat.le_refl _⟩, ⟨by (with_reducible repeat (first | apply Kd.R_alloc | apply Kd.R_drewN | apply Kd.R_drew)); exact HO_4.out⟩, ⟨by (with_reducible repeat (first | apply Kd.S_alloc | apply Kd.S_drewN | apply Kd.S_drew)); exact HO_5.out⟩, ⟨by (with_reducible repeat (first | apply Kd.R_alloc | apply Kd.R_drewN | apply Kd.R_drew)); exact HO_175001.out⟩, ⟨by (with_reducible repeat (first | refine blk_drewN ?_ _ | refine blk_drew ?_ | refine blk_alloc ?_ _)); exact BK174.out⟩, ⟨by repeat (first | (with_reducible first | exact HB.out | apply below_alloc | apply pw_below_drewN | apply below_drew1 | refine below_set ?_ GE174.out) | exact HB.out)⟩⟩
            case round =>
              clear H'
              try clear c1
              try clear p1
              try clear q1
              try clear hx1
              try clear p2
              try clear c3
              try clear c6
              try clear c6b0
              try clear p6
              try clear c7
              try clear c7b0
              try clear c8
              try clear c8b0
              try clear hcz5_0
              try clear hcz5_1
              try clear hfz5_0
              try clear hfz5_1
              try clear hx176_0
              try clear p176
              try clear p2
              try clear q176
              obtain ⟨x9_2, x10_2, rfl, rfl, HA, HK2, HO_4, HO_5, HO_175001, BK174, HB⟩ := hrel
              cases gk with
              | zero => exact absurd HA.out (by simp [bulletinref30_Read.l1])
              | succ k2 =>
                have H := HA.out
                clear HA
                simp only [bulletinref30_Read.l1] at H
                have HC10 := Aside0.mk H
                clear H
                go_upto_region 10 with (fail)
                go_cut [32] (fun v32 wc => ∃ (kq : Nat) (x32_9 : Bool), v32 = .bool x32_9 ∧ Aside0 (bulletinref30_Read.j2 kq t171 x5_1 x7_1 (rdOf ByteArray.empty t171 x7_1) x9_2 x10_2 x32_9 x175000_1 x175001_1 = some (r1, r2)) ∧ Aside0 (kq ≤ k2) ∧ Aside0 (Kd.R Kd.string 9 wc w.heap.size (fun k_ => some k_ ≠ (u175001 : Value).ownBlock) (.slice (some ad176) t171.length co9) t171) ∧ Aside0 (Kd.S k29 29 wc w.heap.size (fun k_ => some k_ ≠ ((.slice (some ad176) t171.length co9) : Value).ownBlock ∧ some k_ ≠ (u175001 : Value).ownBlock ∧ k_ ≠ gb174) u5 x5_1) ∧ Aside0 (Kd.R Kd.string 9 wc w.heap.size (fun k_ => some k_ ≠ ((.slice (some ad176) t171.length co9) : Value).ownBlock) u175001 x175001_1) ∧ Aside0 (wc.heap[gb174]? = some (.cells #[.int .i64 x175000_1, u175001] 29 (0, 0))) ∧ Aside0 (Below w.heap.size w wc))
                case first =>
                  have H := HC10.out
                  clear HC10
                  by_cases c11 : x10_2 < ((rdOf ByteArray.empty t171 x7_1).size : Int)
                  · rw [if_pos c11] at H
                    have c11b0 : decide (x10_2 < ((rdOf ByteArray.empty t171 x7_1).size : Int)) = true := decide_eq_true c11
                    clear c11
                    (first | rw [c11b0] | (simp only [i64_w, i32_w]; rw [c11b0]) | skip)
                    have H' := Aside0.mk H
                    clear H
                    go_wp2
                    go_meet
                    case rel => exact ⟨_, (decide (x10_2 < 3)), (by first | rfl | (simp; done) | (simp [*]; done)), H', ⟨by have := HK1.out; have := HK2.out; first | omega | exact Nat.le_refl _⟩, ⟨by (with_reducible repeat (first | apply Kd.R_alloc | apply Kd.R_drewN | apply Kd.R_drew)); exact HO_4.out⟩, ⟨by (with_reducible repeat (first | apply Kd.S_alloc | apply Kd.S_drewN | apply Kd.S_drew)); exact HO_5.out⟩, ⟨by (with_reducible repeat (first | apply Kd.R_alloc | apply Kd.R_drewN | apply Kd.R_drew)); exact HO_175001.out⟩, ⟨by (with_reducible repeat (first | refine blk_drewN ?_ _ | refine blk_drew ?_ | refine blk_alloc ?_ _)); exact BK174.out⟩, ⟨by repeat (first | (with_reducible first | exact HB.out | apply below_alloc | apply pw_below_drewN | apply below_drew1 | refine below_set ?_ GE174.out) | exact HB.out)⟩⟩
                  · rw [if_neg c11] at H
                    have c11b0 : decide (x10_2 < ((rdOf ByteArray.empty t171 x7_1).size : Int)) = false := decide_eq_false c11
                    clear c11
                    (first | rw [c11b0] | (simp only [i64_w, i32_w]; rw [c11b0]) | skip)
                    have H' := Aside0.mk H
                    clear H
                    go_wp2
                    go_meet
                    case rel => exact ⟨_, (false), (by first | rfl | (simp; done) | (simp [*]; done)), H', ⟨by have := HK1.out; have := HK2.out; first | omega | exact Nat.le_refl _⟩, ⟨by (with_reducible repeat (first | apply Kd.R_alloc | apply Kd.R_drewN | apply Kd.R_drew)); exact HO_4.out⟩, ⟨by (with_reducible repeat (first | apply Kd.S_alloc | apply Kd.S_drewN | apply Kd.S_drew)); exact HO_5.out⟩, ⟨by (with_reducible repeat (first | apply Kd.R_alloc | apply Kd.R_drewN | apply Kd.R_drew)); exact HO_175001.out⟩, ⟨by (with_reducible repeat (first | refine blk_drewN ?_ _ | refine blk_drew ?_ | refine blk_alloc ?_ _)); exact BK174.out⟩, ⟨by repeat (first | (with_reducible first | exact HB.out | apply below_alloc | apply pw_below_drewN | apply below_drew1 | refine below_set ?_ GE174.out) | exact HB.out)⟩⟩
                case rest =>
                  clear HC10
                  try clear c1
                  try clear p1
                  try clear q1
                  try clear hx1
                  try clear p2
                  try clear c3
                  try clear c6
                  try clear c6b0
                  try clear p6
                  try clear c7
                  try clear c7b0
                  try clear c8
                  try clear c8b0
                  try clear c11
                  try clear c11b0
                  try clear hcz5_0
                  try clear hcz5_1
                  try clear hfz5_0
                  try clear hfz5_1
                  try clear hx176_0
                  try clear p1
                  try clear p176
                  try clear p2
                  try clear p6
                  try clear q1
                  try clear q176
                  obtain ⟨kq, x32_9, rfl, HA, HJ9, HO_4, HO_5, HO_175001, BK174, HB⟩ := hcut
                  cases kq with
                  | zero => exact absurd HA.out (by simp [bulletinref30_Read.j2])
                  | succ kj9 =>
                    have H := HA.out
                    clear HA
                    simp only [bulletinref30_Read.j2] at H
                    by_cases c12 : x32_9 = true
                    · subst c12
                      have H1 : (if 0 ≤ x10_2 then (if x10_2 < ((rdOf ByteArray.empty t171 x7_1).size : Int) then (if (bt (rdOf ByteArray.empty t171 x7_1) x10_2) < 48 then (some (([] : List (S29)), 3)) else (if (bt (rdOf ByteArray.empty t171 x7_1) x10_2) > 57 then (some (([] : List (S29)), 3)) else (bulletinref30_Read.l1 kj9 t171 x5_1 x7_1 (rdOf ByteArray.empty t171 x7_1) (wrap64 ((wrap64 ((wrap64 (10 * x9_2)) + (wrap64 (bt (rdOf ByteArray.empty t171 x7_1) x10_2)))) - 48)) (wrap64 (x10_2 + 1)) x175000_1 x175001_1))) else (none)) else (none)) = some (r1, r2) := by rw [if_pos rfl] at H; exact H
                      clear H
                      have H := H1
                      clear H1
                      by_cases c13 : 0 ≤ x10_2
                      · rw [if_pos c13] at H
                        have c13b0 : decide (0 ≤ x10_2) = true := decide_eq_true c13
                        clear c13
                        by_cases c14 : x10_2 < ((rdOf ByteArray.empty t171 x7_1).size : Int)
                        · rw [if_pos c14] at H
                          have c14b0 : decide (x10_2 < ((rdOf ByteArray.empty t171 x7_1).size : Int)) = true := decide_eq_true c14
                          clear c14
                          by_cases c16 : (bt (rdOf ByteArray.empty t171 x7_1) x10_2) < 48
                          · rw [if_pos c16] at H
                            have c16b0 : decide ((bt (rdOf ByteArray.empty t171 x7_1) x10_2) < 48) = true := decide_eq_true c16
                            clear c16
                            simp only [Option.some.injEq, Prod.mk.injEq] at H
                            obtain ⟨rfl, rfl⟩ := H
                            have p15 : 0 ≤ (x10_2 : Int) := of_decide_eq_true (by first | (with_reducible assumption) | assumption)
                            have q15 : x10_2 < ((rdOf ByteArray.empty t171 x7_1).size : Int) := of_decide_eq_true (by first | (with_reducible assumption) | assumption)
                            have hx15 := bt_at (rdOf ByteArray.empty t171 x7_1) x10_2
                            replace p15 := eq_true p15
                            replace q15 := eq_true q15; (try (have qs15 := q15; simp only [ByteArray.size_append, ByteArray.size_extract, Nat.min_self, Xsize_mk, List.size_toArray, List.length_cons, List.length_nil, Nat.zero_add, Nat.reduceAdd, List.length_append, List.length_drop, List.length_take] at qs15))
                            go_wp2
                            go_ret2
                            exact ⟨_, by first | rfl | (simp [errW_none, errW_some] <;> rfl) | (simp [*, errW_none, errW_some] <;> rfl), by first | exact Kd.S_nil _ _ _ _ _ | exact Kd.N_nil _ _ _ _ _ | exact Kd.V_nil _ _ _ _ _ | exact Kd.Q_nil _ _ _ _ _ | exact Kd.R_nil _ _ _ _ _, by repeat (first | (with_reducible first | exact HB.out | apply below_alloc | apply pw_below_drewN | apply below_drew1 | refine below_set ?_ GE174.out) | exact HB.out)⟩
                          · rw [if_neg c16] at H
                            have c16b0 : decide ((bt (rdOf ByteArray.empty t171 x7_1) x10_2) < 48) = false := decide_eq_false c16
                            clear c16
                            by_cases c18 : (bt (rdOf ByteArray.empty t171 x7_1) x10_2) > 57
                            · rw [if_pos c18] at H
                              have c18b0 : decide (57 < (bt (rdOf ByteArray.empty t171 x7_1) x10_2)) = true := decide_eq_true c18
                              clear c18
                              simp only [Option.some.injEq, Prod.mk.injEq] at H
                              obtain ⟨rfl, rfl⟩ := H
                              have p15 : 0 ≤ (x10_2 : Int) := of_decide_eq_true (by first | (with_reducible assumption) | assumption)
                              have q15 : x10_2 < ((rdOf ByteArray.empty t171 x7_1).size : Int) := of_decide_eq_true (by first | (with_reducible assumption) | assumption)
                              have hx15 := bt_at (rdOf ByteArray.empty t171 x7_1) x10_2
                              replace p15 := eq_true p15
                              replace q15 := eq_true q15; (try (have qs15 := q15; simp only [ByteArray.size_append, ByteArray.size_extract, Nat.min_self, Xsize_mk, List.size_toArray, List.length_cons, List.length_nil, Nat.zero_add, Nat.reduceAdd, List.length_append, List.length_drop, List.length_take] at qs15))
                              have p17 : 0 ≤ (x10_2 : Int) := of_decide_eq_true (by first | (with_reducible assumption) | assumption)
                              have q17 : x10_2 < ((rdOf ByteArray.empty t171 x7_1).size : Int) := of_decide_eq_true (by first | (with_reducible assumption) | assumption)
                              have hx17 := bt_at (rdOf ByteArray.empty t171 x7_1) x10_2
                              replace p17 := eq_true p17
                              replace q17 := eq_true q17; (try (have qs17 := q17; simp only [ByteArray.size_append, ByteArray.size_extract, Nat.min_self, Xsize_mk, List.size_toArray, List.length_cons, List.length_nil, Nat.zero_add, Nat.reduceAdd, List.length_append, List.length_drop, List.length_take] at qs17))
                              go_wp2
                              go_ret2
                              exact ⟨_, by first | rfl | (simp [errW_none, errW_some] <;> rfl) | (simp [*, errW_none, errW_some] <;> rfl), by first | exact Kd.S_nil _ _ _ _ _ | exact Kd.N_nil _ _ _ _ _ | exact Kd.V_nil _ _ _ _ _ | exact Kd.Q_nil _ _ _ _ _ | exact Kd.R_nil _ _ _ _ _, by repeat (first | (with_reducible first | exact HB.out | apply below_alloc | apply pw_below_drewN | apply below_drew1 | refine below_set ?_ GE174.out) | exact HB.out)⟩
                            · rw [if_neg c18] at H
                              have c18b0 : decide (57 < (bt (rdOf ByteArray.empty t171 x7_1) x10_2)) = false := decide_eq_false c18
                              clear c18
                              have H' := Aside0.mk H
                              clear H
                              have p15 : 0 ≤ (x10_2 : Int) := of_decide_eq_true (by first | (with_reducible assumption) | assumption)
                              have q15 : x10_2 < ((rdOf ByteArray.empty t171 x7_1).size : Int) := of_decide_eq_true (by first | (with_reducible assumption) | assumption)
                              have hx15 := bt_at (rdOf ByteArray.empty t171 x7_1) x10_2
                              replace p15 := eq_true p15
                              replace q15 := eq_true q15; (try (have qs15 := q15; simp only [ByteArray.size_append, ByteArray.size_extract, Nat.min_self, Xsize_mk, List.size_toArray, List.length_cons, List.length_nil, Nat.zero_add, Nat.reduceAdd, List.length_append, List.length_drop, List.length_take] at qs15))
                              have p17 : 0 ≤ (x10_2 : Int) := of_decide_eq_true (by first | (with_reducible assumption) | assumption)
                              have q17 : x10_2 < ((rdOf ByteArray.empty t171 x7_1).size : Int) := of_decide_eq_true (by first | (with_reducible assumption) | assumption)
                              have hx17 := bt_at (rdOf ByteArray.empty t171 x7_1) x10_2
                              replace p17 := eq_true p17
                              replace q17 := eq_true q17; (try (have qs17 := q17; simp only [ByteArray.size_append, ByteArray.size_extract, Nat.min_self, Xsize_mk, List.size_toArray, List.length_cons, List.length_nil, Nat.zero_add, Nat.reduceAdd, List.length_append, List.length_drop, List.length_take] at qs17))
                              have p19 : 0 ≤ (x10_2 : Int) := of_decide_eq_true (by first | (with_reducible assumption) | assumption)
                              have q19 : x10_2 < ((rdOf ByteArray.empty t171 x7_1).size : Int) := of_decide_eq_true (by first | (with_reducible assumption) | assumption)
                              have hx19 := bt_at (rdOf ByteArray.empty t171 x7_1) x10_2
                              replace p19 := eq_true p19
                              replace q19 := eq_true q19; (try (have qs19 := q19; simp only [ByteArray.size_append, ByteArray.size_extract, Nat.min_self, Xsize_mk, List.size_toArray, List.length_cons, List.length_nil, Nat.zero_add, Nat.reduceAdd, List.length_append, List.length_drop, List.length_take] at qs19))
                              go_wp2
                              go_roundg kj9
                              case measure => have := HK1.out; have := HK2.out; have := HJ9.out; omega
                              case rel => exact ⟨(wrap64 ((wrap64 ((wrap64 (10 * x9_2)) + (wrap64 (bt (rdOf ByteArray.empty t171 x7_1) x10_2)))) - 48)), (wrap64 (x10_2 + 1)), (by first | rfl | (simp; done) | (simp [*]; done)), (by first | rfl | (simp; done) | (simp [*]; done)), H', ⟨by have := HK1.out; have := HK2.out; have := HJ9.out; omega⟩, ⟨by (with_reducible repeat (first | apply Kd.R_alloc | apply Kd.R_drewN | apply Kd.R_drew)); exact HO_4.out⟩, ⟨by (with_reducible repeat (first | apply Kd.S_alloc | apply Kd.S_drewN | apply Kd.S_drew)); exact HO_5.out⟩, ⟨by (with_reducible repeat (first | apply Kd.R_alloc | apply Kd.R_drewN | apply Kd.R_drew)); exact HO_175001.out⟩, ⟨by (with_reducible repeat (first | refine blk_drewN ?_ _ | refine blk_drew ?_ | refine blk_alloc ?_ _)); exact BK174.out⟩, ⟨by repeat (first | (with_reducible first | exact HB.out | apply below_alloc | apply pw_below_drewN | apply below_drew1 | refine below_set ?_ GE174.out) | exact HB.out)⟩⟩
                        · rw [if_neg c14] at H
                          exact absurd H (by simp)
                      · rw [if_neg c13] at H
                        exact absurd H (by simp)
                    · replace c12 := Bool.eq_false_iff.mpr c12
                      subst c12
                      have H1 : (if ((rdOf ByteArray.empty t171 x7_1).size : Int) < 4 then (bulletinref30_Read.j3 kj9 t171 x5_1 x7_1 (rdOf ByteArray.empty t171 x7_1) x9_2 true x175000_1 x175001_1) else (if 3 < ((rdOf ByteArray.empty t171 x7_1).size : Int) then (if (bt (rdOf ByteArray.empty t171 x7_1) 3) = 32 then ((bulletinref30_Coded.f x9_2).bind fun t177 => (if t177 = true then (if 4 ≤ ((rdOf ByteArray.empty t171 x7_1).size : Int) then ((bulletinref30_Lined.f kj9 ((rdOf ByteArray.empty t171 x7_1).extract 4 (rdOf ByteArray.empty t171 x7_1).size)).bind fun t178 => (bulletinref30_Read.j3 kj9 t171 x5_1 x7_1 (rdOf ByteArray.empty t171 x7_1) x9_2 (!t178) x175000_1 x175001_1)) else (none)) else (bulletinref30_Read.j3 kj9 t171 x5_1 x7_1 (rdOf ByteArray.empty t171 x7_1) x9_2 true x175000_1 x175001_1))) else (if (bt (rdOf ByteArray.empty t171 x7_1) 3) = 45 then ((bulletinref30_Coded.f x9_2).bind fun t179 => (if t179 = true then (if 4 ≤ ((rdOf ByteArray.empty t171 x7_1).size : Int) then ((bulletinref30_Lined.f kj9 ((rdOf ByteArray.empty t171 x7_1).extract 4 (rdOf ByteArray.empty t171 x7_1).size)).bind fun t180 => (bulletinref30_Read.j3 kj9 t171 x5_1 x7_1 (rdOf ByteArray.empty t171 x7_1) x9_2 (!t180) x175000_1 x175001_1)) else (none)) else (bulletinref30_Read.j3 kj9 t171 x5_1 x7_1 (rdOf ByteArray.empty t171 x7_1) x9_2 true x175000_1 x175001_1))) else (bulletinref30_Read.j3 kj9 t171 x5_1 x7_1 (rdOf ByteArray.empty t171 x7_1) x9_2 true x175000_1 x175001_1))) else (none))) = some (r1, r2) := by rw [if_neg (show ¬ (false = true) by decide)] at H; exact H
                      clear H
                      have H := H1
                      clear H1
                      have HC20 := Aside0.mk H
                      clear H
                      go_upto_region 15 with (fail)
                      go_cut [76] (fun v76 wc => ∃ (kq : Nat) (x76_19 : Bool), v76 = .bool x76_19 ∧ Aside0 (bulletinref30_Read.j3 kq t171 x5_1 x7_1 (rdOf ByteArray.empty t171 x7_1) x9_2 x76_19 x175000_1 x175001_1 = some (r1, r2)) ∧ Aside0 (kq ≤ kj9) ∧ Aside0 (Kd.R Kd.string 9 wc w.heap.size (fun k_ => some k_ ≠ (u175001 : Value).ownBlock) (.slice (some ad176) t171.length co9) t171) ∧ Aside0 (Kd.S k29 29 wc w.heap.size (fun k_ => some k_ ≠ ((.slice (some ad176) t171.length co9) : Value).ownBlock ∧ some k_ ≠ (u175001 : Value).ownBlock ∧ k_ ≠ gb174) u5 x5_1) ∧ Aside0 (Kd.R Kd.string 9 wc w.heap.size (fun k_ => some k_ ≠ ((.slice (some ad176) t171.length co9) : Value).ownBlock) u175001 x175001_1) ∧ Aside0 (wc.heap[gb174]? = some (.cells #[.int .i64 x175000_1, u175001] 29 (0, 0))) ∧ Aside0 (Below w.heap.size w wc))
                      case first =>
                        have H := HC20.out
                        clear HC20
                        by_cases c21 : ((rdOf ByteArray.empty t171 x7_1).size : Int) < 4
                        · rw [if_pos c21] at H
                          have c21b0 : decide (((rdOf ByteArray.empty t171 x7_1).size : Int) < 4) = true := decide_eq_true c21
                          have c21b1 : decide ((rdOf ByteArray.empty t171 x7_1).size < 4) = true := decide_eq_true (by omega)
                          clear c21
                          (first | rw [c21b0] | (simp only [i64_w, i32_w]; rw [c21b0]) | skip)
                          have H' := Aside0.mk H
                          clear H
                          go_wp2
                          go_meet
                          case rel => exact ⟨_, (true), (by first | rfl | (simp; done) | (simp [*]; done)), H', ⟨by have := HK1.out; have := HK2.out; have := HJ9.out; first | omega | exact Nat.le_refl _⟩, ⟨by (with_reducible repeat (first | apply Kd.R_alloc | apply Kd.R_drewN | apply Kd.R_drew)); exact HO_4.out⟩, ⟨by (with_reducible repeat (first | apply Kd.S_alloc | apply Kd.S_drewN | apply Kd.S_drew)); exact HO_5.out⟩, ⟨by (with_reducible repeat (first | apply Kd.R_alloc | apply Kd.R_drewN | apply Kd.R_drew)); exact HO_175001.out⟩, ⟨by (with_reducible repeat (first | refine blk_drewN ?_ _ | refine blk_drew ?_ | refine blk_alloc ?_ _)); exact BK174.out⟩, ⟨by repeat (first | (with_reducible first | exact HB.out | apply below_alloc | apply pw_below_drewN | apply below_drew1 | refine below_set ?_ GE174.out) | exact HB.out)⟩⟩
                        · rw [if_neg c21] at H
                          have c21b0 : decide (((rdOf ByteArray.empty t171 x7_1).size : Int) < 4) = false := decide_eq_false c21
                          have c21b1 : decide ((rdOf ByteArray.empty t171 x7_1).size < 4) = false := decide_eq_false (by omega)
                          clear c21
                          (first | rw [c21b0] | (simp only [i64_w, i32_w]; rw [c21b0]) | skip)
                          by_cases c22 : 3 < ((rdOf ByteArray.empty t171 x7_1).size : Int)
                          · rw [if_pos c22] at H
                            have c22b0 : decide (3 < ((rdOf ByteArray.empty t171 x7_1).size : Int)) = true := decide_eq_true c22
                            have c22b1 : decide (3 < (rdOf ByteArray.empty t171 x7_1).size) = true := decide_eq_true (by omega)
                            clear c22
                            by_cases c24 : (bt (rdOf ByteArray.empty t171 x7_1) 3) = 32
                            · rw [if_pos c24] at H
                              have c24b0 : ((bt (rdOf ByteArray.empty t171 x7_1) 3) == 32) = true := beq_iff_eq.mpr c24
                              have c24b1 : ((bt (rdOf ByteArray.empty t171 x7_1) 3) != 32) = false := bne_eq_false_iff_eq.mpr c24
                              clear c24
                              replace H := Option.bind_eq_some_iff.mp H
                              obtain ⟨t177, A250, H⟩ := H
                              replace H : (if t177 = true then (if 4 ≤ ((rdOf ByteArray.empty t171 x7_1).size : Int) then ((bulletinref30_Lined.f kj9 ((rdOf ByteArray.empty t171 x7_1).extract 4 (rdOf ByteArray.empty t171 x7_1).size)).bind fun t178 => (bulletinref30_Read.j3 kj9 t171 x5_1 x7_1 (rdOf ByteArray.empty t171 x7_1) x9_2 (!t178) x175000_1 x175001_1)) else (none)) else (bulletinref30_Read.j3 kj9 t171 x5_1 x7_1 (rdOf ByteArray.empty t171 x7_1) x9_2 true x175000_1 x175001_1)) = some (r1, r2) := H
                              have A25 := Aside0.mk A250
                              clear A250
                              by_cases c26 : t177 = true
                              · subst c26
                                have H1 : (if 4 ≤ ((rdOf ByteArray.empty t171 x7_1).size : Int) then ((bulletinref30_Lined.f kj9 ((rdOf ByteArray.empty t171 x7_1).extract 4 (rdOf ByteArray.empty t171 x7_1).size)).bind fun t178 => (bulletinref30_Read.j3 kj9 t171 x5_1 x7_1 (rdOf ByteArray.empty t171 x7_1) x9_2 (!t178) x175000_1 x175001_1)) else (none)) = some (r1, r2) := by rw [if_pos rfl] at H; exact H
                                clear H
                                have H := H1
                                clear H1
                                by_cases c27 : 4 ≤ ((rdOf ByteArray.empty t171 x7_1).size : Int)
                                · rw [if_pos c27] at H
                                  have c27b0 := eq_true c27
                                  have c27b1 : decide (4 ≤ ((rdOf ByteArray.empty t171 x7_1).size : Int)) = true := decide_eq_true c27
                                  clear c27
                                  replace H := Option.bind_eq_some_iff.mp H
                                  obtain ⟨t178, A280, H⟩ := H
                                  replace H : (bulletinref30_Read.j3 kj9 t171 x5_1 x7_1 (rdOf ByteArray.empty t171 x7_1) x9_2 (!t178) x175000_1 x175001_1) = some (r1, r2) := H
                                  have A28 := Aside0.mk A280
                                  clear A280
                                  have H' := Aside0.mk H
                                  clear H
                                  have p23 : 0 ≤ (3 : Int) := (by omega)
                                  have q23 : 3 < (rdOf ByteArray.empty t171 x7_1).size := (by have : (3 : Int) < ((rdOf ByteArray.empty t171 x7_1).size : Int) := of_decide_eq_true (by first | (with_reducible assumption) | assumption); omega)
                                  have hx23 : ∀ h : 3 < (rdOf ByteArray.empty t171 x7_1).size, (((rdOf ByteArray.empty t171 x7_1)[3]'h).toNat : Int) = bt (rdOf ByteArray.empty t171 x7_1) 3 := bt_at (rdOf ByteArray.empty t171 x7_1) 3
                                  clear p23
                                  have qi23 : (3 < ((rdOf ByteArray.empty t171 x7_1).size : Int)) = True := eq_true (of_decide_eq_true (by first | (with_reducible assumption) | assumption))
                                  replace q23 := eq_true q23; (try (have qs23 := q23; simp only [ByteArray.size_append, ByteArray.size_extract, Nat.min_self, Xsize_mk, List.size_toArray, List.length_cons, List.length_nil, Nat.zero_add, Nat.reduceAdd, List.length_append, List.length_drop, List.length_take] at qs23))
                                  go_wp2_with (first | (go_at_call 33; (with_reducible refine (bulletinref30_Coded.calls x9_2 true _ A25.out).mono ?_); rintro e w' ⟨rfl, ⟨nd, rfl⟩⟩) | (go_at_call 32; (with_reducible refine (bulletinref30_Lined.calls kj9 ((rdOf ByteArray.empty t171 x7_1).extract 4 (rdOf ByteArray.empty t171 x7_1).size) t178 _ A28.out).mono ?_); rintro e w' ⟨rfl, ⟨nd, rfl⟩⟩))
                                  go_meet
                                  case rel => exact ⟨_, (!t178), (by first | rfl | (simp; done) | (simp [*]; done)), H', ⟨by have := HK1.out; have := HK2.out; have := HJ9.out; first | omega | exact Nat.le_refl _⟩, ⟨by (with_reducible repeat (first | apply Kd.R_alloc | apply Kd.R_drewN | apply Kd.R_drew)); exact HO_4.out⟩, ⟨by (with_reducible repeat (first | apply Kd.S_alloc | apply Kd.S_drewN | apply Kd.S_drew)); exact HO_5.out⟩, ⟨by (with_reducible repeat (first | apply Kd.R_alloc | apply Kd.R_drewN | apply Kd.R_drew)); exact HO_175001.out⟩, ⟨by (with_reducible repeat (first | refine blk_drewN ?_ _ | refine blk_drew ?_ | refine blk_alloc ?_ _)); exact BK174.out⟩, ⟨by repeat (first | (with_reducible first | exact HB.out | apply below_alloc | apply pw_below_drewN | apply below_drew1 | refine below_set ?_ GE174.out) | exact HB.out)⟩⟩
                                · rw [if_neg c27] at H
                                  exact absurd H (by simp)
                              · replace c26 := Bool.eq_false_iff.mpr c26
                                subst c26
                                have H1 : (bulletinref30_Read.j3 kj9 t171 x5_1 x7_1 (rdOf ByteArray.empty t171 x7_1) x9_2 true x175000_1 x175001_1) = some (r1, r2) := by rw [if_neg (show ¬ (false = true) by decide)] at H; exact H
                                clear H
                                have H := H1
                                clear H1
                                have H' := Aside0.mk H
                                clear H
                                have p23 : 0 ≤ (3 : Int) := (by omega)
                                have q23 : 3 < (rdOf ByteArray.empty t171 x7_1).size := (by have : (3 : Int) < ((rdOf ByteArray.empty t171 x7_1).size : Int) := of_decide_eq_true (by first | (with_reducible assumption) | assumption); omega)
                                have hx23 : ∀ h : 3 < (rdOf ByteArray.empty t171 x7_1).size, (((rdOf ByteArray.empty t171 x7_1)[3]'h).toNat : Int) = bt (rdOf ByteArray.empty t171 x7_1) 3 := bt_at (rdOf ByteArray.empty t171 x7_1) 3
                                clear p23
                                have qi23 : (3 < ((rdOf ByteArray.empty t171 x7_1).size : Int)) = True := eq_true (of_decide_eq_true (by first | (with_reducible assumption) | assumption))
                                replace q23 := eq_true q23; (try (have qs23 := q23; simp only [ByteArray.size_append, ByteArray.size_extract, Nat.min_self, Xsize_mk, List.size_toArray, List.length_cons, List.length_nil, Nat.zero_add, Nat.reduceAdd, List.length_append, List.length_drop, List.length_take] at qs23))
                                go_wp2_with (first | (go_at_call 33; (with_reducible refine (bulletinref30_Coded.calls x9_2 false _ A25.out).mono ?_); rintro e w' ⟨rfl, ⟨nd, rfl⟩⟩))
                                go_meet
                                case rel => exact ⟨_, (true), (by first | rfl | (simp; done) | (simp [*]; done)), H', ⟨by have := HK1.out; have := HK2.out; have := HJ9.out; first | omega | exact Nat.le_refl _⟩, ⟨by (with_reducible repeat (first | apply Kd.R_alloc | apply Kd.R_drewN | apply Kd.R_drew)); exact HO_4.out⟩, ⟨by (with_reducible repeat (first | apply Kd.S_alloc | apply Kd.S_drewN | apply Kd.S_drew)); exact HO_5.out⟩, ⟨by (with_reducible repeat (first | apply Kd.R_alloc | apply Kd.R_drewN | apply Kd.R_drew)); exact HO_175001.out⟩, ⟨by (with_reducible repeat (first | refine blk_drewN ?_ _ | refine blk_drew ?_ | refine blk_alloc ?_ _)); exact BK174.out⟩, ⟨by repeat (first | (with_reducible first | exact HB.out | apply below_alloc | apply pw_below_drewN | apply below_drew1 | refine below_set ?_ GE174.out) | exact HB.out)⟩⟩
                            · rw [if_neg c24] at H
                              have c24b0 : ((bt (rdOf ByteArray.empty t171 x7_1) 3) == 32) = false := beq_eq_false_iff_ne.mpr c24
                              have c24b1 : ((bt (rdOf ByteArray.empty t171 x7_1) 3) != 32) = true := bne_iff_ne.mpr c24
                              by_cases c30 : (bt (rdOf ByteArray.empty t171 x7_1) 3) = 45
                              · rw [if_pos c30] at H
                                have c30b0 : ((bt (rdOf ByteArray.empty t171 x7_1) 3) == 45) = true := beq_iff_eq.mpr c30
                                have c30b1 : ((bt (rdOf ByteArray.empty t171 x7_1) 3) != 45) = false := bne_eq_false_iff_eq.mpr c30
                                clear c30
                                replace H := Option.bind_eq_some_iff.mp H
                                obtain ⟨t179, A310, H⟩ := H
                                replace H : (if t179 = true then (if 4 ≤ ((rdOf ByteArray.empty t171 x7_1).size : Int) then ((bulletinref30_Lined.f kj9 ((rdOf ByteArray.empty t171 x7_1).extract 4 (rdOf ByteArray.empty t171 x7_1).size)).bind fun t180 => (bulletinref30_Read.j3 kj9 t171 x5_1 x7_1 (rdOf ByteArray.empty t171 x7_1) x9_2 (!t180) x175000_1 x175001_1)) else (none)) else (bulletinref30_Read.j3 kj9 t171 x5_1 x7_1 (rdOf ByteArray.empty t171 x7_1) x9_2 true x175000_1 x175001_1)) = some (r1, r2) := H
                                have A31 := Aside0.mk A310
                                clear A310
                                by_cases c32 : t179 = true
                                · subst c32
                                  have H1 : (if 4 ≤ ((rdOf ByteArray.empty t171 x7_1).size : Int) then ((bulletinref30_Lined.f kj9 ((rdOf ByteArray.empty t171 x7_1).extract 4 (rdOf ByteArray.empty t171 x7_1).size)).bind fun t180 => (bulletinref30_Read.j3 kj9 t171 x5_1 x7_1 (rdOf ByteArray.empty t171 x7_1) x9_2 (!t180) x175000_1 x175001_1)) else (none)) = some (r1, r2) := by rw [if_pos rfl] at H; exact H
                                  clear H
                                  have H := H1
                                  clear H1
                                  by_cases c33 : 4 ≤ ((rdOf ByteArray.empty t171 x7_1).size : Int)
                                  · rw [if_pos c33] at H
                                    have c33b0 := eq_true c33
                                    have c33b1 : decide (4 ≤ ((rdOf ByteArray.empty t171 x7_1).size : Int)) = true := decide_eq_true c33
                                    clear c33
                                    replace H := Option.bind_eq_some_iff.mp H
                                    obtain ⟨t180, A340, H⟩ := H
                                    replace H : (bulletinref30_Read.j3 kj9 t171 x5_1 x7_1 (rdOf ByteArray.empty t171 x7_1) x9_2 (!t180) x175000_1 x175001_1) = some (r1, r2) := H
                                    have A34 := Aside0.mk A340
                                    clear A340
                                    have H' := Aside0.mk H
                                    clear H
                                    have p23 : 0 ≤ (3 : Int) := (by omega)
                                    have q23 : 3 < (rdOf ByteArray.empty t171 x7_1).size := (by have : (3 : Int) < ((rdOf ByteArray.empty t171 x7_1).size : Int) := of_decide_eq_true (by first | (with_reducible assumption) | assumption); omega)
                                    have hx23 : ∀ h : 3 < (rdOf ByteArray.empty t171 x7_1).size, (((rdOf ByteArray.empty t171 x7_1)[3]'h).toNat : Int) = bt (rdOf ByteArray.empty t171 x7_1) 3 := bt_at (rdOf ByteArray.empty t171 x7_1) 3
                                    clear p23
                                    have qi23 : (3 < ((rdOf ByteArray.empty t171 x7_1).size : Int)) = True := eq_true (of_decide_eq_true (by first | (with_reducible assumption) | assumption))
                                    replace q23 := eq_true q23; (try (have qs23 := q23; simp only [ByteArray.size_append, ByteArray.size_extract, Nat.min_self, Xsize_mk, List.size_toArray, List.length_cons, List.length_nil, Nat.zero_add, Nat.reduceAdd, List.length_append, List.length_drop, List.length_take] at qs23))
                                    have p29 : 0 ≤ (3 : Int) := (by omega)
                                    have q29 : 3 < (rdOf ByteArray.empty t171 x7_1).size := (by have : (3 : Int) < ((rdOf ByteArray.empty t171 x7_1).size : Int) := of_decide_eq_true (by first | (with_reducible assumption) | assumption); omega)
                                    have hx29 : ∀ h : 3 < (rdOf ByteArray.empty t171 x7_1).size, (((rdOf ByteArray.empty t171 x7_1)[3]'h).toNat : Int) = bt (rdOf ByteArray.empty t171 x7_1) 3 := bt_at (rdOf ByteArray.empty t171 x7_1) 3
                                    clear p29
                                    have qi29 : (3 < ((rdOf ByteArray.empty t171 x7_1).size : Int)) = True := eq_true (of_decide_eq_true (by first | (with_reducible assumption) | assumption))
                                    replace q29 := eq_true q29; (try (have qs29 := q29; simp only [ByteArray.size_append, ByteArray.size_extract, Nat.min_self, Xsize_mk, List.size_toArray, List.length_cons, List.length_nil, Nat.zero_add, Nat.reduceAdd, List.length_append, List.length_drop, List.length_take] at qs29))
                                    go_wp2_with (first | (go_at_call 33; (with_reducible refine (bulletinref30_Coded.calls x9_2 true _ A31.out).mono ?_); rintro e w' ⟨rfl, ⟨nd, rfl⟩⟩) | (go_at_call 32; (with_reducible refine (bulletinref30_Lined.calls kj9 ((rdOf ByteArray.empty t171 x7_1).extract 4 (rdOf ByteArray.empty t171 x7_1).size) t180 _ A34.out).mono ?_); rintro e w' ⟨rfl, ⟨nd, rfl⟩⟩))
                                    go_meet
                                    case rel => exact ⟨_, (!t180), (by first | rfl | (simp; done) | (simp [*]; done)), H', ⟨by have := HK1.out; have := HK2.out; have := HJ9.out; first | omega | exact Nat.le_refl _⟩, ⟨by (with_reducible repeat (first | apply Kd.R_alloc | apply Kd.R_drewN | apply Kd.R_drew)); exact HO_4.out⟩, ⟨by (with_reducible repeat (first | apply Kd.S_alloc | apply Kd.S_drewN | apply Kd.S_drew)); exact HO_5.out⟩, ⟨by (with_reducible repeat (first | apply Kd.R_alloc | apply Kd.R_drewN | apply Kd.R_drew)); exact HO_175001.out⟩, ⟨by (with_reducible repeat (first | refine blk_drewN ?_ _ | refine blk_drew ?_ | refine blk_alloc ?_ _)); exact BK174.out⟩, ⟨by repeat (first | (with_reducible first | exact HB.out | apply below_alloc | apply pw_below_drewN | apply below_drew1 | refine below_set ?_ GE174.out) | exact HB.out)⟩⟩
                                  · rw [if_neg c33] at H
                                    exact absurd H (by simp)
                                · replace c32 := Bool.eq_false_iff.mpr c32
                                  subst c32
                                  have H1 : (bulletinref30_Read.j3 kj9 t171 x5_1 x7_1 (rdOf ByteArray.empty t171 x7_1) x9_2 true x175000_1 x175001_1) = some (r1, r2) := by rw [if_neg (show ¬ (false = true) by decide)] at H; exact H
                                  clear H
                                  have H := H1
                                  clear H1
                                  have H' := Aside0.mk H
                                  clear H
                                  have p23 : 0 ≤ (3 : Int) := (by omega)
                                  have q23 : 3 < (rdOf ByteArray.empty t171 x7_1).size := (by have : (3 : Int) < ((rdOf ByteArray.empty t171 x7_1).size : Int) := of_decide_eq_true (by first | (with_reducible assumption) | assumption); omega)
                                  have hx23 : ∀ h : 3 < (rdOf ByteArray.empty t171 x7_1).size, (((rdOf ByteArray.empty t171 x7_1)[3]'h).toNat : Int) = bt (rdOf ByteArray.empty t171 x7_1) 3 := bt_at (rdOf ByteArray.empty t171 x7_1) 3
                                  clear p23
                                  have qi23 : (3 < ((rdOf ByteArray.empty t171 x7_1).size : Int)) = True := eq_true (of_decide_eq_true (by first | (with_reducible assumption) | assumption))
                                  replace q23 := eq_true q23; (try (have qs23 := q23; simp only [ByteArray.size_append, ByteArray.size_extract, Nat.min_self, Xsize_mk, List.size_toArray, List.length_cons, List.length_nil, Nat.zero_add, Nat.reduceAdd, List.length_append, List.length_drop, List.length_take] at qs23))
                                  have p29 : 0 ≤ (3 : Int) := (by omega)
                                  have q29 : 3 < (rdOf ByteArray.empty t171 x7_1).size := (by have : (3 : Int) < ((rdOf ByteArray.empty t171 x7_1).size : Int) := of_decide_eq_true (by first | (with_reducible assumption) | assumption); omega)
                                  have hx29 : ∀ h : 3 < (rdOf ByteArray.empty t171 x7_1).size, (((rdOf ByteArray.empty t171 x7_1)[3]'h).toNat : Int) = bt (rdOf ByteArray.empty t171 x7_1) 3 := bt_at (rdOf ByteArray.empty t171 x7_1) 3
                                  clear p29
                                  have qi29 : (3 < ((rdOf ByteArray.empty t171 x7_1).size : Int)) = True := eq_true (of_decide_eq_true (by first | (with_reducible assumption) | assumption))
                                  replace q29 := eq_true q29; (try (have qs29 := q29; simp only [ByteArray.size_append, ByteArray.size_extract, Nat.min_self, Xsize_mk, List.size_toArray, List.length_cons, List.length_nil, Nat.zero_add, Nat.reduceAdd, List.length_append, List.length_drop, List.length_take] at qs29))
                                  go_wp2_with (first | (go_at_call 33; (with_reducible refine (bulletinref30_Coded.calls x9_2 false _ A31.out).mono ?_); rintro e w' ⟨rfl, ⟨nd, rfl⟩⟩))
                                  go_meet
                                  case rel => exact ⟨_, (true), (by first | rfl | (simp; done) | (simp [*]; done)), H', ⟨by have := HK1.out; have := HK2.out; have := HJ9.out; first | omega | exact Nat.le_refl _⟩, ⟨by (with_reducible repeat (first | apply Kd.R_alloc | apply Kd.R_drewN | apply Kd.R_drew)); exact HO_4.out⟩, ⟨by (with_reducible repeat (first | apply Kd.S_alloc | apply Kd.S_drewN | apply Kd.S_drew)); exact HO_5.out⟩, ⟨by (with_reducible repeat (first | apply Kd.R_alloc | apply Kd.R_drewN | apply Kd.R_drew)); exact HO_175001.out⟩, ⟨by (with_reducible repeat (first | refine blk_drewN ?_ _ | refine blk_drew ?_ | refine blk_alloc ?_ _)); exact BK174.out⟩, ⟨by repeat (first | (with_reducible first | exact HB.out | apply below_alloc | apply pw_below_drewN | apply below_drew1 | refine below_set ?_ GE174.out) | exact HB.out)⟩⟩
                              · rw [if_neg c30] at H
                                have c30b0 : ((bt (rdOf ByteArray.empty t171 x7_1) 3) == 45) = false := beq_eq_false_iff_ne.mpr c30
                                have c30b1 : ((bt (rdOf ByteArray.empty t171 x7_1) 3) != 45) = true := bne_iff_ne.mpr c30
                                have H' := Aside0.mk H
                                clear H
                                have p23 : 0 ≤ (3 : Int) := (by omega)
                                have q23 : 3 < (rdOf ByteArray.empty t171 x7_1).size := (by have : (3 : Int) < ((rdOf ByteArray.empty t171 x7_1).size : Int) := of_decide_eq_true (by first | (with_reducible assumption) | assumption); omega)
                                have hx23 : ∀ h : 3 < (rdOf ByteArray.empty t171 x7_1).size, (((rdOf ByteArray.empty t171 x7_1)[3]'h).toNat : Int) = bt (rdOf ByteArray.empty t171 x7_1) 3 := bt_at (rdOf ByteArray.empty t171 x7_1) 3
                                clear p23
                                have qi23 : (3 < ((rdOf ByteArray.empty t171 x7_1).size : Int)) = True := eq_true (of_decide_eq_true (by first | (with_reducible assumption) | assumption))
                                replace q23 := eq_true q23; (try (have qs23 := q23; simp only [ByteArray.size_append, ByteArray.size_extract, Nat.min_self, Xsize_mk, List.size_toArray, List.length_cons, List.length_nil, Nat.zero_add, Nat.reduceAdd, List.length_append, List.length_drop, List.length_take] at qs23))
                                have p29 : 0 ≤ (3 : Int) := (by omega)
                                have q29 : 3 < (rdOf ByteArray.empty t171 x7_1).size := (by have : (3 : Int) < ((rdOf ByteArray.empty t171 x7_1).size : Int) := of_decide_eq_true (by first | (with_reducible assumption) | assumption); omega)
                                have hx29 : ∀ h : 3 < (rdOf ByteArray.empty t171 x7_1).size, (((rdOf ByteArray.empty t171 x7_1)[3]'h).toNat : Int) = bt (rdOf ByteArray.empty t171 x7_1) 3 := bt_at (rdOf ByteArray.empty t171 x7_1) 3
                                clear p29
                                have qi29 : (3 < ((rdOf ByteArray.empty t171 x7_1).size : Int)) = True := eq_true (of_decide_eq_true (by first | (with_reducible assumption) | assumption))
                                replace q29 := eq_true q29; (try (have qs29 := q29; simp only [ByteArray.size_append, ByteArray.size_extract, Nat.min_self, Xsize_mk, List.size_toArray, List.length_cons, List.length_nil, Nat.zero_add, Nat.reduceAdd, List.length_append, List.length_drop, List.length_take] at qs29))
                                go_wp2
                                go_meet
                                case rel => exact ⟨_, (true), (by first | rfl | (simp; done) | (simp [*]; done)), H', ⟨by have := HK1.out; have := HK2.out; have := HJ9.out; first | omega | exact Nat.le_refl _⟩, ⟨by (with_reducible repeat (first | apply Kd.R_alloc | apply Kd.R_drewN | apply Kd.R_drew)); exact HO_4.out⟩, ⟨by (with_reducible repeat (first | apply Kd.S_alloc | apply Kd.S_drewN | apply Kd.S_drew)); exact HO_5.out⟩, ⟨by (with_reducible repeat (first | apply Kd.R_alloc | apply Kd.R_drewN | apply Kd.R_drew)); exact HO_175001.out⟩, ⟨by (with_reducible repeat (first | refine blk_drewN ?_ _ | refine blk_drew ?_ | refine blk_alloc ?_ _)); exact BK174.out⟩, ⟨by repeat (first | (with_reducible first | exact HB.out | apply below_alloc | apply pw_below_drewN | apply below_drew1 | refine below_set ?_ GE174.out) | exact HB.out)⟩⟩
                          · rw [if_neg c22] at H
                            exact absurd H (by simp)
                      case rest =>
                        clear HC20
                        try clear c1
                        try clear p1
                        try clear q1
                        try clear hx1
                        try clear c2
                        try clear p2
                        try clear q2
                        try clear hx2
                        try clear qi2
                        try clear c3
                        try clear c6
                        try clear c6b0
                        try clear p6
                        try clear c7
                        try clear c7b0
                        try clear c8
                        try clear c8b0
                        try clear c11
                        try clear c11b0
                        try clear c12
                        try clear c13
                        try clear c13b0
                        try clear c14
                        try clear c14b0
                        try clear p15
                        try clear q15
                        try clear hx15
                        try clear c16
                        try clear c16b0
                        try clear c17
                        try clear p17
                        try clear q17
                        try clear hx17
                        try clear c18
                        try clear c18b0
                        try clear p19
                        try clear q19
                        try clear hx19
                        try clear c21
                        try clear c21b0
                        try clear c21b1
                        try clear c22
                        try clear c22b0
                        try clear c22b1
                        try clear p23
                        try clear q23
                        try clear hx23
                        try clear qi23
                        try clear c24
                        try clear c24b0
                        try clear c24b1
                        try clear c26
                        try clear c27
                        try clear c27b0
                        try clear c27b1
                        try clear p29
                        try clear q29
                        try clear hx29
                        try clear qi29
                        try clear c30
                        try clear c30b0
                        try clear c30b1
                        try clear c32
                        try clear c33
                        try clear c33b0
                        try clear c33b1
                        try clear hcz5_0
                        try clear hcz5_1
                        try clear hfz5_0
                        try clear hfz5_1
                        try clear hx176_0
                        try clear p1
                        try clear p15
                        try clear p17
                        try clear p176
                        try clear p19
                        try clear p2
                        try clear p23
                        try clear p29
                        try clear p6
                        try clear q1
                        try clear q15
                        try clear q17
                        try clear q176
                        try clear q19
                        try clear q23
                        try clear q29
                        obtain ⟨kq, x76_19, rfl, HA, HJ19, HO_4, HO_5, HO_175001, BK174, HB⟩ := hcut
                        cases kq with
                        | zero => exact absurd HA.out (by simp [bulletinref30_Read.j3])
                        | succ kj19 =>
                          have H := HA.out
                          clear HA
                          simp only [bulletinref30_Read.j3] at H
                          by_cases c35 : x76_19 = true
                          · subst c35
                            have H1 : (some (([] : List (S29)), 3)) = some (r1, r2) := by rw [if_pos rfl] at H; exact H
                            clear H
                            have H := H1
                            clear H1
                            simp only [Option.some.injEq, Prod.mk.injEq] at H
                            obtain ⟨rfl, rfl⟩ := H
                            go_wp2
                            go_ret2
                            exact ⟨_, by first | rfl | (simp [errW_none, errW_some] <;> rfl) | (simp [*, errW_none, errW_some] <;> rfl), by first | exact Kd.S_nil _ _ _ _ _ | exact Kd.N_nil _ _ _ _ _ | exact Kd.V_nil _ _ _ _ _ | exact Kd.Q_nil _ _ _ _ _ | exact Kd.R_nil _ _ _ _ _, by repeat (first | (with_reducible first | exact HB.out | apply below_alloc | apply pw_below_drewN | apply below_drew1 | refine below_set ?_ GE174.out) | exact HB.out)⟩
                          · replace c35 := Bool.eq_false_iff.mpr c35
                            subst c35
                            have H1 : (if (x175001_1.length : Int) > 0 then (bulletinref30_Read.j4 kj19 t171 x5_1 x7_1 (rdOf ByteArray.empty t171 x7_1) x9_2 (x175000_1 != x9_2) x175000_1 x175001_1) else (bulletinref30_Read.j4 kj19 t171 x5_1 x7_1 (rdOf ByteArray.empty t171 x7_1) x9_2 false x175000_1 x175001_1)) = some (r1, r2) := by rw [if_neg (show ¬ (false = true) by decide)] at H; exact H
                            clear H
                            have H := H1
                            clear H1
                            have HC36 := Aside0.mk H
                            clear H
                            go_upto_region 17 with (fail)
                            go_cut [86] (fun v86 wc => ∃ (kq : Nat) (x86_35 : Bool), v86 = .bool x86_35 ∧ Aside0 (bulletinref30_Read.j4 kq t171 x5_1 x7_1 (rdOf ByteArray.empty t171 x7_1) x9_2 x86_35 x175000_1 x175001_1 = some (r1, r2)) ∧ Aside0 (kq ≤ kj19) ∧ Aside0 (Kd.R Kd.string 9 wc w.heap.size (fun k_ => some k_ ≠ (u175001 : Value).ownBlock) (.slice (some ad176) t171.length co9) t171) ∧ Aside0 (Kd.S k29 29 wc w.heap.size (fun k_ => some k_ ≠ ((.slice (some ad176) t171.length co9) : Value).ownBlock ∧ some k_ ≠ (u175001 : Value).ownBlock ∧ k_ ≠ gb174) u5 x5_1) ∧ Aside0 (Kd.R Kd.string 9 wc w.heap.size (fun k_ => some k_ ≠ ((.slice (some ad176) t171.length co9) : Value).ownBlock) u175001 x175001_1) ∧ Aside0 (wc.heap[gb174]? = some (.cells #[.int .i64 x175000_1, u175001] 29 (0, 0))) ∧ Aside0 (Below w.heap.size w wc))
                            case first =>
                              have H := HC36.out
                              clear HC36
                              by_cases c37 : (x175001_1.length : Int) > 0
                              · rw [if_pos c37] at H
                                have c37b0 : decide (0 < (x175001_1.length : Int)) = true := decide_eq_true c37
                                have c37b1 : decide (0 < x175001_1.length) = true := decide_eq_true (by omega)
                                clear c37
                                (first | rw [c37b0] | (simp only [i64_w, i32_w]; rw [c37b0]) | skip)
                                have H' := Aside0.mk H
                                clear H
                                have hcz38_0 : wc.cell? ⟨gb174, 0, none⟩ = some (.int .i64 x175000_1) := (blk_cell BK174.out 0).trans rfl
                                have hcz38_1 : wc.cell? ⟨gb174, 1, none⟩ = some (u175001) := (blk_cell BK174.out 1).trans rfl
                                have hfz38_0 := blk_frozen BK174.out 0
                                have hfz38_1 := blk_frozen BK174.out 1
                                obtain ⟨Ao39, co39, eo39⟩ := Kd.R_slice HO_175001.out
                                subst eo39
                                go_wp2
                                go_meet
                                case rel => exact ⟨_, ((x175000_1 != x9_2)), (by first | rfl | (simp; done) | (simp [*]; done)), H', ⟨by have := HK1.out; have := HK2.out; have := HJ9.out; have := HJ19.out; first | omega | exact Nat.le_refl _⟩, ⟨by (with_reducible repeat (first | apply Kd.R_alloc | apply Kd.R_drewN | apply Kd.R_drew)); exact HO_4.out⟩, ⟨by (with_reducible repeat (first | apply Kd.S_alloc | apply Kd.S_drewN | apply Kd.S_drew)); exact HO_5.out⟩, ⟨by (with_reducible repeat (first | apply Kd.R_alloc | apply Kd.R_drewN | apply Kd.R_drew)); exact HO_175001.out⟩, ⟨by (with_reducible repeat (first | refine blk_drewN ?_ _ | refine blk_drew ?_ | refine blk_alloc ?_ _)); exact BK174.out⟩, ⟨by repeat (first | (with_reducible first | exact HB.out | apply below_alloc | apply pw_below_drewN | apply below_drew1 | refine below_set ?_ GE174.out) | exact HB.out)⟩⟩
                              · rw [if_neg c37] at H
                                have c37b0 : decide (0 < (x175001_1.length : Int)) = false := decide_eq_false c37
                                have c37b1 : decide (0 < x175001_1.length) = false := decide_eq_false (by omega)
                                clear c37
                                (first | rw [c37b0] | (simp only [i64_w, i32_w]; rw [c37b0]) | skip)
                                have H' := Aside0.mk H
                                clear H
                                have hcz40_0 : wc.cell? ⟨gb174, 0, none⟩ = some (.int .i64 x175000_1) := (blk_cell BK174.out 0).trans rfl
                                have hcz40_1 : wc.cell? ⟨gb174, 1, none⟩ = some (u175001) := (blk_cell BK174.out 1).trans rfl
                                have hfz40_0 := blk_frozen BK174.out 0
                                have hfz40_1 := blk_frozen BK174.out 1
                                obtain ⟨Ao41, co41, eo41⟩ := Kd.R_slice HO_175001.out
                                subst eo41
                                go_wp2
                                go_meet
                                case rel => exact ⟨_, (false), (by first | rfl | (simp; done) | (simp [*]; done)), H', ⟨by have := HK1.out; have := HK2.out; have := HJ9.out; have := HJ19.out; first | omega | exact Nat.le_refl _⟩, ⟨by (with_reducible repeat (first | apply Kd.R_alloc | apply Kd.R_drewN | apply Kd.R_drew)); exact HO_4.out⟩, ⟨by (with_reducible repeat (first | apply Kd.S_alloc | apply Kd.S_drewN | apply Kd.S_drew)); exact HO_5.out⟩, ⟨by (with_reducible repeat (first | apply Kd.R_alloc | apply Kd.R_drewN | apply Kd.R_drew)); exact HO_175001.out⟩, ⟨by (with_reducible repeat (first | refine blk_drewN ?_ _ | refine blk_drew ?_ | refine blk_alloc ?_ _)); exact BK174.out⟩, ⟨by repeat (first | (with_reducible first | exact HB.out | apply below_alloc | apply pw_below_drewN | apply below_drew1 | refine below_set ?_ GE174.out) | exact HB.out)⟩⟩
                            case rest =>
                              clear HC36
                              try clear c1
                              try clear p1
                              try clear q1
                              try clear hx1
                              try clear c2
                              try clear p2
                              try clear q2
                              try clear hx2
                              try clear qi2
                              try clear c3
                              try clear c6
                              try clear c6b0
                              try clear p6
                              try clear c7
                              try clear c7b0
                              try clear c8
                              try clear c8b0
                              try clear c11
                              try clear c11b0
                              try clear c12
                              try clear c13
                              try clear c13b0
                              try clear c14
                              try clear c14b0
                              try clear p15
                              try clear q15
                              try clear hx15
                              try clear c16
                              try clear c16b0
                              try clear c17
                              try clear p17
                              try clear q17
                              try clear hx17
                              try clear c18
                              try clear c18b0
                              try clear p19
                              try clear q19
                              try clear hx19
                              try clear c21
                              try clear c21b0
                              try clear c21b1
                              try clear c22
                              try clear c22b0
                              try clear c22b1
                              try clear p23
                              try clear q23
                              try clear hx23
                              try clear qi23
                              try clear c24
                              try clear c24b0
                              try clear c24b1
                              try clear c26
                              try clear c27
                              try clear c27b0
                              try clear c27b1
                              try clear p29
                              try clear q29
                              try clear hx29
                              try clear qi29
                              try clear c30
                              try clear c30b0
                              try clear c30b1
                              try clear c32
                              try clear c33
                              try clear c33b0
                              try clear c33b1
                              try clear c35
                              try clear c36
                              try clear c37
                              try clear c37b0
                              try clear c37b1
                              try clear hcz38_0
                              try clear hcz38_1
                              try clear hcz40_0
                              try clear hcz40_1
                              try clear hcz5_0
                              try clear hcz5_1
                              try clear hfz38_0
                              try clear hfz38_1
                              try clear hfz40_0
                              try clear hfz40_1
                              try clear hfz5_0
                              try clear hfz5_1
                              try clear hx176_0
                              try clear p1
                              try clear p15
                              try clear p17
                              try clear p176
                              try clear p19
                              try clear p2
                              try clear p23
                              try clear p29
                              try clear p6
                              try clear q1
                              try clear q15
                              try clear q17
                              try clear q176
                              try clear q19
                              try clear q2
                              try clear q23
                              try clear q29
                              obtain ⟨kq, x86_35, rfl, HA, HJ35, HO_4, HO_5, HO_175001, BK174, HB⟩ := hcut
                              cases kq with
                              | zero => exact absurd HA.out (by simp [bulletinref30_Read.j4])
                              | succ kj35 =>
                                have H := HA.out
                                clear HA
                                simp only [bulletinref30_Read.j4] at H
                                by_cases c42 : x86_35 = true
                                · subst c42
                                  have H1 : (some (([] : List (S29)), 3)) = some (r1, r2) := by rw [if_pos rfl] at H; exact H
                                  clear H
                                  have H := H1
                                  clear H1
                                  simp only [Option.some.injEq, Prod.mk.injEq] at H
                                  obtain ⟨rfl, rfl⟩ := H
                                  go_wp2
                                  go_ret2
                                  exact ⟨_, by first | rfl | (simp [errW_none, errW_some] <;> rfl) | (simp [*, errW_none, errW_some] <;> rfl), by first | exact Kd.S_nil _ _ _ _ _ | exact Kd.N_nil _ _ _ _ _ | exact Kd.V_nil _ _ _ _ _ | exact Kd.Q_nil _ _ _ _ _ | exact Kd.R_nil _ _ _ _ _, by repeat (first | (with_reducible first | exact HB.out | apply below_alloc | apply pw_below_drewN | apply below_drew1 | refine below_set ?_ GE174.out) | exact HB.out)⟩
                                · replace c42 := Bool.eq_false_iff.mpr c42
                                  subst c42
                                  have H1 : (if 4 ≤ ((rdOf ByteArray.empty t171 x7_1).size : Int) then (if x175001_1.length < 8796093022208 then ((some (x175001_1 ++ [(rdOf ByteArray.empty t171 x7_1).extract 4 (rdOf ByteArray.empty t171 x7_1).size] : List ByteArray)).bind fun y181 => (if 3 < ((rdOf ByteArray.empty t171 x7_1).size : Int) then (if (bt (rdOf ByteArray.empty t171 x7_1) 3) = 32 then (if x5_1.length < 4398046511104 then (bulletinref30_Read.l0 kj35 t171 (x5_1 ++ [(⟨x9_2, y181⟩ : S29)]) (wrap64 (x7_1 + 1)) 0 ([] : List ByteArray)) else (none)) else (bulletinref30_Read.l0 kj35 t171 x5_1 (wrap64 (x7_1 + 1)) x9_2 y181)) else (none))) else (none)) else (none)) = some (r1, r2) := by rw [if_neg (show ¬ (false = true) by decide)] at H; exact H
                                  clear H
                                  have H := H1
                                  clear H1
                                  by_cases c43 : 4 ≤ ((rdOf ByteArray.empty t171 x7_1).size : Int)
                                  · rw [if_pos c43] at H
                                    have c43b0 := eq_true c43
                                    have c43b1 : decide (4 ≤ ((rdOf ByteArray.empty t171 x7_1).size : Int)) = true := decide_eq_true c43
                                    clear c43
                                    by_cases c44 : x175001_1.length < 8796093022208
                                    · rw [if_pos c44] at H
                                      have LMc44 := Aside0.mk c44
                                      clear c44
                                      obtain ⟨y181, hy181⟩ : ∃ y_ : List ByteArray, y_ = (x175001_1 ++ [(rdOf ByteArray.empty t171 x7_1).extract 4 (rdOf ByteArray.empty t171 x7_1).size]) := ⟨_, rfl⟩
                                      replace H : (if 3 < ((rdOf ByteArray.empty t171 x7_1).size : Int) then (if (bt (rdOf ByteArray.empty t171 x7_1) 3) = 32 then (if x5_1.length < 4398046511104 then (bulletinref30_Read.l0 kj35 t171 (x5_1 ++ [(⟨x9_2, y181⟩ : S29)]) (wrap64 (x7_1 + 1)) 0 ([] : List ByteArray)) else (none)) else (bulletinref30_Read.l0 kj35 t171 x5_1 (wrap64 (x7_1 + 1)) x9_2 y181)) else (none)) = some (r1, r2) := by first | (rw [hy181]; with_reducible exact H) | (have H2_ := (Option.bind_some _ _).symm.trans H; rw [hy181]; with_reducible exact H2_) | (have H2_ := (Option.bind_some _ _).symm.trans H; with_reducible exact H2_) | with_reducible exact H | (rw [hy181]; exact H) | exact H
                                      have Ny181 := Aside0.mk hy181
                                      clear hy181
                                      by_cases c45 : 3 < ((rdOf ByteArray.empty t171 x7_1).size : Int)
                                      · rw [if_pos c45] at H
                                        have c45b0 : decide (3 < ((rdOf ByteArray.empty t171 x7_1).size : Int)) = true := decide_eq_true c45
                                        have c45b1 : decide (3 < (rdOf ByteArray.empty t171 x7_1).size) = true := decide_eq_true (by omega)
                                        clear c45
                                        by_cases c47 : (bt (rdOf ByteArray.empty t171 x7_1) 3) = 32
                                        · rw [if_pos c47] at H
                                          have c47b0 : ((bt (rdOf ByteArray.empty t171 x7_1) 3) == 32) = true := beq_iff_eq.mpr c47
                                          have c47b1 : ((bt (rdOf ByteArray.empty t171 x7_1) 3) != 32) = false := bne_eq_false_iff_eq.mpr c47
                                          clear c47
                                          by_cases c48 : x5_1.length < 4398046511104
                                          · rw [if_pos c48] at H
                                            have LMc48 := Aside0.mk c48
                                            clear c48
                                            obtain ⟨y184, hy184⟩ : ∃ y_ : List (S29), y_ = (x5_1 ++ [(⟨x9_2, y181⟩ : S29)]) := ⟨_, rfl⟩
                                            replace H : (bulletinref30_Read.l0 kj35 t171 y184 (wrap64 (x7_1 + 1)) 0 ([] : List ByteArray)) = some (r1, r2) := by first | (rw [hy184]; with_reducible exact H) | (have H2_ := (Option.bind_some _ _).symm.trans H; rw [hy184]; with_reducible exact H2_) | (have H2_ := (Option.bind_some _ _).symm.trans H; with_reducible exact H2_) | with_reducible exact H | (rw [hy184]; exact H) | exact H
                                            have Ny184 := Aside0.mk hy184
                                            clear hy184
                                            have H' := Aside0.mk H
                                            clear H
                                            have hcz49_0 : wc.cell? ⟨gb174, 0, none⟩ = some (.int .i64 x175000_1) := (blk_cell BK174.out 0).trans rfl
                                            have hcz49_1 : wc.cell? ⟨gb174, 1, none⟩ = some (u175001) := (blk_cell BK174.out 1).trans rfl
                                            have hfz49_0 := blk_frozen BK174.out 0
                                            have hfz49_1 := blk_frozen BK174.out 1
                                            try go_wp2
                                            have n0_ : Aside0 (Kd.R Kd.string 9 (wc.setCell ⟨gb174, 0, none⟩ (.int .i64 x9_2)) w.heap.size (fun k_ => some k_ ≠ (u175001 : Value).ownBlock) (.slice (some ad176) t171.length co9) t171) := ⟨by (with_reducible repeat (first | apply Kd.R_alloc | apply Kd.R_drewN | apply Kd.R_drew)); exact Kd.R_mono (Kd.R_far (p := ⟨gb174, 0, none⟩) (Kd.R_types HO_4.out BK174.out (by decide)) (fun _ hk => hk.2) (.int .i64 x9_2)) (fun _ hk => hk.1)⟩
                                            have n1_ : Aside0 (Kd.S k29 29 (wc.setCell ⟨gb174, 0, none⟩ (.int .i64 x9_2)) w.heap.size (fun k_ => some k_ ≠ (.slice (some ad176) t171.length co9 : Value).ownBlock ∧ some k_ ≠ (u175001 : Value).ownBlock ∧ k_ ≠ gb174) u5 x5_1) := ⟨by (with_reducible repeat (first | apply Kd.S_alloc | apply Kd.S_drewN | apply Kd.S_drew)); exact Kd.S_mono (Kd.S_far (p := ⟨gb174, 0, none⟩) (Kd.S_mono HO_5.out (fun k_ hk => (⟨hk, hk.2.2⟩ : _ ∧ k_ ≠ gb174))) (fun _ hk => hk.2) (.int .i64 x9_2)) (fun _ hk => ⟨hk.1.1, ⟨hk.1.2.1, hk.1.2.2⟩⟩)⟩
                                            have n2_ : Aside0 (Kd.R Kd.string 9 (wc.setCell ⟨gb174, 0, none⟩ (.int .i64 x9_2)) w.heap.size (fun k_ => some k_ ≠ (.slice (some ad176) t171.length co9 : Value).ownBlock) u175001 x175001_1) := ⟨by (with_reducible repeat (first | apply Kd.R_alloc | apply Kd.R_drewN | apply Kd.R_drew)); exact Kd.R_mono (Kd.R_far (p := ⟨gb174, 0, none⟩) (Kd.R_types HO_175001.out BK174.out (by decide)) (fun _ hk => hk.2) (.int .i64 x9_2)) (fun _ hk => hk.1)⟩
                                            have n3_ : Aside0 ((wc.setCell ⟨gb174, 0, none⟩ (.int .i64 x9_2)).heap[gb174]? = some (.cells #[.int .i64 x9_2, u175001] 29 (0, 0))) := ⟨by (with_reducible repeat (first | refine blk_drewN ?_ _ | refine blk_drew ?_ | refine blk_alloc ?_ _)); refine blk_put (cs := #[.int .i64 x175000_1, u175001]) ?_ 0 _ rfl; (with_reducible repeat (first | refine blk_drewN ?_ _ | refine blk_drew ?_ | refine blk_alloc ?_ _)); exact BK174.out⟩
                                            have n4_ : Aside0 (Below w.heap.size w (wc.setCell ⟨gb174, 0, none⟩ (.int .i64 x9_2))) := ⟨by repeat (first | (with_reducible first | exact HB.out | apply below_alloc | apply pw_below_drewN | apply below_drew1 | refine below_set ?_ GE174.out) | exact HB.out)⟩
                                            (try clear HO_4)
                                            (try clear HO_5)
                                            (try clear HO_175001)
                                            (try clear BK174)
                                            (try clear HB)
                                            generalize (wc.setCell ⟨gb174, 0, none⟩ (.int .i64 x9_2)) = w50 at n0_ n1_ n2_ n3_ n4_ ⊢
                                            have HO_4 := n0_
                                            have HO_5 := n1_
                                            have HO_175001 := n2_
                                            have BK174 := n3_
                                            have HB := n4_
                                            clear n0_ n1_ n2_ n3_ n4_
                                            have n0_ := Aside0.mk (Kd.R_drew HO_4.out)
                                            have n1_ := Aside0.mk (Kd.S_drew HO_5.out)
                                            have n2_ := Aside0.mk (Kd.R_drew HO_175001.out)
                                            have n3_ := Aside0.mk (blk_drew BK174.out)
                                            have n4_ := Aside0.mk (below_drew1 HB.out)
                                            clear HO_4
                                            clear HO_5
                                            clear HO_175001
                                            clear BK174
                                            clear HB
                                            have HO_4 := n0_
                                            have HO_5 := n1_
                                            have HO_175001 := n2_
                                            have BK174 := n3_
                                            have HB := n4_
                                            clear n0_ n1_ n2_ n3_ n4_
                                            refine start_ (n := 8) (S := fun w' => w'.cell? ⟨gb174, 0, none⟩ = some (.int .i64 x9_2) ∧ w'.cell? ⟨gb174, 1, none⟩ = some (u175001)) (ds := [7]) #[false, false, false, false, false, false, false, false] (by kernel_rfl) rfl rfl ⟨(blk_cell BK174.out 0).trans rfl, (blk_cell BK174.out 1).trans rfl⟩ (fun hHeld => ?_); refine with_tabW bulletinref30_Read.tab20 bulletinref30_Read.bits20 (fun HT_ HW_ => ?_)
                                            generalize w50.drew = w51 at HO_4 HO_5 HO_175001 BK174 HB hHeld ⊢
                                            refine pure_ (i := 0) (N := some 89) (v := ?_) (a' := ?_) #[true, false, false, false, false, false, false, false] rfl rfl (any_of HT_.out (by kernel_rfl)) (fun _ _ _ h => h) (Or.inl ⟨by rfl, ?_⟩) ?_ ?_
                                            rotate_left
                                            · intro w'
                                              go_simp
                                              with_reducible rfl
                                            rotate_left
                                            · simp only [Act.put, List.setIfInBounds_toArray, List.set_cons_zero, List.set_cons_succ, i64_w, i32_w]
                                              rfl
                                            refine pure_ (i := 2) (N := some 91) (v := ?_) (a' := ?_) #[true, false, true, false, false, false, false, false] rfl rfl (any_of HT_.out (by kernel_rfl)) (fun _ _ _ h => h) (Or.inl ⟨by rfl, ?_⟩) ?_ ?_
                                            rotate_left
                                            · intro w'
                                              go_simp
                                              with_reducible rfl
                                            rotate_left
                                            · simp only [Act.put, List.setIfInBounds_toArray, List.set_cons_zero, List.set_cons_succ, i64_w, i32_w]
                                              rfl
                                            refine pure_ (i := 3) (N := some 92) (v := ?_) (a' := ?_) #[true, false, true, true, false, false, false, false] rfl rfl (any_of HT_.out (by kernel_rfl)) (fun _ _ _ h => h) (Or.inl ⟨by rfl, ?_⟩) ?_ ?_
                                            rotate_left
                                            · intro w'
                                              go_simp
                                              with_reducible rfl
                                            rotate_left
                                            · simp only [Act.put, List.setIfInBounds_toArray, List.set_cons_zero, List.set_cons_succ, i64_w, i32_w]
                                              rfl
                                            refine take_ (i := 1) (N := some 90) (v := ?_) (a' := ?_) #[true, true, true, true, false, false, false, false] rfl rfl (take_ofW HT_.out HW_.out (by kernel_rfl)) (fun _ _ _ h => h) (Or.inl ⟨by rfl, ?_⟩) hHeld ?_ ?_
                                            rotate_left
                                            · rintro w' ⟨s0, s1⟩
                                              go_simp
                                              with_reducible rfl
                                            rotate_left
                                            · simp only [Act.put, List.setIfInBounds_toArray, List.set_cons_zero, List.set_cons_succ, i64_w, i32_w]
                                              rfl
                                            refine one_ (i := 4) (N := some 93) #[true, true, true, true, true, false, false, false] rfl rfl (one_of HT_.out (by kernel_rfl)) (by decide) (fun K hK => ?_)
                                            refine value_ (w1 := ?_) (v := ?_) (by rfl) rfl ?_ ?_
                                            rotate_left 2
                                            · go_simp
                                              constructor
                                              · rfl
                                              · rfl
                                            refine hK.out _ _ ⟨(blk_cell (blk_alloc BK174.out _) 0).trans rfl, (blk_cell (blk_alloc BK174.out _) 1).trans rfl⟩ (fun hHeld => ?_)
                                            clear hK K
                                            refine norm_ (a' := ?_) ?_ ?_
                                            rotate_left
                                            · show Act.put _ (some 93) _ = _
                                              simp only [Act.put, List.setIfInBounds_toArray, List.set_cons_zero, List.set_cons_succ, i64_w, i32_w]
                                              rfl
                                            refine one_ (i := 5) (N := some 94) #[true, true, true, true, true, true, false, false] rfl rfl (one_of HT_.out (by kernel_rfl)) (by decide) (fun K hK => ?_)
                                            refine Kd.R_append_step Kd.string (w0 := w) w.heap.size (by rfl) (.tmp 90) (.tmp 93) 25 9 (.string ⟨#[]⟩) 16 rfl Tryd.underlying25 info9 rfl (by decide) (by omega) u175001 x175001_1 ((rdOf ByteArray.empty t171 x7_1).extract 4 (rdOf ByteArray.empty t171 x7_1).size) [.string ((rdOf ByteArray.empty t171 x7_1).extract 4 (rdOf ByteArray.empty t171 x7_1).size)] (fun k_ => some k_ ≠ (.slice (some ad176) t171.length co9 : Value).ownBlock) (fun _ => False) rfl rfl ?aP (fun _ hk => hk.elim) ?aF ?aO ?aB ?aS ?aL ?_
                                            (case aP => exact rfl)
                                            (case aB => exact (by repeat (first | (with_reducible first | exact HB.out | apply below_alloc | apply pw_below_drewN | apply below_drew1 | refine below_set ?_ GE174.out) | exact HB.out)))
                                            (case aF => exact (fun k_ hk => Kd.fresh' (Kd.R_lt (by (with_reducible repeat (first | apply Kd.R_alloc | apply Kd.R_drewN | apply Kd.R_drew)); exact HO_4.out)) k_ hk))
                                            (case aO => exact (by (with_reducible repeat (first | apply Kd.R_alloc | apply Kd.R_drewN | apply Kd.R_drew)); exact HO_175001.out))
                                            (case aS => exact (below_size (by repeat (first | (with_reducible first | exact HB.out | apply below_alloc | apply pw_below_drewN | apply below_drew1 | refine below_set ?_ GE174.out) | exact HB.out))))
                                            (case aL => have := LMc44.out; omega)
                                            intro v182 w52 ho hb hg hat
                                            rw [← Ny181.out] at ho
                                            have n0_ := Aside0.mk (Kd.R_after (ok := (fun _ => True)) (by (with_reducible repeat (first | apply Kd.R_alloc | apply Kd.R_drewN | apply Kd.R_drew)); exact Kd.R_mono HO_4.out (fun _ hk => ⟨trivial, hk⟩)) hg hat)
                                            have n1_ := Aside0.mk (Kd.S_after (ok := (fun k_ => some k_ ≠ (.slice (some ad176) t171.length co9 : Value).ownBlock ∧ k_ ≠ gb174)) (by (with_reducible repeat (first | apply Kd.S_alloc | apply Kd.S_drewN | apply Kd.S_drew)); exact Kd.S_mono HO_5.out (fun _ hk => ⟨⟨hk.1, hk.2.2⟩, hk.2.1⟩)) hg hat)
                                            have n2_ := Aside0.mk (blk_grown (g := gb174) (o := .cells #[.int .i64 x9_2, u175001] 29 (0, 0)) (by (with_reducible repeat (first | refine blk_drewN ?_ _ | refine blk_drew ?_ | refine blk_alloc ?_ _)); exact BK174.out) hg (Kd.R_ne HO_175001.out BK174.out (by decide)))
                                            have n3_ := Aside0.mk (hb)
                                            have n4_ := Aside0.mk (ho)
                                            clear HO_4
                                            clear HO_5
                                            clear BK174
                                            clear HB
                                            clear HO_175001
                                            have HO_4 := n0_
                                            have HO_5 := n1_
                                            have BK174 := n2_
                                            have HB := n3_
                                            have HO183 := n4_
                                            clear n0_ n1_ n2_ n3_ n4_
                                            clear ho hb hg hat
                                            obtain ⟨Ao53, co53, eo53⟩ := Kd.R_slice HO183.out
                                            (first | subst eo53 | (injection eo53 with f1_ f2_ f3_; have f4_ := f1_.symm; have f5_ := f3_.symm; clear f1_ f2_ f3_; subst f4_; subst f5_))
                                            refine hK.out _ _ ⟨(blk_cell BK174.out 0).trans rfl, (blk_cell BK174.out 1).trans rfl⟩ (fun hHeld => ?_)
                                            clear hK K
                                            refine norm_ (a' := ?_) ?_ ?_
                                            rotate_left
                                            · show Act.put _ (some 94) _ = _
                                              simp only [Act.put, List.setIfInBounds_toArray, List.set_cons_zero, List.set_cons_succ, i64_w, i32_w]
                                              rfl
                                            refine pure_ (i := 6) (N := some 95) (v := ?_) (a' := ?_) #[true, true, true, true, true, true, true, false] rfl rfl (any_of HT_.out (by kernel_rfl)) (fun _ _ _ h => h) (Or.inl ⟨by rfl, ?_⟩) ?_ ?_
                                            rotate_left
                                            · intro w'
                                              go_simp
                                              with_reducible rfl
                                            rotate_left
                                            · simp only [Act.put, List.setIfInBounds_toArray, List.set_cons_zero, List.set_cons_succ, i64_w, i32_w]
                                              rfl
                                            refine last_ (i := 7) (N := none) #[true, true, true, true, true, true, true, true] rfl rfl (one_of HT_.out (by kernel_rfl)) (by decide) (fun K hK => ?_)
                                            have hs54 : w52.cell? ⟨gb174, 1, none⟩ = some (u175001) := (blk_cell BK174.out 1).trans rfl
                                            have hfs54 := blk_frozen BK174.out 1
                                            refine skip_ (w1 := ?_) (by rfl) rfl ?_ ?_
                                            rotate_left
                                            · go_simp
                                              rfl
                                            refine hK.out _ _ ?_
                                            clear hK K
                                            refine done_ (done_of HT_.out (by kernel_rfl)) ?_
                                            have n0_ : Aside0 (Kd.R Kd.string 9 (w52.setCell ⟨gb174, 1, none⟩ (.slice Ao53 y181.length co53)) w.heap.size (fun k_ => some k_ ≠ (.slice Ao53 y181.length co53 : Value).ownBlock) (.slice (some ad176) t171.length co9) t171) := ⟨by (with_reducible repeat (first | apply Kd.R_alloc | apply Kd.R_drewN | apply Kd.R_drew)); exact Kd.R_mono (Kd.R_far (p := ⟨gb174, 1, none⟩) (Kd.R_types HO_4.out BK174.out (by decide)) (fun _ hk => hk.2) (.slice Ao53 y181.length co53)) (fun _ hk => hk.1.2)⟩
                                            have n1_ : Aside0 (Kd.S k29 29 (w52.setCell ⟨gb174, 1, none⟩ (.slice Ao53 y181.length co53)) w.heap.size (fun k_ => some k_ ≠ (.slice (some ad176) t171.length co9 : Value).ownBlock ∧ some k_ ≠ (.slice Ao53 y181.length co53 : Value).ownBlock ∧ k_ ≠ gb174) u5 x5_1) := ⟨by (with_reducible repeat (first | apply Kd.S_alloc | apply Kd.S_drewN | apply Kd.S_drew)); exact Kd.S_mono (Kd.S_far (p := ⟨gb174, 1, none⟩) (Kd.S_mono HO_5.out (fun k_ hk => (⟨hk, hk.1.2⟩ : _ ∧ k_ ≠ gb174))) (fun _ hk => hk.2) (.slice Ao53 y181.length co53)) (fun _ hk => ⟨hk.1.1.1, ⟨hk.1.2, hk.1.1.2⟩⟩)⟩
                                            have n2_ : Aside0 (Kd.R Kd.string 9 (w52.setCell ⟨gb174, 1, none⟩ (.slice Ao53 y181.length co53)) w.heap.size (fun k_ => some k_ ≠ (.slice (some ad176) t171.length co9 : Value).ownBlock) (.slice Ao53 y181.length co53) y181) := ⟨by (with_reducible repeat (first | apply Kd.R_alloc | apply Kd.R_drewN | apply Kd.R_drew)); exact Kd.R_mono (Kd.R_far (p := ⟨gb174, 1, none⟩) (Kd.R_types HO183.out BK174.out (by decide)) (fun _ hk => hk.2) (.slice Ao53 y181.length co53)) (fun _ hk => hk.1)⟩
                                            have n3_ : Aside0 ((w52.setCell ⟨gb174, 1, none⟩ (.slice Ao53 y181.length co53)).heap[gb174]? = some (.cells #[.int .i64 x9_2, .slice Ao53 y181.length co53] 29 (0, 0))) := ⟨by (with_reducible repeat (first | refine blk_drewN ?_ _ | refine blk_drew ?_ | refine blk_alloc ?_ _)); refine blk_put (cs := #[.int .i64 x9_2, u175001]) ?_ 1 _ rfl; (with_reducible repeat (first | refine blk_drewN ?_ _ | refine blk_drew ?_ | refine blk_alloc ?_ _)); exact BK174.out⟩
                                            have n4_ : Aside0 (Below w.heap.size w (w52.setCell ⟨gb174, 1, none⟩ (.slice Ao53 y181.length co53))) := ⟨by repeat (first | (with_reducible first | exact HB.out | apply below_alloc | apply pw_below_drewN | apply below_drew1 | refine below_set ?_ GE174.out) | exact HB.out)⟩
                                            (try clear HO_4)
                                            (try clear HO_5)
                                            (try clear HO183)
                                            (try clear BK174)
                                            (try clear HB)
                                            generalize (w52.setCell ⟨gb174, 1, none⟩ (.slice Ao53 y181.length co53)) = w55 at n0_ n1_ n2_ n3_ n4_ ⊢
                                            have HO_4 := n0_
                                            have HO_5 := n1_
                                            have HO183 := n2_
                                            have BK174 := n3_
                                            have HB := n4_
                                            clear n0_ n1_ n2_ n3_ n4_
                                            have p46 : 0 ≤ (3 : Int) := (by omega)
                                            have q46 : 3 < (rdOf ByteArray.empty t171 x7_1).size := (by have : (3 : Int) < ((rdOf ByteArray.empty t171 x7_1).size : Int) := of_decide_eq_true (by first | (with_reducible assumption) | assumption); omega)
                                            have hx46 : ∀ h : 3 < (rdOf ByteArray.empty t171 x7_1).size, (((rdOf ByteArray.empty t171 x7_1)[3]'h).toNat : Int) = bt (rdOf ByteArray.empty t171 x7_1) 3 := bt_at (rdOf ByteArray.empty t171 x7_1) 3
                                            clear p46
                                            have qi46 : (3 < ((rdOf ByteArray.empty t171 x7_1).size : Int)) = True := eq_true (of_decide_eq_true (by first | (with_reducible assumption) | assumption))
                                            replace q46 := eq_true q46; (try (have qs46 := q46; simp only [ByteArray.size_append, ByteArray.size_extract, Nat.min_self, Xsize_mk, List.size_toArray, List.length_cons, List.length_nil, Nat.zero_add, Nat.reduceAdd, List.length_append, List.length_drop, List.length_take] at qs46))
                                            have hcz56_0 : w55.cell? ⟨gb174, 0, none⟩ = some (.int .i64 x9_2) := (blk_cell BK174.out 0).trans rfl
                                            have hcz56_1 : w55.cell? ⟨gb174, 1, none⟩ = some (.slice Ao53 y181.length co53) := (blk_cell BK174.out 1).trans rfl
                                            have hfz56_0 := blk_frozen BK174.out 0
                                            have hfz56_1 := blk_frozen BK174.out 1
                                            try go_wp2_with (first | ((with_reducible refine gate_builtin (b := .append) (xs := #[.tmp 99, .tmp 101]) rfl ?_); (try (refine gate_guard (by rfl) ?_; dsimp only)); at_builtin; refine Kd.S_append k29 (w0 := w) w.heap.size rfl (.tmp 99) (.tmp 101) 22 29 (.agg #[(.int .i64 0), (.slice none 0 0)]) 32 rfl Tryd.underlying22 info29 rfl (by decide) (by omega) u5 x5_1 (⟨x9_2, y181⟩ : S29) [.int .i64 x9_2, .slice Ao53 y181.length co53] (fun k_ => some k_ ≠ (.slice (some ad176) t171.length co9 : Value).ownBlock ∧ k_ ≠ gb174) (fun k_ => some k_ = (.slice Ao53 y181.length co53 : Value).ownBlock) rfl rfl ?aP (fun k_ hk_ => ((Kd.R_mono (ok' := fun k_ => ((fun k_ => some k_ ≠ (.slice (some ad176) t171.length co9 : Value).ownBlock ∧ k_ ≠ gb174)) k_ ∧ some k_ ≠ (u5 : Value).ownBlock) (Kd.R_types (Kd.R_apart' (HO183.out) (Kd.S_typed HO_5.out) (by decide)) BK174.out (by decide)) (fun k_ hk => ⟨⟨hk.1.1, hk.2⟩, hk.1.2⟩))).1 k_ hk_.symm) ?aF ?aO ?aB ?aS ?aL ?_; (case aP => exact k29_mkM _ _ _ (⟨x9_2, y181⟩ : S29) (Kd.R_mono (Kd.R_tight rfl (Kd.R_mono (ok' := fun k_ => ((fun k_ => some k_ ≠ (.slice (some ad176) t171.length co9 : Value).ownBlock ∧ k_ ≠ gb174)) k_ ∧ some k_ ≠ (u5 : Value).ownBlock) (Kd.R_types (Kd.R_apart' (HO183.out) (Kd.S_typed HO_5.out) (by decide)) BK174.out (by decide)) (fun k_ hk => ⟨⟨hk.1.1, hk.2⟩, hk.1.2⟩))) (fun _ h_ => h_))); (case aB => exact (by repeat (first | (with_reducible first | exact HB.out | apply below_alloc | apply pw_below_drewN | apply below_drew1 | refine below_set ?_ GE174.out) | exact HB.out))); (case aF => exact (fun k_ hk => ⟨Kd.fresh' (Kd.R_lt (by (with_reducible repeat (first | apply Kd.R_alloc | apply Kd.R_drewN | apply Kd.R_drew)); exact HO_4.out)) k_ hk, Kd.freshB (g := gb174) (o := .cells #[.int .i64 x9_2, .slice Ao53 y181.length co53] 29 (0, 0)) (by (with_reducible repeat (first | refine blk_drewN ?_ _ | refine blk_drew ?_ | refine blk_alloc ?_ _)); exact BK174.out) k_ hk⟩)); (case aO => exact (by (with_reducible repeat (first | apply Kd.S_alloc | apply Kd.S_drewN | apply Kd.S_drew)); exact Kd.S_mono HO_5.out (fun k_ hk => ⟨⟨hk.1, hk.2.2⟩, fun e_ => hk.2.1 e_⟩))); (case aS => exact (below_size (by repeat (first | (with_reducible first | exact HB.out | apply below_alloc | apply pw_below_drewN | apply below_drew1 | refine below_set ?_ GE174.out) | exact HB.out)))); (case aL => have := LMc48.out; omega); intro v185 w57 ho hb hg hat; rw [← Ny184.out] at ho; have n0_ := Aside0.mk (Kd.R_over' (by (with_reducible repeat (first | apply Kd.R_alloc | apply Kd.R_drewN | apply Kd.R_drew)); exact HO_4.out) (Kd.S_typed (by (with_reducible repeat (first | apply Kd.S_alloc | apply Kd.S_drewN | apply Kd.S_drew)); exact HO_5.out)) (by decide) hg); have n1_ := Aside0.mk (blk_grown (g := gb174) (o := .cells #[.int .i64 x9_2, .slice Ao53 y181.length co53] 29 (0, 0)) (by (with_reducible repeat (first | refine blk_drewN ?_ _ | refine blk_drew ?_ | refine blk_alloc ?_ _)); exact BK174.out) hg (Kd.S_away HO_5.out (fun _ hk => hk.2.2))); have n2_ := Aside0.mk (hb); have n3_ := Aside0.mk (ho); clear HO_4; clear BK174; clear HB; clear HO_5; clear HO183; have HO_4 := n0_; have BK174 := n1_; have HB := n2_; have HO186 := n3_; clear n0_ n1_ n2_ n3_; clear ho hb hg hat; have hcz58_0 : w57.cell? ⟨gb174, 0, none⟩ = some (.int .i64 x9_2) := (blk_cell BK174.out 0).trans rfl; have hcz58_1 : w57.cell? ⟨gb174, 1, none⟩ = some (.slice Ao53 y181.length co53) := (blk_cell BK174.out 1).trans rfl; have hfz58_0 := blk_frozen BK174.out 0; have hfz58_1 := blk_frozen BK174.out 1))
                                            go_roundg kj35
                                            case measure => have := HK1.out; have := HK2.out; have := HJ9.out; have := HJ19.out; have := HJ35.out; omega
                                            case rel => exact ⟨(y184), (wrap64 (x7_1 + 1)), (0), (([] : List ByteArray)), (.slice none 0 0), (by first | rfl | (simp; done) | (simp [*]; done)), H', ⟨by have := HK1.out; have := HK2.out; have := HJ9.out; have := HJ19.out; have := HJ35.out; omega⟩, ⟨by (with_reducible repeat (first | apply Kd.R_alloc | apply Kd.R_drewN | apply Kd.R_drew)); exact Kd.R_mono (Kd.R_far (p := ⟨gb174, 1, none⟩) (Kd.R_far (p := ⟨gb174, 0, none⟩) (Kd.R_types HO_4.out BK174.out (by decide)) (fun _ hk => hk.2) (.int .i64 0)) (fun _ hk => hk.2) (.slice none 0 0)) (fun _ hk => (by simp [Value.ownBlock]))⟩, ⟨by (with_reducible repeat (first | apply Kd.S_alloc | apply Kd.S_drewN | apply Kd.S_drew)); exact Kd.S_mono (Kd.S_far (p := ⟨gb174, 1, none⟩) (Kd.S_far (p := ⟨gb174, 0, none⟩) (Kd.S_mono HO186.out (fun k_ hk => (⟨hk, hk.2⟩ : _ ∧ k_ ≠ gb174))) (fun _ hk => hk.2) (.int .i64 0)) (fun _ hk => hk.2) (.slice none 0 0)) (fun _ hk => ⟨hk.1.1, ⟨(by simp [Value.ownBlock]), hk.1.2⟩⟩)⟩, ⟨by first | exact Kd.R_nil _ _ _ _ _ | exact Kd.N_nil _ _ _ _ _ | exact Kd.V_nil _ _ _ _ _ | exact Kd.Q_nil _ _ _ _ _ | exact Kd.S_nil _ _ _ _ _⟩, ⟨by (with_reducible repeat (first | refine blk_drewN ?_ _ | refine blk_drew ?_ | refine blk_alloc ?_ _)); refine blk_put (cs := #[.int .i64 0, .slice Ao53 y181.length co53]) ?_ 1 _ rfl; (with_reducible repeat (first | refine blk_drewN ?_ _ | refine blk_drew ?_ | refine blk_alloc ?_ _)); refine blk_put (cs := #[.int .i64 x9_2, .slice Ao53 y181.length co53]) ?_ 0 _ rfl; (with_reducible repeat (first | refine blk_drewN ?_ _ | refine blk_drew ?_ | refine blk_alloc ?_ _)); exact BK174.out⟩, ⟨by repeat (first | (with_reducible first | exact HB.out | apply below_alloc | apply pw_below_drewN | apply below_drew1 | refine below_set ?_ GE174.out) | exact HB.out)⟩⟩
                                          · rw [if_neg c48] at H
                                            exact absurd H (by simp)
                                        · rw [if_neg c47] at H
                                          have c47b0 : ((bt (rdOf ByteArray.empty t171 x7_1) 3) == 32) = false := beq_eq_false_iff_ne.mpr c47
                                          have c47b1 : ((bt (rdOf ByteArray.empty t171 x7_1) 3) != 32) = true := bne_iff_ne.mpr c47
                                          have H' := Aside0.mk H
                                          clear H
                                          have hcz59_0 : wc.cell? ⟨gb174, 0, none⟩ = some (.int .i64 x175000_1) := (blk_cell BK174.out 0).trans rfl
                                          have hcz59_1 : wc.cell? ⟨gb174, 1, none⟩ = some (u175001) := (blk_cell BK174.out 1).trans rfl
                                          have hfz59_0 := blk_frozen BK174.out 0
                                          have hfz59_1 := blk_frozen BK174.out 1
                                          try go_wp2
                                          have n0_ : Aside0 (Kd.R Kd.string 9 (wc.setCell ⟨gb174, 0, none⟩ (.int .i64 x9_2)) w.heap.size (fun k_ => some k_ ≠ (u175001 : Value).ownBlock) (.slice (some ad176) t171.length co9) t171) := ⟨by (with_reducible repeat (first | apply Kd.R_alloc | apply Kd.R_drewN | apply Kd.R_drew)); exact Kd.R_mono (Kd.R_far (p := ⟨gb174, 0, none⟩) (Kd.R_types HO_4.out BK174.out (by decide)) (fun _ hk => hk.2) (.int .i64 x9_2)) (fun _ hk => hk.1)⟩
                                          have n1_ : Aside0 (Kd.S k29 29 (wc.setCell ⟨gb174, 0, none⟩ (.int .i64 x9_2)) w.heap.size (fun k_ => some k_ ≠ (.slice (some ad176) t171.length co9 : Value).ownBlock ∧ some k_ ≠ (u175001 : Value).ownBlock ∧ k_ ≠ gb174) u5 x5_1) := ⟨by (with_reducible repeat (first | apply Kd.S_alloc | apply Kd.S_drewN | apply Kd.S_drew)); exact Kd.S_mono (Kd.S_far (p := ⟨gb174, 0, none⟩) (Kd.S_mono HO_5.out (fun k_ hk => (⟨hk, hk.2.2⟩ : _ ∧ k_ ≠ gb174))) (fun _ hk => hk.2) (.int .i64 x9_2)) (fun _ hk => ⟨hk.1.1, ⟨hk.1.2.1, hk.1.2.2⟩⟩)⟩
                                          have n2_ : Aside0 (Kd.R Kd.string 9 (wc.setCell ⟨gb174, 0, none⟩ (.int .i64 x9_2)) w.heap.size (fun k_ => some k_ ≠ (.slice (some ad176) t171.length co9 : Value).ownBlock) u175001 x175001_1) := ⟨by (with_reducible repeat (first | apply Kd.R_alloc | apply Kd.R_drewN | apply Kd.R_drew)); exact Kd.R_mono (Kd.R_far (p := ⟨gb174, 0, none⟩) (Kd.R_types HO_175001.out BK174.out (by decide)) (fun _ hk => hk.2) (.int .i64 x9_2)) (fun _ hk => hk.1)⟩
                                          have n3_ : Aside0 ((wc.setCell ⟨gb174, 0, none⟩ (.int .i64 x9_2)).heap[gb174]? = some (.cells #[.int .i64 x9_2, u175001] 29 (0, 0))) := ⟨by (with_reducible repeat (first | refine blk_drewN ?_ _ | refine blk_drew ?_ | refine blk_alloc ?_ _)); refine blk_put (cs := #[.int .i64 x175000_1, u175001]) ?_ 0 _ rfl; (with_reducible repeat (first | refine blk_drewN ?_ _ | refine blk_drew ?_ | refine blk_alloc ?_ _)); exact BK174.out⟩
                                          have n4_ : Aside0 (Below w.heap.size w (wc.setCell ⟨gb174, 0, none⟩ (.int .i64 x9_2))) := ⟨by repeat (first | (with_reducible first | exact HB.out | apply below_alloc | apply pw_below_drewN | apply below_drew1 | refine below_set ?_ GE174.out) | exact HB.out)⟩
                                          (try clear HO_4)
                                          (try clear HO_5)
                                          (try clear HO_175001)
                                          (try clear BK174)
                                          (try clear HB)
                                          generalize (wc.setCell ⟨gb174, 0, none⟩ (.int .i64 x9_2)) = w60 at n0_ n1_ n2_ n3_ n4_ ⊢
                                          have HO_4 := n0_
                                          have HO_5 := n1_
                                          have HO_175001 := n2_
                                          have BK174 := n3_
                                          have HB := n4_
                                          clear n0_ n1_ n2_ n3_ n4_
                                          have n0_ := Aside0.mk (Kd.R_drew HO_4.out)
                                          have n1_ := Aside0.mk (Kd.S_drew HO_5.out)
                                          have n2_ := Aside0.mk (Kd.R_drew HO_175001.out)
                                          have n3_ := Aside0.mk (blk_drew BK174.out)
                                          have n4_ := Aside0.mk (below_drew1 HB.out)
                                          clear HO_4
                                          clear HO_5
                                          clear HO_175001
                                          clear BK174
                                          clear HB
                                          have HO_4 := n0_
                                          have HO_5 := n1_
                                          have HO_175001 := n2_
                                          have BK174 := n3_
                                          have HB := n4_
                                          clear n0_ n1_ n2_ n3_ n4_
                                          refine start_ (n := 8) (S := fun w' => w'.cell? ⟨gb174, 0, none⟩ = some (.int .i64 x9_2) ∧ w'.cell? ⟨gb174, 1, none⟩ = some (u175001)) (ds := [7]) #[false, false, false, false, false, false, false, false] (by kernel_rfl) rfl rfl ⟨(blk_cell BK174.out 0).trans rfl, (blk_cell BK174.out 1).trans rfl⟩ (fun hHeld => ?_); refine with_tabW bulletinref30_Read.tab20 bulletinref30_Read.bits20 (fun HT_ HW_ => ?_)
                                          generalize w60.drew = w61 at HO_4 HO_5 HO_175001 BK174 HB hHeld ⊢
                                          refine pure_ (i := 0) (N := some 89) (v := ?_) (a' := ?_) #[true, false, false, false, false, false, false, false] rfl rfl (any_of HT_.out (by kernel_rfl)) (fun _ _ _ h => h) (Or.inl ⟨by rfl, ?_⟩) ?_ ?_
                                          rotate_left
                                          · intro w'
                                            go_simp
                                            with_reducible rfl
                                          rotate_left
                                          · simp only [Act.put, List.setIfInBounds_toArray, List.set_cons_zero, List.set_cons_succ, i64_w, i32_w]
                                            rfl
                                          refine pure_ (i := 2) (N := some 91) (v := ?_) (a' := ?_) #[true, false, true, false, false, false, false, false] rfl rfl (any_of HT_.out (by kernel_rfl)) (fun _ _ _ h => h) (Or.inl ⟨by rfl, ?_⟩) ?_ ?_
                                          rotate_left
                                          · intro w'
                                            go_simp
                                            with_reducible rfl
                                          rotate_left
                                          · simp only [Act.put, List.setIfInBounds_toArray, List.set_cons_zero, List.set_cons_succ, i64_w, i32_w]
                                            rfl
                                          refine pure_ (i := 3) (N := some 92) (v := ?_) (a' := ?_) #[true, false, true, true, false, false, false, false] rfl rfl (any_of HT_.out (by kernel_rfl)) (fun _ _ _ h => h) (Or.inl ⟨by rfl, ?_⟩) ?_ ?_
                                          rotate_left
                                          · intro w'
                                            go_simp
                                            with_reducible rfl
                                          rotate_left
                                          · simp only [Act.put, List.setIfInBounds_toArray, List.set_cons_zero, List.set_cons_succ, i64_w, i32_w]
                                            rfl
                                          refine take_ (i := 1) (N := some 90) (v := ?_) (a' := ?_) #[true, true, true, true, false, false, false, false] rfl rfl (take_ofW HT_.out HW_.out (by kernel_rfl)) (fun _ _ _ h => h) (Or.inl ⟨by rfl, ?_⟩) hHeld ?_ ?_
                                          rotate_left
                                          · rintro w' ⟨s0, s1⟩
                                            go_simp
                                            with_reducible rfl
                                          rotate_left
                                          · simp only [Act.put, List.setIfInBounds_toArray, List.set_cons_zero, List.set_cons_succ, i64_w, i32_w]
                                            rfl
                                          refine one_ (i := 4) (N := some 93) #[true, true, true, true, true, false, false, false] rfl rfl (one_of HT_.out (by kernel_rfl)) (by decide) (fun K hK => ?_)
                                          refine value_ (w1 := ?_) (v := ?_) (by rfl) rfl ?_ ?_
                                          rotate_left 2
                                          · go_simp
                                            constructor
                                            · rfl
                                            · rfl
                                          refine hK.out _ _ ⟨(blk_cell (blk_alloc BK174.out _) 0).trans rfl, (blk_cell (blk_alloc BK174.out _) 1).trans rfl⟩ (fun hHeld => ?_)
                                          clear hK K
                                          refine norm_ (a' := ?_) ?_ ?_
                                          rotate_left
                                          · show Act.put _ (some 93) _ = _
                                            simp only [Act.put, List.setIfInBounds_toArray, List.set_cons_zero, List.set_cons_succ, i64_w, i32_w]
                                            rfl
                                          refine one_ (i := 5) (N := some 94) #[true, true, true, true, true, true, false, false] rfl rfl (one_of HT_.out (by kernel_rfl)) (by decide) (fun K hK => ?_)
                                          refine Kd.R_append_step Kd.string (w0 := w) w.heap.size (by rfl) (.tmp 90) (.tmp 93) 25 9 (.string ⟨#[]⟩) 16 rfl Tryd.underlying25 info9 rfl (by decide) (by omega) u175001 x175001_1 ((rdOf ByteArray.empty t171 x7_1).extract 4 (rdOf ByteArray.empty t171 x7_1).size) [.string ((rdOf ByteArray.empty t171 x7_1).extract 4 (rdOf ByteArray.empty t171 x7_1).size)] (fun k_ => some k_ ≠ (.slice (some ad176) t171.length co9 : Value).ownBlock) (fun _ => False) rfl rfl ?aP (fun _ hk => hk.elim) ?aF ?aO ?aB ?aS ?aL ?_
                                          (case aP => exact rfl)
                                          (case aB => exact (by repeat (first | (with_reducible first | exact HB.out | apply below_alloc | apply pw_below_drewN | apply below_drew1 | refine below_set ?_ GE174.out) | exact HB.out)))
                                          (case aF => exact (fun k_ hk => Kd.fresh' (Kd.R_lt (by (with_reducible repeat (first | apply Kd.R_alloc | apply Kd.R_drewN | apply Kd.R_drew)); exact HO_4.out)) k_ hk))
                                          (case aO => exact (by (with_reducible repeat (first | apply Kd.R_alloc | apply Kd.R_drewN | apply Kd.R_drew)); exact HO_175001.out))
                                          (case aS => exact (below_size (by repeat (first | (with_reducible first | exact HB.out | apply below_alloc | apply pw_below_drewN | apply below_drew1 | refine below_set ?_ GE174.out) | exact HB.out))))
                                          (case aL => have := LMc44.out; omega)
                                          intro v182 w62 ho hb hg hat
                                          rw [← Ny181.out] at ho
                                          have n0_ := Aside0.mk (Kd.R_after (ok := (fun _ => True)) (by (with_reducible repeat (first | apply Kd.R_alloc | apply Kd.R_drewN | apply Kd.R_drew)); exact Kd.R_mono HO_4.out (fun _ hk => ⟨trivial, hk⟩)) hg hat)
                                          have n1_ := Aside0.mk (Kd.S_after (ok := (fun k_ => some k_ ≠ (.slice (some ad176) t171.length co9 : Value).ownBlock ∧ k_ ≠ gb174)) (by (with_reducible repeat (first | apply Kd.S_alloc | apply Kd.S_drewN | apply Kd.S_drew)); exact Kd.S_mono HO_5.out (fun _ hk => ⟨⟨hk.1, hk.2.2⟩, hk.2.1⟩)) hg hat)
                                          have n2_ := Aside0.mk (blk_grown (g := gb174) (o := .cells #[.int .i64 x9_2, u175001] 29 (0, 0)) (by (with_reducible repeat (first | refine blk_drewN ?_ _ | refine blk_drew ?_ | refine blk_alloc ?_ _)); exact BK174.out) hg (Kd.R_ne HO_175001.out BK174.out (by decide)))
                                          have n3_ := Aside0.mk (hb)
                                          have n4_ := Aside0.mk (ho)
                                          clear HO_4
                                          clear HO_5
                                          clear BK174
                                          clear HB
                                          clear HO_175001
                                          have HO_4 := n0_
                                          have HO_5 := n1_
                                          have BK174 := n2_
                                          have HB := n3_
                                          have HO183 := n4_
                                          clear n0_ n1_ n2_ n3_ n4_
                                          clear ho hb hg hat
                                          obtain ⟨Ao63, co63, eo63⟩ := Kd.R_slice HO183.out
                                          (first | subst eo63 | (injection eo63 with f1_ f2_ f3_; have f4_ := f1_.symm; have f5_ := f3_.symm; clear f1_ f2_ f3_; subst f4_; subst f5_))
                                          refine hK.out _ _ ⟨(blk_cell BK174.out 0).trans rfl, (blk_cell BK174.out 1).trans rfl⟩ (fun hHeld => ?_)
                                          clear hK K
                                          refine norm_ (a' := ?_) ?_ ?_
                                          rotate_left
                                          · show Act.put _ (some 94) _ = _
                                            simp only [Act.put, List.setIfInBounds_toArray, List.set_cons_zero, List.set_cons_succ, i64_w, i32_w]
                                            rfl
                                          refine pure_ (i := 6) (N := some 95) (v := ?_) (a' := ?_) #[true, true, true, true, true, true, true, false] rfl rfl (any_of HT_.out (by kernel_rfl)) (fun _ _ _ h => h) (Or.inl ⟨by rfl, ?_⟩) ?_ ?_
                                          rotate_left
                                          · intro w'
                                            go_simp
                                            with_reducible rfl
                                          rotate_left
                                          · simp only [Act.put, List.setIfInBounds_toArray, List.set_cons_zero, List.set_cons_succ, i64_w, i32_w]
                                            rfl
                                          refine last_ (i := 7) (N := none) #[true, true, true, true, true, true, true, true] rfl rfl (one_of HT_.out (by kernel_rfl)) (by decide) (fun K hK => ?_)
                                          have hs64 : w62.cell? ⟨gb174, 1, none⟩ = some (u175001) := (blk_cell BK174.out 1).trans rfl
                                          have hfs64 := blk_frozen BK174.out 1
                                          refine skip_ (w1 := ?_) (by rfl) rfl ?_ ?_
                                          rotate_left
                                          · go_simp
                                            rfl
                                          refine hK.out _ _ ?_
                                          clear hK K
                                          refine done_ (done_of HT_.out (by kernel_rfl)) ?_
                                          have p46 : 0 ≤ (3 : Int) := (by omega)
                                          have q46 : 3 < (rdOf ByteArray.empty t171 x7_1).size := (by have : (3 : Int) < ((rdOf ByteArray.empty t171 x7_1).size : Int) := of_decide_eq_true (by first | (with_reducible assumption) | assumption); omega)
                                          have hx46 : ∀ h : 3 < (rdOf ByteArray.empty t171 x7_1).size, (((rdOf ByteArray.empty t171 x7_1)[3]'h).toNat : Int) = bt (rdOf ByteArray.empty t171 x7_1) 3 := bt_at (rdOf ByteArray.empty t171 x7_1) 3
                                          clear p46
                                          have qi46 : (3 < ((rdOf ByteArray.empty t171 x7_1).size : Int)) = True := eq_true (of_decide_eq_true (by first | (with_reducible assumption) | assumption))
                                          replace q46 := eq_true q46; (try (have qs46 := q46; simp only [ByteArray.size_append, ByteArray.size_extract, Nat.min_self, Xsize_mk, List.size_toArray, List.length_cons, List.length_nil, Nat.zero_add, Nat.reduceAdd, List.length_append, List.length_drop, List.length_take] at qs46))
                                          try go_wp2
                                          go_roundg kj35
                                          case measure => have := HK1.out; have := HK2.out; have := HJ9.out; have := HJ19.out; have := HJ35.out; omega
                                          case rel => exact ⟨(x5_1), (wrap64 (x7_1 + 1)), (x9_2), (y181), (.slice Ao63 y181.length co63), (by first | rfl | (simp; done) | (simp [*]; done)), H', ⟨by have := HK1.out; have := HK2.out; have := HJ9.out; have := HJ19.out; have := HJ35.out; omega⟩, ⟨by (with_reducible repeat (first | apply Kd.R_alloc | apply Kd.R_drewN | apply Kd.R_drew)); exact Kd.R_mono (Kd.R_far (p := ⟨gb174, 1, none⟩) (Kd.R_types HO_4.out BK174.out (by decide)) (fun _ hk => hk.2) (.slice Ao63 y181.length co63)) (fun _ hk => hk.1.2)⟩, ⟨by (with_reducible repeat (first | apply Kd.S_alloc | apply Kd.S_drewN | apply Kd.S_drew)); exact Kd.S_mono (Kd.S_far (p := ⟨gb174, 1, none⟩) (Kd.S_mono HO_5.out (fun k_ hk => (⟨hk, hk.1.2⟩ : _ ∧ k_ ≠ gb174))) (fun _ hk => hk.2) (.slice Ao63 y181.length co63)) (fun _ hk => ⟨hk.1.1.1, ⟨hk.1.2, hk.1.1.2⟩⟩)⟩, ⟨by (with_reducible repeat (first | apply Kd.R_alloc | apply Kd.R_drewN | apply Kd.R_drew)); exact Kd.R_mono (Kd.R_far (p := ⟨gb174, 1, none⟩) (Kd.R_types HO183.out BK174.out (by decide)) (fun _ hk => hk.2) (.slice Ao63 y181.length co63)) (fun _ hk => hk.1)⟩, ⟨by (with_reducible repeat (first | refine blk_drewN ?_ _ | refine blk_drew ?_ | refine blk_alloc ?_ _)); refine blk_put (cs := #[.int .i64 x9_2, u175001]) ?_ 1 _ rfl; (with_reducible repeat (first | refine blk_drewN ?_ _ | refine blk_drew ?_ | refine blk_alloc ?_ _)); exact BK174.out⟩, ⟨by repeat (first | (with_reducible first | exact HB.out | apply below_alloc | apply pw_below_drewN | apply below_drew1 | refine below_set ?_ GE174.out) | exact HB.out)⟩⟩
                                      · rw [if_neg c45] at H
                                        exact absurd H (by simp)
                                    · rw [if_neg c44] at H
                                      exact absurd H (by simp)
                                  · rw [if_neg c43] at H
                                    exact absurd H (by simp)
          · rw [if_neg c8] at H
            exact absurd H (by simp)
        · rw [if_neg c7] at H
          exact absurd H (by simp)
      · rw [if_neg c6] at H
        have c6b0 : decide (x7_1 < (wrap64 ((t171.length : Int) - 1))) = false := decide_eq_false c6
        clear c6
        obtain ⟨ji65, hji65⟩ : ∃ j_ : Int, (wrap64 ((t171.length : Int) - 1)) = j_ := ⟨_, rfl⟩
        replace H : (if 0 ≤ (ji65) then (if (ji65) < (t171.length : Int) then (if (rdOf ByteArray.empty t171 (ji65)).toList = ([] : List UInt8) then (if (x175001_1.length : Int) > 0 then (some (([] : List (S29)), 9)) else (some (x5_1, 0))) else (some (([] : List (S29)), 9))) else (none)) else (none)) = some (r1, r2) := by first | (rw [hji65] at H; exact H) | (simp only [hji65] at H ⊢; exact H)
        (try rw [hji65] at c6b0)
        (try rw [hji65] at c6s0)
        (try rw [hji65] at c6v0)
        have hji65w : (IntKind.i64.wrap ((t171.length : Int) - 1)) = ji65 := (i64_w _).trans hji65
        by_cases c66 : 0 ≤ (ji65)
        · rw [if_pos c66] at H
          have c66b0 : decide (0 ≤ (ji65)) = true := decide_eq_true c66
          clear c66
          by_cases c67 : (ji65) < (t171.length : Int)
          · rw [if_pos c67] at H
            have c67b0 : decide ((ji65) < (t171.length : Int)) = true := decide_eq_true c67
            clear c67
            by_cases c68 : (rdOf ByteArray.empty t171 (ji65)).toList = ([] : List UInt8)
            · rw [if_pos c68] at H
              have c68b0 : ((rdOf ByteArray.empty t171 (ji65)).toList == ([] : List UInt8)) = true := beq_iff_eq.mpr c68
              have c68b1 : ((rdOf ByteArray.empty t171 (ji65)).toList != ([] : List UInt8)) = false := bne_eq_false_iff_eq.mpr c68
              clear c68
              by_cases c69 : (x175001_1.length : Int) > 0
              · rw [if_pos c69] at H
                have c69b0 : decide (0 < (x175001_1.length : Int)) = true := decide_eq_true c69
                have c69b1 : decide (0 < x175001_1.length) = true := decide_eq_true (by omega)
                clear c69
                simp only [Option.some.injEq, Prod.mk.injEq] at H
                obtain ⟨rfl, rfl⟩ := H
                obtain ⟨Ao70, co70, eo70⟩ := Kd.R_slice HO_4.out
                subst eo70
                have p175 : 0 ≤ ((ji65) : Int) := of_decide_eq_true (by first | (with_reducible assumption) | assumption)
                have q175 : (ji65) < (t171.length : Int) := of_decide_eq_true (by first | (with_reducible assumption) | assumption)
                obtain ⟨ad175, e175, hx175_0⟩ := Kd.at_string (Kd.R_reads' HO_4.out).2.2 (ji65) p175 q175
                cases e175
                replace p175 := eq_true p175
                replace q175 := eq_true q175; (try (have qs175 := q175; simp only [ByteArray.size_append, ByteArray.size_extract, Nat.min_self, Xsize_mk, List.size_toArray, List.length_cons, List.length_nil, Nat.zero_add, Nat.reduceAdd, List.length_append, List.length_drop, List.length_take] at qs175))
                have hcz71_0 : wr.cell? ⟨gb174, 0, none⟩ = some (.int .i64 x175000_1) := (blk_cell BK174.out 0).trans rfl
                have hcz71_1 : wr.cell? ⟨gb174, 1, none⟩ = some (u175001) := (blk_cell BK174.out 1).trans rfl
                have hfz71_0 := blk_frozen BK174.out 0
                have hfz71_1 := blk_frozen BK174.out 1
                obtain ⟨Ao72, co72, eo72⟩ := Kd.R_slice HO_175001.out
                subst eo72
                go_wp2
                go_ret2
                exact ⟨_, by first | rfl | (simp [errW_none, errW_some] <;> rfl) | (simp only [← hji65]; first | rfl | (simp [errW_none, errW_some] <;> rfl)) | (simp [*, errW_none, errW_some] <;> rfl), by first | exact Kd.S_nil _ _ _ _ _ | exact Kd.N_nil _ _ _ _ _ | exact Kd.V_nil _ _ _ _ _ | exact Kd.Q_nil _ _ _ _ _ | exact Kd.R_nil _ _ _ _ _, by repeat (first | (with_reducible first | exact HB.out | apply below_alloc | apply pw_below_drewN | apply below_drew1 | refine below_set ?_ GE174.out) | exact HB.out)⟩
              · rw [if_neg c69] at H
                have c69b0 : decide (0 < (x175001_1.length : Int)) = false := decide_eq_false c69
                have c69b1 : decide (0 < x175001_1.length) = false := decide_eq_false (by omega)
                clear c69
                simp only [Option.some.injEq, Prod.mk.injEq] at H
                obtain ⟨rfl, rfl⟩ := H
                obtain ⟨Ao73, co73, eo73⟩ := Kd.R_slice HO_4.out
                subst eo73
                have p175 : 0 ≤ ((ji65) : Int) := of_decide_eq_true (by first | (with_reducible assumption) | assumption)
                have q175 : (ji65) < (t171.length : Int) := of_decide_eq_true (by first | (with_reducible assumption) | assumption)
                obtain ⟨ad175, e175, hx175_0⟩ := Kd.at_string (Kd.R_reads' HO_4.out).2.2 (ji65) p175 q175
                cases e175
                replace p175 := eq_true p175
                replace q175 := eq_true q175; (try (have qs175 := q175; simp only [ByteArray.size_append, ByteArray.size_extract, Nat.min_self, Xsize_mk, List.size_toArray, List.length_cons, List.length_nil, Nat.zero_add, Nat.reduceAdd, List.length_append, List.length_drop, List.length_take] at qs175))
                have hcz74_0 : wr.cell? ⟨gb174, 0, none⟩ = some (.int .i64 x175000_1) := (blk_cell BK174.out 0).trans rfl
                have hcz74_1 : wr.cell? ⟨gb174, 1, none⟩ = some (u175001) := (blk_cell BK174.out 1).trans rfl
                have hfz74_0 := blk_frozen BK174.out 0
                have hfz74_1 := blk_frozen BK174.out 1
                obtain ⟨Ao75, co75, eo75⟩ := Kd.R_slice HO_175001.out
                subst eo75
                go_wp2
                go_ret2
                exact ⟨_, by first | rfl | (simp [errW_none, errW_some] <;> rfl) | (simp only [← hji65]; first | rfl | (simp [errW_none, errW_some] <;> rfl)) | (simp [*, errW_none, errW_some] <;> rfl), by (with_reducible repeat (first | apply Kd.S_alloc | apply Kd.S_drewN | apply Kd.S_drew)); exact Kd.S_mono HO_5.out (fun _ hk => trivial), by repeat (first | (with_reducible first | exact HB.out | apply below_alloc | apply pw_below_drewN | apply below_drew1 | refine below_set ?_ GE174.out) | exact HB.out)⟩
            · rw [if_neg c68] at H
              have c68b0 : ((rdOf ByteArray.empty t171 (ji65)).toList == ([] : List UInt8)) = false := beq_eq_false_iff_ne.mpr c68
              have c68b1 : ((rdOf ByteArray.empty t171 (ji65)).toList != ([] : List UInt8)) = true := bne_iff_ne.mpr c68
              simp only [Option.some.injEq, Prod.mk.injEq] at H
              obtain ⟨rfl, rfl⟩ := H
              obtain ⟨Ao76, co76, eo76⟩ := Kd.R_slice HO_4.out
              subst eo76
              have p175 : 0 ≤ ((ji65) : Int) := of_decide_eq_true (by first | (with_reducible assumption) | assumption)
              have q175 : (ji65) < (t171.length : Int) := of_decide_eq_true (by first | (with_reducible assumption) | assumption)
              obtain ⟨ad175, e175, hx175_0⟩ := Kd.at_string (Kd.R_reads' HO_4.out).2.2 (ji65) p175 q175
              cases e175
              replace p175 := eq_true p175
              replace q175 := eq_true q175; (try (have qs175 := q175; simp only [ByteArray.size_append, ByteArray.size_extract, Nat.min_self, Xsize_mk, List.size_toArray, List.length_cons, List.length_nil, Nat.zero_add, Nat.reduceAdd, List.length_append, List.length_drop, List.length_take] at qs175))
              go_wp2
              go_ret2
              exact ⟨_, by first | rfl | (simp [errW_none, errW_some] <;> rfl) | (simp only [← hji65]; first | rfl | (simp [errW_none, errW_some] <;> rfl)) | (simp [*, errW_none, errW_some] <;> rfl), by first | exact Kd.S_nil _ _ _ _ _ | exact Kd.N_nil _ _ _ _ _ | exact Kd.V_nil _ _ _ _ _ | exact Kd.Q_nil _ _ _ _ _ | exact Kd.R_nil _ _ _ _ _, by repeat (first | (with_reducible first | exact HB.out | apply below_alloc | apply pw_below_drewN | apply below_drew1 | refine below_set ?_ GE174.out) | exact HB.out)⟩
          · rw [if_neg c67] at H
            exact absurd H (by simp)
        · rw [if_neg c66] at H
          exact absurd H (by simp)

end Go.Proofs.YtdjpdbdilcjakaaDoor.X
