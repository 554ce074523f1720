-- Written by a program (print.py's text, with contracts of this session's own put in). Not trusted: Lean checks it.
import Derived.Test.YtdjpdbdilcjakaaDoorX0
import Derived.Test.YtdjpdbdilcjakaaDoorX3
namespace Go.Proofs.YtdjpdbdilcjakaaDoor.X
open Go.RowKit Go.Proofs.YtdjpdbdilcjakaaDoorW.PrintWords Go.Proofs.YtdjpdbdilcjakaaDoorW.PrintLast Go.Proofs.YtdjpdbdilcjakaaDoorW.PrintMore
attribute [local go_sem] max2_int min2_int max_two min_two max_three min_three max_four min_four   -- for this text's walks alone
set_option linter.unusedVariables false
set_option linter.unusedSimpArgs false

/-! ### reply_For: function 20 -/
mutual
def reply_For.j2 : Nat → Option (Int × List ByteArray)
  | 0 => none
  | k + 1 => (reply_Make.f 501 (([(⟨#[53, 46, 53, 46, 52, 32, 110, 111, 116, 32, 108, 105, 107, 101, 32, 116, 104, 97, 116]⟩ : ByteArray)] : List ByteArray))).bind fun bt302 => (some (bt302.1, bt302.2))
def reply_For.j0 : Nat → Int → Bool → Option (Int × List ByteArray)
  | 0, _, _ => none
  | k + 1, x3, x22 => if x22 = true then ((reply_Make.f 554 (([(⟨#[53, 46, 54, 46, 48, 32, 110, 111, 32, 109, 101, 115, 115, 97, 103, 101]⟩ : ByteArray)] : List ByteArray))).bind fun bt267 => (some (bt267.1, bt267.2))) else (if x3 = 1 then ((reply_Make.f 555 (([(⟨#[53, 46, 53, 46, 52, 32, 110, 111, 32, 115, 117, 99, 104, 32, 112, 97, 114, 97, 109, 101, 116, 101, 114]⟩ : ByteArray)] : List ByteArray))).bind fun bt274 => (some (bt274.1, bt274.2))) else (if x3 = 430 then ((reply_Make.f 451 (([(⟨#[52, 46, 51, 46, 48, 32, 110, 111, 116, 32, 110, 111, 119, 44, 32, 116, 114, 121, 32, 97, 103, 97, 105, 110]⟩ : ByteArray)] : List ByteArray))).bind fun bt316 => (some (bt316.1, bt316.2))) else (if x3 = 8 then (reply_For.j1 k x3 (x3 == 8)) else (reply_For.j1 k x3 (x3 == 81)))))
def reply_For.j1 : Nat → Int → Bool → Option (Int × List ByteArray)
  | 0, _, _ => none
  | k + 1, x3, x30 => if x30 = true then ((reply_Make.f 452 (([(⟨#[52, 46, 51, 46, 49, 32, 110, 111, 32, 114, 111, 111, 109, 44, 32, 116, 114, 121, 32, 97, 103, 97, 105, 110]⟩ : ByteArray)] : List ByteArray))).bind fun bt281 => (some (bt281.1, bt281.2))) else (if x3 = 80 then ((reply_Make.f 421 (([(⟨#[52, 46, 51, 46, 50, 32, 103, 111, 105, 110, 103, 32, 97, 119, 97, 121]⟩ : ByteArray)] : List ByteArray))).bind fun bt288 => (some (bt288.1, bt288.2))) else ((reply_Make.f 554 (([(⟨#[53, 46, 48, 46, 48, 32, 110, 111]⟩ : ByteArray)] : List ByteArray))).bind fun bt295 => (some (bt295.1, bt295.2))))
end
def reply_For.f (k : Nat) (a0 : Int) : Option (Int × List ByteArray) := if a0 = 0 then ((reply_Make.f 250 (([(⟨#[50, 46, 48, 46, 48, 32, 100, 111, 110, 101]⟩ : ByteArray)] : List ByteArray))).bind fun bt225 => (some (bt225.1, bt225.2))) else (if a0 = 270 then ((reply_Make.f 500 (([(⟨#[53, 46, 53, 46, 50, 32, 110, 111, 32, 115, 117, 99, 104, 32, 99, 111, 109, 109, 97, 110, 100]⟩ : ByteArray)] : List ByteArray))).bind fun bt232 => (some (bt232.1, bt232.2))) else (if a0 = 7 then (reply_For.j2 k) else (if a0 = 3 then (reply_For.j2 k) else (if a0 = 5 then ((reply_Make.f 503 (([(⟨#[53, 46, 53, 46, 49, 32, 110, 111, 116, 32, 110, 111, 119]⟩ : ByteArray)] : List ByteArray))).bind fun bt239 => (some (bt239.1, bt239.2))) else (if a0 = 6 then ((reply_Make.f 550 (([(⟨#[53, 46, 49, 46, 49, 32, 110, 111, 98, 111, 100, 121, 32, 104, 101, 114, 101, 32, 104, 97, 115, 32, 116, 104, 97, 116, 32, 110, 97, 109, 101]⟩ : ByteArray)] : List ByteArray))).bind fun bt246 => (some (bt246.1, bt246.2))) else (if a0 = 340 then ((reply_Make.f 550 (([(⟨#[53, 46, 55, 46, 49, 32, 110, 111, 116, 32, 97, 108, 108, 111, 119, 101, 100]⟩ : ByteArray)] : List ByteArray))).bind fun bt253 => (some (bt253.1, bt253.2))) else (if a0 = 2 then ((reply_Make.f 552 (([(⟨#[53, 46, 51, 46, 52, 32, 116, 111, 111, 32, 109, 117, 99, 104]⟩ : ByteArray)] : List ByteArray))).bind fun bt309 => (some (bt309.1, bt309.2))) else (if a0 = 130 then ((reply_Make.f 553 (([(⟨#[53, 46, 49, 46, 51, 32, 110, 111, 32, 115, 117, 99, 104, 32, 97, 100, 100, 114, 101, 115, 115]⟩ : ByteArray)] : List ByteArray))).bind fun bt260 => (some (bt260.1, bt260.2))) else (if a0 = 480 then (reply_For.j0 k a0 (a0 == 480)) else (if a0 = 150 then (reply_For.j0 k a0 (a0 == 150)) else (reply_For.j0 k a0 (a0 == 200))))))))))))
theorem reply_For.mono_l : ∀ k, (LeO (reply_For.j2 k ) (reply_For.j2 (k + 1) )) ∧ (∀ y0 y1, LeO (reply_For.j0 k y0 y1) (reply_For.j0 (k + 1) y0 y1)) ∧ (∀ y0 y1, LeO (reply_For.j1 k y0 y1) (reply_For.j1 (k + 1) y0 y1))
  | 0 => ⟨fun r h => by simp [reply_For.j2] at h, fun _ _ r h => by simp [reply_For.j0] at h, fun _ _ r h => by simp [reply_For.j1] at h⟩
  | k + 1 => by
    obtain ⟨ih0, ih1, ih2⟩ := reply_For.mono_l k
    refine ⟨?_, ?_, ?_⟩
    · skip
      unfold reply_For.j2
      repeat' first
      | (with_reducible exact ih0)
      | (with_reducible exact ih1 _ _)
      | (with_reducible exact ih2 _ _)
      | (with_reducible exact LeO.refl _)
      | (with_reducible exact LeO.none _)
      | (with_reducible refine LeO.ite ?_ ?_)
      | (with_reducible refine LeO.bind ?_ (fun _ => ?_))
      | exact ih0
      | exact ih1 _ _
      | exact ih2 _ _
      | exact LeO.none _
      | refine LeO.ite ?_ ?_
      | refine LeO.bind ?_ (fun _ => ?_)
    · intro y0 y1
      unfold reply_For.j0
      repeat' first
      | (with_reducible exact ih0)
      | (with_reducible exact ih1 _ _)
      | (with_reducible exact ih2 _ _)
      | (with_reducible exact LeO.refl _)
      | (with_reducible exact LeO.none _)
      | (with_reducible refine LeO.ite ?_ ?_)
      | (with_reducible refine LeO.bind ?_ (fun _ => ?_))
      | exact ih0
      | exact ih1 _ _
      | exact ih2 _ _
      | exact LeO.none _
      | refine LeO.ite ?_ ?_
      | refine LeO.bind ?_ (fun _ => ?_)
    · intro y0 y1
      unfold reply_For.j1
      repeat' first
      | (with_reducible exact ih0)
      | (with_reducible exact ih1 _ _)
      | (with_reducible exact ih2 _ _)
      | (with_reducible exact LeO.refl _)
      | (with_reducible exact LeO.none _)
      | (with_reducible refine LeO.ite ?_ ?_)
      | (with_reducible refine LeO.bind ?_ (fun _ => ?_))
      | exact ih0
      | exact ih1 _ _
      | exact ih2 _ _
      | exact LeO.none _
      | refine LeO.ite ?_ ?_
      | refine LeO.bind ?_ (fun _ => ?_)
theorem reply_For.mono : ∀ a0 k, LeO (reply_For.f k a0) (reply_For.f (k + 1) a0) := by
  intro a0 k
  obtain ⟨ih0, ih1, ih2⟩ := reply_For.mono_l k
  unfold reply_For.f
  repeat' first
      | (with_reducible exact ih0)
      | (with_reducible exact ih1 _ _)
      | (with_reducible exact ih2 _ _)
      | (with_reducible exact LeO.refl _)
      | (with_reducible exact LeO.none _)
      | (with_reducible refine LeO.ite ?_ ?_)
      | (with_reducible refine LeO.bind ?_ (fun _ => ?_))
      | exact ih0
      | exact ih1 _ _
      | exact ih2 _ _
      | exact LeO.none _
      | refine LeO.ite ?_ ?_
      | refine LeO.bind ?_ (fun _ => ?_)
set_option maxHeartbeats 8000000 in
set_option maxRecDepth 100000 in
theorem reply_For.calls (k : Nat) (a0 : Int) (r1 : Int) (r2 : List ByteArray) (w : World) (h : reply_For.f k a0 = some (r1, r2)) :
    Calls Tryd.prog 20 #[.int .i64 a0] w fun e w' => ∃ v1_ : Value, e = .returned (.agg #[.int .i64 r1, v1_]) ∧ Kd.R Kd.string 9 w' w.heap.size (fun _ => True) v1_ r2 ∧ Below w.heap.size w w' := by
  have hu27 := Tryd.underlying27
  have HB := Aside0.mk (Below.refl w.heap.size w)
  have H : (if a0 = 0 then ((reply_Make.f 250 (([(⟨#[50, 46, 48, 46, 48, 32, 100, 111, 110, 101]⟩ : ByteArray)] : List ByteArray))).bind fun bt225 => (some (bt225.1, bt225.2))) else (if a0 = 270 then ((reply_Make.f 500 (([(⟨#[53, 46, 53, 46, 50, 32, 110, 111, 32, 115, 117, 99, 104, 32, 99, 111, 109, 109, 97, 110, 100]⟩ : ByteArray)] : List ByteArray))).bind fun bt232 => (some (bt232.1, bt232.2))) else (if a0 = 7 then (reply_For.j2 k) else (if a0 = 3 then (reply_For.j2 k) else (if a0 = 5 then ((reply_Make.f 503 (([(⟨#[53, 46, 53, 46, 49, 32, 110, 111, 116, 32, 110, 111, 119]⟩ : ByteArray)] : List ByteArray))).bind fun bt239 => (some (bt239.1, bt239.2))) else (if a0 = 6 then ((reply_Make.f 550 (([(⟨#[53, 46, 49, 46, 49, 32, 110, 111, 98, 111, 100, 121, 32, 104, 101, 114, 101, 32, 104, 97, 115, 32, 116, 104, 97, 116, 32, 110, 97, 109, 101]⟩ : ByteArray)] : List ByteArray))).bind fun bt246 => (some (bt246.1, bt246.2))) else (if a0 = 340 then ((reply_Make.f 550 (([(⟨#[53, 46, 55, 46, 49, 32, 110, 111, 116, 32, 97, 108, 108, 111, 119, 101, 100]⟩ : ByteArray)] : List ByteArray))).bind fun bt253 => (some (bt253.1, bt253.2))) else (if a0 = 2 then ((reply_Make.f 552 (([(⟨#[53, 46, 51, 46, 52, 32, 116, 111, 111, 32, 109, 117, 99, 104]⟩ : ByteArray)] : List ByteArray))).bind fun bt309 => (some (bt309.1, bt309.2))) else (if a0 = 130 then ((reply_Make.f 553 (([(⟨#[53, 46, 49, 46, 51, 32, 110, 111, 32, 115, 117, 99, 104, 32, 97, 100, 100, 114, 101, 115, 115]⟩ : ByteArray)] : List ByteArray))).bind fun bt260 => (some (bt260.1, bt260.2))) else (if a0 = 480 then (reply_For.j0 k a0 (a0 == 480)) else (if a0 = 150 then (reply_For.j0 k a0 (a0 == 150)) else (reply_For.j0 k a0 (a0 == 200))))))))))))) = some (r1, r2) := h
  clear h
  have HC2 := Aside0.mk H
  clear H
  go_enter Tryd.func20, Tryd.ntmps20
  go_upto_block 4 with (first | ((with_reducible refine gate_dst (N := 2) rfl ?_); refine box_event ?hg (N := 2) ?hd (cs := #[.int .i64 0, .slice none 0 0]) (t := 27) ?hr ?_; (case hd => rfl); (case hg => rfl); (case hr => first | (go_simp; done) | (go_simp; rfl)); intro gb221 hg w3 hbox hb; have n0_ := Aside0.mk (below_step (by repeat (first | (with_reducible first | exact HB.out | apply below_alloc | apply pw_below_drewN | apply below_drew1) | exact HB.out)) hb); have n1_ := Aside0.mk (hbox); have n2_ := Aside0.mk ((by rw [hg]; exact (below_size (by repeat (first | (with_reducible first | exact HB.out | apply below_alloc | apply pw_below_drewN | apply below_drew1) | exact HB.out))) : w.heap.size ≤ gb221)); have n3_ := Aside0.mk ((by rw [hg]; exact (below_size (by repeat (first | (with_reducible first | exact HB.out | apply below_alloc | apply pw_below_drewN | apply below_drew1) | exact HB.out))) : w.heap.size ≤ gb221)); clear HB; have HB := n0_; have BK221 := n1_; have GW221 := n2_; have GE221 := n3_; clear n0_ n1_ n2_ n3_; clear hb hbox hg))
  (try simp only [Act.put, List.setIfInBounds_toArray, List.set_cons_zero, List.set_cons_succ])
  go_cut [] (fun wc => ∃ (kq : Nat) (x222000_1 : Int), Aside0 (reply_For.j2 kq  = some (r1, r2)) ∧ Aside0 (kq ≤ k) ∧ Aside0 (wc.heap[gb221]? = some (.cells #[.int .i64 x222000_1, (.slice none 0 0)] 27 (0, 0))) ∧ Aside0 (Below w.heap.size w wc))
  case first =>
    have H := HC2.out
    clear HC2
    by_cases c4 : a0 = 0
    · rw [if_pos c4] at H
      have c4b0 : (a0 == 0) = true := beq_iff_eq.mpr c4
      have c4b1 : (a0 != 0) = false := bne_eq_false_iff_eq.mpr c4
      clear c4
      (first | rw [c4b0] | (simp only [i64_w, i32_w]; rw [c4b0]) | skip)
      obtain ⟨y222, hy222⟩ : ∃ y_ : List ByteArray, y_ = (([(⟨#[50, 46, 48, 46, 48, 32, 100, 111, 110, 101]⟩ : ByteArray)] : List ByteArray)) := ⟨_, rfl⟩
      replace H : ((reply_Make.f 250 y222).bind fun bt225 => (some (bt225.1, bt225.2))) = some (r1, r2) := by first | (rw [hy222]; with_reducible exact H) | (have H2_ := (Option.bind_some _ _).symm.trans H; rw [hy222]; with_reducible exact H2_) | (have H2_ := (Option.bind_some _ _).symm.trans H; with_reducible exact H2_) | with_reducible exact H | (rw [hy222]; exact H) | exact H
      have Ny222 := Aside0.mk hy222
      clear hy222
      replace H := Option.bind_eq_some_iff.mp H
      obtain ⟨⟨t225, t226⟩, A50, H⟩ := H
      replace H : (some (t225, t226)) = some (r1, r2) := H
      have A5 := Aside0.mk A50
      clear A50
      simp only [Option.some.injEq, Prod.mk.injEq] at H
      obtain ⟨rfl, rfl⟩ := H
      go_wp2_with (first | ((with_reducible refine gate_dst (N := 35) rfl ?_); refine Kd.R_lit Kd.string _ 9 ?hg (N := 35) ?hd (xs := ([(⟨#[50, 46, 48, 46, 48, 32, 100, 111, 110, 101]⟩ : ByteArray)] : List ByteArray)) (inner := [.string (⟨#[50, 46, 48, 46, 48, 32, 100, 111, 110, 101]⟩ : ByteArray)]) (ok := fun _ => True) (okp := fun _ => True) ?hr ?hp (fun _ hk => hk) trivial (Below.refl _ _) (Nat.le_refl _) (by simp) ?_; (case hd => rfl); (case hg => rfl); (case hr => first | (go_simp; done) | (go_simp; rfl)); (case hp => exact (Reps.one (show Kd.M Kd.string _ _ _ (⟨#[50, 46, 48, 46, 48, 32, 100, 111, 110, 101]⟩ : ByteArray) [.string (⟨#[50, 46, 48, 46, 48, 32, 100, 111, 110, 101]⟩ : ByteArray)] from rfl) (Reps.none _ _))); intro v223 w6 ho7 hb hg_ hnew_; clear hg_ hnew_; (first | rw [← Ny222.out] at ho7 | (simp only [Int.reduceToNat] at ho7; rw [← Ny222.out] at ho7)); have n0_ := Aside0.mk (Kd.R_lower ho7 (below_size (by repeat (first | (with_reducible first | exact HB.out | apply below_alloc | apply pw_below_drewN | apply below_drew1 | refine below_set ?_ GE221.out) | exact HB.out)))); have n1_ := Aside0.mk (blk_below (g := gb221) (o := .cells #[.int .i64 0, .slice none 0 0] 27 (0, 0)) (by (with_reducible repeat (first | refine blk_drewN ?_ _ | refine blk_drew ?_ | refine blk_alloc ?_ _)); exact BK221.out) hb); have n2_ := Aside0.mk (below_step (by repeat (first | (with_reducible first | exact HB.out | apply below_alloc | apply pw_below_drewN | apply below_drew1 | refine below_set ?_ GE221.out) | exact HB.out)) hb); clear BK221; clear HB; have HO224 := n0_; have BK221 := n1_; have HB := n2_; clear n0_ n1_ n2_; clear hb ho7; obtain ⟨Ao8, co8, eo8⟩ := Kd.R_slice HO224.out; subst eo8) | ((with_reducible refine gate_callee (f := 10) rfl ?_); refine goesL_ (some 36) rfl rfl Tryd.func10 (by kernel_rfl) rfl #[.int .i64 250, .slice Ao8 y222.length co8] rfl (by (try simp only [List.map_toArray, List.map_cons, List.map_nil]); first | done | rfl | (simp only [List.length_drop, List.length_take]; rfl)) ?_; (with_reducible refine (reply_Make.calls 250 _ _ y222 t225 t226 _ ?side1 ?side2 A5.out).mono ?_); (case side1 => repeat (first | exact (Kd.R_reads' HO224.out).2.2 | (with_reducible refine Kd.C_alloc ?_ _) | (with_reducible refine Kd.C_drewN ?_ _) | (with_reducible refine Kd.C_drew ?_))); (case side2 => exact (Kd.R_reads' HO224.out).2.1); rintro e w9 ⟨v227, rfl, ho0, hb⟩; refine ⟨_, rfl, ?_⟩; have n0_ := Aside0.mk (Kd.R_elder' (by (with_reducible repeat (first | apply Kd.R_alloc | apply Kd.R_drewN | apply Kd.R_drew)); exact HO224.out) (Kd.R_base ho0) hb); have n1_ := Aside0.mk (Kd.R_lower (Kd.R_new' ho0 (Kd.R_lt (by (with_reducible repeat (first | apply Kd.R_alloc | apply Kd.R_drewN | apply Kd.R_drew)); exact HO224.out))) (below_size (by repeat (first | (with_reducible first | exact HB.out | apply below_alloc | apply pw_below_drewN | apply below_drew1 | refine below_set ?_ GE221.out) | exact HB.out)))); have n2_ := Aside0.mk (blk_below (g := gb221) (o := .cells #[.int .i64 0, .slice none 0 0] 27 (0, 0)) (by (with_reducible repeat (first | refine blk_drewN ?_ _ | refine blk_drew ?_ | refine blk_alloc ?_ _)); exact BK221.out) hb); have n3_ := Aside0.mk (below_step (by repeat (first | (with_reducible first | exact HB.out | apply below_alloc | apply pw_below_drewN | apply below_drew1 | refine below_set ?_ GE221.out) | exact HB.out)) hb); clear HO224; clear BK221; clear HB; have HO224 := n0_; have HO228 := n1_; have BK221 := n2_; have HB := n3_; clear n0_ n1_ n2_ n3_; (try clear hb); (try clear hb2); (try clear hk); (try clear hi); (try clear ho0); have hcz10_0 : w9.cell? ⟨gb221, 0, none⟩ = some (.int .i64 0) := (blk_cell BK221.out 0).trans rfl; have hcz10_1 : w9.cell? ⟨gb221, 1, none⟩ = some (.slice none 0 0) := (blk_cell BK221.out 1).trans rfl; have hfz10_0 := blk_frozen BK221.out 0; have hfz10_1 := blk_frozen BK221.out 1; obtain ⟨Ao11, co11, eo11⟩ := Kd.R_slice HO228.out; subst eo11))
      refine bodyPost_ret (results_cell_row rfl _ _ gb221 27 #[.int .i64 t225, .slice Ao11 t226.length co11] (0, 0) _ rfl (by (with_reducible repeat (first | refine blk_drewN ?_ _ | refine blk_drew ?_ | refine blk_alloc ?_ _)); refine blk_put (cs := #[.int .i64 t225, .slice none 0 0]) ?_ 1 _ rfl; (with_reducible repeat (first | refine blk_drewN ?_ _ | refine blk_drew ?_ | refine blk_alloc ?_ _)); refine blk_put (cs := #[.int .i64 0, .slice none 0 0]) ?_ 0 _ rfl; (with_reducible repeat (first | refine blk_drewN ?_ _ | refine blk_drew ?_ | refine blk_alloc ?_ _)); exact BK221.out) Tryd.underlying27 rfl (by kernel_rfl)) rfl ?_
      exact ⟨_, by first | rfl | (simp [errW_none, errW_some] <;> rfl) | (simp [*, errW_none, errW_some] <;> rfl), by (with_reducible repeat (first | apply Kd.R_alloc | apply Kd.R_drewN | apply Kd.R_drew)); exact Kd.R_mono (Kd.R_far (p := ⟨gb221, 1, none⟩) (Kd.R_far (p := ⟨gb221, 0, none⟩) (Kd.R_types HO228.out BK221.out (by decide)) (fun _ hk => hk.2) (.int .i64 t225)) (fun _ hk => hk.2) (.slice Ao11 t226.length co11)) (fun _ hk => trivial), by repeat (first | (with_reducible first | exact HB.out | apply below_alloc | apply pw_below_drewN | apply below_drew1 | refine below_set ?_ GE221.out) | exact HB.out)⟩
    · rw [if_neg c4] at H
      have c4b0 : (a0 == 0) = false := beq_eq_false_iff_ne.mpr c4
      have c4b1 : (a0 != 0) = true := bne_iff_ne.mpr c4
      (first | rw [c4b0] | (simp only [i64_w, i32_w]; rw [c4b0]) | skip)
      by_cases c12 : a0 = 270
      · rw [if_pos c12] at H
        have c12b0 : (a0 == 270) = true := beq_iff_eq.mpr c12
        have c12b1 : (a0 != 270) = false := bne_eq_false_iff_eq.mpr c12
        clear c12
        obtain ⟨y229, hy229⟩ : ∃ y_ : List ByteArray, y_ = (([(⟨#[53, 46, 53, 46, 50, 32, 110, 111, 32, 115, 117, 99, 104, 32, 99, 111, 109, 109, 97, 110, 100]⟩ : ByteArray)] : List ByteArray)) := ⟨_, rfl⟩
        replace H : ((reply_Make.f 500 y229).bind fun bt232 => (some (bt232.1, bt232.2))) = some (r1, r2) := by first | (rw [hy229]; with_reducible exact H) | (have H2_ := (Option.bind_some _ _).symm.trans H; rw [hy229]; with_reducible exact H2_) | (have H2_ := (Option.bind_some _ _).symm.trans H; with_reducible exact H2_) | with_reducible exact H | (rw [hy229]; exact H) | exact H
        have Ny229 := Aside0.mk hy229
        clear hy229
        replace H := Option.bind_eq_some_iff.mp H
        obtain ⟨⟨t232, t233⟩, A130, H⟩ := H
        replace H : (some (t232, t233)) = some (r1, r2) := H
        have A13 := Aside0.mk A130
        clear A130
        simp only [Option.some.injEq, Prod.mk.injEq] at H
        obtain ⟨rfl, rfl⟩ := H
        go_wp2_with (first | ((with_reducible refine gate_dst (N := 37) rfl ?_); refine Kd.R_lit Kd.string _ 9 ?hg (N := 37) ?hd (xs := ([(⟨#[53, 46, 53, 46, 50, 32, 110, 111, 32, 115, 117, 99, 104, 32, 99, 111, 109, 109, 97, 110, 100]⟩ : ByteArray)] : List ByteArray)) (inner := [.string (⟨#[53, 46, 53, 46, 50, 32, 110, 111, 32, 115, 117, 99, 104, 32, 99, 111, 109, 109, 97, 110, 100]⟩ : ByteArray)]) (ok := fun _ => True) (okp := fun _ => True) ?hr ?hp (fun _ hk => hk) trivial (Below.refl _ _) (Nat.le_refl _) (by simp) ?_; (case hd => rfl); (case hg => rfl); (case hr => first | (go_simp; done) | (go_simp; rfl)); (case hp => exact (Reps.one (show Kd.M Kd.string _ _ _ (⟨#[53, 46, 53, 46, 50, 32, 110, 111, 32, 115, 117, 99, 104, 32, 99, 111, 109, 109, 97, 110, 100]⟩ : ByteArray) [.string (⟨#[53, 46, 53, 46, 50, 32, 110, 111, 32, 115, 117, 99, 104, 32, 99, 111, 109, 109, 97, 110, 100]⟩ : ByteArray)] from rfl) (Reps.none _ _))); intro v230 w14 ho15 hb hg_ hnew_; clear hg_ hnew_; (first | rw [← Ny229.out] at ho15 | (simp only [Int.reduceToNat] at ho15; rw [← Ny229.out] at ho15)); have n0_ := Aside0.mk (Kd.R_lower ho15 (below_size (by repeat (first | (with_reducible first | exact HB.out | apply below_alloc | apply pw_below_drewN | apply below_drew1 | refine below_set ?_ GE221.out) | exact HB.out)))); have n1_ := Aside0.mk (blk_below (g := gb221) (o := .cells #[.int .i64 0, .slice none 0 0] 27 (0, 0)) (by (with_reducible repeat (first | refine blk_drewN ?_ _ | refine blk_drew ?_ | refine blk_alloc ?_ _)); exact BK221.out) hb); have n2_ := Aside0.mk (below_step (by repeat (first | (with_reducible first | exact HB.out | apply below_alloc | apply pw_below_drewN | apply below_drew1 | refine below_set ?_ GE221.out) | exact HB.out)) hb); clear BK221; clear HB; have HO231 := n0_; have BK221 := n1_; have HB := n2_; clear n0_ n1_ n2_; clear hb ho15; obtain ⟨Ao16, co16, eo16⟩ := Kd.R_slice HO231.out; subst eo16) | ((with_reducible refine gate_callee (f := 10) rfl ?_); refine goesL_ (some 38) rfl rfl Tryd.func10 (by kernel_rfl) rfl #[.int .i64 500, .slice Ao16 y229.length co16] rfl (by (try simp only [List.map_toArray, List.map_cons, List.map_nil]); first | done | rfl | (simp only [List.length_drop, List.length_take]; rfl)) ?_; (with_reducible refine (reply_Make.calls 500 _ _ y229 t232 t233 _ ?side1 ?side2 A13.out).mono ?_); (case side1 => repeat (first | exact (Kd.R_reads' HO231.out).2.2 | (with_reducible refine Kd.C_alloc ?_ _) | (with_reducible refine Kd.C_drewN ?_ _) | (with_reducible refine Kd.C_drew ?_))); (case side2 => exact (Kd.R_reads' HO231.out).2.1); rintro e w17 ⟨v234, rfl, ho0, hb⟩; refine ⟨_, rfl, ?_⟩; have n0_ := Aside0.mk (Kd.R_elder' (by (with_reducible repeat (first | apply Kd.R_alloc | apply Kd.R_drewN | apply Kd.R_drew)); exact HO231.out) (Kd.R_base ho0) hb); have n1_ := Aside0.mk (Kd.R_lower (Kd.R_new' ho0 (Kd.R_lt (by (with_reducible repeat (first | apply Kd.R_alloc | apply Kd.R_drewN | apply Kd.R_drew)); exact HO231.out))) (below_size (by repeat (first | (with_reducible first | exact HB.out | apply below_alloc | apply pw_below_drewN | apply below_drew1 | refine below_set ?_ GE221.out) | exact HB.out)))); have n2_ := Aside0.mk (blk_below (g := gb221) (o := .cells #[.int .i64 0, .slice none 0 0] 27 (0, 0)) (by (with_reducible repeat (first | refine blk_drewN ?_ _ | refine blk_drew ?_ | refine blk_alloc ?_ _)); exact BK221.out) hb); have n3_ := Aside0.mk (below_step (by repeat (first | (with_reducible first | exact HB.out | apply below_alloc | apply pw_below_drewN | apply below_drew1 | refine below_set ?_ GE221.out) | exact HB.out)) hb); clear HO231; clear BK221; clear HB; have HO231 := n0_; have HO235 := n1_; have BK221 := n2_; have HB := n3_; clear n0_ n1_ n2_ n3_; (try clear hb); (try clear hb2); (try clear hk); (try clear hi); (try clear ho0); have hcz18_0 : w17.cell? ⟨gb221, 0, none⟩ = some (.int .i64 0) := (blk_cell BK221.out 0).trans rfl; have hcz18_1 : w17.cell? ⟨gb221, 1, none⟩ = some (.slice none 0 0) := (blk_cell BK221.out 1).trans rfl; have hfz18_0 := blk_frozen BK221.out 0; have hfz18_1 := blk_frozen BK221.out 1; obtain ⟨Ao19, co19, eo19⟩ := Kd.R_slice HO235.out; subst eo19))
        refine bodyPost_ret (results_cell_row rfl _ _ gb221 27 #[.int .i64 t232, .slice Ao19 t233.length co19] (0, 0) _ rfl (by (with_reducible repeat (first | refine blk_drewN ?_ _ | refine blk_drew ?_ | refine blk_alloc ?_ _)); refine blk_put (cs := #[.int .i64 t232, .slice none 0 0]) ?_ 1 _ rfl; (with_reducible repeat (first | refine blk_drewN ?_ _ | refine blk_drew ?_ | refine blk_alloc ?_ _)); refine blk_put (cs := #[.int .i64 0, .slice none 0 0]) ?_ 0 _ rfl; (with_reducible repeat (first | refine blk_drewN ?_ _ | refine blk_drew ?_ | refine blk_alloc ?_ _)); exact BK221.out) Tryd.underlying27 rfl (by kernel_rfl)) rfl ?_
        exact ⟨_, by first | rfl | (simp [errW_none, errW_some] <;> rfl) | (simp [*, errW_none, errW_some] <;> rfl), by (with_reducible repeat (first | apply Kd.R_alloc | apply Kd.R_drewN | apply Kd.R_drew)); exact Kd.R_mono (Kd.R_far (p := ⟨gb221, 1, none⟩) (Kd.R_far (p := ⟨gb221, 0, none⟩) (Kd.R_types HO235.out BK221.out (by decide)) (fun _ hk => hk.2) (.int .i64 t232)) (fun _ hk => hk.2) (.slice Ao19 t233.length co19)) (fun _ hk => trivial), by repeat (first | (with_reducible first | exact HB.out | apply below_alloc | apply pw_below_drewN | apply below_drew1 | refine below_set ?_ GE221.out) | exact HB.out)⟩
      · rw [if_neg c12] at H
        have c12b0 : (a0 == 270) = false := beq_eq_false_iff_ne.mpr c12
        have c12b1 : (a0 != 270) = true := bne_iff_ne.mpr c12
        by_cases c20 : a0 = 7
        · rw [if_pos c20] at H
          have c20b0 : (a0 == 7) = true := beq_iff_eq.mpr c20
          have c20b1 : (a0 != 7) = false := bne_eq_false_iff_eq.mpr c20
          clear c20
          have H' := Aside0.mk H
          clear H
          go_wp2
          go_meet
          case rel => exact ⟨_, (0), H', ⟨by first | omega | exact Nat.le_refl _⟩, ⟨by (with_reducible repeat (first | refine blk_drewN ?_ _ | refine blk_drew ?_ | refine blk_alloc ?_ _)); exact BK221.out⟩, ⟨by repeat (first | (with_reducible first | exact HB.out | apply below_alloc | apply pw_below_drewN | apply below_drew1 | refine below_set ?_ GE221.out) | exact HB.out)⟩⟩
        · rw [if_neg c20] at H
          have c20b0 : (a0 == 7) = false := beq_eq_false_iff_ne.mpr c20
          have c20b1 : (a0 != 7) = true := bne_iff_ne.mpr c20
          by_cases c21 : a0 = 3
          · rw [if_pos c21] at H
            have c21b0 : (a0 == 3) = true := beq_iff_eq.mpr c21
            have c21b1 : (a0 != 3) = false := bne_eq_false_iff_eq.mpr c21
            clear c21
            have H' := Aside0.mk H
            clear H
            go_wp2
            go_meet
            case rel => exact ⟨_, (0), H', ⟨by first | omega | exact Nat.le_refl _⟩, ⟨by (with_reducible repeat (first | refine blk_drewN ?_ _ | refine blk_drew ?_ | refine blk_alloc ?_ _)); exact BK221.out⟩, ⟨by repeat (first | (with_reducible first | exact HB.out | apply below_alloc | apply pw_below_drewN | apply below_drew1 | refine below_set ?_ GE221.out) | exact HB.out)⟩⟩
          · rw [if_neg c21] at H
            have c21b0 : (a0 == 3) = false := beq_eq_false_iff_ne.mpr c21
            have c21b1 : (a0 != 3) = true := bne_iff_ne.mpr c21
            by_cases c22 : a0 = 5
            · rw [if_pos c22] at H
              have c22b0 : (a0 == 5) = true := beq_iff_eq.mpr c22
              have c22b1 : (a0 != 5) = false := bne_eq_false_iff_eq.mpr c22
              clear c22
              obtain ⟨y236, hy236⟩ : ∃ y_ : List ByteArray, y_ = (([(⟨#[53, 46, 53, 46, 49, 32, 110, 111, 116, 32, 110, 111, 119]⟩ : ByteArray)] : List ByteArray)) := ⟨_, rfl⟩
              replace H : ((reply_Make.f 503 y236).bind fun bt239 => (some (bt239.1, bt239.2))) = some (r1, r2) := by first | (rw [hy236]; with_reducible exact H) | (have H2_ := (Option.bind_some _ _).symm.trans H; rw [hy236]; with_reducible exact H2_) | (have H2_ := (Option.bind_some _ _).symm.trans H; with_reducible exact H2_) | with_reducible exact H | (rw [hy236]; exact H) | exact H
              have Ny236 := Aside0.mk hy236
              clear hy236
              replace H := Option.bind_eq_some_iff.mp H
              obtain ⟨⟨t239, t240⟩, A230, H⟩ := H
              replace H : (some (t239, t240)) = some (r1, r2) := H
              have A23 := Aside0.mk A230
              clear A230
              simp only [Option.some.injEq, Prod.mk.injEq] at H
              obtain ⟨rfl, rfl⟩ := H
              go_wp2_with (first | ((with_reducible refine gate_dst (N := 41) rfl ?_); refine Kd.R_lit Kd.string _ 9 ?hg (N := 41) ?hd (xs := ([(⟨#[53, 46, 53, 46, 49, 32, 110, 111, 116, 32, 110, 111, 119]⟩ : ByteArray)] : List ByteArray)) (inner := [.string (⟨#[53, 46, 53, 46, 49, 32, 110, 111, 116, 32, 110, 111, 119]⟩ : ByteArray)]) (ok := fun _ => True) (okp := fun _ => True) ?hr ?hp (fun _ hk => hk) trivial (Below.refl _ _) (Nat.le_refl _) (by simp) ?_; (case hd => rfl); (case hg => rfl); (case hr => first | (go_simp; done) | (go_simp; rfl)); (case hp => exact (Reps.one (show Kd.M Kd.string _ _ _ (⟨#[53, 46, 53, 46, 49, 32, 110, 111, 116, 32, 110, 111, 119]⟩ : ByteArray) [.string (⟨#[53, 46, 53, 46, 49, 32, 110, 111, 116, 32, 110, 111, 119]⟩ : ByteArray)] from rfl) (Reps.none _ _))); intro v237 w24 ho25 hb hg_ hnew_; clear hg_ hnew_; (first | rw [← Ny236.out] at ho25 | (simp only [Int.reduceToNat] at ho25; rw [← Ny236.out] at ho25)); have n0_ := Aside0.mk (Kd.R_lower ho25 (below_size (by repeat (first | (with_reducible first | exact HB.out | apply below_alloc | apply pw_below_drewN | apply below_drew1 | refine below_set ?_ GE221.out) | exact HB.out)))); have n1_ := Aside0.mk (blk_below (g := gb221) (o := .cells #[.int .i64 0, .slice none 0 0] 27 (0, 0)) (by (with_reducible repeat (first | refine blk_drewN ?_ _ | refine blk_drew ?_ | refine blk_alloc ?_ _)); exact BK221.out) hb); have n2_ := Aside0.mk (below_step (by repeat (first | (with_reducible first | exact HB.out | apply below_alloc | apply pw_below_drewN | apply below_drew1 | refine below_set ?_ GE221.out) | exact HB.out)) hb); clear BK221; clear HB; have HO238 := n0_; have BK221 := n1_; have HB := n2_; clear n0_ n1_ n2_; clear hb ho25; obtain ⟨Ao26, co26, eo26⟩ := Kd.R_slice HO238.out; subst eo26) | ((with_reducible refine gate_callee (f := 10) rfl ?_); refine goesL_ (some 42) rfl rfl Tryd.func10 (by kernel_rfl) rfl #[.int .i64 503, .slice Ao26 y236.length co26] rfl (by (try simp only [List.map_toArray, List.map_cons, List.map_nil]); first | done | rfl | (simp only [List.length_drop, List.length_take]; rfl)) ?_; (with_reducible refine (reply_Make.calls 503 _ _ y236 t239 t240 _ ?side1 ?side2 A23.out).mono ?_); (case side1 => repeat (first | exact (Kd.R_reads' HO238.out).2.2 | (with_reducible refine Kd.C_alloc ?_ _) | (with_reducible refine Kd.C_drewN ?_ _) | (with_reducible refine Kd.C_drew ?_))); (case side2 => exact (Kd.R_reads' HO238.out).2.1); rintro e w27 ⟨v241, rfl, ho0, hb⟩; refine ⟨_, rfl, ?_⟩; have n0_ := Aside0.mk (Kd.R_elder' (by (with_reducible repeat (first | apply Kd.R_alloc | apply Kd.R_drewN | apply Kd.R_drew)); exact HO238.out) (Kd.R_base ho0) hb); have n1_ := Aside0.mk (Kd.R_lower (Kd.R_new' ho0 (Kd.R_lt (by (with_reducible repeat (first | apply Kd.R_alloc | apply Kd.R_drewN | apply Kd.R_drew)); exact HO238.out))) (below_size (by repeat (first | (with_reducible first | exact HB.out | apply below_alloc | apply pw_below_drewN | apply below_drew1 | refine below_set ?_ GE221.out) | exact HB.out)))); have n2_ := Aside0.mk (blk_below (g := gb221) (o := .cells #[.int .i64 0, .slice none 0 0] 27 (0, 0)) (by (with_reducible repeat (first | refine blk_drewN ?_ _ | refine blk_drew ?_ | refine blk_alloc ?_ _)); exact BK221.out) hb); have n3_ := Aside0.mk (below_step (by repeat (first | (with_reducible first | exact HB.out | apply below_alloc | apply pw_below_drewN | apply below_drew1 | refine below_set ?_ GE221.out) | exact HB.out)) hb); clear HO238; clear BK221; clear HB; have HO238 := n0_; have HO242 := n1_; have BK221 := n2_; have HB := n3_; clear n0_ n1_ n2_ n3_; (try clear hb); (try clear hb2); (try clear hk); (try clear hi); (try clear ho0); have hcz28_0 : w27.cell? ⟨gb221, 0, none⟩ = some (.int .i64 0) := (blk_cell BK221.out 0).trans rfl; have hcz28_1 : w27.cell? ⟨gb221, 1, none⟩ = some (.slice none 0 0) := (blk_cell BK221.out 1).trans rfl; have hfz28_0 := blk_frozen BK221.out 0; have hfz28_1 := blk_frozen BK221.out 1; obtain ⟨Ao29, co29, eo29⟩ := Kd.R_slice HO242.out; subst eo29))
              refine bodyPost_ret (results_cell_row rfl _ _ gb221 27 #[.int .i64 t239, .slice Ao29 t240.length co29] (0, 0) _ rfl (by (with_reducible repeat (first | refine blk_drewN ?_ _ | refine blk_drew ?_ | refine blk_alloc ?_ _)); refine blk_put (cs := #[.int .i64 t239, .slice none 0 0]) ?_ 1 _ rfl; (with_reducible repeat (first | refine blk_drewN ?_ _ | refine blk_drew ?_ | refine blk_alloc ?_ _)); refine blk_put (cs := #[.int .i64 0, .slice none 0 0]) ?_ 0 _ rfl; (with_reducible repeat (first | refine blk_drewN ?_ _ | refine blk_drew ?_ | refine blk_alloc ?_ _)); exact BK221.out) Tryd.underlying27 rfl (by kernel_rfl)) rfl ?_
              exact ⟨_, by first | rfl | (simp [errW_none, errW_some] <;> rfl) | (simp [*, errW_none, errW_some] <;> rfl), by (with_reducible repeat (first | apply Kd.R_alloc | apply Kd.R_drewN | apply Kd.R_drew)); exact Kd.R_mono (Kd.R_far (p := ⟨gb221, 1, none⟩) (Kd.R_far (p := ⟨gb221, 0, none⟩) (Kd.R_types HO242.out BK221.out (by decide)) (fun _ hk => hk.2) (.int .i64 t239)) (fun _ hk => hk.2) (.slice Ao29 t240.length co29)) (fun _ hk => trivial), by repeat (first | (with_reducible first | exact HB.out | apply below_alloc | apply pw_below_drewN | apply below_drew1 | refine below_set ?_ GE221.out) | exact HB.out)⟩
            · rw [if_neg c22] at H
              have c22b0 : (a0 == 5) = false := beq_eq_false_iff_ne.mpr c22
              have c22b1 : (a0 != 5) = true := bne_iff_ne.mpr c22
              by_cases c30 : a0 = 6
              · rw [if_pos c30] at H
                have c30b0 : (a0 == 6) = true := beq_iff_eq.mpr c30
                have c30b1 : (a0 != 6) = false := bne_eq_false_iff_eq.mpr c30
                clear c30
                obtain ⟨y243, hy243⟩ : ∃ y_ : List ByteArray, y_ = (([(⟨#[53, 46, 49, 46, 49, 32, 110, 111, 98, 111, 100, 121, 32, 104, 101, 114, 101, 32, 104, 97, 115, 32, 116, 104, 97, 116, 32, 110, 97, 109, 101]⟩ : ByteArray)] : List ByteArray)) := ⟨_, rfl⟩
                replace H : ((reply_Make.f 550 y243).bind fun bt246 => (some (bt246.1, bt246.2))) = some (r1, r2) := by first | (rw [hy243]; with_reducible exact H) | (have H2_ := (Option.bind_some _ _).symm.trans H; rw [hy243]; with_reducible exact H2_) | (have H2_ := (Option.bind_some _ _).symm.trans H; with_reducible exact H2_) | with_reducible exact H | (rw [hy243]; exact H) | exact H
                have Ny243 := Aside0.mk hy243
                clear hy243
                replace H := Option.bind_eq_some_iff.mp H
                obtain ⟨⟨t246, t247⟩, A310, H⟩ := H
                replace H : (some (t246, t247)) = some (r1, r2) := H
                have A31 := Aside0.mk A310
                clear A310
                simp only [Option.some.injEq, Prod.mk.injEq] at H
                obtain ⟨rfl, rfl⟩ := H
                go_wp2_with (first | ((with_reducible refine gate_dst (N := 43) rfl ?_); refine Kd.R_lit Kd.string _ 9 ?hg (N := 43) ?hd (xs := ([(⟨#[53, 46, 49, 46, 49, 32, 110, 111, 98, 111, 100, 121, 32, 104, 101, 114, 101, 32, 104, 97, 115, 32, 116, 104, 97, 116, 32, 110, 97, 109, 101]⟩ : ByteArray)] : List ByteArray)) (inner := [.string (⟨#[53, 46, 49, 46, 49, 32, 110, 111, 98, 111, 100, 121, 32, 104, 101, 114, 101, 32, 104, 97, 115, 32, 116, 104, 97, 116, 32, 110, 97, 109, 101]⟩ : ByteArray)]) (ok := fun _ => True) (okp := fun _ => True) ?hr ?hp (fun _ hk => hk) trivial (Below.refl _ _) (Nat.le_refl _) (by simp) ?_; (case hd => rfl); (case hg => rfl); (case hr => first | (go_simp; done) | (go_simp; rfl)); (case hp => exact (Reps.one (show Kd.M Kd.string _ _ _ (⟨#[53, 46, 49, 46, 49, 32, 110, 111, 98, 111, 100, 121, 32, 104, 101, 114, 101, 32, 104, 97, 115, 32, 116, 104, 97, 116, 32, 110, 97, 109, 101]⟩ : ByteArray) [.string (⟨#[53, 46, 49, 46, 49, 32, 110, 111, 98, 111, 100, 121, 32, 104, 101, 114, 101, 32, 104, 97, 115, 32, 116, 104, 97, 116, 32, 110, 97, 109, 101]⟩ : ByteArray)] from rfl) (Reps.none _ _))); intro v244 w32 ho33 hb hg_ hnew_; clear hg_ hnew_; (first | rw [← Ny243.out] at ho33 | (simp only [Int.reduceToNat] at ho33; rw [← Ny243.out] at ho33)); have n0_ := Aside0.mk (Kd.R_lower ho33 (below_size (by repeat (first | (with_reducible first | exact HB.out | apply below_alloc | apply pw_below_drewN | apply below_drew1 | refine below_set ?_ GE221.out) | exact HB.out)))); have n1_ := Aside0.mk (blk_below (g := gb221) (o := .cells #[.int .i64 0, .slice none 0 0] 27 (0, 0)) (by (with_reducible repeat (first | refine blk_drewN ?_ _ | refine blk_drew ?_ | refine blk_alloc ?_ _)); exact BK221.out) hb); have n2_ := Aside0.mk (below_step (by repeat (first | (with_reducible first | exact HB.out | apply below_alloc | apply pw_below_drewN | apply below_drew1 | refine below_set ?_ GE221.out) | exact HB.out)) hb); clear BK221; clear HB; have HO245 := n0_; have BK221 := n1_; have HB := n2_; clear n0_ n1_ n2_; clear hb ho33; obtain ⟨Ao34, co34, eo34⟩ := Kd.R_slice HO245.out; subst eo34) | ((with_reducible refine gate_callee (f := 10) rfl ?_); refine goesL_ (some 44) rfl rfl Tryd.func10 (by kernel_rfl) rfl #[.int .i64 550, .slice Ao34 y243.length co34] rfl (by (try simp only [List.map_toArray, List.map_cons, List.map_nil]); first | done | rfl | (simp only [List.length_drop, List.length_take]; rfl)) ?_; (with_reducible refine (reply_Make.calls 550 _ _ y243 t246 t247 _ ?side1 ?side2 A31.out).mono ?_); (case side1 => repeat (first | exact (Kd.R_reads' HO245.out).2.2 | (with_reducible refine Kd.C_alloc ?_ _) | (with_reducible refine Kd.C_drewN ?_ _) | (with_reducible refine Kd.C_drew ?_))); (case side2 => exact (Kd.R_reads' HO245.out).2.1); rintro e w35 ⟨v248, rfl, ho0, hb⟩; refine ⟨_, rfl, ?_⟩; have n0_ := Aside0.mk (Kd.R_elder' (by (with_reducible repeat (first | apply Kd.R_alloc | apply Kd.R_drewN | apply Kd.R_drew)); exact HO245.out) (Kd.R_base ho0) hb); have n1_ := Aside0.mk (Kd.R_lower (Kd.R_new' ho0 (Kd.R_lt (by (with_reducible repeat (first | apply Kd.R_alloc | apply Kd.R_drewN | apply Kd.R_drew)); exact HO245.out))) (below_size (by repeat (first | (with_reducible first | exact HB.out | apply below_alloc | apply pw_below_drewN | apply below_drew1 | refine below_set ?_ GE221.out) | exact HB.out)))); have n2_ := Aside0.mk (blk_below (g := gb221) (o := .cells #[.int .i64 0, .slice none 0 0] 27 (0, 0)) (by (with_reducible repeat (first | refine blk_drewN ?_ _ | refine blk_drew ?_ | refine blk_alloc ?_ _)); exact BK221.out) hb); have n3_ := Aside0.mk (below_step (by repeat (first | (with_reducible first | exact HB.out | apply below_alloc | apply pw_below_drewN | apply below_drew1 | refine below_set ?_ GE221.out) | exact HB.out)) hb); clear HO245; clear BK221; clear HB; have HO245 := n0_; have HO249 := n1_; have BK221 := n2_; have HB := n3_; clear n0_ n1_ n2_ n3_; (try clear hb); (try clear hb2); (try clear hk); (try clear hi); (try clear ho0); have hcz36_0 : w35.cell? ⟨gb221, 0, none⟩ = some (.int .i64 0) := (blk_cell BK221.out 0).trans rfl; have hcz36_1 : w35.cell? ⟨gb221, 1, none⟩ = some (.slice none 0 0) := (blk_cell BK221.out 1).trans rfl; have hfz36_0 := blk_frozen BK221.out 0; have hfz36_1 := blk_frozen BK221.out 1; obtain ⟨Ao37, co37, eo37⟩ := Kd.R_slice HO249.out; subst eo37))
                refine bodyPost_ret (results_cell_row rfl _ _ gb221 27 #[.int .i64 t246, .slice Ao37 t247.length co37] (0, 0) _ rfl (by (with_reducible repeat (first | refine blk_drewN ?_ _ | refine blk_drew ?_ | refine blk_alloc ?_ _)); refine blk_put (cs := #[.int .i64 t246, .slice none 0 0]) ?_ 1 _ rfl; (with_reducible repeat (first | refine blk_drewN ?_ _ | refine blk_drew ?_ | refine blk_alloc ?_ _)); refine blk_put (cs := #[.int .i64 0, .slice none 0 0]) ?_ 0 _ rfl; (with_reducible repeat (first | refine blk_drewN ?_ _ | refine blk_drew ?_ | refine blk_alloc ?_ _)); exact BK221.out) Tryd.underlying27 rfl (by kernel_rfl)) rfl ?_
                exact ⟨_, by first | rfl | (simp [errW_none, errW_some] <;> rfl) | (simp [*, errW_none, errW_some] <;> rfl), by (with_reducible repeat (first | apply Kd.R_alloc | apply Kd.R_drewN | apply Kd.R_drew)); exact Kd.R_mono (Kd.R_far (p := ⟨gb221, 1, none⟩) (Kd.R_far (p := ⟨gb221, 0, none⟩) (Kd.R_types HO249.out BK221.out (by decide)) (fun _ hk => hk.2) (.int .i64 t246)) (fun _ hk => hk.2) (.slice Ao37 t247.length co37)) (fun _ hk => trivial), by repeat (first | (with_reducible first | exact HB.out | apply below_alloc | apply pw_below_drewN | apply below_drew1 | refine below_set ?_ GE221.out) | exact HB.out)⟩
              · rw [if_neg c30] at H
                have c30b0 : (a0 == 6) = false := beq_eq_false_iff_ne.mpr c30
                have c30b1 : (a0 != 6) = true := bne_iff_ne.mpr c30
                by_cases c38 : a0 = 340
                · rw [if_pos c38] at H
                  have c38b0 : (a0 == 340) = true := beq_iff_eq.mpr c38
                  have c38b1 : (a0 != 340) = false := bne_eq_false_iff_eq.mpr c38
                  clear c38
                  obtain ⟨y250, hy250⟩ : ∃ y_ : List ByteArray, y_ = (([(⟨#[53, 46, 55, 46, 49, 32, 110, 111, 116, 32, 97, 108, 108, 111, 119, 101, 100]⟩ : ByteArray)] : List ByteArray)) := ⟨_, rfl⟩
                  replace H : ((reply_Make.f 550 y250).bind fun bt253 => (some (bt253.1, bt253.2))) = some (r1, r2) := by first | (rw [hy250]; with_reducible exact H) | (have H2_ := (Option.bind_some _ _).symm.trans H; rw [hy250]; with_reducible exact H2_) | (have H2_ := (Option.bind_some _ _).symm.trans H; with_reducible exact H2_) | with_reducible exact H | (rw [hy250]; exact H) | exact H
                  have Ny250 := Aside0.mk hy250
                  clear hy250
                  replace H := Option.bind_eq_some_iff.mp H
                  obtain ⟨⟨t253, t254⟩, A390, H⟩ := H
                  replace H : (some (t253, t254)) = some (r1, r2) := H
                  have A39 := Aside0.mk A390
                  clear A390
                  simp only [Option.some.injEq, Prod.mk.injEq] at H
                  obtain ⟨rfl, rfl⟩ := H
                  go_wp2_with (first | ((with_reducible refine gate_dst (N := 45) rfl ?_); refine Kd.R_lit Kd.string _ 9 ?hg (N := 45) ?hd (xs := ([(⟨#[53, 46, 55, 46, 49, 32, 110, 111, 116, 32, 97, 108, 108, 111, 119, 101, 100]⟩ : ByteArray)] : List ByteArray)) (inner := [.string (⟨#[53, 46, 55, 46, 49, 32, 110, 111, 116, 32, 97, 108, 108, 111, 119, 101, 100]⟩ : ByteArray)]) (ok := fun _ => True) (okp := fun _ => True) ?hr ?hp (fun _ hk => hk) trivial (Below.refl _ _) (Nat.le_refl _) (by simp) ?_; (case hd => rfl); (case hg => rfl); (case hr => first | (go_simp; done) | (go_simp; rfl)); (case hp => exact (Reps.one (show Kd.M Kd.string _ _ _ (⟨#[53, 46, 55, 46, 49, 32, 110, 111, 116, 32, 97, 108, 108, 111, 119, 101, 100]⟩ : ByteArray) [.string (⟨#[53, 46, 55, 46, 49, 32, 110, 111, 116, 32, 97, 108, 108, 111, 119, 101, 100]⟩ : ByteArray)] from rfl) (Reps.none _ _))); intro v251 w40 ho41 hb hg_ hnew_; clear hg_ hnew_; (first | rw [← Ny250.out] at ho41 | (simp only [Int.reduceToNat] at ho41; rw [← Ny250.out] at ho41)); have n0_ := Aside0.mk (Kd.R_lower ho41 (below_size (by repeat (first | (with_reducible first | exact HB.out | apply below_alloc | apply pw_below_drewN | apply below_drew1 | refine below_set ?_ GE221.out) | exact HB.out)))); have n1_ := Aside0.mk (blk_below (g := gb221) (o := .cells #[.int .i64 0, .slice none 0 0] 27 (0, 0)) (by (with_reducible repeat (first | refine blk_drewN ?_ _ | refine blk_drew ?_ | refine blk_alloc ?_ _)); exact BK221.out) hb); have n2_ := Aside0.mk (below_step (by repeat (first | (with_reducible first | exact HB.out | apply below_alloc | apply pw_below_drewN | apply below_drew1 | refine below_set ?_ GE221.out) | exact HB.out)) hb); clear BK221; clear HB; have HO252 := n0_; have BK221 := n1_; have HB := n2_; clear n0_ n1_ n2_; clear hb ho41; obtain ⟨Ao42, co42, eo42⟩ := Kd.R_slice HO252.out; subst eo42) | ((with_reducible refine gate_callee (f := 10) rfl ?_); refine goesL_ (some 46) rfl rfl Tryd.func10 (by kernel_rfl) rfl #[.int .i64 550, .slice Ao42 y250.length co42] rfl (by (try simp only [List.map_toArray, List.map_cons, List.map_nil]); first | done | rfl | (simp only [List.length_drop, List.length_take]; rfl)) ?_; (with_reducible refine (reply_Make.calls 550 _ _ y250 t253 t254 _ ?side1 ?side2 A39.out).mono ?_); (case side1 => repeat (first | exact (Kd.R_reads' HO252.out).2.2 | (with_reducible refine Kd.C_alloc ?_ _) | (with_reducible refine Kd.C_drewN ?_ _) | (with_reducible refine Kd.C_drew ?_))); (case side2 => exact (Kd.R_reads' HO252.out).2.1); rintro e w43 ⟨v255, rfl, ho0, hb⟩; refine ⟨_, rfl, ?_⟩; have n0_ := Aside0.mk (Kd.R_elder' (by (with_reducible repeat (first | apply Kd.R_alloc | apply Kd.R_drewN | apply Kd.R_drew)); exact HO252.out) (Kd.R_base ho0) hb); have n1_ := Aside0.mk (Kd.R_lower (Kd.R_new' ho0 (Kd.R_lt (by (with_reducible repeat (first | apply Kd.R_alloc | apply Kd.R_drewN | apply Kd.R_drew)); exact HO252.out))) (below_size (by repeat (first | (with_reducible first | exact HB.out | apply below_alloc | apply pw_below_drewN | apply below_drew1 | refine below_set ?_ GE221.out) | exact HB.out)))); have n2_ := Aside0.mk (blk_below (g := gb221) (o := .cells #[.int .i64 0, .slice none 0 0] 27 (0, 0)) (by (with_reducible repeat (first | refine blk_drewN ?_ _ | refine blk_drew ?_ | refine blk_alloc ?_ _)); exact BK221.out) hb); have n3_ := Aside0.mk (below_step (by repeat (first | (with_reducible first | exact HB.out | apply below_alloc | apply pw_below_drewN | apply below_drew1 | refine below_set ?_ GE221.out) | exact HB.out)) hb); clear HO252; clear BK221; clear HB; have HO252 := n0_; have HO256 := n1_; have BK221 := n2_; have HB := n3_; clear n0_ n1_ n2_ n3_; (try clear hb); (try clear hb2); (try clear hk); (try clear hi); (try clear ho0); have hcz44_0 : w43.cell? ⟨gb221, 0, none⟩ = some (.int .i64 0) := (blk_cell BK221.out 0).trans rfl; have hcz44_1 : w43.cell? ⟨gb221, 1, none⟩ = some (.slice none 0 0) := (blk_cell BK221.out 1).trans rfl; have hfz44_0 := blk_frozen BK221.out 0; have hfz44_1 := blk_frozen BK221.out 1; obtain ⟨Ao45, co45, eo45⟩ := Kd.R_slice HO256.out; subst eo45))
                  refine bodyPost_ret (results_cell_row rfl _ _ gb221 27 #[.int .i64 t253, .slice Ao45 t254.length co45] (0, 0) _ rfl (by (with_reducible repeat (first | refine blk_drewN ?_ _ | refine blk_drew ?_ | refine blk_alloc ?_ _)); refine blk_put (cs := #[.int .i64 t253, .slice none 0 0]) ?_ 1 _ rfl; (with_reducible repeat (first | refine blk_drewN ?_ _ | refine blk_drew ?_ | refine blk_alloc ?_ _)); refine blk_put (cs := #[.int .i64 0, .slice none 0 0]) ?_ 0 _ rfl; (with_reducible repeat (first | refine blk_drewN ?_ _ | refine blk_drew ?_ | refine blk_alloc ?_ _)); exact BK221.out) Tryd.underlying27 rfl (by kernel_rfl)) rfl ?_
                  exact ⟨_, by first | rfl | (simp [errW_none, errW_some] <;> rfl) | (simp [*, errW_none, errW_some] <;> rfl), by (with_reducible repeat (first | apply Kd.R_alloc | apply Kd.R_drewN | apply Kd.R_drew)); exact Kd.R_mono (Kd.R_far (p := ⟨gb221, 1, none⟩) (Kd.R_far (p := ⟨gb221, 0, none⟩) (Kd.R_types HO256.out BK221.out (by decide)) (fun _ hk => hk.2) (.int .i64 t253)) (fun _ hk => hk.2) (.slice Ao45 t254.length co45)) (fun _ hk => trivial), by repeat (first | (with_reducible first | exact HB.out | apply below_alloc | apply pw_below_drewN | apply below_drew1 | refine below_set ?_ GE221.out) | exact HB.out)⟩
                · rw [if_neg c38] at H
                  have c38b0 : (a0 == 340) = false := beq_eq_false_iff_ne.mpr c38
                  have c38b1 : (a0 != 340) = true := bne_iff_ne.mpr c38
                  by_cases c46 : a0 = 2
                  · rw [if_pos c46] at H
                    have c46b0 : (a0 == 2) = true := beq_iff_eq.mpr c46
                    have c46b1 : (a0 != 2) = false := bne_eq_false_iff_eq.mpr c46
                    clear c46
                    obtain ⟨y306, hy306⟩ : ∃ y_ : List ByteArray, y_ = (([(⟨#[53, 46, 51, 46, 52, 32, 116, 111, 111, 32, 109, 117, 99, 104]⟩ : ByteArray)] : List ByteArray)) := ⟨_, rfl⟩
                    replace H : ((reply_Make.f 552 y306).bind fun bt309 => (some (bt309.1, bt309.2))) = some (r1, r2) := by first | (rw [hy306]; with_reducible exact H) | (have H2_ := (Option.bind_some _ _).symm.trans H; rw [hy306]; with_reducible exact H2_) | (have H2_ := (Option.bind_some _ _).symm.trans H; with_reducible exact H2_) | with_reducible exact H | (rw [hy306]; exact H) | exact H
                    have Ny306 := Aside0.mk hy306
                    clear hy306
                    replace H := Option.bind_eq_some_iff.mp H
                    obtain ⟨⟨t309, t310⟩, A470, H⟩ := H
                    replace H : (some (t309, t310)) = some (r1, r2) := H
                    have A47 := Aside0.mk A470
                    clear A470
                    simp only [Option.some.injEq, Prod.mk.injEq] at H
                    obtain ⟨rfl, rfl⟩ := H
                    go_wp2_with (first | ((with_reducible refine gate_dst (N := 47) rfl ?_); refine Kd.R_lit Kd.string _ 9 ?hg (N := 47) ?hd (xs := ([(⟨#[53, 46, 51, 46, 52, 32, 116, 111, 111, 32, 109, 117, 99, 104]⟩ : ByteArray)] : List ByteArray)) (inner := [.string (⟨#[53, 46, 51, 46, 52, 32, 116, 111, 111, 32, 109, 117, 99, 104]⟩ : ByteArray)]) (ok := fun _ => True) (okp := fun _ => True) ?hr ?hp (fun _ hk => hk) trivial (Below.refl _ _) (Nat.le_refl _) (by simp) ?_; (case hd => rfl); (case hg => rfl); (case hr => first | (go_simp; done) | (go_simp; rfl)); (case hp => exact (Reps.one (show Kd.M Kd.string _ _ _ (⟨#[53, 46, 51, 46, 52, 32, 116, 111, 111, 32, 109, 117, 99, 104]⟩ : ByteArray) [.string (⟨#[53, 46, 51, 46, 52, 32, 116, 111, 111, 32, 109, 117, 99, 104]⟩ : ByteArray)] from rfl) (Reps.none _ _))); intro v307 w48 ho49 hb hg_ hnew_; clear hg_ hnew_; (first | rw [← Ny306.out] at ho49 | (simp only [Int.reduceToNat] at ho49; rw [← Ny306.out] at ho49)); have n0_ := Aside0.mk (Kd.R_lower ho49 (below_size (by repeat (first | (with_reducible first | exact HB.out | apply below_alloc | apply pw_below_drewN | apply below_drew1 | refine below_set ?_ GE221.out) | exact HB.out)))); have n1_ := Aside0.mk (blk_below (g := gb221) (o := .cells #[.int .i64 0, .slice none 0 0] 27 (0, 0)) (by (with_reducible repeat (first | refine blk_drewN ?_ _ | refine blk_drew ?_ | refine blk_alloc ?_ _)); exact BK221.out) hb); have n2_ := Aside0.mk (below_step (by repeat (first | (with_reducible first | exact HB.out | apply below_alloc | apply pw_below_drewN | apply below_drew1 | refine below_set ?_ GE221.out) | exact HB.out)) hb); clear BK221; clear HB; have HO308 := n0_; have BK221 := n1_; have HB := n2_; clear n0_ n1_ n2_; clear hb ho49; obtain ⟨Ao50, co50, eo50⟩ := Kd.R_slice HO308.out; subst eo50) | ((with_reducible refine gate_callee (f := 10) rfl ?_); refine goesL_ (some 48) rfl rfl Tryd.func10 (by kernel_rfl) rfl #[.int .i64 552, .slice Ao50 y306.length co50] rfl (by (try simp only [List.map_toArray, List.map_cons, List.map_nil]); first | done | rfl | (simp only [List.length_drop, List.length_take]; rfl)) ?_; (with_reducible refine (reply_Make.calls 552 _ _ y306 t309 t310 _ ?side1 ?side2 A47.out).mono ?_); (case side1 => repeat (first | exact (Kd.R_reads' HO308.out).2.2 | (with_reducible refine Kd.C_alloc ?_ _) | (with_reducible refine Kd.C_drewN ?_ _) | (with_reducible refine Kd.C_drew ?_))); (case side2 => exact (Kd.R_reads' HO308.out).2.1); rintro e w51 ⟨v311, rfl, ho0, hb⟩; refine ⟨_, rfl, ?_⟩; have n0_ := Aside0.mk (Kd.R_elder' (by (with_reducible repeat (first | apply Kd.R_alloc | apply Kd.R_drewN | apply Kd.R_drew)); exact HO308.out) (Kd.R_base ho0) hb); have n1_ := Aside0.mk (Kd.R_lower (Kd.R_new' ho0 (Kd.R_lt (by (with_reducible repeat (first | apply Kd.R_alloc | apply Kd.R_drewN | apply Kd.R_drew)); exact HO308.out))) (below_size (by repeat (first | (with_reducible first | exact HB.out | apply below_alloc | apply pw_below_drewN | apply below_drew1 | refine below_set ?_ GE221.out) | exact HB.out)))); have n2_ := Aside0.mk (blk_below (g := gb221) (o := .cells #[.int .i64 0, .slice none 0 0] 27 (0, 0)) (by (with_reducible repeat (first | refine blk_drewN ?_ _ | refine blk_drew ?_ | refine blk_alloc ?_ _)); exact BK221.out) hb); have n3_ := Aside0.mk (below_step (by repeat (first | (with_reducible first | exact HB.out | apply below_alloc | apply pw_below_drewN | apply below_drew1 | refine below_set ?_ GE221.out) | exact HB.out)) hb); clear HO308; clear BK221; clear HB; have HO308 := n0_; have HO312 := n1_; have BK221 := n2_; have HB := n3_; clear n0_ n1_ n2_ n3_; (try clear hb); (try clear hb2); (try clear hk); (try clear hi); (try clear ho0); have hcz52_0 : w51.cell? ⟨gb221, 0, none⟩ = some (.int .i64 0) := (blk_cell BK221.out 0).trans rfl; have hcz52_1 : w51.cell? ⟨gb221, 1, none⟩ = some (.slice none 0 0) := (blk_cell BK221.out 1).trans rfl; have hfz52_0 := blk_frozen BK221.out 0; have hfz52_1 := blk_frozen BK221.out 1; obtain ⟨Ao53, co53, eo53⟩ := Kd.R_slice HO312.out; subst eo53))
                    refine bodyPost_ret (results_cell_row rfl _ _ gb221 27 #[.int .i64 t309, .slice Ao53 t310.length co53] (0, 0) _ rfl (by (with_reducible repeat (first | refine blk_drewN ?_ _ | refine blk_drew ?_ | refine blk_alloc ?_ _)); refine blk_put (cs := #[.int .i64 t309, .slice none 0 0]) ?_ 1 _ rfl; (with_reducible repeat (first | refine blk_drewN ?_ _ | refine blk_drew ?_ | refine blk_alloc ?_ _)); refine blk_put (cs := #[.int .i64 0, .slice none 0 0]) ?_ 0 _ rfl; (with_reducible repeat (first | refine blk_drewN ?_ _ | refine blk_drew ?_ | refine blk_alloc ?_ _)); exact BK221.out) Tryd.underlying27 rfl (by kernel_rfl)) rfl ?_
                    exact ⟨_, by first | rfl | (simp [errW_none, errW_some] <;> rfl) | (simp [*, errW_none, errW_some] <;> rfl), by (with_reducible repeat (first | apply Kd.R_alloc | apply Kd.R_drewN | apply Kd.R_drew)); exact Kd.R_mono (Kd.R_far (p := ⟨gb221, 1, none⟩) (Kd.R_far (p := ⟨gb221, 0, none⟩) (Kd.R_types HO312.out BK221.out (by decide)) (fun _ hk => hk.2) (.int .i64 t309)) (fun _ hk => hk.2) (.slice Ao53 t310.length co53)) (fun _ hk => trivial), by repeat (first | (with_reducible first | exact HB.out | apply below_alloc | apply pw_below_drewN | apply below_drew1 | refine below_set ?_ GE221.out) | exact HB.out)⟩
                  · rw [if_neg c46] at H
                    have c46b0 : (a0 == 2) = false := beq_eq_false_iff_ne.mpr c46
                    have c46b1 : (a0 != 2) = true := bne_iff_ne.mpr c46
                    by_cases c54 : a0 = 130
                    · rw [if_pos c54] at H
                      have c54b0 : (a0 == 130) = true := beq_iff_eq.mpr c54
                      have c54b1 : (a0 != 130) = false := bne_eq_false_iff_eq.mpr c54
                      clear c54
                      obtain ⟨y257, hy257⟩ : ∃ y_ : List ByteArray, y_ = (([(⟨#[53, 46, 49, 46, 51, 32, 110, 111, 32, 115, 117, 99, 104, 32, 97, 100, 100, 114, 101, 115, 115]⟩ : ByteArray)] : List ByteArray)) := ⟨_, rfl⟩
                      replace H : ((reply_Make.f 553 y257).bind fun bt260 => (some (bt260.1, bt260.2))) = some (r1, r2) := by first | (rw [hy257]; with_reducible exact H) | (have H2_ := (Option.bind_some _ _).symm.trans H; rw [hy257]; with_reducible exact H2_) | (have H2_ := (Option.bind_some _ _).symm.trans H; with_reducible exact H2_) | with_reducible exact H | (rw [hy257]; exact H) | exact H
                      have Ny257 := Aside0.mk hy257
                      clear hy257
                      replace H := Option.bind_eq_some_iff.mp H
                      obtain ⟨⟨t260, t261⟩, A550, H⟩ := H
                      replace H : (some (t260, t261)) = some (r1, r2) := H
                      have A55 := Aside0.mk A550
                      clear A550
                      simp only [Option.some.injEq, Prod.mk.injEq] at H
                      obtain ⟨rfl, rfl⟩ := H
                      go_wp2_with (first | ((with_reducible refine gate_dst (N := 49) rfl ?_); refine Kd.R_lit Kd.string _ 9 ?hg (N := 49) ?hd (xs := ([(⟨#[53, 46, 49, 46, 51, 32, 110, 111, 32, 115, 117, 99, 104, 32, 97, 100, 100, 114, 101, 115, 115]⟩ : ByteArray)] : List ByteArray)) (inner := [.string (⟨#[53, 46, 49, 46, 51, 32, 110, 111, 32, 115, 117, 99, 104, 32, 97, 100, 100, 114, 101, 115, 115]⟩ : ByteArray)]) (ok := fun _ => True) (okp := fun _ => True) ?hr ?hp (fun _ hk => hk) trivial (Below.refl _ _) (Nat.le_refl _) (by simp) ?_; (case hd => rfl); (case hg => rfl); (case hr => first | (go_simp; done) | (go_simp; rfl)); (case hp => exact (Reps.one (show Kd.M Kd.string _ _ _ (⟨#[53, 46, 49, 46, 51, 32, 110, 111, 32, 115, 117, 99, 104, 32, 97, 100, 100, 114, 101, 115, 115]⟩ : ByteArray) [.string (⟨#[53, 46, 49, 46, 51, 32, 110, 111, 32, 115, 117, 99, 104, 32, 97, 100, 100, 114, 101, 115, 115]⟩ : ByteArray)] from rfl) (Reps.none _ _))); intro v258 w56 ho57 hb hg_ hnew_; clear hg_ hnew_; (first | rw [← Ny257.out] at ho57 | (simp only [Int.reduceToNat] at ho57; rw [← Ny257.out] at ho57)); have n0_ := Aside0.mk (Kd.R_lower ho57 (below_size (by repeat (first | (with_reducible first | exact HB.out | apply below_alloc | apply pw_below_drewN | apply below_drew1 | refine below_set ?_ GE221.out) | exact HB.out)))); have n1_ := Aside0.mk (blk_below (g := gb221) (o := .cells #[.int .i64 0, .slice none 0 0] 27 (0, 0)) (by (with_reducible repeat (first | refine blk_drewN ?_ _ | refine blk_drew ?_ | refine blk_alloc ?_ _)); exact BK221.out) hb); have n2_ := Aside0.mk (below_step (by repeat (first | (with_reducible first | exact HB.out | apply below_alloc | apply pw_below_drewN | apply below_drew1 | refine below_set ?_ GE221.out) | exact HB.out)) hb); clear BK221; clear HB; have HO259 := n0_; have BK221 := n1_; have HB := n2_; clear n0_ n1_ n2_; clear hb ho57; obtain ⟨Ao58, co58, eo58⟩ := Kd.R_slice HO259.out; subst eo58) | ((with_reducible refine gate_callee (f := 10) rfl ?_); refine goesL_ (some 50) rfl rfl Tryd.func10 (by kernel_rfl) rfl #[.int .i64 553, .slice Ao58 y257.length co58] rfl (by (try simp only [List.map_toArray, List.map_cons, List.map_nil]); first | done | rfl | (simp only [List.length_drop, List.length_take]; rfl)) ?_; (with_reducible refine (reply_Make.calls 553 _ _ y257 t260 t261 _ ?side1 ?side2 A55.out).mono ?_); (case side1 => repeat (first | exact (Kd.R_reads' HO259.out).2.2 | (with_reducible refine Kd.C_alloc ?_ _) | (with_reducible refine Kd.C_drewN ?_ _) | (with_reducible refine Kd.C_drew ?_))); (case side2 => exact (Kd.R_reads' HO259.out).2.1); rintro e w59 ⟨v262, rfl, ho0, hb⟩; refine ⟨_, rfl, ?_⟩; have n0_ := Aside0.mk (Kd.R_elder' (by (with_reducible repeat (first | apply Kd.R_alloc | apply Kd.R_drewN | apply Kd.R_drew)); exact HO259.out) (Kd.R_base ho0) hb); have n1_ := Aside0.mk (Kd.R_lower (Kd.R_new' ho0 (Kd.R_lt (by (with_reducible repeat (first | apply Kd.R_alloc | apply Kd.R_drewN | apply Kd.R_drew)); exact HO259.out))) (below_size (by repeat (first | (with_reducible first | exact HB.out | apply below_alloc | apply pw_below_drewN | apply below_drew1 | refine below_set ?_ GE221.out) | exact HB.out)))); have n2_ := Aside0.mk (blk_below (g := gb221) (o := .cells #[.int .i64 0, .slice none 0 0] 27 (0, 0)) (by (with_reducible repeat (first | refine blk_drewN ?_ _ | refine blk_drew ?_ | refine blk_alloc ?_ _)); exact BK221.out) hb); have n3_ := Aside0.mk (below_step (by repeat (first | (with_reducible first | exact HB.out | apply below_alloc | apply pw_below_drewN | apply below_drew1 | refine below_set ?_ GE221.out) | exact HB.out)) hb); clear HO259; clear BK221; clear HB; have HO259 := n0_; have HO263 := n1_; have BK221 := n2_; have HB := n3_; clear n0_ n1_ n2_ n3_; (try clear hb); (try clear hb2); (try clear hk); (try clear hi); (try clear ho0); have hcz60_0 : w59.cell? ⟨gb221, 0, none⟩ = some (.int .i64 0) := (blk_cell BK221.out 0).trans rfl; have hcz60_1 : w59.cell? ⟨gb221, 1, none⟩ = some (.slice none 0 0) := (blk_cell BK221.out 1).trans rfl; have hfz60_0 := blk_frozen BK221.out 0; have hfz60_1 := blk_frozen BK221.out 1; obtain ⟨Ao61, co61, eo61⟩ := Kd.R_slice HO263.out; subst eo61))
                      refine bodyPost_ret (results_cell_row rfl _ _ gb221 27 #[.int .i64 t260, .slice Ao61 t261.length co61] (0, 0) _ rfl (by (with_reducible repeat (first | refine blk_drewN ?_ _ | refine blk_drew ?_ | refine blk_alloc ?_ _)); refine blk_put (cs := #[.int .i64 t260, .slice none 0 0]) ?_ 1 _ rfl; (with_reducible repeat (first | refine blk_drewN ?_ _ | refine blk_drew ?_ | refine blk_alloc ?_ _)); refine blk_put (cs := #[.int .i64 0, .slice none 0 0]) ?_ 0 _ rfl; (with_reducible repeat (first | refine blk_drewN ?_ _ | refine blk_drew ?_ | refine blk_alloc ?_ _)); exact BK221.out) Tryd.underlying27 rfl (by kernel_rfl)) rfl ?_
                      exact ⟨_, by first | rfl | (simp [errW_none, errW_some] <;> rfl) | (simp [*, errW_none, errW_some] <;> rfl), by (with_reducible repeat (first | apply Kd.R_alloc | apply Kd.R_drewN | apply Kd.R_drew)); exact Kd.R_mono (Kd.R_far (p := ⟨gb221, 1, none⟩) (Kd.R_far (p := ⟨gb221, 0, none⟩) (Kd.R_types HO263.out BK221.out (by decide)) (fun _ hk => hk.2) (.int .i64 t260)) (fun _ hk => hk.2) (.slice Ao61 t261.length co61)) (fun _ hk => trivial), by repeat (first | (with_reducible first | exact HB.out | apply below_alloc | apply pw_below_drewN | apply below_drew1 | refine below_set ?_ GE221.out) | exact HB.out)⟩
                    · rw [if_neg c54] at H
                      have c54b0 : (a0 == 130) = false := beq_eq_false_iff_ne.mpr c54
                      have c54b1 : (a0 != 130) = true := bne_iff_ne.mpr c54
                      have HC62 := Aside0.mk H
                      clear H
                      go_upto_if 22 with (fail)
                      go_cut [22] (fun v22 wc => ∃ (kq : Nat) (x22_61 : Bool), v22 = .bool x22_61 ∧ Aside0 (reply_For.j0 kq a0 x22_61 = some (r1, r2)) ∧ Aside0 (kq ≤ k) ∧ Aside0 (wc.heap[gb221]? = some (.cells #[.int .i64 0, (.slice none 0 0)] 27 (0, 0))) ∧ Aside0 (Below w.heap.size w wc))
                      case first =>
                        have H := HC62.out
                        clear HC62
                        by_cases c63 : a0 = 480
                        · rw [if_pos c63] at H
                          have c63b0 : (a0 == 480) = true := beq_iff_eq.mpr c63
                          have c63b1 : (a0 != 480) = false := bne_eq_false_iff_eq.mpr c63
                          clear c63
                          (first | rw [c63b0] | (simp only [i64_w, i32_w]; rw [c63b0]) | skip)
                          have H' := Aside0.mk H
                          clear H
                          go_wp2
                          go_meet
                          case rel => exact ⟨_, ((a0 == 480)), (by first | rfl | (simp; done) | (simp [*]; done)), H', ⟨by first | omega | exact Nat.le_refl _⟩, ⟨by (with_reducible repeat (first | refine blk_drewN ?_ _ | refine blk_drew ?_ | refine blk_alloc ?_ _)); exact BK221.out⟩, ⟨by repeat (first | (with_reducible first | exact HB.out | apply below_alloc | apply pw_below_drewN | apply below_drew1 | refine below_set ?_ GE221.out) | exact HB.out)⟩⟩
                        · rw [if_neg c63] at H
                          have c63b0 : (a0 == 480) = false := beq_eq_false_iff_ne.mpr c63
                          have c63b1 : (a0 != 480) = true := bne_iff_ne.mpr c63
                          (first | rw [c63b0] | (simp only [i64_w, i32_w]; rw [c63b0]) | skip)
                          by_cases c64 : a0 = 150
                          · rw [if_pos c64] at H
                            have c64b0 : (a0 == 150) = true := beq_iff_eq.mpr c64
                            have c64b1 : (a0 != 150) = false := bne_eq_false_iff_eq.mpr c64
                            clear c64
                            have H' := Aside0.mk H
                            clear H
                            go_wp2
                            go_meet
                            case rel => exact ⟨_, ((a0 == 150)), (by first | rfl | (simp; done) | (simp [*]; done)), H', ⟨by first | omega | exact Nat.le_refl _⟩, ⟨by (with_reducible repeat (first | refine blk_drewN ?_ _ | refine blk_drew ?_ | refine blk_alloc ?_ _)); exact BK221.out⟩, ⟨by repeat (first | (with_reducible first | exact HB.out | apply below_alloc | apply pw_below_drewN | apply below_drew1 | refine below_set ?_ GE221.out) | exact HB.out)⟩⟩
                          · rw [if_neg c64] at H
                            have c64b0 : (a0 == 150) = false := beq_eq_false_iff_ne.mpr c64
                            have c64b1 : (a0 != 150) = true := bne_iff_ne.mpr c64
                            have H' := Aside0.mk H
                            clear H
                            go_wp2
                            go_meet
                            case rel => exact ⟨_, ((a0 == 200)), (by first | rfl | (simp; done) | (simp [*]; done)), H', ⟨by first | omega | exact Nat.le_refl _⟩, ⟨by (with_reducible repeat (first | refine blk_drewN ?_ _ | refine blk_drew ?_ | refine blk_alloc ?_ _)); exact BK221.out⟩, ⟨by repeat (first | (with_reducible first | exact HB.out | apply below_alloc | apply pw_below_drewN | apply below_drew1 | refine below_set ?_ GE221.out) | exact HB.out)⟩⟩
                      case rest =>
                        clear HC62
                        try clear c1
                        try clear c2
                        try clear p2
                        try clear c3
                        try clear c4
                        try clear c4b0
                        try clear c4b1
                        try clear c5
                        try clear c6
                        try clear c10
                        try clear c12
                        try clear c12b0
                        try clear c12b1
                        try clear c20
                        try clear c20b0
                        try clear c20b1
                        try clear c21
                        try clear c21b0
                        try clear c21b1
                        try clear c22
                        try clear c22b0
                        try clear c22b1
                        try clear c30
                        try clear c30b0
                        try clear c30b1
                        try clear c38
                        try clear c38b0
                        try clear c38b1
                        try clear c46
                        try clear c46b0
                        try clear c46b1
                        try clear c54
                        try clear c54b0
                        try clear c54b1
                        try clear c63
                        try clear c63b0
                        try clear c63b1
                        try clear c64
                        try clear c64b0
                        try clear c64b1
                        try clear hcz10_0
                        try clear hcz10_1
                        try clear hcz18_0
                        try clear hcz18_1
                        try clear hcz28_0
                        try clear hcz28_1
                        try clear hcz36_0
                        try clear hcz36_1
                        try clear hcz44_0
                        try clear hcz44_1
                        try clear hcz52_0
                        try clear hcz52_1
                        try clear hcz60_0
                        try clear hcz60_1
                        try clear hfz10_0
                        try clear hfz10_1
                        try clear hfz18_0
                        try clear hfz18_1
                        try clear hfz28_0
                        try clear hfz28_1
                        try clear hfz36_0
                        try clear hfz36_1
                        try clear hfz44_0
                        try clear hfz44_1
                        try clear hfz52_0
                        try clear hfz52_1
                        try clear hfz60_0
                        try clear hfz60_1
                        obtain ⟨kq, x22_61, rfl, HA, HJ61, BK221, HB⟩ := hcut
                        cases kq with
                        | zero => exact absurd HA.out (by simp [reply_For.j0])
                        | succ kj61 =>
                          have H := HA.out
                          clear HA
                          simp only [reply_For.j0] at H
                          by_cases c65 : x22_61 = true
                          · subst c65
                            have H1 : ((reply_Make.f 554 (([(⟨#[53, 46, 54, 46, 48, 32, 110, 111, 32, 109, 101, 115, 115, 97, 103, 101]⟩ : ByteArray)] : List ByteArray))).bind fun bt267 => (some (bt267.1, bt267.2))) = some (r1, r2) := by rw [if_pos rfl] at H; exact H
                            clear H
                            have H := H1
                            clear H1
                            obtain ⟨y264, hy264⟩ : ∃ y_ : List ByteArray, y_ = (([(⟨#[53, 46, 54, 46, 48, 32, 110, 111, 32, 109, 101, 115, 115, 97, 103, 101]⟩ : ByteArray)] : List ByteArray)) := ⟨_, rfl⟩
                            replace H : ((reply_Make.f 554 y264).bind fun bt267 => (some (bt267.1, bt267.2))) = some (r1, r2) := by first | (rw [hy264]; with_reducible exact H) | (have H2_ := (Option.bind_some _ _).symm.trans H; rw [hy264]; with_reducible exact H2_) | (have H2_ := (Option.bind_some _ _).symm.trans H; with_reducible exact H2_) | with_reducible exact H | (rw [hy264]; exact H) | exact H
                            have Ny264 := Aside0.mk hy264
                            clear hy264
                            replace H := Option.bind_eq_some_iff.mp H
                            obtain ⟨⟨t267, t268⟩, A660, H⟩ := H
                            replace H : (some (t267, t268)) = some (r1, r2) := H
                            have A66 := Aside0.mk A660
                            clear A660
                            simp only [Option.some.injEq, Prod.mk.injEq] at H
                            obtain ⟨rfl, rfl⟩ := H
                            go_wp2_with (first | ((with_reducible refine gate_dst (N := 51) rfl ?_); refine Kd.R_lit Kd.string _ 9 ?hg (N := 51) ?hd (xs := ([(⟨#[53, 46, 54, 46, 48, 32, 110, 111, 32, 109, 101, 115, 115, 97, 103, 101]⟩ : ByteArray)] : List ByteArray)) (inner := [.string (⟨#[53, 46, 54, 46, 48, 32, 110, 111, 32, 109, 101, 115, 115, 97, 103, 101]⟩ : ByteArray)]) (ok := fun _ => True) (okp := fun _ => True) ?hr ?hp (fun _ hk => hk) trivial (Below.refl _ _) (Nat.le_refl _) (by simp) ?_; (case hd => rfl); (case hg => rfl); (case hr => first | (go_simp; done) | (go_simp; rfl)); (case hp => exact (Reps.one (show Kd.M Kd.string _ _ _ (⟨#[53, 46, 54, 46, 48, 32, 110, 111, 32, 109, 101, 115, 115, 97, 103, 101]⟩ : ByteArray) [.string (⟨#[53, 46, 54, 46, 48, 32, 110, 111, 32, 109, 101, 115, 115, 97, 103, 101]⟩ : ByteArray)] from rfl) (Reps.none _ _))); intro v265 w67 ho68 hb hg_ hnew_; clear hg_ hnew_; (first | rw [← Ny264.out] at ho68 | (simp only [Int.reduceToNat] at ho68; rw [← Ny264.out] at ho68)); have n0_ := Aside0.mk (Kd.R_lower ho68 (below_size (by repeat (first | (with_reducible first | exact HB.out | apply below_alloc | apply pw_below_drewN | apply below_drew1 | refine below_set ?_ GE221.out) | exact HB.out)))); have n1_ := Aside0.mk (blk_below (g := gb221) (o := .cells #[.int .i64 0, .slice none 0 0] 27 (0, 0)) (by (with_reducible repeat (first | refine blk_drewN ?_ _ | refine blk_drew ?_ | refine blk_alloc ?_ _)); exact BK221.out) hb); have n2_ := Aside0.mk (below_step (by repeat (first | (with_reducible first | exact HB.out | apply below_alloc | apply pw_below_drewN | apply below_drew1 | refine below_set ?_ GE221.out) | exact HB.out)) hb); clear BK221; clear HB; have HO266 := n0_; have BK221 := n1_; have HB := n2_; clear n0_ n1_ n2_; clear hb ho68; obtain ⟨Ao69, co69, eo69⟩ := Kd.R_slice HO266.out; subst eo69) | ((with_reducible refine gate_callee (f := 10) rfl ?_); refine goesL_ (some 52) rfl rfl Tryd.func10 (by kernel_rfl) rfl #[.int .i64 554, .slice Ao69 y264.length co69] rfl (by (try simp only [List.map_toArray, List.map_cons, List.map_nil]); first | done | rfl | (simp only [List.length_drop, List.length_take]; rfl)) ?_; (with_reducible refine (reply_Make.calls 554 _ _ y264 t267 t268 _ ?side1 ?side2 A66.out).mono ?_); (case side1 => repeat (first | exact (Kd.R_reads' HO266.out).2.2 | (with_reducible refine Kd.C_alloc ?_ _) | (with_reducible refine Kd.C_drewN ?_ _) | (with_reducible refine Kd.C_drew ?_))); (case side2 => exact (Kd.R_reads' HO266.out).2.1); rintro e w70 ⟨v269, rfl, ho0, hb⟩; refine ⟨_, rfl, ?_⟩; have n0_ := Aside0.mk (Kd.R_elder' (by (with_reducible repeat (first | apply Kd.R_alloc | apply Kd.R_drewN | apply Kd.R_drew)); exact HO266.out) (Kd.R_base ho0) hb); have n1_ := Aside0.mk (Kd.R_lower (Kd.R_new' ho0 (Kd.R_lt (by (with_reducible repeat (first | apply Kd.R_alloc | apply Kd.R_drewN | apply Kd.R_drew)); exact HO266.out))) (below_size (by repeat (first | (with_reducible first | exact HB.out | apply below_alloc | apply pw_below_drewN | apply below_drew1 | refine below_set ?_ GE221.out) | exact HB.out)))); have n2_ := Aside0.mk (blk_below (g := gb221) (o := .cells #[.int .i64 0, .slice none 0 0] 27 (0, 0)) (by (with_reducible repeat (first | refine blk_drewN ?_ _ | refine blk_drew ?_ | refine blk_alloc ?_ _)); exact BK221.out) hb); have n3_ := Aside0.mk (below_step (by repeat (first | (with_reducible first | exact HB.out | apply below_alloc | apply pw_below_drewN | apply below_drew1 | refine below_set ?_ GE221.out) | exact HB.out)) hb); clear HO266; clear BK221; clear HB; have HO266 := n0_; have HO270 := n1_; have BK221 := n2_; have HB := n3_; clear n0_ n1_ n2_ n3_; (try clear hb); (try clear hb2); (try clear hk); (try clear hi); (try clear ho0); have hcz71_0 : w70.cell? ⟨gb221, 0, none⟩ = some (.int .i64 0) := (blk_cell BK221.out 0).trans rfl; have hcz71_1 : w70.cell? ⟨gb221, 1, none⟩ = some (.slice none 0 0) := (blk_cell BK221.out 1).trans rfl; have hfz71_0 := blk_frozen BK221.out 0; have hfz71_1 := blk_frozen BK221.out 1; obtain ⟨Ao72, co72, eo72⟩ := Kd.R_slice HO270.out; subst eo72))
                            refine bodyPost_ret (results_cell_row rfl _ _ gb221 27 #[.int .i64 t267, .slice Ao72 t268.length co72] (0, 0) _ rfl (by (with_reducible repeat (first | refine blk_drewN ?_ _ | refine blk_drew ?_ | refine blk_alloc ?_ _)); refine blk_put (cs := #[.int .i64 t267, .slice none 0 0]) ?_ 1 _ rfl; (with_reducible repeat (first | refine blk_drewN ?_ _ | refine blk_drew ?_ | refine blk_alloc ?_ _)); refine blk_put (cs := #[.int .i64 0, .slice none 0 0]) ?_ 0 _ rfl; (with_reducible repeat (first | refine blk_drewN ?_ _ | refine blk_drew ?_ | refine blk_alloc ?_ _)); exact BK221.out) Tryd.underlying27 rfl (by kernel_rfl)) rfl ?_
                            exact ⟨_, by first | rfl | (simp [errW_none, errW_some] <;> rfl) | (simp [*, errW_none, errW_some] <;> rfl), by (with_reducible repeat (first | apply Kd.R_alloc | apply Kd.R_drewN | apply Kd.R_drew)); exact Kd.R_mono (Kd.R_far (p := ⟨gb221, 1, none⟩) (Kd.R_far (p := ⟨gb221, 0, none⟩) (Kd.R_types HO270.out BK221.out (by decide)) (fun _ hk => hk.2) (.int .i64 t267)) (fun _ hk => hk.2) (.slice Ao72 t268.length co72)) (fun _ hk => trivial), by repeat (first | (with_reducible first | exact HB.out | apply below_alloc | apply pw_below_drewN | apply below_drew1 | refine below_set ?_ GE221.out) | exact HB.out)⟩
                          · replace c65 := Bool.eq_false_iff.mpr c65
                            subst c65
                            have H1 : (if a0 = 1 then ((reply_Make.f 555 (([(⟨#[53, 46, 53, 46, 52, 32, 110, 111, 32, 115, 117, 99, 104, 32, 112, 97, 114, 97, 109, 101, 116, 101, 114]⟩ : ByteArray)] : List ByteArray))).bind fun bt274 => (some (bt274.1, bt274.2))) else (if a0 = 430 then ((reply_Make.f 451 (([(⟨#[52, 46, 51, 46, 48, 32, 110, 111, 116, 32, 110, 111, 119, 44, 32, 116, 114, 121, 32, 97, 103, 97, 105, 110]⟩ : ByteArray)] : List ByteArray))).bind fun bt316 => (some (bt316.1, bt316.2))) else (if a0 = 8 then (reply_For.j1 kj61 a0 (a0 == 8)) else (reply_For.j1 kj61 a0 (a0 == 81))))) = some (r1, r2) := by rw [if_neg (show ¬ (false = true) by decide)] at H; exact H
                            clear H
                            have H := H1
                            clear H1
                            by_cases c73 : a0 = 1
                            · rw [if_pos c73] at H
                              have c73b0 : (a0 == 1) = true := beq_iff_eq.mpr c73
                              have c73b1 : (a0 != 1) = false := bne_eq_false_iff_eq.mpr c73
                              clear c73
                              obtain ⟨y271, hy271⟩ : ∃ y_ : List ByteArray, y_ = (([(⟨#[53, 46, 53, 46, 52, 32, 110, 111, 32, 115, 117, 99, 104, 32, 112, 97, 114, 97, 109, 101, 116, 101, 114]⟩ : ByteArray)] : List ByteArray)) := ⟨_, rfl⟩
                              replace H : ((reply_Make.f 555 y271).bind fun bt274 => (some (bt274.1, bt274.2))) = some (r1, r2) := by first | (rw [hy271]; with_reducible exact H) | (have H2_ := (Option.bind_some _ _).symm.trans H; rw [hy271]; with_reducible exact H2_) | (have H2_ := (Option.bind_some _ _).symm.trans H; with_reducible exact H2_) | with_reducible exact H | (rw [hy271]; exact H) | exact H
                              have Ny271 := Aside0.mk hy271
                              clear hy271
                              replace H := Option.bind_eq_some_iff.mp H
                              obtain ⟨⟨t274, t275⟩, A740, H⟩ := H
                              replace H : (some (t274, t275)) = some (r1, r2) := H
                              have A74 := Aside0.mk A740
                              clear A740
                              simp only [Option.some.injEq, Prod.mk.injEq] at H
                              obtain ⟨rfl, rfl⟩ := H
                              go_wp2_with (first | ((with_reducible refine gate_dst (N := 53) rfl ?_); refine Kd.R_lit Kd.string _ 9 ?hg (N := 53) ?hd (xs := ([(⟨#[53, 46, 53, 46, 52, 32, 110, 111, 32, 115, 117, 99, 104, 32, 112, 97, 114, 97, 109, 101, 116, 101, 114]⟩ : ByteArray)] : List ByteArray)) (inner := [.string (⟨#[53, 46, 53, 46, 52, 32, 110, 111, 32, 115, 117, 99, 104, 32, 112, 97, 114, 97, 109, 101, 116, 101, 114]⟩ : ByteArray)]) (ok := fun _ => True) (okp := fun _ => True) ?hr ?hp (fun _ hk => hk) trivial (Below.refl _ _) (Nat.le_refl _) (by simp) ?_; (case hd => rfl); (case hg => rfl); (case hr => first | (go_simp; done) | (go_simp; rfl)); (case hp => exact (Reps.one (show Kd.M Kd.string _ _ _ (⟨#[53, 46, 53, 46, 52, 32, 110, 111, 32, 115, 117, 99, 104, 32, 112, 97, 114, 97, 109, 101, 116, 101, 114]⟩ : ByteArray) [.string (⟨#[53, 46, 53, 46, 52, 32, 110, 111, 32, 115, 117, 99, 104, 32, 112, 97, 114, 97, 109, 101, 116, 101, 114]⟩ : ByteArray)] from rfl) (Reps.none _ _))); intro v272 w75 ho76 hb hg_ hnew_; clear hg_ hnew_; (first | rw [← Ny271.out] at ho76 | (simp only [Int.reduceToNat] at ho76; rw [← Ny271.out] at ho76)); have n0_ := Aside0.mk (Kd.R_lower ho76 (below_size (by repeat (first | (with_reducible first | exact HB.out | apply below_alloc | apply pw_below_drewN | apply below_drew1 | refine below_set ?_ GE221.out) | exact HB.out)))); have n1_ := Aside0.mk (blk_below (g := gb221) (o := .cells #[.int .i64 0, .slice none 0 0] 27 (0, 0)) (by (with_reducible repeat (first | refine blk_drewN ?_ _ | refine blk_drew ?_ | refine blk_alloc ?_ _)); exact BK221.out) hb); have n2_ := Aside0.mk (below_step (by repeat (first | (with_reducible first | exact HB.out | apply below_alloc | apply pw_below_drewN | apply below_drew1 | refine below_set ?_ GE221.out) | exact HB.out)) hb); clear BK221; clear HB; have HO273 := n0_; have BK221 := n1_; have HB := n2_; clear n0_ n1_ n2_; clear hb ho76; obtain ⟨Ao77, co77, eo77⟩ := Kd.R_slice HO273.out; subst eo77) | ((with_reducible refine gate_callee (f := 10) rfl ?_); refine goesL_ (some 54) rfl rfl Tryd.func10 (by kernel_rfl) rfl #[.int .i64 555, .slice Ao77 y271.length co77] rfl (by (try simp only [List.map_toArray, List.map_cons, List.map_nil]); first | done | rfl | (simp only [List.length_drop, List.length_take]; rfl)) ?_; (with_reducible refine (reply_Make.calls 555 _ _ y271 t274 t275 _ ?side1 ?side2 A74.out).mono ?_); (case side1 => repeat (first | exact (Kd.R_reads' HO273.out).2.2 | (with_reducible refine Kd.C_alloc ?_ _) | (with_reducible refine Kd.C_drewN ?_ _) | (with_reducible refine Kd.C_drew ?_))); (case side2 => exact (Kd.R_reads' HO273.out).2.1); rintro e w78 ⟨v276, rfl, ho0, hb⟩; refine ⟨_, rfl, ?_⟩; have n0_ := Aside0.mk (Kd.R_elder' (by (with_reducible repeat (first | apply Kd.R_alloc | apply Kd.R_drewN | apply Kd.R_drew)); exact HO273.out) (Kd.R_base ho0) hb); have n1_ := Aside0.mk (Kd.R_lower (Kd.R_new' ho0 (Kd.R_lt (by (with_reducible repeat (first | apply Kd.R_alloc | apply Kd.R_drewN | apply Kd.R_drew)); exact HO273.out))) (below_size (by repeat (first | (with_reducible first | exact HB.out | apply below_alloc | apply pw_below_drewN | apply below_drew1 | refine below_set ?_ GE221.out) | exact HB.out)))); have n2_ := Aside0.mk (blk_below (g := gb221) (o := .cells #[.int .i64 0, .slice none 0 0] 27 (0, 0)) (by (with_reducible repeat (first | refine blk_drewN ?_ _ | refine blk_drew ?_ | refine blk_alloc ?_ _)); exact BK221.out) hb); have n3_ := Aside0.mk (below_step (by repeat (first | (with_reducible first | exact HB.out | apply below_alloc | apply pw_below_drewN | apply below_drew1 | refine below_set ?_ GE221.out) | exact HB.out)) hb); clear HO273; clear BK221; clear HB; have HO273 := n0_; have HO277 := n1_; have BK221 := n2_; have HB := n3_; clear n0_ n1_ n2_ n3_; (try clear hb); (try clear hb2); (try clear hk); (try clear hi); (try clear ho0); have hcz79_0 : w78.cell? ⟨gb221, 0, none⟩ = some (.int .i64 0) := (blk_cell BK221.out 0).trans rfl; have hcz79_1 : w78.cell? ⟨gb221, 1, none⟩ = some (.slice none 0 0) := (blk_cell BK221.out 1).trans rfl; have hfz79_0 := blk_frozen BK221.out 0; have hfz79_1 := blk_frozen BK221.out 1; obtain ⟨Ao80, co80, eo80⟩ := Kd.R_slice HO277.out; subst eo80))
                              refine bodyPost_ret (results_cell_row rfl _ _ gb221 27 #[.int .i64 t274, .slice Ao80 t275.length co80] (0, 0) _ rfl (by (with_reducible repeat (first | refine blk_drewN ?_ _ | refine blk_drew ?_ | refine blk_alloc ?_ _)); refine blk_put (cs := #[.int .i64 t274, .slice none 0 0]) ?_ 1 _ rfl; (with_reducible repeat (first | refine blk_drewN ?_ _ | refine blk_drew ?_ | refine blk_alloc ?_ _)); refine blk_put (cs := #[.int .i64 0, .slice none 0 0]) ?_ 0 _ rfl; (with_reducible repeat (first | refine blk_drewN ?_ _ | refine blk_drew ?_ | refine blk_alloc ?_ _)); exact BK221.out) Tryd.underlying27 rfl (by kernel_rfl)) rfl ?_
                              exact ⟨_, by first | rfl | (simp [errW_none, errW_some] <;> rfl) | (simp [*, errW_none, errW_some] <;> rfl), by (with_reducible repeat (first | apply Kd.R_alloc | apply Kd.R_drewN | apply Kd.R_drew)); exact Kd.R_mono (Kd.R_far (p := ⟨gb221, 1, none⟩) (Kd.R_far (p := ⟨gb221, 0, none⟩) (Kd.R_types HO277.out BK221.out (by decide)) (fun _ hk => hk.2) (.int .i64 t274)) (fun _ hk => hk.2) (.slice Ao80 t275.length co80)) (fun _ hk => trivial), by repeat (first | (with_reducible first | exact HB.out | apply below_alloc | apply pw_below_drewN | apply below_drew1 | refine below_set ?_ GE221.out) | exact HB.out)⟩
                            · rw [if_neg c73] at H
                              have c73b0 : (a0 == 1) = false := beq_eq_false_iff_ne.mpr c73
                              have c73b1 : (a0 != 1) = true := bne_iff_ne.mpr c73
                              by_cases c81 : a0 = 430
                              · rw [if_pos c81] at H
                                have c81b0 : (a0 == 430) = true := beq_iff_eq.mpr c81
                                have c81b1 : (a0 != 430) = false := bne_eq_false_iff_eq.mpr c81
                                clear c81
                                obtain ⟨y313, hy313⟩ : ∃ y_ : List ByteArray, y_ = (([(⟨#[52, 46, 51, 46, 48, 32, 110, 111, 116, 32, 110, 111, 119, 44, 32, 116, 114, 121, 32, 97, 103, 97, 105, 110]⟩ : ByteArray)] : List ByteArray)) := ⟨_, rfl⟩
                                replace H : ((reply_Make.f 451 y313).bind fun bt316 => (some (bt316.1, bt316.2))) = some (r1, r2) := by first | (rw [hy313]; with_reducible exact H) | (have H2_ := (Option.bind_some _ _).symm.trans H; rw [hy313]; with_reducible exact H2_) | (have H2_ := (Option.bind_some _ _).symm.trans H; with_reducible exact H2_) | with_reducible exact H | (rw [hy313]; exact H) | exact H
                                have Ny313 := Aside0.mk hy313
                                clear hy313
                                replace H := Option.bind_eq_some_iff.mp H
                                obtain ⟨⟨t316, t317⟩, A820, H⟩ := H
                                replace H : (some (t316, t317)) = some (r1, r2) := H
                                have A82 := Aside0.mk A820
                                clear A820
                                simp only [Option.some.injEq, Prod.mk.injEq] at H
                                obtain ⟨rfl, rfl⟩ := H
                                go_wp2_with (first | ((with_reducible refine gate_dst (N := 55) rfl ?_); refine Kd.R_lit Kd.string _ 9 ?hg (N := 55) ?hd (xs := ([(⟨#[52, 46, 51, 46, 48, 32, 110, 111, 116, 32, 110, 111, 119, 44, 32, 116, 114, 121, 32, 97, 103, 97, 105, 110]⟩ : ByteArray)] : List ByteArray)) (inner := [.string (⟨#[52, 46, 51, 46, 48, 32, 110, 111, 116, 32, 110, 111, 119, 44, 32, 116, 114, 121, 32, 97, 103, 97, 105, 110]⟩ : ByteArray)]) (ok := fun _ => True) (okp := fun _ => True) ?hr ?hp (fun _ hk => hk) trivial (Below.refl _ _) (Nat.le_refl _) (by simp) ?_; (case hd => rfl); (case hg => rfl); (case hr => first | (go_simp; done) | (go_simp; rfl)); (case hp => exact (Reps.one (show Kd.M Kd.string _ _ _ (⟨#[52, 46, 51, 46, 48, 32, 110, 111, 116, 32, 110, 111, 119, 44, 32, 116, 114, 121, 32, 97, 103, 97, 105, 110]⟩ : ByteArray) [.string (⟨#[52, 46, 51, 46, 48, 32, 110, 111, 116, 32, 110, 111, 119, 44, 32, 116, 114, 121, 32, 97, 103, 97, 105, 110]⟩ : ByteArray)] from rfl) (Reps.none _ _))); intro v314 w83 ho84 hb hg_ hnew_; clear hg_ hnew_; (first | rw [← Ny313.out] at ho84 | (simp only [Int.reduceToNat] at ho84; rw [← Ny313.out] at ho84)); have n0_ := Aside0.mk (Kd.R_lower ho84 (below_size (by repeat (first | (with_reducible first | exact HB.out | apply below_alloc | apply pw_below_drewN | apply below_drew1 | refine below_set ?_ GE221.out) | exact HB.out)))); have n1_ := Aside0.mk (blk_below (g := gb221) (o := .cells #[.int .i64 0, .slice none 0 0] 27 (0, 0)) (by (with_reducible repeat (first | refine blk_drewN ?_ _ | refine blk_drew ?_ | refine blk_alloc ?_ _)); exact BK221.out) hb); have n2_ := Aside0.mk (below_step (by repeat (first | (with_reducible first | exact HB.out | apply below_alloc | apply pw_below_drewN | apply below_drew1 | refine below_set ?_ GE221.out) | exact HB.out)) hb); clear BK221; clear HB; have HO315 := n0_; have BK221 := n1_; have HB := n2_; clear n0_ n1_ n2_; clear hb ho84; obtain ⟨Ao85, co85, eo85⟩ := Kd.R_slice HO315.out; subst eo85) | ((with_reducible refine gate_callee (f := 10) rfl ?_); refine goesL_ (some 56) rfl rfl Tryd.func10 (by kernel_rfl) rfl #[.int .i64 451, .slice Ao85 y313.length co85] rfl (by (try simp only [List.map_toArray, List.map_cons, List.map_nil]); first | done | rfl | (simp only [List.length_drop, List.length_take]; rfl)) ?_; (with_reducible refine (reply_Make.calls 451 _ _ y313 t316 t317 _ ?side1 ?side2 A82.out).mono ?_); (case side1 => repeat (first | exact (Kd.R_reads' HO315.out).2.2 | (with_reducible refine Kd.C_alloc ?_ _) | (with_reducible refine Kd.C_drewN ?_ _) | (with_reducible refine Kd.C_drew ?_))); (case side2 => exact (Kd.R_reads' HO315.out).2.1); rintro e w86 ⟨v318, rfl, ho0, hb⟩; refine ⟨_, rfl, ?_⟩; have n0_ := Aside0.mk (Kd.R_elder' (by (with_reducible repeat (first | apply Kd.R_alloc | apply Kd.R_drewN | apply Kd.R_drew)); exact HO315.out) (Kd.R_base ho0) hb); have n1_ := Aside0.mk (Kd.R_lower (Kd.R_new' ho0 (Kd.R_lt (by (with_reducible repeat (first | apply Kd.R_alloc | apply Kd.R_drewN | apply Kd.R_drew)); exact HO315.out))) (below_size (by repeat (first | (with_reducible first | exact HB.out | apply below_alloc | apply pw_below_drewN | apply below_drew1 | refine below_set ?_ GE221.out) | exact HB.out)))); have n2_ := Aside0.mk (blk_below (g := gb221) (o := .cells #[.int .i64 0, .slice none 0 0] 27 (0, 0)) (by (with_reducible repeat (first | refine blk_drewN ?_ _ | refine blk_drew ?_ | refine blk_alloc ?_ _)); exact BK221.out) hb); have n3_ := Aside0.mk (below_step (by repeat (first | (with_reducible first | exact HB.out | apply below_alloc | apply pw_below_drewN | apply below_drew1 | refine below_set ?_ GE221.out) | exact HB.out)) hb); clear HO315; clear BK221; clear HB; have HO315 := n0_; have HO319 := n1_; have BK221 := n2_; have HB := n3_; clear n0_ n1_ n2_ n3_; (try clear hb); (try clear hb2); (try clear hk); (try clear hi); (try clear ho0); have hcz87_0 : w86.cell? ⟨gb221, 0, none⟩ = some (.int .i64 0) := (blk_cell BK221.out 0).trans rfl; have hcz87_1 : w86.cell? ⟨gb221, 1, none⟩ = some (.slice none 0 0) := (blk_cell BK221.out 1).trans rfl; have hfz87_0 := blk_frozen BK221.out 0; have hfz87_1 := blk_frozen BK221.out 1; obtain ⟨Ao88, co88, eo88⟩ := Kd.R_slice HO319.out; subst eo88))
                                refine bodyPost_ret (results_cell_row rfl _ _ gb221 27 #[.int .i64 t316, .slice Ao88 t317.length co88] (0, 0) _ rfl (by (with_reducible repeat (first | refine blk_drewN ?_ _ | refine blk_drew ?_ | refine blk_alloc ?_ _)); refine blk_put (cs := #[.int .i64 t316, .slice none 0 0]) ?_ 1 _ rfl; (with_reducible repeat (first | refine blk_drewN ?_ _ | refine blk_drew ?_ | refine blk_alloc ?_ _)); refine blk_put (cs := #[.int .i64 0, .slice none 0 0]) ?_ 0 _ rfl; (with_reducible repeat (first | refine blk_drewN ?_ _ | refine blk_drew ?_ | refine blk_alloc ?_ _)); exact BK221.out) Tryd.underlying27 rfl (by kernel_rfl)) rfl ?_
                                exact ⟨_, by first | rfl | (simp [errW_none, errW_some] <;> rfl) | (simp [*, errW_none, errW_some] <;> rfl), by (with_reducible repeat (first | apply Kd.R_alloc | apply Kd.R_drewN | apply Kd.R_drew)); exact Kd.R_mono (Kd.R_far (p := ⟨gb221, 1, none⟩) (Kd.R_far (p := ⟨gb221, 0, none⟩) (Kd.R_types HO319.out BK221.out (by decide)) (fun _ hk => hk.2) (.int .i64 t316)) (fun _ hk => hk.2) (.slice Ao88 t317.length co88)) (fun _ hk => trivial), by repeat (first | (with_reducible first | exact HB.out | apply below_alloc | apply pw_below_drewN | apply below_drew1 | refine below_set ?_ GE221.out) | exact HB.out)⟩
                              · rw [if_neg c81] at H
                                have c81b0 : (a0 == 430) = false := beq_eq_false_iff_ne.mpr c81
                                have c81b1 : (a0 != 430) = true := bne_iff_ne.mpr c81
                                have HC89 := Aside0.mk H
                                clear H
                                go_upto_if 30 with (fail)
                                go_cut [30] (fun v30 wc => ∃ (kq : Nat) (x30_88 : Bool), v30 = .bool x30_88 ∧ Aside0 (reply_For.j1 kq a0 x30_88 = some (r1, r2)) ∧ Aside0 (kq ≤ kj61) ∧ Aside0 (wc.heap[gb221]? = some (.cells #[.int .i64 0, (.slice none 0 0)] 27 (0, 0))) ∧ Aside0 (Below w.heap.size w wc))
                                case first =>
                                  have H := HC89.out
                                  clear HC89
                                  by_cases c90 : a0 = 8
                                  · rw [if_pos c90] at H
                                    have c90b0 : (a0 == 8) = true := beq_iff_eq.mpr c90
                                    have c90b1 : (a0 != 8) = false := bne_eq_false_iff_eq.mpr c90
                                    clear c90
                                    (first | rw [c90b0] | (simp only [i64_w, i32_w]; rw [c90b0]) | skip)
                                    have H' := Aside0.mk H
                                    clear H
                                    go_wp2
                                    go_meet
                                    case rel => exact ⟨_, ((a0 == 8)), (by first | rfl | (simp; done) | (simp [*]; done)), H', ⟨by have := HJ61.out; first | omega | exact Nat.le_refl _⟩, ⟨by (with_reducible repeat (first | refine blk_drewN ?_ _ | refine blk_drew ?_ | refine blk_alloc ?_ _)); exact BK221.out⟩, ⟨by repeat (first | (with_reducible first | exact HB.out | apply below_alloc | apply pw_below_drewN | apply below_drew1 | refine below_set ?_ GE221.out) | exact HB.out)⟩⟩
                                  · rw [if_neg c90] at H
                                    have c90b0 : (a0 == 8) = false := beq_eq_false_iff_ne.mpr c90
                                    have c90b1 : (a0 != 8) = true := bne_iff_ne.mpr c90
                                    (first | rw [c90b0] | (simp only [i64_w, i32_w]; rw [c90b0]) | skip)
                                    have H' := Aside0.mk H
                                    clear H
                                    go_wp2
                                    go_meet
                                    case rel => exact ⟨_, ((a0 == 81)), (by first | rfl | (simp; done) | (simp [*]; done)), H', ⟨by have := HJ61.out; first | omega | exact Nat.le_refl _⟩, ⟨by (with_reducible repeat (first | refine blk_drewN ?_ _ | refine blk_drew ?_ | refine blk_alloc ?_ _)); exact BK221.out⟩, ⟨by repeat (first | (with_reducible first | exact HB.out | apply below_alloc | apply pw_below_drewN | apply below_drew1 | refine below_set ?_ GE221.out) | exact HB.out)⟩⟩
                                case rest =>
                                  clear HC89
                                  try clear c1
                                  try clear c2
                                  try clear p2
                                  try clear c3
                                  try clear c4
                                  try clear c4b0
                                  try clear c4b1
                                  try clear c5
                                  try clear c6
                                  try clear c7
                                  try clear c8
                                  try clear c9
                                  try clear c10
                                  try clear c12
                                  try clear c12b0
                                  try clear c12b1
                                  try clear c20
                                  try clear c20b0
                                  try clear c20b1
                                  try clear c21
                                  try clear c21b0
                                  try clear c21b1
                                  try clear c22
                                  try clear c22b0
                                  try clear c22b1
                                  try clear c30
                                  try clear c30b0
                                  try clear c30b1
                                  try clear c38
                                  try clear c38b0
                                  try clear c38b1
                                  try clear c46
                                  try clear c46b0
                                  try clear c46b1
                                  try clear c54
                                  try clear c54b0
                                  try clear c54b1
                                  try clear c63
                                  try clear c63b0
                                  try clear c63b1
                                  try clear c64
                                  try clear c64b0
                                  try clear c64b1
                                  try clear c65
                                  try clear c73
                                  try clear c73b0
                                  try clear c73b1
                                  try clear c81
                                  try clear c81b0
                                  try clear c81b1
                                  try clear c90
                                  try clear c90b0
                                  try clear c90b1
                                  try clear hcz10_0
                                  try clear hcz10_1
                                  try clear hcz18_0
                                  try clear hcz18_1
                                  try clear hcz28_0
                                  try clear hcz28_1
                                  try clear hcz36_0
                                  try clear hcz36_1
                                  try clear hcz44_0
                                  try clear hcz44_1
                                  try clear hcz52_0
                                  try clear hcz52_1
                                  try clear hcz60_0
                                  try clear hcz60_1
                                  try clear hcz71_0
                                  try clear hcz71_1
                                  try clear hcz79_0
                                  try clear hcz79_1
                                  try clear hcz87_0
                                  try clear hcz87_1
                                  try clear hfz10_0
                                  try clear hfz10_1
                                  try clear hfz18_0
                                  try clear hfz18_1
                                  try clear hfz28_0
                                  try clear hfz28_1
                                  try clear hfz36_0
                                  try clear hfz36_1
                                  try clear hfz44_0
                                  try clear hfz44_1
                                  try clear hfz52_0
                                  try clear hfz52_1
                                  try clear hfz60_0
                                  try clear hfz60_1
                                  try clear hfz71_0
                                  try clear hfz71_1
                                  try clear hfz79_0
                                  try clear hfz79_1
                                  try clear hfz87_0
                                  try clear hfz87_1
                                  try clear p2
                                  obtain ⟨kq, x30_88, rfl, HA, HJ88, BK221, HB⟩ := hcut
                                  cases kq with
                                  | zero => exact absurd HA.out (by simp [reply_For.j1])
                                  | succ kj88 =>
                                    have H := HA.out
                                    clear HA
                                    simp only [reply_For.j1] at H
                                    by_cases c91 : x30_88 = true
                                    · subst c91
                                      have H1 : ((reply_Make.f 452 (([(⟨#[52, 46, 51, 46, 49, 32, 110, 111, 32, 114, 111, 111, 109, 44, 32, 116, 114, 121, 32, 97, 103, 97, 105, 110]⟩ : ByteArray)] : List ByteArray))).bind fun bt281 => (some (bt281.1, bt281.2))) = some (r1, r2) := by rw [if_pos rfl] at H; exact H
                                      clear H
                                      have H := H1
                                      clear H1
                                      obtain ⟨y278, hy278⟩ : ∃ y_ : List ByteArray, y_ = (([(⟨#[52, 46, 51, 46, 49, 32, 110, 111, 32, 114, 111, 111, 109, 44, 32, 116, 114, 121, 32, 97, 103, 97, 105, 110]⟩ : ByteArray)] : List ByteArray)) := ⟨_, rfl⟩
                                      replace H : ((reply_Make.f 452 y278).bind fun bt281 => (some (bt281.1, bt281.2))) = some (r1, r2) := by first | (rw [hy278]; with_reducible exact H) | (have H2_ := (Option.bind_some _ _).symm.trans H; rw [hy278]; with_reducible exact H2_) | (have H2_ := (Option.bind_some _ _).symm.trans H; with_reducible exact H2_) | with_reducible exact H | (rw [hy278]; exact H) | exact H
                                      have Ny278 := Aside0.mk hy278
                                      clear hy278
                                      replace H := Option.bind_eq_some_iff.mp H
                                      obtain ⟨⟨t281, t282⟩, A920, H⟩ := H
                                      replace H : (some (t281, t282)) = some (r1, r2) := H
                                      have A92 := Aside0.mk A920
                                      clear A920
                                      simp only [Option.some.injEq, Prod.mk.injEq] at H
                                      obtain ⟨rfl, rfl⟩ := H
                                      go_wp2_with (first | ((with_reducible refine gate_dst (N := 57) rfl ?_); refine Kd.R_lit Kd.string _ 9 ?hg (N := 57) ?hd (xs := ([(⟨#[52, 46, 51, 46, 49, 32, 110, 111, 32, 114, 111, 111, 109, 44, 32, 116, 114, 121, 32, 97, 103, 97, 105, 110]⟩ : ByteArray)] : List ByteArray)) (inner := [.string (⟨#[52, 46, 51, 46, 49, 32, 110, 111, 32, 114, 111, 111, 109, 44, 32, 116, 114, 121, 32, 97, 103, 97, 105, 110]⟩ : ByteArray)]) (ok := fun _ => True) (okp := fun _ => True) ?hr ?hp (fun _ hk => hk) trivial (Below.refl _ _) (Nat.le_refl _) (by simp) ?_; (case hd => rfl); (case hg => rfl); (case hr => first | (go_simp; done) | (go_simp; rfl)); (case hp => exact (Reps.one (show Kd.M Kd.string _ _ _ (⟨#[52, 46, 51, 46, 49, 32, 110, 111, 32, 114, 111, 111, 109, 44, 32, 116, 114, 121, 32, 97, 103, 97, 105, 110]⟩ : ByteArray) [.string (⟨#[52, 46, 51, 46, 49, 32, 110, 111, 32, 114, 111, 111, 109, 44, 32, 116, 114, 121, 32, 97, 103, 97, 105, 110]⟩ : ByteArray)] from rfl) (Reps.none _ _))); intro v279 w93 ho94 hb hg_ hnew_; clear hg_ hnew_; (first | rw [← Ny278.out] at ho94 | (simp only [Int.reduceToNat] at ho94; rw [← Ny278.out] at ho94)); have n0_ := Aside0.mk (Kd.R_lower ho94 (below_size (by repeat (first | (with_reducible first | exact HB.out | apply below_alloc | apply pw_below_drewN | apply below_drew1 | refine below_set ?_ GE221.out) | exact HB.out)))); have n1_ := Aside0.mk (blk_below (g := gb221) (o := .cells #[.int .i64 0, .slice none 0 0] 27 (0, 0)) (by (with_reducible repeat (first | refine blk_drewN ?_ _ | refine blk_drew ?_ | refine blk_alloc ?_ _)); exact BK221.out) hb); have n2_ := Aside0.mk (below_step (by repeat (first | (with_reducible first | exact HB.out | apply below_alloc | apply pw_below_drewN | apply below_drew1 | refine below_set ?_ GE221.out) | exact HB.out)) hb); clear BK221; clear HB; have HO280 := n0_; have BK221 := n1_; have HB := n2_; clear n0_ n1_ n2_; clear hb ho94; obtain ⟨Ao95, co95, eo95⟩ := Kd.R_slice HO280.out; subst eo95) | ((with_reducible refine gate_callee (f := 10) rfl ?_); refine goesL_ (some 58) rfl rfl Tryd.func10 (by kernel_rfl) rfl #[.int .i64 452, .slice Ao95 y278.length co95] rfl (by (try simp only [List.map_toArray, List.map_cons, List.map_nil]); first | done | rfl | (simp only [List.length_drop, List.length_take]; rfl)) ?_; (with_reducible refine (reply_Make.calls 452 _ _ y278 t281 t282 _ ?side1 ?side2 A92.out).mono ?_); (case side1 => repeat (first | exact (Kd.R_reads' HO280.out).2.2 | (with_reducible refine Kd.C_alloc ?_ _) | (with_reducible refine Kd.C_drewN ?_ _) | (with_reducible refine Kd.C_drew ?_))); (case side2 => exact (Kd.R_reads' HO280.out).2.1); rintro e w96 ⟨v283, rfl, ho0, hb⟩; refine ⟨_, rfl, ?_⟩; have n0_ := Aside0.mk (Kd.R_elder' (by (with_reducible repeat (first | apply Kd.R_alloc | apply Kd.R_drewN | apply Kd.R_drew)); exact HO280.out) (Kd.R_base ho0) hb); have n1_ := Aside0.mk (Kd.R_lower (Kd.R_new' ho0 (Kd.R_lt (by (with_reducible repeat (first | apply Kd.R_alloc | apply Kd.R_drewN | apply Kd.R_drew)); exact HO280.out))) (below_size (by repeat (first | (with_reducible first | exact HB.out | apply below_alloc | apply pw_below_drewN | apply below_drew1 | refine below_set ?_ GE221.out) | exact HB.out)))); have n2_ := Aside0.mk (blk_below (g := gb221) (o := .cells #[.int .i64 0, .slice none 0 0] 27 (0, 0)) (by (with_reducible repeat (first | refine blk_drewN ?_ _ | refine blk_drew ?_ | refine blk_alloc ?_ _)); exact BK221.out) hb); have n3_ := Aside0.mk (below_step (by repeat (first | (with_reducible first | exact HB.out | apply below_alloc | apply pw_below_drewN | apply below_drew1 | refine below_set ?_ GE221.out) | exact HB.out)) hb); clear HO280; clear BK221; clear HB; have HO280 := n0_; have HO284 := n1_; have BK221 := n2_; have HB := n3_; clear n0_ n1_ n2_ n3_; (try clear hb); (try clear hb2); (try clear hk); (try clear hi); (try clear ho0); have hcz97_0 : w96.cell? ⟨gb221, 0, none⟩ = some (.int .i64 0) := (blk_cell BK221.out 0).trans rfl; have hcz97_1 : w96.cell? ⟨gb221, 1, none⟩ = some (.slice none 0 0) := (blk_cell BK221.out 1).trans rfl; have hfz97_0 := blk_frozen BK221.out 0; have hfz97_1 := blk_frozen BK221.out 1; obtain ⟨Ao98, co98, eo98⟩ := Kd.R_slice HO284.out; subst eo98))
                                      refine bodyPost_ret (results_cell_row rfl _ _ gb221 27 #[.int .i64 t281, .slice Ao98 t282.length co98] (0, 0) _ rfl (by (with_reducible repeat (first | refine blk_drewN ?_ _ | refine blk_drew ?_ | refine blk_alloc ?_ _)); refine blk_put (cs := #[.int .i64 t281, .slice none 0 0]) ?_ 1 _ rfl; (with_reducible repeat (first | refine blk_drewN ?_ _ | refine blk_drew ?_ | refine blk_alloc ?_ _)); refine blk_put (cs := #[.int .i64 0, .slice none 0 0]) ?_ 0 _ rfl; (with_reducible repeat (first | refine blk_drewN ?_ _ | refine blk_drew ?_ | refine blk_alloc ?_ _)); exact BK221.out) Tryd.underlying27 rfl (by kernel_rfl)) rfl ?_
                                      exact ⟨_, by first | rfl | (simp [errW_none, errW_some] <;> rfl) | (simp [*, errW_none, errW_some] <;> rfl), by (with_reducible repeat (first | apply Kd.R_alloc | apply Kd.R_drewN | apply Kd.R_drew)); exact Kd.R_mono (Kd.R_far (p := ⟨gb221, 1, none⟩) (Kd.R_far (p := ⟨gb221, 0, none⟩) (Kd.R_types HO284.out BK221.out (by decide)) (fun _ hk => hk.2) (.int .i64 t281)) (fun _ hk => hk.2) (.slice Ao98 t282.length co98)) (fun _ hk => trivial), by repeat (first | (with_reducible first | exact HB.out | apply below_alloc | apply pw_below_drewN | apply below_drew1 | refine below_set ?_ GE221.out) | exact HB.out)⟩
                                    · replace c91 := Bool.eq_false_iff.mpr c91
                                      subst c91
                                      have H1 : (if a0 = 80 then ((reply_Make.f 421 (([(⟨#[52, 46, 51, 46, 50, 32, 103, 111, 105, 110, 103, 32, 97, 119, 97, 121]⟩ : ByteArray)] : List ByteArray))).bind fun bt288 => (some (bt288.1, bt288.2))) else ((reply_Make.f 554 (([(⟨#[53, 46, 48, 46, 48, 32, 110, 111]⟩ : ByteArray)] : List ByteArray))).bind fun bt295 => (some (bt295.1, bt295.2)))) = some (r1, r2) := by rw [if_neg (show ¬ (false = true) by decide)] at H; exact H
                                      clear H
                                      have H := H1
                                      clear H1
                                      by_cases c99 : a0 = 80
                                      · rw [if_pos c99] at H
                                        have c99b0 : (a0 == 80) = true := beq_iff_eq.mpr c99
                                        have c99b1 : (a0 != 80) = false := bne_eq_false_iff_eq.mpr c99
                                        clear c99
                                        obtain ⟨y285, hy285⟩ : ∃ y_ : List ByteArray, y_ = (([(⟨#[52, 46, 51, 46, 50, 32, 103, 111, 105, 110, 103, 32, 97, 119, 97, 121]⟩ : ByteArray)] : List ByteArray)) := ⟨_, rfl⟩
                                        replace H : ((reply_Make.f 421 y285).bind fun bt288 => (some (bt288.1, bt288.2))) = some (r1, r2) := by first | (rw [hy285]; with_reducible exact H) | (have H2_ := (Option.bind_some _ _).symm.trans H; rw [hy285]; with_reducible exact H2_) | (have H2_ := (Option.bind_some _ _).symm.trans H; with_reducible exact H2_) | with_reducible exact H | (rw [hy285]; exact H) | exact H
                                        have Ny285 := Aside0.mk hy285
                                        clear hy285
                                        replace H := Option.bind_eq_some_iff.mp H
                                        obtain ⟨⟨t288, t289⟩, A1000, H⟩ := H
                                        replace H : (some (t288, t289)) = some (r1, r2) := H
                                        have A100 := Aside0.mk A1000
                                        clear A1000
                                        simp only [Option.some.injEq, Prod.mk.injEq] at H
                                        obtain ⟨rfl, rfl⟩ := H
                                        go_wp2_with (first | ((with_reducible refine gate_dst (N := 59) rfl ?_); refine Kd.R_lit Kd.string _ 9 ?hg (N := 59) ?hd (xs := ([(⟨#[52, 46, 51, 46, 50, 32, 103, 111, 105, 110, 103, 32, 97, 119, 97, 121]⟩ : ByteArray)] : List ByteArray)) (inner := [.string (⟨#[52, 46, 51, 46, 50, 32, 103, 111, 105, 110, 103, 32, 97, 119, 97, 121]⟩ : ByteArray)]) (ok := fun _ => True) (okp := fun _ => True) ?hr ?hp (fun _ hk => hk) trivial (Below.refl _ _) (Nat.le_refl _) (by simp) ?_; (case hd => rfl); (case hg => rfl); (case hr => first | (go_simp; done) | (go_simp; rfl)); (case hp => exact (Reps.one (show Kd.M Kd.string _ _ _ (⟨#[52, 46, 51, 46, 50, 32, 103, 111, 105, 110, 103, 32, 97, 119, 97, 121]⟩ : ByteArray) [.string (⟨#[52, 46, 51, 46, 50, 32, 103, 111, 105, 110, 103, 32, 97, 119, 97, 121]⟩ : ByteArray)] from rfl) (Reps.none _ _))); intro v286 w101 ho102 hb hg_ hnew_; clear hg_ hnew_; (first | rw [← Ny285.out] at ho102 | (simp only [Int.reduceToNat] at ho102; rw [← Ny285.out] at ho102)); have n0_ := Aside0.mk (Kd.R_lower ho102 (below_size (by repeat (first | (with_reducible first | exact HB.out | apply below_alloc | apply pw_below_drewN | apply below_drew1 | refine below_set ?_ GE221.out) | exact HB.out)))); have n1_ := Aside0.mk (blk_below (g := gb221) (o := .cells #[.int .i64 0, .slice none 0 0] 27 (0, 0)) (by (with_reducible repeat (first | refine blk_drewN ?_ _ | refine blk_drew ?_ | refine blk_alloc ?_ _)); exact BK221.out) hb); have n2_ := Aside0.mk (below_step (by repeat (first | (with_reducible first | exact HB.out | apply below_alloc | apply pw_below_drewN | apply below_drew1 | refine below_set ?_ GE221.out) | exact HB.out)) hb); clear BK221; clear HB; have HO287 := n0_; have BK221 := n1_; have HB := n2_; clear n0_ n1_ n2_; clear hb ho102; obtain ⟨Ao103, co103, eo103⟩ := Kd.R_slice HO287.out; subst eo103) | ((with_reducible refine gate_callee (f := 10) rfl ?_); refine goesL_ (some 60) rfl rfl Tryd.func10 (by kernel_rfl) rfl #[.int .i64 421, .slice Ao103 y285.length co103] rfl (by (try simp only [List.map_toArray, List.map_cons, List.map_nil]); first | done | rfl | (simp only [List.length_drop, List.length_take]; rfl)) ?_; (with_reducible refine (reply_Make.calls 421 _ _ y285 t288 t289 _ ?side1 ?side2 A100.out).mono ?_); (case side1 => repeat (first | exact (Kd.R_reads' HO287.out).2.2 | (with_reducible refine Kd.C_alloc ?_ _) | (with_reducible refine Kd.C_drewN ?_ _) | (with_reducible refine Kd.C_drew ?_))); (case side2 => exact (Kd.R_reads' HO287.out).2.1); rintro e w104 ⟨v290, rfl, ho0, hb⟩; refine ⟨_, rfl, ?_⟩; have n0_ := Aside0.mk (Kd.R_elder' (by (with_reducible repeat (first | apply Kd.R_alloc | apply Kd.R_drewN | apply Kd.R_drew)); exact HO287.out) (Kd.R_base ho0) hb); have n1_ := Aside0.mk (Kd.R_lower (Kd.R_new' ho0 (Kd.R_lt (by (with_reducible repeat (first | apply Kd.R_alloc | apply Kd.R_drewN | apply Kd.R_drew)); exact HO287.out))) (below_size (by repeat (first | (with_reducible first | exact HB.out | apply below_alloc | apply pw_below_drewN | apply below_drew1 | refine below_set ?_ GE221.out) | exact HB.out)))); have n2_ := Aside0.mk (blk_below (g := gb221) (o := .cells #[.int .i64 0, .slice none 0 0] 27 (0, 0)) (by (with_reducible repeat (first | refine blk_drewN ?_ _ | refine blk_drew ?_ | refine blk_alloc ?_ _)); exact BK221.out) hb); have n3_ := Aside0.mk (below_step (by repeat (first | (with_reducible first | exact HB.out | apply below_alloc | apply pw_below_drewN | apply below_drew1 | refine below_set ?_ GE221.out) | exact HB.out)) hb); clear HO287; clear BK221; clear HB; have HO287 := n0_; have HO291 := n1_; have BK221 := n2_; have HB := n3_; clear n0_ n1_ n2_ n3_; (try clear hb); (try clear hb2); (try clear hk); (try clear hi); (try clear ho0); have hcz105_0 : w104.cell? ⟨gb221, 0, none⟩ = some (.int .i64 0) := (blk_cell BK221.out 0).trans rfl; have hcz105_1 : w104.cell? ⟨gb221, 1, none⟩ = some (.slice none 0 0) := (blk_cell BK221.out 1).trans rfl; have hfz105_0 := blk_frozen BK221.out 0; have hfz105_1 := blk_frozen BK221.out 1; obtain ⟨Ao106, co106, eo106⟩ := Kd.R_slice HO291.out; subst eo106))
                                        refine bodyPost_ret (results_cell_row rfl _ _ gb221 27 #[.int .i64 t288, .slice Ao106 t289.length co106] (0, 0) _ rfl (by (with_reducible repeat (first | refine blk_drewN ?_ _ | refine blk_drew ?_ | refine blk_alloc ?_ _)); refine blk_put (cs := #[.int .i64 t288, .slice none 0 0]) ?_ 1 _ rfl; (with_reducible repeat (first | refine blk_drewN ?_ _ | refine blk_drew ?_ | refine blk_alloc ?_ _)); refine blk_put (cs := #[.int .i64 0, .slice none 0 0]) ?_ 0 _ rfl; (with_reducible repeat (first | refine blk_drewN ?_ _ | refine blk_drew ?_ | refine blk_alloc ?_ _)); exact BK221.out) Tryd.underlying27 rfl (by kernel_rfl)) rfl ?_
                                        exact ⟨_, by first | rfl | (simp [errW_none, errW_some] <;> rfl) | (simp [*, errW_none, errW_some] <;> rfl), by (with_reducible repeat (first | apply Kd.R_alloc | apply Kd.R_drewN | apply Kd.R_drew)); exact Kd.R_mono (Kd.R_far (p := ⟨gb221, 1, none⟩) (Kd.R_far (p := ⟨gb221, 0, none⟩) (Kd.R_types HO291.out BK221.out (by decide)) (fun _ hk => hk.2) (.int .i64 t288)) (fun _ hk => hk.2) (.slice Ao106 t289.length co106)) (fun _ hk => trivial), by repeat (first | (with_reducible first | exact HB.out | apply below_alloc | apply pw_below_drewN | apply below_drew1 | refine below_set ?_ GE221.out) | exact HB.out)⟩
                                      · rw [if_neg c99] at H
                                        have c99b0 : (a0 == 80) = false := beq_eq_false_iff_ne.mpr c99
                                        have c99b1 : (a0 != 80) = true := bne_iff_ne.mpr c99
                                        obtain ⟨y292, hy292⟩ : ∃ y_ : List ByteArray, y_ = (([(⟨#[53, 46, 48, 46, 48, 32, 110, 111]⟩ : ByteArray)] : List ByteArray)) := ⟨_, rfl⟩
                                        replace H : ((reply_Make.f 554 y292).bind fun bt295 => (some (bt295.1, bt295.2))) = some (r1, r2) := by first | (rw [hy292]; with_reducible exact H) | (have H2_ := (Option.bind_some _ _).symm.trans H; rw [hy292]; with_reducible exact H2_) | (have H2_ := (Option.bind_some _ _).symm.trans H; with_reducible exact H2_) | with_reducible exact H | (rw [hy292]; exact H) | exact H
                                        have Ny292 := Aside0.mk hy292
                                        clear hy292
                                        replace H := Option.bind_eq_some_iff.mp H
                                        obtain ⟨⟨t295, t296⟩, A1070, H⟩ := H
                                        replace H : (some (t295, t296)) = some (r1, r2) := H
                                        have A107 := Aside0.mk A1070
                                        clear A1070
                                        simp only [Option.some.injEq, Prod.mk.injEq] at H
                                        obtain ⟨rfl, rfl⟩ := H
                                        go_wp2_with (first | ((with_reducible refine gate_dst (N := 61) rfl ?_); refine Kd.R_lit Kd.string _ 9 ?hg (N := 61) ?hd (xs := ([(⟨#[53, 46, 48, 46, 48, 32, 110, 111]⟩ : ByteArray)] : List ByteArray)) (inner := [.string (⟨#[53, 46, 48, 46, 48, 32, 110, 111]⟩ : ByteArray)]) (ok := fun _ => True) (okp := fun _ => True) ?hr ?hp (fun _ hk => hk) trivial (Below.refl _ _) (Nat.le_refl _) (by simp) ?_; (case hd => rfl); (case hg => rfl); (case hr => first | (go_simp; done) | (go_simp; rfl)); (case hp => exact (Reps.one (show Kd.M Kd.string _ _ _ (⟨#[53, 46, 48, 46, 48, 32, 110, 111]⟩ : ByteArray) [.string (⟨#[53, 46, 48, 46, 48, 32, 110, 111]⟩ : ByteArray)] from rfl) (Reps.none _ _))); intro v293 w108 ho109 hb hg_ hnew_; clear hg_ hnew_; (first | rw [← Ny292.out] at ho109 | (simp only [Int.reduceToNat] at ho109; rw [← Ny292.out] at ho109)); have n0_ := Aside0.mk (Kd.R_lower ho109 (below_size (by repeat (first | (with_reducible first | exact HB.out | apply below_alloc | apply pw_below_drewN | apply below_drew1 | refine below_set ?_ GE221.out) | exact HB.out)))); have n1_ := Aside0.mk (blk_below (g := gb221) (o := .cells #[.int .i64 0, .slice none 0 0] 27 (0, 0)) (by (with_reducible repeat (first | refine blk_drewN ?_ _ | refine blk_drew ?_ | refine blk_alloc ?_ _)); exact BK221.out) hb); have n2_ := Aside0.mk (below_step (by repeat (first | (with_reducible first | exact HB.out | apply below_alloc | apply pw_below_drewN | apply below_drew1 | refine below_set ?_ GE221.out) | exact HB.out)) hb); clear BK221; clear HB; have HO294 := n0_; have BK221 := n1_; have HB := n2_; clear n0_ n1_ n2_; clear hb ho109; obtain ⟨Ao110, co110, eo110⟩ := Kd.R_slice HO294.out; subst eo110) | ((with_reducible refine gate_callee (f := 10) rfl ?_); refine goesL_ (some 62) rfl rfl Tryd.func10 (by kernel_rfl) rfl #[.int .i64 554, .slice Ao110 y292.length co110] rfl (by (try simp only [List.map_toArray, List.map_cons, List.map_nil]); first | done | rfl | (simp only [List.length_drop, List.length_take]; rfl)) ?_; (with_reducible refine (reply_Make.calls 554 _ _ y292 t295 t296 _ ?side1 ?side2 A107.out).mono ?_); (case side1 => repeat (first | exact (Kd.R_reads' HO294.out).2.2 | (with_reducible refine Kd.C_alloc ?_ _) | (with_reducible refine Kd.C_drewN ?_ _) | (with_reducible refine Kd.C_drew ?_))); (case side2 => exact (Kd.R_reads' HO294.out).2.1); rintro e w111 ⟨v297, rfl, ho0, hb⟩; refine ⟨_, rfl, ?_⟩; have n0_ := Aside0.mk (Kd.R_elder' (by (with_reducible repeat (first | apply Kd.R_alloc | apply Kd.R_drewN | apply Kd.R_drew)); exact HO294.out) (Kd.R_base ho0) hb); have n1_ := Aside0.mk (Kd.R_lower (Kd.R_new' ho0 (Kd.R_lt (by (with_reducible repeat (first | apply Kd.R_alloc | apply Kd.R_drewN | apply Kd.R_drew)); exact HO294.out))) (below_size (by repeat (first | (with_reducible first | exact HB.out | apply below_alloc | apply pw_below_drewN | apply below_drew1 | refine below_set ?_ GE221.out) | exact HB.out)))); have n2_ := Aside0.mk (blk_below (g := gb221) (o := .cells #[.int .i64 0, .slice none 0 0] 27 (0, 0)) (by (with_reducible repeat (first | refine blk_drewN ?_ _ | refine blk_drew ?_ | refine blk_alloc ?_ _)); exact BK221.out) hb); have n3_ := Aside0.mk (below_step (by repeat (first | (with_reducible first | exact HB.out | apply below_alloc | apply pw_below_drewN | apply below_drew1 | refine below_set ?_ GE221.out) | exact HB.out)) hb); clear HO294; clear BK221; clear HB; have HO294 := n0_; have HO298 := n1_; have BK221 := n2_; have HB := n3_; clear n0_ n1_ n2_ n3_; (try clear hb); (try clear hb2); (try clear hk); (try clear hi); (try clear ho0); have hcz112_0 : w111.cell? ⟨gb221, 0, none⟩ = some (.int .i64 0) := (blk_cell BK221.out 0).trans rfl; have hcz112_1 : w111.cell? ⟨gb221, 1, none⟩ = some (.slice none 0 0) := (blk_cell BK221.out 1).trans rfl; have hfz112_0 := blk_frozen BK221.out 0; have hfz112_1 := blk_frozen BK221.out 1; obtain ⟨Ao113, co113, eo113⟩ := Kd.R_slice HO298.out; subst eo113))
                                        refine bodyPost_ret (results_cell_row rfl _ _ gb221 27 #[.int .i64 t295, .slice Ao113 t296.length co113] (0, 0) _ rfl (by (with_reducible repeat (first | refine blk_drewN ?_ _ | refine blk_drew ?_ | refine blk_alloc ?_ _)); refine blk_put (cs := #[.int .i64 t295, .slice none 0 0]) ?_ 1 _ rfl; (with_reducible repeat (first | refine blk_drewN ?_ _ | refine blk_drew ?_ | refine blk_alloc ?_ _)); refine blk_put (cs := #[.int .i64 0, .slice none 0 0]) ?_ 0 _ rfl; (with_reducible repeat (first | refine blk_drewN ?_ _ | refine blk_drew ?_ | refine blk_alloc ?_ _)); exact BK221.out) Tryd.underlying27 rfl (by kernel_rfl)) rfl ?_
                                        exact ⟨_, by first | rfl | (simp [errW_none, errW_some] <;> rfl) | (simp [*, errW_none, errW_some] <;> rfl), by (with_reducible repeat (first | apply Kd.R_alloc | apply Kd.R_drewN | apply Kd.R_drew)); exact Kd.R_mono (Kd.R_far (p := ⟨gb221, 1, none⟩) (Kd.R_far (p := ⟨gb221, 0, none⟩) (Kd.R_types HO298.out BK221.out (by decide)) (fun _ hk => hk.2) (.int .i64 t295)) (fun _ hk => hk.2) (.slice Ao113 t296.length co113)) (fun _ hk => trivial), by repeat (first | (with_reducible first | exact HB.out | apply below_alloc | apply pw_below_drewN | apply below_drew1 | refine below_set ?_ GE221.out) | exact HB.out)⟩
  case rest =>
    clear HC2
    try clear c1
    try clear c2
    try clear p2
    try clear c3
    try clear c4
    try clear c4b0
    try clear c4b1
    try clear c5
    try clear c6
    try clear c7
    try clear c8
    try clear c9
    try clear c10
    try clear c12
    try clear c12b0
    try clear c12b1
    try clear c20
    try clear c20b0
    try clear c20b1
    try clear c21
    try clear c21b0
    try clear c21b1
    try clear c22
    try clear c22b0
    try clear c22b1
    try clear c30
    try clear c30b0
    try clear c30b1
    try clear c38
    try clear c38b0
    try clear c38b1
    try clear c46
    try clear c46b0
    try clear c46b1
    try clear c54
    try clear c54b0
    try clear c54b1
    try clear c63
    try clear c63b0
    try clear c63b1
    try clear c64
    try clear c64b0
    try clear c64b1
    try clear c65
    try clear c73
    try clear c73b0
    try clear c73b1
    try clear c81
    try clear c81b0
    try clear c81b1
    try clear c90
    try clear c90b0
    try clear c90b1
    try clear c91
    try clear c99
    try clear c99b0
    try clear c99b1
    try clear hcz105_0
    try clear hcz105_1
    try clear hcz10_0
    try clear hcz10_1
    try clear hcz112_0
    try clear hcz112_1
    try clear hcz18_0
    try clear hcz18_1
    try clear hcz28_0
    try clear hcz28_1
    try clear hcz36_0
    try clear hcz36_1
    try clear hcz44_0
    try clear hcz44_1
    try clear hcz52_0
    try clear hcz52_1
    try clear hcz60_0
    try clear hcz60_1
    try clear hcz71_0
    try clear hcz71_1
    try clear hcz79_0
    try clear hcz79_1
    try clear hcz87_0
    try clear hcz87_1
    try clear hcz97_0
    try clear hcz97_1
    try clear hfz105_0
    try clear hfz105_1
    try clear hfz10_0
    try clear hfz10_1
    try clear hfz112_0
    try clear hfz112_1
    try clear hfz18_0
    try clear hfz18_1
    try clear hfz28_0
    try clear hfz28_1
    try clear hfz36_0
    try clear hfz36_1
    try clear hfz44_0
    try clear hfz44_1
    try clear hfz52_0
    try clear hfz52_1
    try clear hfz60_0
    try clear hfz60_1
    try clear hfz71_0
    try clear hfz71_1
    try clear hfz79_0
    try clear hfz79_1
    try clear hfz87_0
    try clear hfz87_1
    try clear hfz97_0
    try clear hfz97_1
    try clear p2
    obtain ⟨kq, x222000_1, HA, HJ1, BK221, HB⟩ := hcut
    cases kq with
    | zero => exact absurd HA.out (by simp [reply_For.j2])
    | succ kj1 =>
      have H := HA.out
      clear HA
      simp only [reply_For.j2] at H
      obtain ⟨y299, hy299⟩ : ∃ y_ : List ByteArray, y_ = (([(⟨#[53, 46, 53, 46, 52, 32, 110, 111, 116, 32, 108, 105, 107, 101, 32, 116, 104, 97, 116]⟩ : ByteArray)] : List ByteArray)) := ⟨_, rfl⟩
      replace H : ((reply_Make.f 501 y299).bind fun bt302 => (some (bt302.1, bt302.2))) = some (r1, r2) := by first | (rw [hy299]; with_reducible exact H) | (have H2_ := (Option.bind_some _ _).symm.trans H; rw [hy299]; with_reducible exact H2_) | (have H2_ := (Option.bind_some _ _).symm.trans H; with_reducible exact H2_) | with_reducible exact H | (rw [hy299]; exact H) | exact H
      have Ny299 := Aside0.mk hy299
      clear hy299
      replace H := Option.bind_eq_some_iff.mp H
      obtain ⟨⟨t302, t303⟩, A1140, H⟩ := H
      replace H : (some (t302, t303)) = some (r1, r2) := H
      have A114 := Aside0.mk A1140
      clear A1140
      simp only [Option.some.injEq, Prod.mk.injEq] at H
      obtain ⟨rfl, rfl⟩ := H
      go_wp2_with (first | ((with_reducible refine gate_dst (N := 39) rfl ?_); refine Kd.R_lit Kd.string _ 9 ?hg (N := 39) ?hd (xs := ([(⟨#[53, 46, 53, 46, 52, 32, 110, 111, 116, 32, 108, 105, 107, 101, 32, 116, 104, 97, 116]⟩ : ByteArray)] : List ByteArray)) (inner := [.string (⟨#[53, 46, 53, 46, 52, 32, 110, 111, 116, 32, 108, 105, 107, 101, 32, 116, 104, 97, 116]⟩ : ByteArray)]) (ok := fun _ => True) (okp := fun _ => True) ?hr ?hp (fun _ hk => hk) trivial (Below.refl _ _) (Nat.le_refl _) (by simp) ?_; (case hd => rfl); (case hg => rfl); (case hr => first | (go_simp; done) | (go_simp; rfl)); (case hp => exact (Reps.one (show Kd.M Kd.string _ _ _ (⟨#[53, 46, 53, 46, 52, 32, 110, 111, 116, 32, 108, 105, 107, 101, 32, 116, 104, 97, 116]⟩ : ByteArray) [.string (⟨#[53, 46, 53, 46, 52, 32, 110, 111, 116, 32, 108, 105, 107, 101, 32, 116, 104, 97, 116]⟩ : ByteArray)] from rfl) (Reps.none _ _))); intro v300 w115 ho116 hb hg_ hnew_; clear hg_ hnew_; (first | rw [← Ny299.out] at ho116 | (simp only [Int.reduceToNat] at ho116; rw [← Ny299.out] at ho116)); have n0_ := Aside0.mk (Kd.R_lower ho116 (below_size (by repeat (first | (with_reducible first | exact HB.out | apply below_alloc | apply pw_below_drewN | apply below_drew1 | refine below_set ?_ GE221.out) | exact HB.out)))); have n1_ := Aside0.mk (blk_below (g := gb221) (o := .cells #[.int .i64 x222000_1, .slice none 0 0] 27 (0, 0)) (by (with_reducible repeat (first | refine blk_drewN ?_ _ | refine blk_drew ?_ | refine blk_alloc ?_ _)); exact BK221.out) hb); have n2_ := Aside0.mk (below_step (by repeat (first | (with_reducible first | exact HB.out | apply below_alloc | apply pw_below_drewN | apply below_drew1 | refine below_set ?_ GE221.out) | exact HB.out)) hb); clear BK221; clear HB; have HO301 := n0_; have BK221 := n1_; have HB := n2_; clear n0_ n1_ n2_; clear hb ho116; obtain ⟨Ao117, co117, eo117⟩ := Kd.R_slice HO301.out; subst eo117) | ((with_reducible refine gate_callee (f := 10) rfl ?_); refine goesL_ (some 40) rfl rfl Tryd.func10 (by kernel_rfl) rfl #[.int .i64 501, .slice Ao117 y299.length co117] rfl (by (try simp only [List.map_toArray, List.map_cons, List.map_nil]); first | done | rfl | (simp only [List.length_drop, List.length_take]; rfl)) ?_; (with_reducible refine (reply_Make.calls 501 _ _ y299 t302 t303 _ ?side1 ?side2 A114.out).mono ?_); (case side1 => repeat (first | exact (Kd.R_reads' HO301.out).2.2 | (with_reducible refine Kd.C_alloc ?_ _) | (with_reducible refine Kd.C_drewN ?_ _) | (with_reducible refine Kd.C_drew ?_))); (case side2 => exact (Kd.R_reads' HO301.out).2.1); rintro e w118 ⟨v304, rfl, ho0, hb⟩; refine ⟨_, rfl, ?_⟩; have n0_ := Aside0.mk (Kd.R_elder' (by (with_reducible repeat (first | apply Kd.R_alloc | apply Kd.R_drewN | apply Kd.R_drew)); exact HO301.out) (Kd.R_base ho0) hb); have n1_ := Aside0.mk (Kd.R_lower (Kd.R_new' ho0 (Kd.R_lt (by (with_reducible repeat (first | apply Kd.R_alloc | apply Kd.R_drewN | apply Kd.R_drew)); exact HO301.out))) (below_size (by repeat (first | (with_reducible first | exact HB.out | apply below_alloc | apply pw_below_drewN | apply below_drew1 | refine below_set ?_ GE221.out) | exact HB.out)))); have n2_ := Aside0.mk (blk_below (g := gb221) (o := .cells #[.int .i64 x222000_1, .slice none 0 0] 27 (0, 0)) (by (with_reducible repeat (first | refine blk_drewN ?_ _ | refine blk_drew ?_ | refine blk_alloc ?_ _)); exact BK221.out) hb); have n3_ := Aside0.mk (below_step (by repeat (first | (with_reducible first | exact HB.out | apply below_alloc | apply pw_below_drewN | apply below_drew1 | refine below_set ?_ GE221.out) | exact HB.out)) hb); clear HO301; clear BK221; clear HB; have HO301 := n0_; have HO305 := n1_; have BK221 := n2_; have HB := n3_; clear n0_ n1_ n2_ n3_; (try clear hb); (try clear hb2); (try clear hk); (try clear hi); (try clear ho0); have hcz119_0 : w118.cell? ⟨gb221, 0, none⟩ = some (.int .i64 x222000_1) := (blk_cell BK221.out 0).trans rfl; have hcz119_1 : w118.cell? ⟨gb221, 1, none⟩ = some (.slice none 0 0) := (blk_cell BK221.out 1).trans rfl; have hfz119_0 := blk_frozen BK221.out 0; have hfz119_1 := blk_frozen BK221.out 1; obtain ⟨Ao120, co120, eo120⟩ := Kd.R_slice HO305.out; subst eo120))
      refine bodyPost_ret (results_cell_row rfl _ _ gb221 27 #[.int .i64 t302, .slice Ao120 t303.length co120] (0, 0) _ rfl (by (with_reducible repeat (first | refine blk_drewN ?_ _ | refine blk_drew ?_ | refine blk_alloc ?_ _)); refine blk_put (cs := #[.int .i64 t302, .slice none 0 0]) ?_ 1 _ rfl; (with_reducible repeat (first | refine blk_drewN ?_ _ | refine blk_drew ?_ | refine blk_alloc ?_ _)); refine blk_put (cs := #[.int .i64 x222000_1, .slice none 0 0]) ?_ 0 _ rfl; (with_reducible repeat (first | refine blk_drewN ?_ _ | refine blk_drew ?_ | refine blk_alloc ?_ _)); exact BK221.out) Tryd.underlying27 rfl (by kernel_rfl)) rfl ?_
      exact ⟨_, by first | rfl | (simp [errW_none, errW_some] <;> rfl) | (simp [*, errW_none, errW_some] <;> rfl), by (with_reducible repeat (first | apply Kd.R_alloc | apply Kd.R_drewN | apply Kd.R_drew)); exact Kd.R_mono (Kd.R_far (p := ⟨gb221, 1, none⟩) (Kd.R_far (p := ⟨gb221, 0, none⟩) (Kd.R_types HO305.out BK221.out (by decide)) (fun _ hk => hk.2) (.int .i64 t302)) (fun _ hk => hk.2) (.slice Ao120 t303.length co120)) (fun _ hk => trivial), by repeat (first | (with_reducible first | exact HB.out | apply below_alloc | apply pw_below_drewN | apply below_drew1 | refine below_set ?_ GE221.out) | exact HB.out)⟩

end Go.Proofs.YtdjpdbdilcjakaaDoor.X
