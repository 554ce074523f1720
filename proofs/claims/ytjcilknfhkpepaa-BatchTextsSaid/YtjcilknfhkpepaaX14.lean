-- Written by a program (print.py's text, with contracts of this session's own put in). Not trusted: Lean checks it.
import Derived.Test.YtjcilknfhkpepaaX0
import Derived.Test.YtjcilknfhkpepaaX13
namespace Go.Proofs.Ytjcilknfhkpepaa.X
open Go.RowKit Go.Proofs.YtjcilknfhkpepaaW.PrintWords Go.Proofs.YtjcilknfhkpepaaW.PrintLast Go.Proofs.YtjcilknfhkpepaaW.PrintMore
attribute [local go_sem] max2_int min2_int max_two min_two max_three min_three max_four min_four   -- for this text's walks alone
set_option linter.unusedVariables false
set_option linter.unusedSimpArgs false

/-! ### nets_Take: function 42 -/
def nets_Take.f (k : Nat) (a0 : ByteArray) : Option (ByteArray × ByteArray × Int) := (nets_size.f k a0).bind fun bt214 => (if bt214.2.2 = 0 then (if 0 ≤ bt214.2.1 then (if bt214.2.1 ≤ (a0.size : Int) then (if bt214.1 ≥ ((a0.extract (bt214.2.1 : Int).toNat a0.size).size : Int) then (some ((⟨#[]⟩ : ByteArray), (⟨#[]⟩ : ByteArray), 9)) else (if 0 ≤ bt214.1 then (if bt214.1 < ((a0.extract (bt214.2.1 : Int).toNat a0.size).size : Int) then (if (bt (a0.extract (bt214.2.1 : Int).toNat a0.size) bt214.1) = 44 then (if bt214.1 ≤ ((a0.extract (bt214.2.1 : Int).toNat a0.size).size : Int) then (if 0 ≤ (wrap64 (bt214.1 + 1)) then (if (wrap64 (bt214.1 + 1)) ≤ ((a0.extract (bt214.2.1 : Int).toNat a0.size).size : Int) then (some ((a0.extract (bt214.2.1 : Int).toNat a0.size).extract 0 (bt214.1 : Int).toNat, (a0.extract (bt214.2.1 : Int).toNat a0.size).extract ((wrap64 (bt214.1 + 1)) : Int).toNat (a0.extract (bt214.2.1 : Int).toNat a0.size).size, 0)) else (none)) else (none)) else (none)) else (some ((⟨#[]⟩ : ByteArray), (⟨#[]⟩ : ByteArray), 3))) else (none)) else (none))) else (none)) else (none)) else (some ((⟨#[]⟩ : ByteArray), (⟨#[]⟩ : ByteArray), bt214.2.2)))
theorem nets_Take.mono : ∀ a0 k, LeO (nets_Take.f k a0) (nets_Take.f (k + 1) a0) := by
  intro a0 k
  unfold nets_Take.f
  repeat' first
      | (with_reducible exact nets_size.mono _ _)
      | (with_reducible exact LeO.refl _)
      | (with_reducible exact LeO.none _)
      | (with_reducible refine LeO.ite ?_ ?_)
      | (with_reducible refine LeO.bind ?_ (fun _ => ?_))
      | exact nets_size.mono _ _
      | exact LeO.none _
      | refine LeO.ite ?_ ?_
      | refine LeO.bind ?_ (fun _ => ?_)
set_option maxHeartbeats 8000000 in
set_option maxRecDepth 100000 in
theorem nets_Take.calls (k : Nat) (a0 : ByteArray) (r1 : ByteArray) (r2 : ByteArray) (r3 : Int) (w : World) (h : nets_Take.f k a0 = some (r1, r2, r3)) :
    Calls Try.prog 42 #[.string a0] w fun e w' => e = .returned (.tuple #[.string r1, .string r2, .int .i64 r3]) ∧ Drawn0 w w' := by
  have H : ((nets_size.f k a0).bind fun bt214 => (if bt214.2.2 = 0 then (if 0 ≤ bt214.2.1 then (if bt214.2.1 ≤ (a0.size : Int) then (if bt214.1 ≥ ((a0.extract (bt214.2.1 : Int).toNat a0.size).size : Int) then (some ((⟨#[]⟩ : ByteArray), (⟨#[]⟩ : ByteArray), 9)) else (if 0 ≤ bt214.1 then (if bt214.1 < ((a0.extract (bt214.2.1 : Int).toNat a0.size).size : Int) then (if (bt (a0.extract (bt214.2.1 : Int).toNat a0.size) bt214.1) = 44 then (if bt214.1 ≤ ((a0.extract (bt214.2.1 : Int).toNat a0.size).size : Int) then (if 0 ≤ (wrap64 (bt214.1 + 1)) then (if (wrap64 (bt214.1 + 1)) ≤ ((a0.extract (bt214.2.1 : Int).toNat a0.size).size : Int) then (some ((a0.extract (bt214.2.1 : Int).toNat a0.size).extract 0 (bt214.1 : Int).toNat, (a0.extract (bt214.2.1 : Int).toNat a0.size).extract ((wrap64 (bt214.1 + 1)) : Int).toNat (a0.extract (bt214.2.1 : Int).toNat a0.size).size, 0)) else (none)) else (none)) else (none)) else (some ((⟨#[]⟩ : ByteArray), (⟨#[]⟩ : ByteArray), 3))) else (none)) else (none))) else (none)) else (none)) else (some ((⟨#[]⟩ : ByteArray), (⟨#[]⟩ : ByteArray), bt214.2.2)))) = some (r1, r2, r3) := h
  clear h
  replace H := Option.bind_eq_some_iff.mp H
  obtain ⟨⟨t214, t215, t216⟩, A20, H⟩ := H
  replace H : (if t216 = 0 then (if 0 ≤ t215 then (if t215 ≤ (a0.size : Int) then (if t214 ≥ ((a0.extract (t215 : Int).toNat a0.size).size : Int) then (some ((⟨#[]⟩ : ByteArray), (⟨#[]⟩ : ByteArray), 9)) else (if 0 ≤ t214 then (if t214 < ((a0.extract (t215 : Int).toNat a0.size).size : Int) then (if (bt (a0.extract (t215 : Int).toNat a0.size) t214) = 44 then (if t214 ≤ ((a0.extract (t215 : Int).toNat a0.size).size : Int) then (if 0 ≤ (wrap64 (t214 + 1)) then (if (wrap64 (t214 + 1)) ≤ ((a0.extract (t215 : Int).toNat a0.size).size : Int) then (some ((a0.extract (t215 : Int).toNat a0.size).extract 0 (t214 : Int).toNat, (a0.extract (t215 : Int).toNat a0.size).extract ((wrap64 (t214 + 1)) : Int).toNat (a0.extract (t215 : Int).toNat a0.size).size, 0)) else (none)) else (none)) else (none)) else (some ((⟨#[]⟩ : ByteArray), (⟨#[]⟩ : ByteArray), 3))) else (none)) else (none))) else (none)) else (none)) else (some ((⟨#[]⟩ : ByteArray), (⟨#[]⟩ : ByteArray), t216))) = some (r1, r2, r3) := H
  have A2 := Aside0.mk A20
  clear A20
  by_cases c3 : t216 = 0
  · rw [if_pos c3] at H
    have c3b0 : (t216 == 0) = true := beq_iff_eq.mpr c3
    have c3b1 : (t216 != 0) = false := bne_eq_false_iff_eq.mpr c3
    clear c3
    by_cases c4 : 0 ≤ t215
    · rw [if_pos c4] at H
      have c4b0 := eq_true c4
      have c4b1 : decide (0 ≤ t215) = true := decide_eq_true c4
      clear c4
      by_cases c5 : t215 ≤ (a0.size : Int)
      · rw [if_pos c5] at H
        have c5b0 := eq_true c5
        have c5b1 : decide (t215 ≤ (a0.size : Int)) = true := decide_eq_true c5
        clear c5
        by_cases c6 : t214 ≥ ((a0.extract (t215 : Int).toNat a0.size).size : Int)
        · rw [if_pos c6] at H
          have c6b0 : decide (((a0.extract (t215 : Int).toNat a0.size).size : Int) ≤ t214) = true := decide_eq_true c6
          try (have c6s0 := c6b0; simp only [ByteArray.size_append, ByteArray.size_extract, Nat.min_self, Xsize_mk, List.size_toArray, List.length_cons, List.length_nil, Nat.zero_add, Nat.reduceAdd, List.length_append, List.length_drop, List.length_take] at c6s0)
          try (have c6t0 := c6b0; simp only [Int.toNat_natCast] at c6t0)
          try (have c6v0 := c6b0; simp only [ByteArray.size_append, Xsz_ext, Xsz_ext0, c5b0] at c6v0; (try simp only [ByteArray.size_append, ByteArray.size_extract, Nat.min_self, Xsize_mk, List.size_toArray, List.length_cons, List.length_nil, Nat.zero_add, Nat.reduceAdd, List.length_append, List.length_drop, List.length_take] at c6v0))
          clear c6
          simp only [Option.some.injEq, Prod.mk.injEq] at H
          obtain ⟨rfl, rfl, rfl⟩ := H
          go_enter Try.func42, Try.ntmps42
          go_wp2_with (first | (go_at_call 50; (with_reducible refine (nets_size.calls k a0 t214 t215 t216 _ A2.out).mono ?_); rintro e w' ⟨rfl, ⟨nd, rfl⟩⟩; (try first | exact ⟨rfl, _, World.drewN_drewN _ _ _⟩ | exact ⟨rfl, _, Eq.trans (World.drewN_drewN _ _ _) (congrArg (World.drewN _) (Nat.add_assoc _ _ _))⟩)))
          repeat (go_quiet (first | (go_at_call 50; (with_reducible refine (nets_size.calls k a0 t214 t215 t216 _ A2.out).mono ?_); (try clear A2); (try clear A2); rintro e w' ⟨rfl, ⟨nd, rfl⟩⟩; (try first | exact ⟨rfl, _, World.drewN_drewN _ _ _⟩ | exact ⟨rfl, _, Eq.trans (World.drewN_drewN _ _ _) (congrArg (World.drewN _) (Nat.add_assoc _ _ _))⟩))); try go_wp2_with (first | (go_at_call 50; (with_reducible refine (nets_size.calls k a0 t214 t215 t216 _ A2.out).mono ?_); (try clear A2); (try clear A2); rintro e w' ⟨rfl, ⟨nd, rfl⟩⟩; (try first | exact ⟨rfl, _, World.drewN_drewN _ _ _⟩ | exact ⟨rfl, _, Eq.trans (World.drewN_drewN _ _ _) (congrArg (World.drewN _) (Nat.add_assoc _ _ _))⟩))))
          go_ret3
          exact ⟨by first | rfl | (simp; done) | (simp [*]; done) | (simp [IntKind.wrap_u8, IntKind.wrap_i64, wrap64]; done) | (simp; rw [Bool.eq_iff_iff]; simp; done), by repeat (first | exact Drawn0.refl _ | apply Drawn0.step)⟩
        · rw [if_neg c6] at H
          have c6b0 : decide (((a0.extract (t215 : Int).toNat a0.size).size : Int) ≤ t214) = false := decide_eq_false c6
          try (have c6s0 := c6b0; simp only [ByteArray.size_append, ByteArray.size_extract, Nat.min_self, Xsize_mk, List.size_toArray, List.length_cons, List.length_nil, Nat.zero_add, Nat.reduceAdd, List.length_append, List.length_drop, List.length_take] at c6s0)
          try (have c6t0 := c6b0; simp only [Int.toNat_natCast] at c6t0)
          try (have c6v0 := c6b0; simp only [ByteArray.size_append, Xsz_ext, Xsz_ext0, c5b0] at c6v0; (try simp only [ByteArray.size_append, ByteArray.size_extract, Nat.min_self, Xsize_mk, List.size_toArray, List.length_cons, List.length_nil, Nat.zero_add, Nat.reduceAdd, List.length_append, List.length_drop, List.length_take] at c6v0))
          clear c6
          by_cases c7 : 0 ≤ t214
          · rw [if_pos c7] at H
            have c7b0 : decide (0 ≤ t214) = true := decide_eq_true c7
            clear c7
            by_cases c8 : t214 < ((a0.extract (t215 : Int).toNat a0.size).size : Int)
            · rw [if_pos c8] at H
              have c8b0 : decide (t214 < ((a0.extract (t215 : Int).toNat a0.size).size : Int)) = true := decide_eq_true c8
              try (have c8s0 := c8b0; simp only [ByteArray.size_append, ByteArray.size_extract, Nat.min_self, Xsize_mk, List.size_toArray, List.length_cons, List.length_nil, Nat.zero_add, Nat.reduceAdd, List.length_append, List.length_drop, List.length_take] at c8s0)
              try (have c8t0 := c8b0; simp only [Int.toNat_natCast] at c8t0)
              try (have c8v0 := c8b0; simp only [ByteArray.size_append, Xsz_ext, Xsz_ext0, c5b0] at c8v0; (try simp only [ByteArray.size_append, ByteArray.size_extract, Nat.min_self, Xsize_mk, List.size_toArray, List.length_cons, List.length_nil, Nat.zero_add, Nat.reduceAdd, List.length_append, List.length_drop, List.length_take] at c8v0))
              clear c8
              by_cases c10 : (bt (a0.extract (t215 : Int).toNat a0.size) t214) = 44
              · rw [if_pos c10] at H
                have c10b0 : ((bt (a0.extract (t215 : Int).toNat a0.size) t214) == 44) = true := beq_iff_eq.mpr c10
                try (have c10s0 := c10b0; simp only [ByteArray.size_append, ByteArray.size_extract, Nat.min_self, Xsize_mk, List.size_toArray, List.length_cons, List.length_nil, Nat.zero_add, Nat.reduceAdd, List.length_append, List.length_drop, List.length_take] at c10s0)
                try (have c10t0 := c10b0; simp only [Int.toNat_natCast] at c10t0)
                try (have c10v0 := c10b0; simp only [ByteArray.size_append, Xsz_ext, Xsz_ext0, c5b0] at c10v0; (try simp only [ByteArray.size_append, ByteArray.size_extract, Nat.min_self, Xsize_mk, List.size_toArray, List.length_cons, List.length_nil, Nat.zero_add, Nat.reduceAdd, List.length_append, List.length_drop, List.length_take] at c10v0))
                have c10b1 : ((bt (a0.extract (t215 : Int).toNat a0.size) t214) != 44) = false := bne_eq_false_iff_eq.mpr c10
                try (have c10s1 := c10b1; simp only [ByteArray.size_append, ByteArray.size_extract, Nat.min_self, Xsize_mk, List.size_toArray, List.length_cons, List.length_nil, Nat.zero_add, Nat.reduceAdd, List.length_append, List.length_drop, List.length_take] at c10s1)
                try (have c10t1 := c10b1; simp only [Int.toNat_natCast] at c10t1)
                try (have c10v1 := c10b1; simp only [ByteArray.size_append, Xsz_ext, Xsz_ext0, c5b0] at c10v1; (try simp only [ByteArray.size_append, ByteArray.size_extract, Nat.min_self, Xsize_mk, List.size_toArray, List.length_cons, List.length_nil, Nat.zero_add, Nat.reduceAdd, List.length_append, List.length_drop, List.length_take] at c10v1))
                clear c10
                have c11b0 := eq_true (of_decide_eq_true (by first | (with_reducible assumption) | assumption) : 0 ≤ t214)
                by_cases c12 : t214 ≤ ((a0.extract (t215 : Int).toNat a0.size).size : Int)
                · rw [if_pos c12] at H
                  have c12b0 := eq_true c12
                  try (have c12s0 := c12b0; simp only [ByteArray.size_append, ByteArray.size_extract, Nat.min_self, Xsize_mk, List.size_toArray, List.length_cons, List.length_nil, Nat.zero_add, Nat.reduceAdd, List.length_append, List.length_drop, List.length_take] at c12s0)
                  try (have c12t0 := c12b0; simp only [Int.toNat_natCast] at c12t0)
                  try (have c12v0 := c12b0; simp only [ByteArray.size_append, Xsz_ext, Xsz_ext0, c5b0] at c12v0; (try simp only [ByteArray.size_append, ByteArray.size_extract, Nat.min_self, Xsize_mk, List.size_toArray, List.length_cons, List.length_nil, Nat.zero_add, Nat.reduceAdd, List.length_append, List.length_drop, List.length_take] at c12v0))
                  have c12b1 : decide (t214 ≤ ((a0.extract (t215 : Int).toNat a0.size).size : Int)) = true := decide_eq_true c12
                  try (have c12s1 := c12b1; simp only [ByteArray.size_append, ByteArray.size_extract, Nat.min_self, Xsize_mk, List.size_toArray, List.length_cons, List.length_nil, Nat.zero_add, Nat.reduceAdd, List.length_append, List.length_drop, List.length_take] at c12s1)
                  try (have c12t1 := c12b1; simp only [Int.toNat_natCast] at c12t1)
                  try (have c12v1 := c12b1; simp only [ByteArray.size_append, Xsz_ext, Xsz_ext0, c5b0, c12b0] at c12v1; (try simp only [ByteArray.size_append, ByteArray.size_extract, Nat.min_self, Xsize_mk, List.size_toArray, List.length_cons, List.length_nil, Nat.zero_add, Nat.reduceAdd, List.length_append, List.length_drop, List.length_take] at c12v1))
                  clear c12
                  obtain ⟨ji13, hji13⟩ : ∃ j_ : Int, (wrap64 (t214 + 1)) = j_ := ⟨_, rfl⟩
                  replace H : (if 0 ≤ (ji13) then (if (ji13) ≤ ((a0.extract (t215 : Int).toNat a0.size).size : Int) then (some ((a0.extract (t215 : Int).toNat a0.size).extract 0 (t214 : Int).toNat, (a0.extract (t215 : Int).toNat a0.size).extract ((ji13) : Int).toNat (a0.extract (t215 : Int).toNat a0.size).size, 0)) else (none)) else (none)) = some (r1, r2, r3) := by first | (rw [hji13] at H; exact H) | (simp only [hji13] at H ⊢; exact H)
                  (try rw [hji13] at A2)
                  have hji13w : (IntKind.i64.wrap (t214 + 1)) = ji13 := (i64_w _).trans hji13
                  by_cases c14 : 0 ≤ (ji13)
                  · rw [if_pos c14] at H
                    have c14b0 := eq_true c14
                    have c14b1 : decide (0 ≤ (ji13)) = true := decide_eq_true c14
                    clear c14
                    by_cases c15 : (ji13) ≤ ((a0.extract (t215 : Int).toNat a0.size).size : Int)
                    · rw [if_pos c15] at H
                      have c15b0 := eq_true c15
                      try (have c15s0 := c15b0; simp only [ByteArray.size_append, ByteArray.size_extract, Nat.min_self, Xsize_mk, List.size_toArray, List.length_cons, List.length_nil, Nat.zero_add, Nat.reduceAdd, List.length_append, List.length_drop, List.length_take] at c15s0)
                      try (have c15t0 := c15b0; simp only [Int.toNat_natCast] at c15t0)
                      try (have c15v0 := c15b0; simp only [ByteArray.size_append, Xsz_ext, Xsz_ext0, c5b0, c12b0] at c15v0; (try simp only [ByteArray.size_append, ByteArray.size_extract, Nat.min_self, Xsize_mk, List.size_toArray, List.length_cons, List.length_nil, Nat.zero_add, Nat.reduceAdd, List.length_append, List.length_drop, List.length_take] at c15v0))
                      have c15b1 : decide ((ji13) ≤ ((a0.extract (t215 : Int).toNat a0.size).size : Int)) = true := decide_eq_true c15
                      try (have c15s1 := c15b1; simp only [ByteArray.size_append, ByteArray.size_extract, Nat.min_self, Xsize_mk, List.size_toArray, List.length_cons, List.length_nil, Nat.zero_add, Nat.reduceAdd, List.length_append, List.length_drop, List.length_take] at c15s1)
                      try (have c15t1 := c15b1; simp only [Int.toNat_natCast] at c15t1)
                      try (have c15v1 := c15b1; simp only [ByteArray.size_append, Xsz_ext, Xsz_ext0, c5b0, c12b0, c15b0] at c15v1; (try simp only [ByteArray.size_append, ByteArray.size_extract, Nat.min_self, Xsize_mk, List.size_toArray, List.length_cons, List.length_nil, Nat.zero_add, Nat.reduceAdd, List.length_append, List.length_drop, List.length_take] at c15v1))
                      clear c15
                      simp only [Option.some.injEq, Prod.mk.injEq] at H
                      obtain ⟨rfl, rfl, rfl⟩ := H
                      go_enter Try.func42, Try.ntmps42
                      go_wp2_with (first | (go_at_call 50; (with_reducible refine (nets_size.calls k a0 t214 t215 t216 _ A2.out).mono ?_); rintro e w' ⟨rfl, ⟨nd, rfl⟩⟩; (try first | exact ⟨rfl, _, World.drewN_drewN _ _ _⟩ | exact ⟨rfl, _, Eq.trans (World.drewN_drewN _ _ _) (congrArg (World.drewN _) (Nat.add_assoc _ _ _))⟩); have p9 : 0 ≤ (t214 : Int) := of_decide_eq_true (by first | (with_reducible assumption) | assumption); have q9 : t214 < ((a0.extract (t215 : Int).toNat a0.size).size : Int) := of_decide_eq_true (by first | (with_reducible assumption) | assumption); have hx9 := bt_at (a0.extract (t215 : Int).toNat a0.size) t214; replace p9 := eq_true p9; replace q9 := eq_true q9; (try (have qs9 := q9; simp only [ByteArray.size_append, ByteArray.size_extract, Nat.min_self, Xsize_mk, List.size_toArray, List.length_cons, List.length_nil, Nat.zero_add, Nat.reduceAdd, List.length_append, List.length_drop, List.length_take] at qs9))))
                      repeat (go_quiet (first | (go_at_call 50; (with_reducible refine (nets_size.calls k a0 t214 t215 t216 _ A2.out).mono ?_); (try clear A2); (try clear A2); rintro e w' ⟨rfl, ⟨nd, rfl⟩⟩; (try first | exact ⟨rfl, _, World.drewN_drewN _ _ _⟩ | exact ⟨rfl, _, Eq.trans (World.drewN_drewN _ _ _) (congrArg (World.drewN _) (Nat.add_assoc _ _ _))⟩); have p9 : 0 ≤ (t214 : Int) := of_decide_eq_true (by first | (with_reducible assumption) | assumption); have q9 : t214 < ((a0.extract (t215 : Int).toNat a0.size).size : Int) := of_decide_eq_true (by first | (with_reducible assumption) | assumption); have hx9 := bt_at (a0.extract (t215 : Int).toNat a0.size) t214; replace p9 := eq_true p9; replace q9 := eq_true q9; (try (have qs9 := q9; simp only [ByteArray.size_append, ByteArray.size_extract, Nat.min_self, Xsize_mk, List.size_toArray, List.length_cons, List.length_nil, Nat.zero_add, Nat.reduceAdd, List.length_append, List.length_drop, List.length_take] at qs9)))); try go_wp2_with (first | (go_at_call 50; (with_reducible refine (nets_size.calls k a0 t214 t215 t216 _ A2.out).mono ?_); (try clear A2); (try clear A2); rintro e w' ⟨rfl, ⟨nd, rfl⟩⟩; (try first | exact ⟨rfl, _, World.drewN_drewN _ _ _⟩ | exact ⟨rfl, _, Eq.trans (World.drewN_drewN _ _ _) (congrArg (World.drewN _) (Nat.add_assoc _ _ _))⟩); have p9 : 0 ≤ (t214 : Int) := of_decide_eq_true (by first | (with_reducible assumption) | assumption); have q9 : t214 < ((a0.extract (t215 : Int).toNat a0.size).size : Int) := of_decide_eq_true (by first | (with_reducible assumption) | assumption); have hx9 := bt_at (a0.extract (t215 : Int).toNat a0.size) t214; replace p9 := eq_true p9; replace q9 := eq_true q9; (try (have qs9 := q9; simp only [ByteArray.size_append, ByteArray.size_extract, Nat.min_self, Xsize_mk, List.size_toArray, List.length_cons, List.length_nil, Nat.zero_add, Nat.reduceAdd, List.length_append, List.length_drop, List.length_take] at qs9)))))
                      go_ret3
                      exact ⟨by first | rfl | (simp; done) | (simp only [← hji13] <;> (first | rfl | simp)) | (simp [*]; done) | (simp [IntKind.wrap_u8, IntKind.wrap_i64, wrap64]; done) | (simp; rw [Bool.eq_iff_iff]; simp; done), by repeat (first | exact Drawn0.refl _ | apply Drawn0.step)⟩
                    · rw [if_neg c15] at H
                      exact absurd H (by simp)
                  · rw [if_neg c14] at H
                    exact absurd H (by simp)
                · rw [if_neg c12] at H
                  exact absurd H (by simp)
              · rw [if_neg c10] at H
                have c10b0 : ((bt (a0.extract (t215 : Int).toNat a0.size) t214) == 44) = false := beq_eq_false_iff_ne.mpr c10
                try (have c10s0 := c10b0; simp only [ByteArray.size_append, ByteArray.size_extract, Nat.min_self, Xsize_mk, List.size_toArray, List.length_cons, List.length_nil, Nat.zero_add, Nat.reduceAdd, List.length_append, List.length_drop, List.length_take] at c10s0)
                try (have c10t0 := c10b0; simp only [Int.toNat_natCast] at c10t0)
                try (have c10v0 := c10b0; simp only [ByteArray.size_append, Xsz_ext, Xsz_ext0, c5b0] at c10v0; (try simp only [ByteArray.size_append, ByteArray.size_extract, Nat.min_self, Xsize_mk, List.size_toArray, List.length_cons, List.length_nil, Nat.zero_add, Nat.reduceAdd, List.length_append, List.length_drop, List.length_take] at c10v0))
                have c10b1 : ((bt (a0.extract (t215 : Int).toNat a0.size) t214) != 44) = true := bne_iff_ne.mpr c10
                try (have c10s1 := c10b1; simp only [ByteArray.size_append, ByteArray.size_extract, Nat.min_self, Xsize_mk, List.size_toArray, List.length_cons, List.length_nil, Nat.zero_add, Nat.reduceAdd, List.length_append, List.length_drop, List.length_take] at c10s1)
                try (have c10t1 := c10b1; simp only [Int.toNat_natCast] at c10t1)
                try (have c10v1 := c10b1; simp only [ByteArray.size_append, Xsz_ext, Xsz_ext0, c5b0] at c10v1; (try simp only [ByteArray.size_append, ByteArray.size_extract, Nat.min_self, Xsize_mk, List.size_toArray, List.length_cons, List.length_nil, Nat.zero_add, Nat.reduceAdd, List.length_append, List.length_drop, List.length_take] at c10v1))
                simp only [Option.some.injEq, Prod.mk.injEq] at H
                obtain ⟨rfl, rfl, rfl⟩ := H
                go_enter Try.func42, Try.ntmps42
                go_wp2_with (first | (go_at_call 50; (with_reducible refine (nets_size.calls k a0 t214 t215 t216 _ A2.out).mono ?_); rintro e w' ⟨rfl, ⟨nd, rfl⟩⟩; (try first | exact ⟨rfl, _, World.drewN_drewN _ _ _⟩ | exact ⟨rfl, _, Eq.trans (World.drewN_drewN _ _ _) (congrArg (World.drewN _) (Nat.add_assoc _ _ _))⟩); have p9 : 0 ≤ (t214 : Int) := of_decide_eq_true (by first | (with_reducible assumption) | assumption); have q9 : t214 < ((a0.extract (t215 : Int).toNat a0.size).size : Int) := of_decide_eq_true (by first | (with_reducible assumption) | assumption); have hx9 := bt_at (a0.extract (t215 : Int).toNat a0.size) t214; replace p9 := eq_true p9; replace q9 := eq_true q9; (try (have qs9 := q9; simp only [ByteArray.size_append, ByteArray.size_extract, Nat.min_self, Xsize_mk, List.size_toArray, List.length_cons, List.length_nil, Nat.zero_add, Nat.reduceAdd, List.length_append, List.length_drop, List.length_take] at qs9))))
                repeat (go_quiet (first | (go_at_call 50; (with_reducible refine (nets_size.calls k a0 t214 t215 t216 _ A2.out).mono ?_); (try clear A2); (try clear A2); rintro e w' ⟨rfl, ⟨nd, rfl⟩⟩; (try first | exact ⟨rfl, _, World.drewN_drewN _ _ _⟩ | exact ⟨rfl, _, Eq.trans (World.drewN_drewN _ _ _) (congrArg (World.drewN _) (Nat.add_assoc _ _ _))⟩); have p9 : 0 ≤ (t214 : Int) := of_decide_eq_true (by first | (with_reducible assumption) | assumption); have q9 : t214 < ((a0.extract (t215 : Int).toNat a0.size).size : Int) := of_decide_eq_true (by first | (with_reducible assumption) | assumption); have hx9 := bt_at (a0.extract (t215 : Int).toNat a0.size) t214; replace p9 := eq_true p9; replace q9 := eq_true q9; (try (have qs9 := q9; simp only [ByteArray.size_append, ByteArray.size_extract, Nat.min_self, Xsize_mk, List.size_toArray, List.length_cons, List.length_nil, Nat.zero_add, Nat.reduceAdd, List.length_append, List.length_drop, List.length_take] at qs9)))); try go_wp2_with (first | (go_at_call 50; (with_reducible refine (nets_size.calls k a0 t214 t215 t216 _ A2.out).mono ?_); (try clear A2); (try clear A2); rintro e w' ⟨rfl, ⟨nd, rfl⟩⟩; (try first | exact ⟨rfl, _, World.drewN_drewN _ _ _⟩ | exact ⟨rfl, _, Eq.trans (World.drewN_drewN _ _ _) (congrArg (World.drewN _) (Nat.add_assoc _ _ _))⟩); have p9 : 0 ≤ (t214 : Int) := of_decide_eq_true (by first | (with_reducible assumption) | assumption); have q9 : t214 < ((a0.extract (t215 : Int).toNat a0.size).size : Int) := of_decide_eq_true (by first | (with_reducible assumption) | assumption); have hx9 := bt_at (a0.extract (t215 : Int).toNat a0.size) t214; replace p9 := eq_true p9; replace q9 := eq_true q9; (try (have qs9 := q9; simp only [ByteArray.size_append, ByteArray.size_extract, Nat.min_self, Xsize_mk, List.size_toArray, List.length_cons, List.length_nil, Nat.zero_add, Nat.reduceAdd, List.length_append, List.length_drop, List.length_take] at qs9)))))
                go_ret3
                exact ⟨by first | rfl | (simp; done) | (simp [*]; done) | (simp [IntKind.wrap_u8, IntKind.wrap_i64, wrap64]; done) | (simp; rw [Bool.eq_iff_iff]; simp; done), by repeat (first | exact Drawn0.refl _ | apply Drawn0.step)⟩
            · rw [if_neg c8] at H
              exact absurd H (by simp)
          · rw [if_neg c7] at H
            exact absurd H (by simp)
      · rw [if_neg c5] at H
        exact absurd H (by simp)
    · rw [if_neg c4] at H
      exact absurd H (by simp)
  · rw [if_neg c3] at H
    have c3b0 : (t216 == 0) = false := beq_eq_false_iff_ne.mpr c3
    have c3b1 : (t216 != 0) = true := bne_iff_ne.mpr c3
    simp only [Option.some.injEq, Prod.mk.injEq] at H
    obtain ⟨rfl, rfl, rfl⟩ := H
    go_enter Try.func42, Try.ntmps42
    go_wp2_with (first | (go_at_call 50; (with_reducible refine (nets_size.calls k a0 t214 t215 t216 _ A2.out).mono ?_); rintro e w' ⟨rfl, ⟨nd, rfl⟩⟩; (try first | exact ⟨rfl, _, World.drewN_drewN _ _ _⟩ | exact ⟨rfl, _, Eq.trans (World.drewN_drewN _ _ _) (congrArg (World.drewN _) (Nat.add_assoc _ _ _))⟩)))
    repeat (go_quiet (first | (go_at_call 50; (with_reducible refine (nets_size.calls k a0 t214 t215 t216 _ A2.out).mono ?_); (try clear A2); (try clear A2); rintro e w' ⟨rfl, ⟨nd, rfl⟩⟩; (try first | exact ⟨rfl, _, World.drewN_drewN _ _ _⟩ | exact ⟨rfl, _, Eq.trans (World.drewN_drewN _ _ _) (congrArg (World.drewN _) (Nat.add_assoc _ _ _))⟩))); try go_wp2_with (first | (go_at_call 50; (with_reducible refine (nets_size.calls k a0 t214 t215 t216 _ A2.out).mono ?_); (try clear A2); (try clear A2); rintro e w' ⟨rfl, ⟨nd, rfl⟩⟩; (try first | exact ⟨rfl, _, World.drewN_drewN _ _ _⟩ | exact ⟨rfl, _, Eq.trans (World.drewN_drewN _ _ _) (congrArg (World.drewN _) (Nat.add_assoc _ _ _))⟩))))
    go_ret3
    exact ⟨by first | rfl | (simp; done) | (simp [*]; done) | (simp [IntKind.wrap_u8, IntKind.wrap_i64, wrap64]; done) | (simp; rw [Bool.eq_iff_iff]; simp; done), by repeat (first | exact Drawn0.refl _ | apply Drawn0.step)⟩

end Go.Proofs.Ytjcilknfhkpepaa.X
