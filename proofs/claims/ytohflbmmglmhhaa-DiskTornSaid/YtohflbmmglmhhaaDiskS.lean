/- disk: the reference's Put and land, walked. -/
import Derived.Test.YtohflbmmglmhhaaDiskR
namespace Go.Proofs.Ytohflbmmglmhhaa.Dk
open Go.RowKit Go.Proofs.Ytohflbmmglmhhaa.Mem Go.Proofs.Ytohflbmmglmhhaa.X Go.Proofs.YtohflbmmglmhhaaW.PrintWords Go.Proofs.YtohflbmmglmhhaaW.PrintLast Go.Proofs.YtohflbmmglmhhaaW.PrintMore Go.Proofs.Ytohflbmmglmhhaa.Aid
set_option linter.unusedVariables false
set_option linter.unusedSimpArgs false
theorem info_rw : (Try.prog.info? 41).map (fun i => (i.zero, i.size, i.bytes)) = some (some (.agg #[.int .i64 0, .string ⟨#[]⟩]), 2, 24) := by kernel_rfl
theorem info_rs : (Try.prog.info? 9).map (fun i => (i.zero, i.size, i.bytes)) = some (some (.string ⟨#[]⟩), 1, 16) := by kernel_rfl
theorem blk7 {w : World} {g : Nat} {t : TypeId} {a b c d e f h : Value} (k : Blk w g t #[a, b, c, d, e, f, h]) : w.cell? ⟨g, 0, none⟩ = some a ∧ w.cell? ⟨g, 1, none⟩ = some b ∧ w.cell? ⟨g, 2, none⟩ = some c ∧ w.cell? ⟨g, 3, none⟩ = some d ∧ w.cell? ⟨g, 4, none⟩ = some e ∧ w.cell? ⟨g, 5, none⟩ = some f ∧ w.cell? ⟨g, 6, none⟩ = some h :=
  ⟨(k.cell 0).trans rfl, (k.cell 1).trans rfl, (k.cell 2).trans rfl, (k.cell 3).trans rfl, (k.cell 4).trans rfl, (k.cell 5).trans rfl, (k.cell 6).trans rfl⟩
theorem wcells_one (l : List (Nat × ByteArray)) : ∀ u ∈ wcells l, u.oneCell' = true := by
  intro u hu
  unfold wcells at hu
  obtain ⟨p, _, hp⟩ := List.mem_flatMap.1 hu
  simp only [List.mem_cons, List.not_mem_nil, or_false] at hp
  rcases hp with rfl | rfl <;> rfl
theorem blk_new2 (w : World) (o : Obj) (t : TypeId) (cs : Array Value) : Blk ((w.alloc o).alloc (.cells cs t)) (w.heap.size + 1) t cs := by
  have := Blk.new (w.alloc o) t cs
  rwa [World.size_alloc] at this
theorem dcells_mk (ds : Nat) (dl : List ByteArray) (dc : List (Nat × ByteArray)) (left : Nat) (off full : Bool) (ops : Nat) (lv cv : Value) : dcells ⟨ds, dl, dc, left, off, full, ops⟩ lv cv = #[.int .i64 (ds : Int), lv, cv, .int .i64 (left : Int), .bool off, .bool full, .int .i64 (ops : Int)] := rfl
theorem put_last {w w4 : World} {B : Nat} {lv cv : Value} {d : D} {s1 l c a o f u : Value} (c8 : Blk w4 B 32 #[s1, l, c, a, o, f, u]) (c6 : Blk w4 (w.heap.size + 1) 32 zero7) (hq : w.heap.size + 1 < B) (hRD : RD w4 lv cv d) (hbw : Below w.heap.size w w4) :
    Blk (w4.setCell ⟨B, 2, none⟩ cv) B 32 #[s1, l, cv, a, o, f, u] ∧ Blk (w4.setCell ⟨B, 2, none⟩ cv) (w.heap.size + 1) 32 zero7 ∧
      Blk ((w4.setCell ⟨B, 2, none⟩ cv).setCells (w.heap.size + 1) 0 [s1, l, cv, a, o, f, u]) (w.heap.size + 1) 32 #[s1, l, cv, a, o, f, u] ∧
      RD ((w4.setCell ⟨B, 2, none⟩ cv).setCells (w.heap.size + 1) 0 [s1, l, cv, a, o, f, u]) lv cv d ∧ Below w.heap.size w ((w4.setCell ⟨B, 2, none⟩ cv).setCells (w.heap.size + 1) 0 [s1, l, cv, a, o, f, u]) := by
  have d8 : Blk (w4.setCell ⟨B, 2, none⟩ cv) B 32 #[s1, l, cv, a, o, f, u] := c8.set_ 2 cv
  have d6 := c6.far (p := ⟨B, 2, none⟩) (show w.heap.size + 1 ≠ B by omega) cv
  have hlB : ¬ own lv B := hRD.secs.type_ne c8 (by decide)
  have hl6 : ¬ own lv (w.heap.size + 1) := hRD.secs.type_ne c6 (by decide)
  have r5 : RD (w4.setCell ⟨B, 2, none⟩ cv) lv cv d := ⟨hRD.secs.far (p := ⟨B, 2, none⟩) hlB _, hRD.cach.far (p := ⟨B, 2, none⟩) (hRD.cach.type_ne c8 (by decide)) _⟩
  refine ⟨d8, d6, blk_whole d6 (cs := #[s1, l, cv, a, o, f, u]) rfl, ⟨r5.secs.keep fun k hk => setCells_heap_ne _ _ _ _ _ (fun e => hl6 (e ▸ hk)), r5.cach.keep fun k hk => setCells_heap_ne _ _ _ _ _ (fun e => r5.cach.type_ne d6 (by decide) (e ▸ hk))⟩, below_cells (hbw.setCell (p := ⟨B, 2, none⟩) (by show w.heap.size ≤ B; omega) _) (by omega)⟩
set_option maxHeartbeats 4000000 in
set_option maxRecDepth 100000 in
theorem rput_calls (w : World) (lv cv : Value) (d : D) (h : RD w lv cv d) (at_ : Int) (s : ByteArray) (hl : d.left ≤ 9223372036854775807) (ho : d.ops ≤ 1000000000) (hc : d.cache.length ≤ 1000000000) :
    Calls Try.prog 21 #[.agg (dcells d lv cv), .int .i64 at_, .string s] w fun e w' => ∃ cv', e = .returned (.tuple #[.agg (dcells (put d at_ s).1 lv cv'), .int .i64 (put d at_ s).2]) ∧ RD w' lv cv' (put d at_ s).1 ∧ Below w.heap.size w w' ∧ (∀ k, own cv' k → own cv k ∨ w.heap.size ≤ k) := by
  have hop := fun W => rop_calls W lv cv d
  obtain ⟨ds, dl, dc, left, off, full, ops⟩ := d
  simp only at hl ho hc
  obtain ⟨A, cap, rfl, _⟩ := h.secs.form
  obtain ⟨A1, cap1, rfl, _⟩ := h.cach.form
  have HRD := Lib.hid h
  have HOP := Lib.hid hop
  clear h hop
  rw [dcells_mk]
  go_enter Try.func21, Try.ntmps21
  by_cases hin : at_ < 0 ∨ (dl.length : Int) ≤ at_ ∨ s.size ≠ ds
  · have HP := Lib.hid (show put ⟨ds, dl, dc, left, off, full, ops⟩ at_ s = (⟨ds, dl, dc, left, off, full, ops⟩, 1) by unfold put; rw [if_pos hin])
    by_cases h1 : at_ < 0
    · go_wp2
      refine bodyPost_ret (results_ct rfl _ _ _ 32 _ (0, 0) _ rfl (blk_new2 w _ _ _) Try.underlying32 rfl info_d) rfl ⟨_, ?_, by rw [HP.out]; exact HRD.out.below (below2 _ _ _), below2 _ _ _, fun k hk => .inl hk⟩
      rw [HP.out]; rfl
    · by_cases h2 : (dl.length : Int) ≤ at_
      · go_wp2
        refine bodyPost_ret (results_ct rfl _ _ _ 32 _ (0, 0) _ rfl (blk_new2 w _ _ _) Try.underlying32 rfl info_d) rfl ⟨_, ?_, by rw [HP.out]; exact HRD.out.below (below2 _ _ _), below2 _ _ _, fun k hk => .inl hk⟩
        rw [HP.out]; rfl
      · have h3 : ((s.size : Int) != (ds : Int)) = true := bne_iff_ne.mpr (by omega)
        have h2' : ¬ (dl.length : Int) ≤ at_ := h2
        go_wp2
        refine bodyPost_ret (results_ct rfl _ _ _ 32 _ (0, 0) _ rfl (blk_new2 w _ _ _) Try.underlying32 rfl info_d) rfl ⟨_, ?_, by rw [HP.out]; exact HRD.out.below (below2 _ _ _), below2 _ _ _, fun k hk => .inl hk⟩
        rw [HP.out]; rfl
  · have g1 : ¬ at_ < 0 := fun e => hin (.inl e)
    have g2 : ¬ (dl.length : Int) ≤ at_ := fun e => hin (.inr (.inl e))
    have g3 : ((s.size : Int) != (ds : Int)) = false := by
      have : s.size = ds := Decidable.of_not_not fun e => hin (.inr (.inr e))
      rw [this]; simp
    cases off with
    | true =>
      have HP := Lib.hid (show put ⟨ds, dl, dc, left, true, full, ops⟩ at_ s = (⟨ds, dl, dc, left, true, full, ops⟩, 80) by unfold put; rw [if_neg hin]; rfl)
      clear hin
      go_wp2
      refine bodyPost_ret (results_ct rfl _ _ _ 32 _ (0, 0) _ rfl (blk_new2 w _ _ _) Try.underlying32 rfl info_d) rfl ⟨_, ?_, by rw [HP.out]; exact HRD.out.below (below2 _ _ _), below2 _ _ _, fun k hk => .inl hk⟩
      rw [HP.out]; rfl
    | false =>
      have hp : put ⟨ds, dl, dc, left, false, full, ops⟩ at_ s = if (oper ⟨ds, dl, dc, left, false, full, ops⟩).2 = false ∧ full then ((oper ⟨ds, dl, dc, left, false, full, ops⟩).1, 81) else ({ (oper ⟨ds, dl, dc, left, false, full, ops⟩).1 with cache := dc ++ [(at_.toNat, s)] }, if (oper ⟨ds, dl, dc, left, false, full, ops⟩).2 then 80 else 0) := by
        unfold put
        rw [if_neg hin, if_neg (by simp)]
      have HP := Lib.hid hp
      have hT4 := oper_there ⟨ds, dl, dc, left, false, full, ops⟩
      have hop := fun W hW => HOP.out W hW hl ho rfl
      clear hp HOP hin
      obtain ⟨⟨⟨s1, l1, q1, left1, off1, full1, ops1⟩, goes⟩, hd1⟩ : ∃ x, oper ⟨ds, dl, dc, left, false, full, ops⟩ = x := ⟨_, rfl⟩
      simp only [hd1] at HP hop hT4
      obtain ⟨rfl, rfl, rfl, rfl⟩ := hT4
      simp only [dcells_mk] at hop
      clear hd1
      go_wp2_with fail
      refine (hop _ (HRD.out.below (below2 _ _ _))).mono ?_
      rintro e w1 ⟨rfl, hb1⟩
      have hB3 := ((Blk.new w 32 #[.int .i64 (s1 : Int), .slice A l1.length cap, .slice A1 q1.length cap1, .int .i64 (left : Int), .bool false, .bool full1, .int .i64 (ops : Int)]).alloc (.cells zero7 32)).below hb1
      have hB6 := (blk_new2 w (.cells #[.int .i64 (s1 : Int), .slice A l1.length cap, .slice A1 q1.length cap1, .int .i64 (left : Int), .bool false, .bool full1, .int .i64 (ops : Int)] 32) 32 zero7).below hb1
      have hbw : Below w.heap.size w w1 := (below2 w _ _).trans (hb1.mono (by simp; omega))
      have hRD1 := HRD.out.below hbw
      clear hop hb1
      have W1 : ∃ W1, w1.alloc (.cells #[.int .i64 (s1 : Int), .slice A l1.length cap, .slice A1 q1.length cap1, .int .i64 (left1 : Int), .bool off1, .bool full1, .int .i64 (ops1 : Int)] 32) = W1 := ⟨_, rfl⟩
      obtain ⟨W1, hW1⟩ := W1
      have e3 := hB3.alloc (.cells #[.int .i64 (s1 : Int), .slice A l1.length cap, .slice A1 q1.length cap1, .int .i64 (left1 : Int), .bool off1, .bool full1, .int .i64 (ops1 : Int)] 32)
      have e6 := hB6.alloc (.cells #[.int .i64 (s1 : Int), .slice A l1.length cap, .slice A1 q1.length cap1, .int .i64 (left1 : Int), .bool off1, .bool full1, .int .i64 (ops1 : Int)] 32)
      have e8 := Blk.new w1 32 #[.int .i64 (s1 : Int), .slice A l1.length cap, .slice A1 q1.length cap1, .int .i64 (left1 : Int), .bool off1, .bool full1, .int .i64 (ops1 : Int)]
      have eRD := hRD1.alloc (.cells #[.int .i64 (s1 : Int), .slice A l1.length cap, .slice A1 q1.length cap1, .int .i64 (left1 : Int), .bool off1, .bool full1, .int .i64 (ops1 : Int)] 32)
      have ebw := hbw.alloc (by have := hbw.size; omega) (.cells #[.int .i64 (s1 : Int), .slice A l1.length cap, .slice A1 q1.length cap1, .int .i64 (left1 : Int), .bool off1, .bool full1, .int .i64 (ops1 : Int)] 32)
      have hq : w.heap.size + 1 < w1.heap.size := hB6.lt
      rw [hW1] at e3 e6 e8 eRD ebw
      obtain ⟨x0, x1, x2, x3, x4, x5, x6⟩ := blk7 e3
      clear x0 x1 x3 x4 x6
      by_cases hful : goes = false ∧ full1 = true
      · have HP2 := Lib.hid (HP.out.trans (if_pos hful))
        obtain ⟨rfl, rfl⟩ := hful
        clear HP
        have HT := Lib.hid (there_blk e6 (n := 7) (by show 7 ≤ 7; omega))
        have HB := Lib.hid (blk_whole e6 (cs := #[.int .i64 (s1 : Int), .slice A l1.length cap, .slice A1 q1.length cap1, .int .i64 (left1 : Int), .bool off1, .bool true, .int .i64 (ops1 : Int)]) rfl)
        have HBB := Lib.hid (below_cells (o := 0) (vs := (#[.int .i64 (s1 : Int), .slice A l1.length cap, .slice A1 q1.length cap1, .int .i64 (left1 : Int), .bool off1, .bool true, .int .i64 (ops1 : Int)] : Array Value).toList) ebw (show w.heap.size ≤ w.heap.size + 1 by omega))
        obtain ⟨y0, y1, y2, y3, y4, y5, y6⟩ := blk7 e6
        have f0 := e6.frozen 0
        have f1 := e6.frozen 1
        have f2 := e6.frozen 2
        have f3 := e6.frozen 3
        have f4 := e6.frozen 4
        have f5 := e6.frozen 5
        have f6 := e6.frozen 6
        rw [← hW1] at x2 x5 y0 y1 y2 y3 y4 y5 y6 f0 f1 f2 f3 f4 f5 f6 HT HB HBB
        clear e3 e6 e8 eRD ebw hRD1 hB3 hB6 hbw hq hW1 W1 x2
        go_wp2
        refine bodyPost_ret (results_ct rfl _ _ _ 32 _ (0, 0) _ rfl HB.out Try.underlying32 rfl info_d) rfl ⟨_, ?_, by rw [HP2.out]; exact (HRD.out.below HBB.out).same rfl rfl, HBB.out, fun k hk => .inl hk⟩
        rw [HP2.out]; rfl
      · have HP2 := Lib.hid (HP.out.trans (if_neg hful))
        clear HP
        have hg2 : (full1 && !goes) = false := by
          cases hf : full1
          · rfl
          · cases hgg : goes
            · exact absurd ⟨hgg, hf⟩ hful
            · rfl
        clear hful hB3 hB6 hbw hRD1
        obtain ⟨n, rfl⟩ : ∃ n : Nat, at_ = n := ⟨at_.toNat, by omega⟩
        rw [Int.toNat_natCast] at HP2
        have u2 : ((w1.alloc (.cells #[.int .i64 (s1 : Int), .slice A l1.length cap, .slice A1 q1.length cap1, .int .i64 (left1 : Int), .bool off1, .bool full1, .int .i64 (ops1 : Int)] 32)).alloc (.cells #[] 41)).cell? ⟨w.heap.size, 2, none⟩ = some (.slice A1 q1.length cap1) := by rw [hW1]; exact ((e3.alloc _).cell 2).trans rfl
        have v6 := e6.alloc (.cells #[] 41)
        have v8 := e8.alloc (.cells #[] 41)
        have vRD := eRD.alloc (.cells #[] 41)
        have vbw := ebw.alloc (by have := ebw.size; omega) (.cells #[] 41)
        have vS : Sl (W1.alloc (.cells #[] 41)) 41 2 (.slice (some ⟨w1.heap.size + 1, 0, none⟩) 0 0) 0 [] := by
          have h1 := Sl.of_blk (size := 2) (n := 0) (Blk.new W1 41 #[]) (Nat.le_refl 0) (by unfold maxLen; omega) (by simp)
          rw [← hW1, World.size_alloc] at h1
          rw [← hW1]
          exact h1
        have vq : (W1.alloc (.cells #[] 41)).heap.size = w1.heap.size + 2 := by rw [World.size_alloc, ← hW1, World.size_alloc]
        rw [← hW1] at x2 x5 v6 v8 vRD vbw vS vq
        obtain ⟨i0, hi, hz0, hz1, hz2⟩ := info_parts info_rw
        have HI := Lib.hid (And.intro hi (And.intro hz0 (And.intro hz1 hz2)))
        clear hi hz0 hz1 hz2 e3 e6 e8 eRD ebw hW1
        have HS := Lib.hid vS
        have HBW := Lib.hid vbw
        have HV := Lib.hid (And.intro v6 (And.intro v8 (And.intro vRD (And.intro vbw vq))))
        have HQ := Lib.hid hq
        have HQ2 := Lib.hid hq
        clear vS v6 v8 vRD vbw vq hq
        -- behind the first append
        have H3 : Hid (∀ (A' : Option Addr) (cap' : Nat) (w3 : World), Sl w3 41 2 (.slice A' q1.length cap') q1.length (wcells q1) → Only (own (.slice (some ⟨w1.heap.size + 1, 0, none⟩) 0 0)) ((w1.alloc (.cells #[.int .i64 (s1 : Int), .slice A l1.length cap, .slice A1 q1.length cap1, .int .i64 (left1 : Int), .bool off1, .bool full1, .int .i64 (ops1 : Int)] 32)).alloc (.cells #[] 41)) w3 →
            (∀ k, own (.slice A' q1.length cap') k → own (.slice (some ⟨w1.heap.size + 1, 0, none⟩) 0 0) k ∨ k = w1.heap.size + 1 + 1) →
            ∀ (A4 : Option Addr) (cap4 : Nat) (w4 : World), Sl w4 41 2 (.slice A4 (q1.length + 1) cap4) (q1.length + 1) (wcells q1 ++ [.int .i64 (n : Int), .string s]) → Only (own (.slice A' q1.length cap')) (w3.alloc (.cells #[.int .i64 (n : Int), .string s] 41)) w4 →
            (∀ k, own (.slice A4 (q1.length + 1) cap4) k → own (.slice A' q1.length cap') k ∨ k = w3.heap.size + 1) →
            (Blk w4 w1.heap.size 32 #[.int .i64 (s1 : Int), .slice A l1.length cap, .slice A1 q1.length cap1, .int .i64 (left1 : Int), .bool off1, .bool full1, .int .i64 (ops1 : Int)] ∧ Blk w4 (w.heap.size + 1) 32 zero7) ∧ RD w4 (.slice A l1.length cap) (.slice A4 (q1.length + 1) cap4) ⟨s1, l1, q1 ++ [(n, s)], left1, off1, full1, ops1⟩ ∧ Below w.heap.size w w4 ∧ (∀ k, own (.slice A4 (q1.length + 1) cap4) k → w.heap.size ≤ k)) := by
          refine Lib.hid fun A' cap' w3 hs3 ho3 hw3 A4 cap4 w4 hs4 ho4 hw4 => ?_
          obtain ⟨v6, v8, vRD, vbw, vq⟩ := HV.out
          have hq := HQ.out
          have vS := HS.out
          have b6 := ho3.blk v6 (vS.type_ne v6 (by decide))
          have b8 := ho3.blk v8 (vS.type_ne v8 (by decide))
          have hm3 : ∀ k, own (.slice A' q1.length cap') k → w1.heap.size + 1 ≤ k := fun k hk => by
            rcases hw3 k hk with e | e
            · have : w1.heap.size + 1 = k := by simpa [own, Value.ownBlock] using e
              omega
            · omega
          have bw3 : Below w.heap.size w w3 := Only.below_mine ho3 (fun k hk => by
            have : w1.heap.size + 1 = k := by simpa [own, Value.ownBlock] using hk
            omega) (by rw [vq]; omega) vbw
          have hw3s := bw3.size
          have s3 : Sl w3 41 2 (.slice A' q1.length cap') q1.length (wcells q1) := hs3
          have c6 := ho4.blk (b6.alloc _) (s3.type_ne b6 (by decide))
          have c8 := ho4.blk (b8.alloc _) (s3.type_ne b8 (by decide))
          have hw13 := ho3.size
          rw [vq] at hw13
          have bw4 : Below w.heap.size w w4 := Only.below_mine ho4 (fun k hk => by have := hm3 k hk; omega) (by rw [World.size_alloc]; omega) (bw3.alloc hw3s _)
          refine ⟨⟨c8, c6⟩, ⟨HRD.out.secs.below bw4, ?_⟩, bw4, fun k hk => ?_⟩
          · show Sl w4 _ 2 _ (q1 ++ [(n, s)]).length (wcells (q1 ++ [(n, s)]))
            rw [List.length_append, wcells_snoc]
            exact hs4
          · rcases hw4 k hk with e | e
            · have := hm3 k e; omega
            · omega
        clear HV HQ
        have one : ∀ u ∈ wcells q1, u.oneCell' = true := wcells_one q1
        have HSRC := Lib.hid (((HRD.out.cach.below (w' := (w1.alloc (.cells #[.int .i64 (s1 : Int), .slice A l1.length cap, .slice A1 q1.length cap1, .int .i64 (left1 : Int), .bool off1, .bool full1, .int .i64 (ops1 : Int)] 32)).alloc (.cells #[] 41)) (by
          have := HBW.out; exact this)).src (P := Try.prog) Try.underlying30) one)
        cases goes
        all_goals cases full1
        all_goals try (cases hg2; done)
        all_goals
          clear hg2 one
          go_wp2_with (at_builtin; go_loud (refine wpList_append_sl rfl _ _ 30 30 rfl 41 i0 _ 2 24 Try.underlying30 HI.out.1 HI.out.2.1 HI.out.2.2.1 HI.out.2.2.2 rfl _ _ _ rfl HS.out _ _ _ rfl HSRC.out ?c1 ?c2 ?_))
          case c1 => unfold maxLen; omega
          case c2 => omega
          intro A' cap' w3 hs3 ho3 hw3
          try simp only [Nat.zero_add, List.nil_append] at hs3
          try simp only [Nat.zero_add, List.nil_append] at hw3
          try simp only [Nat.zero_add, List.nil_append]
          have H4 := Lib.hid (H3.out A' cap' w3 hs3 ho3 hw3)
          have HS3 := Lib.hid hs3
          have HB4 := Lib.hid (Blk.new w3 41 #[.int .i64 (n : Int), .string s])
          clear H3 hs3 ho3 hw3 HS HSRC x2 x5 u2
          go_wp2_with (at_builtin; go_loud (refine wpList_append_sl rfl _ _ 30 30 rfl 41 i0 _ 2 24 Try.underlying30 HI.out.1 HI.out.2.1 HI.out.2.2.1 HI.out.2.2.2 rfl _ _ _ rfl (HS3.out.alloc _) _ 1 [.int .i64 (n : Int), .string s] rfl (src_blk HB4.out Try.underlying30 1 1 rfl (by simp [Value.oneCell'])) ?d1 ?d2 ?_))
          case d1 => unfold maxLen; omega
          case d2 => omega
          intro A4 cap4 w4 hs4 ho4 hw4
          have h5 := H4.out A4 cap4 w4 hs4 ho4 (fun k hk => by simpa using hw4 k hk)
          clear H4 HS3 HB4 hs4 ho4 hw4
          obtain ⟨⟨c8, c6⟩, hRD4, hbw4, hown⟩ := h5
          have f8 := c8.frozen 2
          have g8 : w4.cell? ⟨w1.heap.size, 2, none⟩ = some (.slice A1 q1.length cap1) := (c8.cell 2).trans rfl
          obtain ⟨d8, d6, hB, hR, hBl⟩ := put_last c8 c6 HQ2.out hRD4 hbw4
          obtain ⟨z0, z1, z2, z3, z4, z5, z6⟩ := blk7 d8
          obtain ⟨y0, y1, y2, y3, y4, y5, y6⟩ := blk7 d6
          have f0 := d6.frozen 0
          have f1 := d6.frozen 1
          have f2 := d6.frozen 2
          have f3 := d6.frozen 3
          have f4 := d6.frozen 4
          have f5 := d6.frozen 5
          have f6 := d6.frozen 6
          have HB := Lib.hid hB
          have HR := Lib.hid hR
          have HBL := Lib.hid hBl
          have HO := Lib.hid hown
          clear c8 c6 hRD4 hbw4 hown d8 d6 hB hR hBl
          go_wp2
          refine bodyPost_ret (results_ct rfl _ _ _ 32 _ (0, 0) _ rfl HB.out Try.underlying32 rfl info_d) rfl ⟨_, ?_, by rw [HP2.out]; exact HR.out, HBL.out, fun k hk => .inr (HO.out k hk)⟩
          rw [HP2.out]; rfl
end Go.Proofs.Ytohflbmmglmhhaa.Dk
