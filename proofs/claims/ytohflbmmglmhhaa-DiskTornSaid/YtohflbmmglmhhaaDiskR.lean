/- disk: the reference's disk; its functions, walked. -/
import Derived.Test.YtohflbmmglmhhaaDiskN
import Derived.Test.YtohflbmmglmhhaaDiskRq
import Derived.Test.YtohflbmmglmhhaaX12
import Derived.Test.YtohflbmmglmhhaaMemS
namespace Go.Proofs.Ytohflbmmglmhhaa.Dk
open Go.RowKit Go.Proofs.Ytohflbmmglmhhaa.Mem Go.Proofs.Ytohflbmmglmhhaa.X Go.Proofs.YtohflbmmglmhhaaW.PrintWords Go.Proofs.YtohflbmmglmhhaaW.PrintLast Go.Proofs.YtohflbmmglmhhaaW.PrintMore Go.Proofs.Ytohflbmmglmhhaa.Aid
set_option linter.unusedVariables false
set_option linter.unusedSimpArgs false
/-- the reference's disk: a value, whose slices are never written again -/
structure RD (w : World) (lv cv : Value) (d : D) : Prop where
  secs : Sl w 9 1 lv d.l.length (d.l.map Value.string)
  cach : Sl w 41 2 cv d.cache.length (wcells d.cache)
theorem RD.only {w w' : World} {H : Nat → Prop} {lv cv : Value} {d : D} (h : RD w lv cv d) (ho : Only H w w') (hn : ∀ k, H k → ¬ own lv k ∧ ¬ own cv k) : RD w' lv cv d :=
  ⟨h.secs.only ho fun k hk e => (hn k e).1 hk, h.cach.only ho fun k hk e => (hn k e).2 hk⟩
theorem RD.below {w w' : World} {lv cv : Value} {d : D} (h : RD w lv cv d) (hb : Below w.heap.size w w') : RD w' lv cv d := ⟨h.secs.below hb, h.cach.below hb⟩
theorem RD.alloc {w : World} {lv cv : Value} {d : D} (h : RD w lv cv d) (o : Obj) : RD (w.alloc o) lv cv d := ⟨h.secs.alloc o, h.cach.alloc o⟩
theorem RD.drew {w : World} {lv cv : Value} {d : D} (h : RD w lv cv d) : RD w.drew lv cv d := ⟨h.secs, h.cach⟩
theorem RD.same {w : World} {lv cv : Value} {d d' : D} (h : RD w lv cv d) (e1 : d'.l = d.l) (e2 : d'.cache = d.cache) : RD w lv cv d' := ⟨by rw [e1]; exact h.secs, by rw [e2]; exact h.cach⟩
theorem RD.lt {w : World} {lv cv : Value} {d : D} (h : RD w lv cv d) (k : Nat) : (own lv k ∨ own cv k) → k < w.heap.size := by
  rintro (e | e)
  · exact h.secs.lt e
  · exact h.cach.lt e
def zero7 : Array Value := #[.int .i64 0, .slice none 0 0, .slice none 0 0, .int .i64 0, .bool false, .bool false, .int .i64 0]
theorem info_d : (Try.prog.info? 32).map (·.size) = some 7 := by kernel_rfl
theorem below2 (w : World) (o1 o2 : Obj) : Below w.heap.size w ((w.alloc o1).alloc o2) := ((Below.refl _ w).alloc (Nat.le_refl _) _).alloc (by simp) _
set_option maxHeartbeats 4000000 in
set_option maxRecDepth 100000 in
theorem rop_calls (w : World) (lv cv : Value) (d : D) (h : RD w lv cv d) (hl : d.left ≤ 9223372036854775807) (ho : d.ops ≤ 1000000000) (hoff : d.off = false) :
    Calls Try.prog 38 #[.agg (dcells d lv cv)] w fun e w' => e = .returned (.tuple #[.agg (dcells (oper d).1 lv cv), .bool (oper d).2]) ∧ Below w.heap.size w w' := by
  obtain ⟨ds, dl, dc, left, off, full, ops⟩ := d
  simp only at hl ho hoff
  subst hoff
  obtain ⟨A, cap, rfl, _⟩ := h.secs.form
  obtain ⟨A1, cap1, rfl, _⟩ := h.cach.form
  clear h
  unfold dcells
  simp only
  go_enter Try.func38, Try.ntmps38
  cases left with
  | zero =>
    have hop : oper ⟨ds, dl, dc, 0, false, full, ops⟩ = (⟨ds, dl, dc, 0, false, full, ops + 1⟩, false) := rfl
    rw [hop]
    have hblk := Blk.new (w.alloc (.cells (dcells ⟨ds, dl, dc, 0, false, full, ops + 1⟩ (.slice A dl.length cap) (.slice A1 dc.length cap1)) 32)) 32 (dcells ⟨ds, dl, dc, 0, false, full, ops + 1⟩ (.slice A dl.length cap) (.slice A1 dc.length cap1))
    rw [World.size_alloc] at hblk
    have hb := below2 w (.cells (dcells ⟨ds, dl, dc, 0, false, full, ops + 1⟩ (.slice A dl.length cap) (.slice A1 dc.length cap1)) 32) (.cells (dcells ⟨ds, dl, dc, 0, false, full, ops + 1⟩ (.slice A dl.length cap) (.slice A1 dc.length cap1)) 32)
    have HB := Lib.hid hblk
    have HBB := Lib.hid hb
    clear hblk hb
    go_wp2
    refine bodyPost_ret (results_ct rfl _ _ _ 32 _ (0, 0) _ rfl HB.out Try.underlying32 rfl info_d) rfl ⟨rfl, HBB.out⟩
  | succ m =>
    have hop : oper ⟨ds, dl, dc, m + 1, false, full, ops⟩ = (⟨ds, dl, dc, m, decide (m = 0), full, ops + 1⟩, decide (m = 0)) := rfl
    rw [hop]
    cases m with
    | zero =>
      have hb1 := (Blk.new w 32 #[.int .i64 (ds : Int), .slice A dl.length cap, .slice A1 dc.length cap1, .int .i64 (0), .bool true, .bool full, .int .i64 ((ops : Int) + 1)]).alloc (.cells zero7 32)
      have hb2 := Blk.new (w.alloc (.cells #[.int .i64 (ds : Int), .slice A dl.length cap, .slice A1 dc.length cap1, .int .i64 (0), .bool true, .bool full, .int .i64 ((ops : Int) + 1)] 32)) 32 zero7
      rw [World.size_alloc] at hb2
      have hbl := below2 w (.cells #[.int .i64 (ds : Int), .slice A dl.length cap, .slice A1 dc.length cap1, .int .i64 (0), .bool true, .bool full, .int .i64 ((ops : Int) + 1)] 32) (.cells zero7 32)
      obtain ⟨W, hW⟩ : ∃ W, (w.alloc (.cells #[.int .i64 (ds : Int), .slice A dl.length cap, .slice A1 dc.length cap1, .int .i64 (0), .bool true, .bool full, .int .i64 ((ops : Int) + 1)] 32)).alloc (.cells zero7 32) = W := ⟨_, rfl⟩
      rw [hW] at hb1 hb2 hbl
      go_wp2
      change Code.wp _ _ _ _ ((w.alloc (.cells #[.int .i64 (ds : Int), .slice A dl.length cap, .slice A1 dc.length cap1, .int .i64 (0), .bool true, .bool full, .int .i64 ((ops : Int) + 1)] 32)).alloc (.cells zero7 32))
      rw [hW]
      clear hW hop
      obtain ⟨W2, hW2⟩ : ∃ W2, W.drew = W2 := ⟨_, rfl⟩
      have hb1' : Blk W2 w.heap.size 32 #[.int .i64 (ds : Int), .slice A dl.length cap, .slice A1 dc.length cap1, .int .i64 (0), .bool true, .bool full, .int .i64 ((ops : Int) + 1)] := hW2 ▸ hb1.drew
      have hb2' : Blk W2 (w.heap.size + 1) 32 zero7 := hW2 ▸ hb2.drew
      have hbl' : Below w.heap.size w W2 := hW2 ▸ hbl.drew
      clear hb1 hb2 hbl
      refine start_ (n := 5) (S := fun w' => Blk w' w.heap.size 32 #[.int .i64 (ds : Int), .slice A dl.length cap, .slice A1 dc.length cap1, .int .i64 (0), .bool true, .bool full, .int .i64 ((ops : Int) + 1)]) (ds := []) #[false, false, false, false, false] (by kernel_rfl) rfl rfl (by rw [hW2]; exact hb1') (fun hHeld => ?_)
      rw [hW2] at hHeld ⊢
      refine pure_ (i := 1) (N := some 21) (v := ?_) (a' := ?_) #[false, true, false, false, false] rfl rfl (by kernel_rfl) (fun _ _ _ h => h) (Or.inl ⟨by rfl, ?_⟩) ?_ ?_
      rotate_left
      · intro w'
        go_simp
        with_reducible rfl
      rotate_left
      · simp only [Act.put, List.setIfInBounds_toArray, List.set_cons_zero, List.set_cons_succ]
        rfl
      refine take_ (i := 0) (N := some 20) (v := ?_) (a' := ?_) #[true, true, false, false, false] rfl rfl (by kernel_rfl) (fun _ _ _ h => h) (Or.inl ⟨by rfl, ?_⟩) hHeld ?_ ?_
      rotate_left
      · intro w' hS
        have s0 : w'.cell? ⟨w.heap.size, 0, none⟩ = some (.int .i64 (ds : Int)) := (hS.cell 0).trans rfl
        have s1 : w'.cell? ⟨w.heap.size, 1, none⟩ = some (.slice A dl.length cap) := (hS.cell 1).trans rfl
        have s2 : w'.cell? ⟨w.heap.size, 2, none⟩ = some (.slice A1 dc.length cap1) := (hS.cell 2).trans rfl
        have s3 : w'.cell? ⟨w.heap.size, 3, none⟩ = some (.int .i64 (0)) := (hS.cell 3).trans rfl
        have s4 : w'.cell? ⟨w.heap.size, 4, none⟩ = some (.bool true) := (hS.cell 4).trans rfl
        have s5 : w'.cell? ⟨w.heap.size, 5, none⟩ = some (.bool full) := (hS.cell 5).trans rfl
        have s6 : w'.cell? ⟨w.heap.size, 6, none⟩ = some (.int .i64 ((ops : Int) + 1)) := (hS.cell 6).trans rfl
        go_simp
        with_reducible rfl
      rotate_left
      · simp only [Act.put, List.setIfInBounds_toArray, List.set_cons_zero, List.set_cons_succ]
        rfl
      refine take_ (i := 2) (N := some 22) (v := ?_) (a' := ?_) #[true, true, true, false, false] rfl rfl (by kernel_rfl) (fun _ _ _ h => h) (Or.inl ⟨by rfl, ?_⟩) hHeld ?_ ?_
      rotate_left
      · intro w' hS
        have s4 : w'.cell? ⟨w.heap.size, 4, none⟩ = some (.bool true) := (hS.cell 4).trans rfl
        go_simp
        with_reducible rfl
      rotate_left
      · simp only [Act.put, List.setIfInBounds_toArray, List.set_cons_zero, List.set_cons_succ]
        rfl
      refine one_ (i := 3) (N := none) #[true, true, true, true, false] rfl rfl (by kernel_rfl) (by decide) (fun K hK => ?_)
      rw [if_pos (by rfl)]
      refine wp_store_mid 32 (.tmp 2) (.tmp 20) rfl (w.heap.size + 1) 0 #[.int .i64 (ds : Int), .slice A dl.length cap, .slice A1 dc.length cap1, .int .i64 (0), .bool true, .bool full, .int .i64 ((ops : Int) + 1)] rfl rfl (there_blk hb2' (n := 7) (by show 7 ≤ 7; omega)) info_d (by simp [Value.oneCell']) ?_
      have hb2'' := blk_whole hb2' (cs := #[.int .i64 (ds : Int), .slice A dl.length cap, .slice A1 dc.length cap1, .int .i64 (0), .bool true, .bool full, .int .i64 ((ops : Int) + 1)]) rfl
      have hbl'' := below_cells (o := 0) (vs := (#[.int .i64 (ds : Int), .slice A dl.length cap, .slice A1 dc.length cap1, .int .i64 (0), .bool true, .bool full, .int .i64 ((ops : Int) + 1)] : Array Value).toList) hbl' (show w.heap.size ≤ w.heap.size + 1 by omega)
      refine hK.out _ _ (blk_whole_far hb1' (by omega) _ _) (fun _ => ?_)
      clear hK K
      refine pure_ (i := 4) (N := some 3) (v := ?_) (a' := ?_) #[true, true, true, true, true] rfl rfl (by kernel_rfl) (fun _ _ _ h => h) (Or.inl ⟨by rfl, ?_⟩) ?_ ?_
      rotate_left
      · intro w'
        go_simp
        with_reducible rfl
      rotate_left
      · simp only [Act.put, List.setIfInBounds_toArray, List.set_cons_zero, List.set_cons_succ]
        rfl
      refine done_ (by kernel_rfl) ?_
      try go_wp2
      refine bodyPost_ret (results_ct rfl _ _ _ 32 _ (0, 0) _ rfl hb2'' Try.underlying32 rfl info_d) rfl ⟨by rfl, hbl''⟩
    | succ m =>
      have hne : (((m + 1 : Nat) : Int) == 0) = false := beq_eq_false_iff_ne.mpr (by omega)
      have hb1 := (Blk.new w 32 #[.int .i64 (ds : Int), .slice A dl.length cap, .slice A1 dc.length cap1, .int .i64 (((m + 1 : Nat) : Int)), .bool false, .bool full, .int .i64 ((ops : Int) + 1)]).alloc (.cells zero7 32)
      have hb2 := Blk.new (w.alloc (.cells #[.int .i64 (ds : Int), .slice A dl.length cap, .slice A1 dc.length cap1, .int .i64 (((m + 1 : Nat) : Int)), .bool false, .bool full, .int .i64 ((ops : Int) + 1)] 32)) 32 zero7
      rw [World.size_alloc] at hb2
      have hbl := below2 w (.cells #[.int .i64 (ds : Int), .slice A dl.length cap, .slice A1 dc.length cap1, .int .i64 (((m + 1 : Nat) : Int)), .bool false, .bool full, .int .i64 ((ops : Int) + 1)] 32) (.cells zero7 32)
      obtain ⟨W, hW⟩ : ∃ W, (w.alloc (.cells #[.int .i64 (ds : Int), .slice A dl.length cap, .slice A1 dc.length cap1, .int .i64 (((m + 1 : Nat) : Int)), .bool false, .bool full, .int .i64 ((ops : Int) + 1)] 32)).alloc (.cells zero7 32) = W := ⟨_, rfl⟩
      rw [hW] at hb1 hb2 hbl
      go_wp2
      change Code.wp _ _ _ _ ((w.alloc (.cells #[.int .i64 (ds : Int), .slice A dl.length cap, .slice A1 dc.length cap1, .int .i64 (((m + 1 : Nat) : Int)), .bool false, .bool full, .int .i64 ((ops : Int) + 1)] 32)).alloc (.cells zero7 32))
      rw [hW]
      clear hW hop
      obtain ⟨W2, hW2⟩ : ∃ W2, W.drew = W2 := ⟨_, rfl⟩
      have hb1' : Blk W2 w.heap.size 32 #[.int .i64 (ds : Int), .slice A dl.length cap, .slice A1 dc.length cap1, .int .i64 (((m + 1 : Nat) : Int)), .bool false, .bool full, .int .i64 ((ops : Int) + 1)] := hW2 ▸ hb1.drew
      have hb2' : Blk W2 (w.heap.size + 1) 32 zero7 := hW2 ▸ hb2.drew
      have hbl' : Below w.heap.size w W2 := hW2 ▸ hbl.drew
      clear hb1 hb2 hbl
      refine start_ (n := 5) (S := fun w' => Blk w' w.heap.size 32 #[.int .i64 (ds : Int), .slice A dl.length cap, .slice A1 dc.length cap1, .int .i64 (((m + 1 : Nat) : Int)), .bool false, .bool full, .int .i64 ((ops : Int) + 1)]) (ds := []) #[false, false, false, false, false] (by kernel_rfl) rfl rfl (by rw [hW2]; exact hb1') (fun hHeld => ?_)
      rw [hW2] at hHeld ⊢
      refine pure_ (i := 1) (N := some 21) (v := ?_) (a' := ?_) #[false, true, false, false, false] rfl rfl (by kernel_rfl) (fun _ _ _ h => h) (Or.inl ⟨by rfl, ?_⟩) ?_ ?_
      rotate_left
      · intro w'
        go_simp
        with_reducible rfl
      rotate_left
      · simp only [Act.put, List.setIfInBounds_toArray, List.set_cons_zero, List.set_cons_succ]
        rfl
      refine take_ (i := 0) (N := some 20) (v := ?_) (a' := ?_) #[true, true, false, false, false] rfl rfl (by kernel_rfl) (fun _ _ _ h => h) (Or.inl ⟨by rfl, ?_⟩) hHeld ?_ ?_
      rotate_left
      · intro w' hS
        have s0 : w'.cell? ⟨w.heap.size, 0, none⟩ = some (.int .i64 (ds : Int)) := (hS.cell 0).trans rfl
        have s1 : w'.cell? ⟨w.heap.size, 1, none⟩ = some (.slice A dl.length cap) := (hS.cell 1).trans rfl
        have s2 : w'.cell? ⟨w.heap.size, 2, none⟩ = some (.slice A1 dc.length cap1) := (hS.cell 2).trans rfl
        have s3 : w'.cell? ⟨w.heap.size, 3, none⟩ = some (.int .i64 (((m + 1 : Nat) : Int))) := (hS.cell 3).trans rfl
        have s4 : w'.cell? ⟨w.heap.size, 4, none⟩ = some (.bool false) := (hS.cell 4).trans rfl
        have s5 : w'.cell? ⟨w.heap.size, 5, none⟩ = some (.bool full) := (hS.cell 5).trans rfl
        have s6 : w'.cell? ⟨w.heap.size, 6, none⟩ = some (.int .i64 ((ops : Int) + 1)) := (hS.cell 6).trans rfl
        go_simp
        with_reducible rfl
      rotate_left
      · simp only [Act.put, List.setIfInBounds_toArray, List.set_cons_zero, List.set_cons_succ]
        rfl
      refine take_ (i := 2) (N := some 22) (v := ?_) (a' := ?_) #[true, true, true, false, false] rfl rfl (by kernel_rfl) (fun _ _ _ h => h) (Or.inl ⟨by rfl, ?_⟩) hHeld ?_ ?_
      rotate_left
      · intro w' hS
        have s4 : w'.cell? ⟨w.heap.size, 4, none⟩ = some (.bool false) := (hS.cell 4).trans rfl
        go_simp
        with_reducible rfl
      rotate_left
      · simp only [Act.put, List.setIfInBounds_toArray, List.set_cons_zero, List.set_cons_succ]
        rfl
      refine one_ (i := 3) (N := none) #[true, true, true, true, false] rfl rfl (by kernel_rfl) (by decide) (fun K hK => ?_)
      rw [if_pos (by rfl)]
      refine wp_store_mid 32 (.tmp 2) (.tmp 20) rfl (w.heap.size + 1) 0 #[.int .i64 (ds : Int), .slice A dl.length cap, .slice A1 dc.length cap1, .int .i64 (((m + 1 : Nat) : Int)), .bool false, .bool full, .int .i64 ((ops : Int) + 1)] rfl rfl (there_blk hb2' (n := 7) (by show 7 ≤ 7; omega)) info_d (by simp [Value.oneCell']) ?_
      have hb2'' := blk_whole hb2' (cs := #[.int .i64 (ds : Int), .slice A dl.length cap, .slice A1 dc.length cap1, .int .i64 (((m + 1 : Nat) : Int)), .bool false, .bool full, .int .i64 ((ops : Int) + 1)]) rfl
      have hbl'' := below_cells (o := 0) (vs := (#[.int .i64 (ds : Int), .slice A dl.length cap, .slice A1 dc.length cap1, .int .i64 (((m + 1 : Nat) : Int)), .bool false, .bool full, .int .i64 ((ops : Int) + 1)] : Array Value).toList) hbl' (show w.heap.size ≤ w.heap.size + 1 by omega)
      refine hK.out _ _ (blk_whole_far hb1' (by omega) _ _) (fun _ => ?_)
      clear hK K
      refine pure_ (i := 4) (N := some 3) (v := ?_) (a' := ?_) #[true, true, true, true, true] rfl rfl (by kernel_rfl) (fun _ _ _ h => h) (Or.inl ⟨by rfl, ?_⟩) ?_ ?_
      rotate_left
      · intro w'
        go_simp
        with_reducible rfl
      rotate_left
      · simp only [Act.put, List.setIfInBounds_toArray, List.set_cons_zero, List.set_cons_succ]
        rfl
      refine done_ (by kernel_rfl) ?_
      try go_wp2
      refine bodyPost_ret (results_ct rfl _ _ _ 32 _ (0, 0) _ rfl hb2'' Try.underlying32 rfl info_d) rfl ⟨by simp, hbl''⟩
end Go.Proofs.Ytohflbmmglmhhaa.Dk
