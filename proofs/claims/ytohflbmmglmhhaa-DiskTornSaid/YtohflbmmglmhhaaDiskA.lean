/- disk: a disk in memory; its small methods, walked. -/
import Derived.Test.YtohflbmmglmhhaaDiskP
import Derived.Test.YtohflbmmglmhhaaMem
import Derived.Test.YtohflbmmglmhhaaMemP
import Derived.Test.YtohflbmmglmhhaaX0
import Derived.StillTailTactics
import Derived.Lib.Hide
namespace Go.Proofs.Ytohflbmmglmhhaa.Dk
open Go.RowKit Go.Proofs.Ytohflbmmglmhhaa.Mem Go.Proofs.YtohflbmmglmhhaaW.PrintWords Go.Proofs.YtohflbmmglmhhaaW.PrintLast Go.Proofs.YtohflbmmglmhhaaW.PrintMore Go.Proofs.Ytohflbmmglmhhaa.Aid
set_option linter.unusedVariables false
set_option linter.unusedSimpArgs false
def dcells (d : D) (lv cv : Value) : Array Value := #[.int .i64 (d.size : Int), lv, cv, .int .i64 (d.left : Int), .bool d.off, .bool d.full, .int .i64 (d.ops : Int)]
def wcells (l : List (Nat × ByteArray)) : List Value := l.flatMap fun p => [.int .i64 (p.1 : Int), .string p.2]
/-- a disk in memory: lv its sectors, cv its cache -/
structure Op (w : World) (p : Nat) (F : Nat → Prop) (lv cv : Value) (d : D) : Prop where
  blk : Blk w p 56 (dcells d lv cv)
  fp : F p
  flt : ∀ k, F k → k < w.heap.size
  secs : Sl w 9 1 lv d.l.length (d.l.map Value.string)
  fl : ∀ k, own lv k → F k
  cach : Sl w 69 2 cv d.cache.length (wcells d.cache)
  fc : ∀ k, own cv k → F k
def PD (w : World) (p : Nat) (F : Nat → Prop) (d : D) : Prop := ∃ lv cv, Op w p F lv cv d
section
variable {w w' : World} {p : Nat} {F F' G : Nat → Prop} {lv cv : Value} {d : D}
theorem Op.mono (h : Op w p F lv cv d) (h1 : ∀ k, F k → F' k) (h2 : ∀ k, F' k → k < w.heap.size) : Op w p F' lv cv d :=
  ⟨h.blk, h1 _ h.fp, h2, h.secs, fun k hk => h1 k (h.fl k hk), h.cach, fun k hk => h1 k (h.fc k hk)⟩
theorem Op.only (h : Op w p F lv cv d) (ho : Only G w w') (hn : ∀ k, F k → ¬ G k) : Op w' p F lv cv d :=
  ⟨ho.blk h.blk (hn p h.fp), h.fp, fun k hk => Nat.lt_of_lt_of_le (h.flt k hk) ho.size, h.secs.only ho fun k hk => hn k (h.fl k hk), h.fl, h.cach.only ho fun k hk => hn k (h.fc k hk), h.fc⟩
theorem PD.mono (h : PD w p F d) (h1 : ∀ k, F k → F' k) (h2 : ∀ k, F' k → k < w.heap.size) : PD w p F' d := by
  obtain ⟨lv, cv, h⟩ := h
  exact ⟨lv, cv, h.mono h1 h2⟩
theorem PD.only (h : PD w p F d) (ho : Only G w w') (hn : ∀ k, F k → ¬ G k) : PD w' p F d := by
  obtain ⟨lv, cv, h⟩ := h
  exact ⟨lv, cv, h.only ho hn⟩
theorem PD.below (h : PD w p F d) (hb : Below w.heap.size w w') : PD w' p F d := h.only (Only.of_below hb none_) fun _ _ h => h
theorem PD.lt (h : PD w p F d) : ∀ k, F k → k < w.heap.size := by
  obtain ⟨lv, cv, h⟩ := h
  exact h.flt
theorem PD.fp (h : PD w p F d) : F p := by
  obtain ⟨lv, cv, h⟩ := h
  exact h.fp
/-- what the walk reads of a disk -/
theorem Op.cells (h : Op w p F lv cv d) : w.cell? ⟨p, 0, none⟩ = some (.int .i64 (d.size : Int)) ∧ w.cell? ⟨p, 1, none⟩ = some lv ∧ w.cell? ⟨p, 2, none⟩ = some cv ∧ w.cell? ⟨p, 3, none⟩ = some (.int .i64 (d.left : Int)) ∧
    w.cell? ⟨p, 4, none⟩ = some (.bool d.off) ∧ w.cell? ⟨p, 5, none⟩ = some (.bool d.full) ∧ w.cell? ⟨p, 6, none⟩ = some (.int .i64 (d.ops : Int)) :=
  ⟨(h.blk.cell 0).trans rfl, (h.blk.cell 1).trans rfl, (h.blk.cell 2).trans rfl, (h.blk.cell 3).trans rfl, (h.blk.cell 4).trans rfl, (h.blk.cell 5).trans rfl, (h.blk.cell 6).trans rfl⟩
theorem Op.frozen (h : Op w p F lv cv d) (i : Nat) : w.frozen? ⟨p, i, none⟩ = false := h.blk.frozen i
theorem Op.nl (h : Op w p F lv cv d) : ¬ own lv p := h.secs.type_ne h.blk (by decide)
theorem Op.nc (h : Op w p F lv cv d) : ¬ own cv p := h.cach.type_ne h.blk (by decide)
/-- a field of the disk is written, none of its slices -/
theorem Op.put (h : Op w p F lv cv d) (i : Nat) (u : Value) (d' : D) (hd : (dcells d lv cv).setIfInBounds i u = dcells d' lv cv) (h1 : d'.l = d.l) (h2 : d'.cache = d.cache) :
    Op (w.setCell ⟨p, i, none⟩ u) p F lv cv d' ∧ Only F w (w.setCell ⟨p, i, none⟩ u) := by
  refine ⟨⟨hd ▸ h.blk.set_ i u, h.fp, by simpa [World.setCell] using h.flt, ?_, h.fl, ?_, h.fc⟩, (Only.refl F w).setCell (p := ⟨p, i, none⟩) (.inl h.fp) _⟩
  · rw [h1]; exact h.secs.far (p := ⟨p, i, none⟩) h.nl _
  · rw [h2]; exact h.cach.far (p := ⟨p, i, none⟩) h.nc _
end
/-- what a method leaves -/
def Post (w : World) (p : Nat) (F : Nat → Prop) (d : D) (w' : World) : Prop := PD w' p (ext F w w') d ∧ Only F w w'
theorem Post.same {w : World} {p : Nat} {F : Nat → Prop} {d : D} (h : PD w p F d) : Post w p F d w := ⟨h.mono (fun k hk => .inl hk) (ext_lt h.lt (Nat.le_refl _)), Only.refl _ _⟩
set_option maxHeartbeats 1000000 in
set_option maxRecDepth 100000 in
theorem off_calls (w : World) (p : Nat) (F : Nat → Prop) (d : D) (h : PD w p F d) : Calls Try.prog 13 #[.pointer (some ⟨p, 0, none⟩)] w fun e w' => e = .returned (.bool d.off) ∧ w' = w := by
  obtain ⟨lv, cv, h⟩ := h
  obtain ⟨c0, c1, c2, c3, c4, c5, c6⟩ := h.cells
  go_enter Try.func13, Try.ntmps13
  go_wp2
  go_ret
  exact ⟨rfl, rfl⟩
set_option maxHeartbeats 1000000 in
set_option maxRecDepth 100000 in
theorem size_calls (w : World) (p : Nat) (F : Nat → Prop) (d : D) (h : PD w p F d) : Calls Try.prog 30 #[.pointer (some ⟨p, 0, none⟩)] w fun e w' => e = .returned (.int .i64 (d.size : Int)) ∧ w' = w := by
  obtain ⟨lv, cv, h⟩ := h
  obtain ⟨c0, c1, c2, c3, c4, c5, c6⟩ := h.cells
  go_enter Try.func30, Try.ntmps30
  go_wp2
  go_ret
  exact ⟨rfl, rfl⟩
set_option maxHeartbeats 1000000 in
set_option maxRecDepth 100000 in
theorem ops_calls (w : World) (p : Nat) (F : Nat → Prop) (d : D) (h : PD w p F d) : Calls Try.prog 28 #[.pointer (some ⟨p, 0, none⟩)] w fun e w' => e = .returned (.int .i64 (d.ops : Int)) ∧ w' = w := by
  obtain ⟨lv, cv, h⟩ := h
  obtain ⟨c0, c1, c2, c3, c4, c5, c6⟩ := h.cells
  go_enter Try.func28, Try.ntmps28
  go_wp2
  go_ret
  exact ⟨rfl, rfl⟩
set_option maxHeartbeats 1000000 in
set_option maxRecDepth 100000 in
theorem sectors_calls (w : World) (p : Nat) (F : Nat → Prop) (d : D) (h : PD w p F d) : Calls Try.prog 29 #[.pointer (some ⟨p, 0, none⟩)] w fun e w' => e = .returned (.int .i64 (d.l.length : Int)) ∧ w' = w := by
  obtain ⟨lv, cv, h⟩ := h
  obtain ⟨A, cap, rfl, _⟩ := h.secs.form
  obtain ⟨c0, c1, c2, c3, c4, c5, c6⟩ := h.cells
  go_enter Try.func29, Try.ntmps29
  go_wp2
  go_ret
  exact ⟨rfl, rfl⟩
set_option maxHeartbeats 1000000 in
set_option maxRecDepth 100000 in
theorem cached_calls (w : World) (p : Nat) (F : Nat → Prop) (d : D) (h : PD w p F d) : Calls Try.prog 15 #[.pointer (some ⟨p, 0, none⟩)] w fun e w' => e = .returned (.int .i64 (d.cache.length : Int)) ∧ w' = w := by
  obtain ⟨lv, cv, h⟩ := h
  obtain ⟨A, cap, rfl, _⟩ := h.cach.form
  obtain ⟨c0, c1, c2, c3, c4, c5, c6⟩ := h.cells
  go_enter Try.func15, Try.ntmps15
  go_wp2
  go_ret
  exact ⟨rfl, rfl⟩
set_option maxHeartbeats 1000000 in
set_option maxRecDepth 100000 in
theorem there_calls (w : World) (p : Nat) (F : Nat → Prop) (d : D) (h : PD w p F d) (at_ : Int) : Calls Try.prog 27 #[.pointer (some ⟨p, 0, none⟩), .int .i64 at_] w fun e w' => e = .returned (.bool (decide (0 ≤ at_ ∧ at_ < d.l.length))) ∧ w' = w := by
  obtain ⟨lv, cv, h⟩ := h
  obtain ⟨A, cap, rfl, _⟩ := h.secs.form
  obtain ⟨c0, c1, c2, c3, c4, c5, c6⟩ := h.cells
  go_enter Try.func27, Try.ntmps27
  by_cases h1 : 0 ≤ at_
  · by_cases h2 : at_ < d.l.length
    · rw [decide_eq_true (And.intro h1 h2)]
      go_wp2
      go_ret
      exact ⟨rfl, rfl⟩
    · rw [decide_eq_false (fun e => h2 e.2)]
      go_wp2
      go_ret
      exact ⟨rfl, rfl⟩
  · rw [decide_eq_false (fun e => h1 e.1)]
    go_wp2
    go_ret
    exact ⟨rfl, rfl⟩
/-- the same with no new memory -/
def Post0 (w : World) (p : Nat) (F : Nat → Prop) (d : D) (w' : World) : Prop := PD w' p F d ∧ Only F w w' ∧ w'.heap.size = w.heap.size
theorem Post0.post {w w' : World} {p : Nat} {F : Nat → Prop} {d : D} (h : Post0 w p F d w') : Post w p F d w' := ⟨h.1.mono (fun k hk => .inl hk) (ext_lt (fun k hk => h.2.2 ▸ h.1.lt k hk) h.2.1.size), h.2.1⟩
theorem set_size (w : World) (p : Addr) (u : Value) : (w.setCell p u).heap.size = w.heap.size := by simp [World.setCell]
set_option maxHeartbeats 1000000 in
set_option maxRecDepth 100000 in
theorem operates_calls (w : World) (p : Nat) (F : Nat → Prop) (d : D) (h : PD w p F d) (hl : d.left ≤ 9223372036854775807) (ho : d.ops ≤ 1000000000) :
    Calls Try.prog 31 #[.pointer (some ⟨p, 0, none⟩)] w fun e w' => e = .returned (.bool (oper d).2) ∧ Post0 w p F (oper d).1 w' := by
  obtain ⟨lv, cv, h⟩ := h
  obtain ⟨ds, dl, dc, left, off, full, ops⟩ := d
  simp only at hl ho
  have f6 := h.frozen 6
  obtain ⟨h1, o1⟩ := h.put 6 (.int .i64 ((ops : Int) + 1)) ⟨ds, dl, dc, left, off, full, ops + 1⟩ rfl rfl rfl
  have z1 := set_size w ⟨p, 6, none⟩ (.int .i64 ((ops : Int) + 1))
  obtain ⟨c0, c1, c2, c3, c4, c5, c6⟩ := h.cells
  simp only at c0 c1 c2 c3 c4 c5 c6
  go_enter Try.func31, Try.ntmps31
  cases left with
  | zero =>
    have hop : oper ⟨ds, dl, dc, 0, off, full, ops⟩ = (⟨ds, dl, dc, 0, off, full, ops + 1⟩, false) := rfl
    rw [hop]
    go_wp2
    go_ret
    exact ⟨rfl, ⟨lv, cv, h1⟩, o1, z1⟩
  | succ m =>
    have hop : oper ⟨ds, dl, dc, m + 1, off, full, ops⟩ = (⟨ds, dl, dc, m, decide (m = 0), full, ops + 1⟩, decide (m = 0)) := rfl
    rw [hop]
    obtain ⟨w1, hw1⟩ : ∃ x, w.setCell ⟨p, 6, none⟩ (.int .i64 ((ops : Int) + 1)) = x := ⟨_, rfl⟩
    rw [hw1] at h1 o1 z1
    obtain ⟨d0, d1, d2, d3, d4, d5, d6⟩ := h1.cells
    have f3 := h1.frozen 3
    obtain ⟨h2, o2⟩ := h1.put 3 (.int .i64 (m : Int)) ⟨ds, dl, dc, m, off, full, ops + 1⟩ rfl rfl rfl
    have z2 := set_size w1 ⟨p, 3, none⟩ (.int .i64 (m : Int))
    obtain ⟨w2, hw2⟩ : ∃ x, w1.setCell ⟨p, 3, none⟩ (.int .i64 (m : Int)) = x := ⟨_, rfl⟩
    rw [hw2] at h2 o2 z2
    obtain ⟨e0, e1, e2, e3, e4, e5, e6⟩ := h2.cells
    have f4 := h2.frozen 4
    obtain ⟨h3, o3⟩ := h2.put 4 (.bool (decide (m = 0))) ⟨ds, dl, dc, m, decide (m = 0), full, ops + 1⟩ rfl rfl rfl
    have z3 := set_size w2 ⟨p, 4, none⟩ (.bool (decide (m = 0)))
    obtain ⟨w3, hw3⟩ : ∃ x, w2.setCell ⟨p, 4, none⟩ (.bool (decide (m = 0))) = x := ⟨_, rfl⟩
    rw [hw3] at h3 o3 z3
    obtain ⟨g0, g1, g2, g3, g4, g5, g6⟩ := h3.cells
    simp only at d3 e3 g4
    have hdm : ((m : Int) == 0) = decide (m = 0) := by rw [Bool.eq_iff_iff, beq_iff_eq, decide_eq_true_eq]; omega
    have hneq : (((m + 1 : Nat) : Int) == 0) = false := beq_eq_false_iff_ne.mpr (by omega)
    have H3 := Lib.hid h3
    have HO := Lib.hid ((o1.trans o2).trans o3)
    have HZ := Lib.hid (z3.trans (z2.trans z1))
    clear h h1 h2 h3 o1 o2 o3 z1 z2 z3 hop d0 d1 d2 d4 d5 d6 e0 e1 e2 e5 e6 g0 g1 g2 g3 g5 g6 c0 c1 c2 c3 c4 c5
    go_wp2
    go_ret
    exact ⟨rfl, ⟨lv, cv, H3.out⟩, HO.out, HZ.out⟩
set_option maxHeartbeats 1000000 in
set_option maxRecDepth 100000 in
theorem cut_calls (w : World) (p : Nat) (F : Nat → Prop) (d : D) (h : PD w p F d) (n : Int) (hn : n ≤ 9223372036854775807) :
    Calls Try.prog 12 #[.pointer (some ⟨p, 0, none⟩), .int .i64 n] w fun e w' => e = .returned (.tuple #[]) ∧ Post0 w p F (cut d n) w' := by
  obtain ⟨lv, cv, h⟩ := h
  obtain ⟨c0, c1, c2, c3, c4, c5, c6⟩ := h.cells
  have f3 := h.frozen 3
  obtain ⟨h1, o1⟩ := h.put 3 (.int .i64 (max n 0)) (cut d n) (by unfold dcells cut; simp only [Int.toNat_of_nonneg (show 0 ≤ max n 0 by omega)]; rfl) rfl rfl
  have z1 := set_size w ⟨p, 3, none⟩ (.int .i64 (max n 0))
  go_enter Try.func12, Try.ntmps12
  go_wp2
  go_end0
  exact ⟨rfl, ⟨lv, cv, h1⟩, o1, z1⟩
set_option maxHeartbeats 1000000 in
set_option maxRecDepth 100000 in
theorem fill_calls (w : World) (p : Nat) (F : Nat → Prop) (d : D) (h : PD w p F d) (b : Bool) :
    Calls Try.prog 24 #[.pointer (some ⟨p, 0, none⟩), .bool b] w fun e w' => e = .returned (.tuple #[]) ∧ Post0 w p F (fill d b) w' := by
  obtain ⟨lv, cv, h⟩ := h
  obtain ⟨c0, c1, c2, c3, c4, c5, c6⟩ := h.cells
  have f5 := h.frozen 5
  obtain ⟨h1, o1⟩ := h.put 5 (.bool b) (fill d b) rfl rfl rfl
  have z1 := set_size w ⟨p, 5, none⟩ (.bool b)
  go_enter Try.func24, Try.ntmps24
  go_wp2
  go_end0
  exact ⟨rfl, ⟨lv, cv, h1⟩, o1, z1⟩
theorem sec_at {w : World} {A : Option Addr} {cap : Nat} {l : List ByteArray} (h : Sl w 9 1 (.slice A l.length cap) l.length (l.map Value.string)) {i : Nat} (hi : i < l.length) :
    ∃ g off, A = some ⟨g, off, none⟩ ∧ w.cell? ⟨g, off + i, none⟩ = some (.string l[i]) := by
  obtain ⟨g, off, c, hv, hc⟩ := h.str_at hi
  injection hv with e1 e2 e3
  exact ⟨g, off, e1, hc⟩
set_option maxHeartbeats 1000000 in
set_option maxRecDepth 100000 in
theorem durable_calls (w : World) (p : Nat) (F : Nat → Prop) (d : D) (h : PD w p F d) (at_ : Int) :
    Calls Try.prog 10 #[.pointer (some ⟨p, 0, none⟩), .int .i64 at_] w fun e w' => e = .returned (.string (if 0 ≤ at_ ∧ at_ < d.l.length then d.l.getD at_.toNat ⟨#[]⟩ else ⟨#[]⟩)) ∧ w' = w := by
  have ht := there_calls w p F d h at_
  obtain ⟨lv, cv, h⟩ := h
  obtain ⟨A, cap, rfl, _⟩ := h.secs.form
  obtain ⟨c0, c1, c2, c3, c4, c5, c6⟩ := h.cells
  go_enter Try.func10, Try.ntmps10
  by_cases hin : 0 ≤ at_ ∧ at_ < d.l.length
  · rw [if_pos hin]
    rw [decide_eq_true hin] at ht
    obtain ⟨n, rfl⟩ : ∃ n : Nat, at_ = n := ⟨at_.toNat, by omega⟩
    have hn : n < d.l.length := by omega
    obtain ⟨g, off, rfl, hc⟩ := sec_at h.secs hn
    rw [Int.toNat_natCast, List.getD_eq_getElem?_getD, List.getElem?_eq_getElem hn, Option.getD_some]
    go_wp2_with fail
    refine ht.mono ?_
    rintro e w1 ⟨rfl, rfl⟩
    go_wp2
    go_ret
    exact ⟨rfl, rfl⟩
  · rw [if_neg hin]
    rw [decide_eq_false hin] at ht
    go_wp2_with fail
    refine ht.mono ?_
    rintro e w1 ⟨rfl, rfl⟩
    go_wp2
    go_ret
    exact ⟨rfl, rfl⟩
end Go.Proofs.Ytohflbmmglmhhaa.Dk
