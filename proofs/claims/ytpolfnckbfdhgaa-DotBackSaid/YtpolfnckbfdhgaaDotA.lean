/- dot: a body in memory: New, add, Put, Text, Ended, Size. -/
import Derived.Test.YtpolfnckbfdhgaaBldG
import Derived.Test.YtpolfnckbfdhgaaShelf
import Derived.StillTailTactics
import Derived.Deep.QuietTactic
import Derived.BigQuiet
namespace Go.Proofs.Ytpolfnckbfdhgaa.Dot
open Go.RowKit Go.Proofs.Ytpolfnckbfdhgaa.Mem
set_option linter.unusedVariables false
set_option linter.unusedSimpArgs false
def bcells (most : Int) (p v : Value) (n : Nat) (bad ended : Bool) : Array Value := #[.int .i64 most, p, v, .int .i64 (n : Int), .bool bad, .bool ended]
/-- a body: all its text (which is kept only so long as it is not too much), whether a line was no line, whether it has ended -/
structure Bo (w : World) (b : Nat) (F : Nat → Prop) (most : Int) (p v : Value) (l T : List UInt8) (bad ended : Bool) : Prop where
  bl : Bl w b 61 (bcells most p v T.length bad ended) 1 v l
  all : (T.length : Int) ≤ most → l = T
  len : l.length ≤ T.length
  nil : l = [] → v = .slice none 0 0
  fb : F b
  flt : ∀ k, F k → k < w.heap.size
  fv : ∀ k, own v k → F k
/-- what is known of a body from outside -/
structure St where
  T : List UInt8
  bad : Bool
  ended : Bool
def Bd (w : World) (b : Nat) (F : Nat → Prop) (most : Int) (s : St) : Prop := ∃ p v l, Bo w b F most p v l s.T s.bad s.ended
section
variable {w w' : World} {b : Nat} {F F' G : Nat → Prop} {most : Int} {p v : Value} {l T : List UInt8} {bad ended : Bool} {s : St}
theorem Bd.only (h : Bd w b F most s) (ho : Only G w w') (hn : ∀ k, F k → ¬ G k) : Bd w' b F most s := by
  obtain ⟨p, v, l, h⟩ := h
  exact ⟨p, v, l, ⟨ho.blk h.bl.blk (hn b h.fb), h.bl.addr, h.bl.buf, h.bl.row.only ho fun k hk => hn k (h.fv k hk), h.bl.ne, h.bl.lies⟩, h.all, h.len, h.nil, h.fb, fun k hk => Nat.lt_of_lt_of_le (h.flt k hk) ho.size, h.fv⟩
theorem Bd.mono (h : Bd w b F most s) (h1 : ∀ k, F k → F' k) (h2 : ∀ k, F' k → k < w.heap.size) : Bd w b F' most s := by
  obtain ⟨p, v, l, h⟩ := h
  exact ⟨p, v, l, h.bl, h.all, h.len, h.nil, h1 b h.fb, h2, fun k hk => h1 k (h.fv k hk)⟩
theorem Bd.below (h : Bd w b F most s) (hb : Below w.heap.size w w') : Bd w' b F most s := h.only (Only.of_below hb none_) fun _ _ h => h
theorem Bd.lt (h : Bd w b F most s) : ∀ k, F k → k < w.heap.size := by
  obtain ⟨p, v, l, h⟩ := h
  exact h.flt
/-- the cells that the walk reads -/
theorem Bo.cells (h : Bo w b F most p v l T bad ended) : w.cell? ⟨b, 0, none⟩ = some (.int .i64 most) ∧ w.cell? ⟨b, 3, none⟩ = some (.int .i64 (T.length : Int)) ∧ w.cell? ⟨b, 4, none⟩ = some (.bool bad) ∧ w.cell? ⟨b, 5, none⟩ = some (.bool ended) :=
  ⟨(h.bl.blk.cell 0).trans rfl, (h.bl.blk.cell 3).trans rfl, (h.bl.blk.cell 4).trans rfl, (h.bl.blk.cell 5).trans rfl⟩
end
theorem lies6 (most : Int) (p v : Value) (n : Nat) (bad ended : Bool) : liesAt Try.prog Try.prog.depth 61 ((bcells most p v n bad ended).size / Try.prog.cellsOf 61) 1 50 1 = true := by
  show liesAt Try.prog Try.prog.depth 61 (6 / Try.prog.cellsOf 61) 1 50 1 = true
  kernel_rfl
theorem new_calls (w : World) (most : Int) : Calls Try.prog 9 #[.int .i64 most] w fun e w' => e = .returned (.pointer (some ⟨w.heap.size, 0, none⟩)) ∧ w' = w.alloc (.cells (bcells most (.pointer none) (.slice none 0 0) 0 false false) 61) := by
  go_enter Try.func9, Try.ntmps9
  go_wp2
  go_ret
  exact ⟨rfl, rfl⟩
theorem bd_new (w : World) (most : Int) : Bd (w.alloc (.cells (bcells most (.pointer none) (.slice none 0 0) 0 false false) 61)) w.heap.size (fun k => k = w.heap.size) most ⟨[], false, false⟩ :=
  ⟨_, _, [], ⟨Blk.new w _ _, .inl rfl, rfl, SlF.nil _ _, by decide, lies6 _ _ _ _ _ _⟩, fun _ => rfl, Nat.le_refl _, fun _ => rfl, rfl, fun k hk => by simp [hk], fun k hk => by cases hk⟩
theorem ended_calls (w : World) (b : Nat) (F : Nat → Prop) (most : Int) (s : St) (h : Bd w b F most s) : Calls Try.prog 14 #[.pointer (some ⟨b, 0, none⟩)] w fun e w' => e = .returned (.bool s.ended) ∧ w = w' := by
  obtain ⟨p, v, l, h⟩ := h
  obtain ⟨c0, c3, c4, c5⟩ := h.cells
  go_enter Try.func14, Try.ntmps14
  go_wp2
  go_ret
  exact ⟨rfl, rfl⟩
theorem size_calls (w : World) (b : Nat) (F : Nat → Prop) (most : Int) (s : St) (h : Bd w b F most s) : Calls Try.prog 15 #[.pointer (some ⟨b, 0, none⟩)] w fun e w' => e = .returned (.int .i64 (s.T.length : Int)) ∧ w = w' := by
  obtain ⟨p, v, l, h⟩ := h
  obtain ⟨c0, c3, c4, c5⟩ := h.cells
  go_enter Try.func15, Try.ntmps15
  go_wp2
  go_ret
  exact ⟨rfl, rfl⟩
/-- what a call leaves of a body -/
def BdPost (w : World) (b : Nat) (F : Nat → Prop) (most : Int) (s : St) (w' : World) : Prop := Bd w' b (ext F w w') most s ∧ Only F w w'
set_option maxHeartbeats 1000000 in
set_option maxRecDepth 100000 in
theorem add_calls (w : World) (b : Nat) (F : Nat → Prop) (most : Int) (T : List UInt8) (bad ended : Bool) (s : ByteArray) (h : Bd w b F most ⟨T, bad, ended⟩) (hs : 0 < s.size) (hl : T.length + s.size ≤ 1000000) :
    Calls Try.prog 27 #[.pointer (some ⟨b, 0, none⟩), .string s] w fun e w' => e = .returned (.tuple #[]) ∧ BdPost w b F most ⟨T ++ s.data.toList, bad, ended⟩ w' := by
  obtain ⟨p, v, l, h⟩ := h
  have hss : s.data.toList.length = s.size := by simp
  have hT : (T ++ s.data.toList).length = T.length + s.size := by rw [List.length_append, hss]
  obtain ⟨c0, c3, c4, c5⟩ := h.cells
  have f3 := h.bl.blk.frozen 3
  have hbl := h.bl.blk.set_ 3 (.int .i64 ((T.length + s.size : Nat) : Int))
  have hnb := h.bl.nown
  have hBl : Bl (w.setCell ⟨b, 3, none⟩ (.int .i64 ((T.length : Int) + s.size))) b 61 (bcells most p v (T.length + s.size) bad ended) 1 v l :=
    ⟨hbl, h.bl.addr, h.bl.buf, h.bl.row.far (p := ⟨b, 3, none⟩) hnb _, h.bl.ne, lies6 _ _ _ _ _ _⟩
  have hlen := h.len
  have hT1 : T.length ≤ 1000000 := by omega
  have hT2 : s.size ≤ 1000000 := by omega
  have g0 : (w.setCell ⟨b, 3, none⟩ (.int .i64 ((T.length : Int) + s.size))).cell? ⟨b, 0, none⟩ = some (.int .i64 most) := (hBl.blk.cell 0).trans rfl
  have g3 : (w.setCell ⟨b, 3, none⟩ (.int .i64 ((T.length : Int) + s.size))).cell? ⟨b, 3, none⟩ = some (.int .i64 ((T.length : Int) + s.size)) := (hBl.blk.cell 3).trans rfl
  have ho1 : Only F w (w.setCell ⟨b, 3, none⟩ (.int .i64 ((T.length : Int) + s.size))) := (Only.refl F w).put h.fb 3 _
  have HT : Hid ((T ++ s.data.toList).length = T.length + s.size) := hT
  have HSS : Hid (s.data.toList.length = s.size) := hss
  clear hT hss
  by_cases hm : (T.length : Int) + s.size ≤ most
  · go_enter Try.func27, Try.ntmps27
    go_wp2
    obtain ⟨w1, hw1⟩ : ∃ x, w.setCell ⟨b, 3, none⟩ (.int .i64 ((T.length : Int) + s.size)) = x := ⟨_, rfl⟩
    simp only [hw1] at hBl g0 g3 ho1 ⊢
    clear hw1
    go_quiet (fail)
    go_wp2_with fail
    have hBl2 : Bl (w1.drewN nq) b 61 (bcells most p v (T.length + s.size) bad ended) 1 v l := ⟨hBl.blk.drewN nq, hBl.addr, hBl.buf, hBl.row.keep (fun _ _ => rfl), hBl.ne, hBl.lies⟩
    refine (bld_WriteString hBl2 s (by omega)).mono ?_
    rintro e w2 ⟨rfl, v', hb2, ho2, hv2⟩
    go_wp2
    go_end0
    have hlT : l = T := h.all (by omega)
    have ho3 : Only F w w2 := (ho1.drewN nq).trans' ho2 (fun k hk => hk.elim (fun e => .inl (e ▸ h.fb)) (fun e => .inl (h.fv k e)))
    have hsz : w.heap.size ≤ w1.heap.size := ho1.size
    refine ⟨rfl, ⟨.pointer (some ⟨b, 1, none⟩), v', l ++ s.data.toList, ⟨?_, fun _ => by rw [hlT], by simp only [List.length_append]; omega, fun e => ?_, .inl h.fb, ext_lt h.flt ho3.size, fun k hk => ?_⟩⟩, ho3⟩
    · rw [HT.out]
      exact hb2
    · have := congrArg List.length e
      rw [List.length_append, HSS.out] at this
      simp only [List.length_nil] at this
      omega
    · rcases hv2 k hk with e | e
      · exact .inl (h.fv k e)
      · exact .inr ⟨Nat.le_trans hsz e, hb2.row.lt hk⟩
  · go_enter Try.func27, Try.ntmps27
    have hm' : decide ((T.length : Int) + s.size ≤ most) = false := decide_eq_false hm
    go_wp2
    obtain ⟨w1, hw1⟩ : ∃ x, w.setCell ⟨b, 3, none⟩ (.int .i64 ((T.length : Int) + s.size)) = x := ⟨_, rfl⟩
    simp only [hw1] at hBl g0 g3 ho1 ⊢
    clear hw1
    go_quiet (fail)
    go_wp2
    go_end0
    have ho3 : Only F w (w1.drewN nq) := ho1.drewN nq
    refine ⟨rfl, ⟨p, v, l, ⟨?_, fun e => ?_, by simp only [List.length_append]; omega, h.nil, .inl h.fb, ext_lt h.flt ho3.size, fun k hk => .inl (h.fv k hk)⟩⟩, ho3⟩
    · rw [HT.out]
      exact ⟨hBl.blk.drewN nq, hBl.addr, hBl.buf, hBl.row.keep (fun _ _ => rfl), hBl.ne, hBl.lies⟩
    · simp only [List.length_append, HSS.out] at e
      omega
end Go.Proofs.Ytpolfnckbfdhgaa.Dot
