/- crlf: lines out of pieces are the lines of all bytes at once; the reference's lines as a contract. -/
import Derived.Test.YtjoeilblfcaipaaCrlfJ
import Derived.Test.YtjoeilblfcaipaaSpL
import Derived.Deep.QuietTactic
import Derived.BigQuiet
namespace Go.Proofs.Ytjoeilblfcaipaa.Crlf
open Go.RowKit Go.Proofs.Ytjoeilblfcaipaa.Mem Go.Proofs.Ytjoeilblfcaipaa.X Go.Proofs.YtjoeilblfcaipaaW.PrintWords Go.Proofs.YtjoeilblfcaipaaW.PrintLast Go.Proofs.YtjoeilblfcaipaaW.PrintMore Go.Proofs.Ytjoeilblfcaipaa.Aid
open Go.Proofs.Ytjoeilblfcaipaa.SpL (sp sp_hit sp_miss sp_count sp_size lines_ev)
set_option linter.unusedVariables false
set_option linter.unusedSimpArgs false
/-- what is under way, the CR behind it too -/
def tail (m : M) : List UInt8 := m.2.1 ++ if m.2.2 = true then [13] else []
theorem tail_len (m : M) : (tail m).length = held m := by unfold tail held; split <;> simp
theorem fds_sp (s : List UInt8) : ∀ ws cur, ((fds (ws, cur, false) s).1 = ws ++ (sp cur s).1 ∧ tail (fds (ws, cur, false) s) = (sp cur s).2) ∧ ((fds (ws, cur, true) s).1 = ws ++ (sp cur (13 :: s)).1 ∧ tail (fds (ws, cur, true) s) = (sp cur (13 :: s)).2) := by
  induction s with
  | nil =>
    intro ws cur
    have e : sp cur [13] = ([], cur ++ [13]) := by rw [sp]
    rw [e]
    have e0 : sp cur [] = ([], cur) := by rw [sp]
    rw [e0]
    simp [fds, tail]
  | cons c s ih =>
    intro ws cur
    have ef : ∀ m, fds m (c :: s) = fds (fd m c) s := fun m => rfl
    rw [ef, ef]
    constructor
    · by_cases h : c = 13
      · subst h
        exact (ih ws cur).2
      · have e : fd (ws, cur, false) c = (ws, cur ++ [c], false) := by simp [fd, h]
        rw [e, sp_miss cur c s (fun u e => h (List.cons.inj e).1)]
        exact (ih ws (cur ++ [c])).1
    · by_cases h10 : c = 10
      · subst h10
        have e : fd (ws, cur, true) 10 = (ws ++ [cur], [], false) := by simp [fd]
        rw [e, sp_hit]
        have := (ih (ws ++ [cur]) []).1
        rw [List.append_assoc] at this
        exact this
      · have em : sp cur (13 :: c :: s) = sp (cur ++ [13]) (c :: s) := sp_miss cur 13 (c :: s) (fun u e => h10 (List.cons.inj (List.cons.inj e).2).1)
        rw [em]
        by_cases h : c = 13
        · subst h
          have e : fd (ws, cur, true) 13 = (ws, cur ++ [13], true) := by simp [fd]
          rw [e]
          exact (ih ws (cur ++ [13])).2
        · have e : fd (ws, cur, true) c = (ws, cur ++ [13] ++ [c], false) := by simp [fd, h, h10]
          rw [e, sp_miss (cur ++ [13]) c s (fun u e => h (List.cons.inj e).1)]
          exact (ih ws (cur ++ [13] ++ [c])).1
/-- the lines that are whole do not bear on what follows -/
theorem fds_pre (s : List UInt8) : ∀ ws cur cr, fds (ws, cur, cr) s = (ws ++ (fds ([], cur, cr) s).1, (fds ([], cur, cr) s).2) := by
  induction s with
  | nil => intro ws cur cr; simp [fds]
  | cons c s ih =>
    intro ws cur cr
    have ef : ∀ m, fds m (c :: s) = fds (fd m c) s := fun m => rfl
    rw [ef, ef]
    have hd : ∀ ws, fd (ws, cur, cr) c = (ws ++ (fd ([], cur, cr) c).1, (fd ([], cur, cr) c).2) := by
      intro ws
      unfold fd
      split
      · simp
      · split <;> simp
    rw [hd ws]
    obtain ⟨a, b, d⟩ := fd ([], cur, cr) c
    simp only
    rw [ih (ws ++ a) b d, ih a b d]
    simp
/-- some lines have been taken -/
theorem fds_drop (m : M) (s : List UInt8) (t : Nat) (h : t ≤ m.1.length) : fds (m.1.drop t, m.2) s = ((fds m s).1.drop t, (fds m s).2) := by
  obtain ⟨ws, cur, cr⟩ := m
  rw [fds_pre s (ws.drop t) cur cr, fds_pre s ws cur cr]
  simp only at h
  simp only [List.drop_append_of_le_length h]
set_option maxHeartbeats 1000000 in
set_option maxRecDepth 100000 in
theorem lines_calls (w : World) (s : ByteArray) (hs : s.size ≤ 1000000) :
    Calls Try.prog 11 #[.string s] w fun e w' => ∃ A cap, e = .returned (.tuple #[.slice A (sp [] (L s)).1.length cap, .int .i64 ((sp [] (L s)).2.length : Int)]) ∧ Below w.heap.size w w' ∧
      Sl w' 9 1 (.slice A (sp [] (L s)).1.length cap) (sp [] (L s)).1.length (((sp [] (L s)).1.map S).map Value.string) ∧ (∀ k, own (.slice A (sp [] (L s)).1.length cap) k → w.heap.size ≤ k) := by
  have hz := sz s
  have hcnt := sp_count _ (L s) [] (Nat.le_refl _)
  have hsz := (sp_size _ (L s) [] (Nat.le_refl _)).2
  simp only [List.length_nil, Nat.zero_add] at hsz
  obtain ⟨k, hk⟩ := Ev.rounds (lines_ev s (by omega))
  obtain ⟨⟨ws, rest⟩, hsp⟩ : ∃ x, sp [] (L s) = x := ⟨_, rfl⟩
  rw [hsp] at hk hcnt hsz ⊢
  simp only at hk hcnt hsz ⊢
  have hcall := bulletinref17_Lines.calls k s _ w hk
  have hw1 : ws.length ≤ 1000000 := by omega
  have hw2 : rest.length ≤ 1000000 := by omega
  clear hk hsp hz hcnt hsz
  go_enter Try.func11, Try.ntmps11
  go_wp2_with fail
  refine hcall.mono ?_
  rintro e w1 ⟨v, rfl, hR, hb1⟩
  obtain ⟨hS, ho⟩ := sl_strs hR
  have hlen : (ws.map S ++ [S rest]).length = ws.length + 1 := by simp
  obtain ⟨g, off, cap, cu, hv, _⟩ := hS.form_pos (by omega)
  rw [hlen] at hv
  subst hv
  have hS2 := hS
  rw [hlen] at hS2
  have hlast : w1.cell? ⟨g, off + ws.length, none⟩ = some (.string (S rest)) := by
    rw [hS2.cell rfl (by omega)]
    simp
  have hzr : (S rest).size = rest.length := by rw [sz, L_S]
  have hcap := hS2.form
  obtain ⟨_, _, hcap, hle, _⟩ := hcap
  cases hcap
  clear hR hS hlen
  have hi1 : ((ws.length : Int) + 1 - 1) = ws.length := by omega
  go_wp2
  go_quiet (fail)
  go_wp2
  go_ret2
  refine ⟨_, _, rfl, hb1.trans ((pw_below_drewN (Below.refl _ w1) nq).mono hb1.size), ?_, fun k hk => ho k hk⟩
  have := (hS2.upto (k := ws.length) (by omega)).drewN nq
  rw [Nat.mul_one, show ((ws.map S ++ [S rest]).map Value.string).take ws.length = (ws.map S).map Value.string by rw [List.map_append, List.take_left' (by simp)]] at this
  exact this
end Go.Proofs.Ytjoeilblfcaipaa.Crlf
