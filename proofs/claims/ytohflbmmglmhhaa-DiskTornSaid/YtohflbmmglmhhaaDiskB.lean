/- disk: Read, walked. -/
import Derived.Test.YtohflbmmglmhhaaDiskA
namespace Go.Proofs.Ytohflbmmglmhhaa.Dk
open Go.RowKit Go.Proofs.Ytohflbmmglmhhaa.Mem Go.Proofs.YtohflbmmglmhhaaW.PrintWords Go.Proofs.YtohflbmmglmhhaaW.PrintLast Go.Proofs.YtohflbmmglmhhaaW.PrintMore Go.Proofs.Ytohflbmmglmhhaa.Aid
set_option linter.unusedVariables false
set_option linter.unusedSimpArgs false
theorem wcells_at : ∀ (l : List (Nat × ByteArray)) (i : Nat) (hi : i < l.length), (wcells l)[i * 2]? = some (.int .i64 (l[i].1 : Int)) ∧ (wcells l)[i * 2 + 1]? = some (.string l[i].2)
  | [], i, h => by simp at h
  | a :: l, 0, h => ⟨rfl, rfl⟩
  | a :: l, i + 1, h => by
    have ih := wcells_at l i (by simpa using h)
    have e : wcells (a :: l) = [.int .i64 (a.1 : Int), .string a.2] ++ wcells l := rfl
    have e1 : (i + 1) * 2 = i * 2 + 2 := by omega
    rw [e, e1]
    exact ⟨ih.1, ih.2⟩
theorem wcells_len (l : List (Nat × ByteArray)) : (wcells l).length = l.length * 2 := by
  induction l with
  | nil => rfl
  | cons a l ih =>
    have e : wcells (a :: l) = [.int .i64 (a.1 : Int), .string a.2] ++ wcells l := rfl
    rw [e, List.length_append, ih, List.length_cons]
    simp only [List.length_cons, List.length_nil]
    omega
theorem wr_at {w : World} {e : TypeId} {A : Option Addr} {cap : Nat} {l : List (Nat × ByteArray)} (h : Sl w e 2 (.slice A l.length cap) l.length (wcells l)) {i : Nat} (hi : i < l.length) :
    ∃ g off, A = some ⟨g, off, none⟩ ∧ w.cell? ⟨g, off + i * 2, none⟩ = some (.int .i64 (l[i].1 : Int)) ∧ w.cell? ⟨g, off + i * 2 + 1, none⟩ = some (.string l[i].2) := by
  obtain ⟨g, off, c, cur, hv, _⟩ := h.form_pos (by omega)
  injection hv with e1 e2 e3
  subst e1 e3
  have h1 := h.cell rfl (j := i * 2) (by omega)
  have h2 := h.cell rfl (j := i * 2 + 1) (by omega)
  exact ⟨g, off, rfl, h1.trans (wcells_at l i hi).1, by rw [Nat.add_assoc]; exact h2.trans (wcells_at l i hi).2⟩
/-- what a read tells -/
def rdv (d : D) (at_ : Int) : Value := .tuple #[.string (rd d at_).1, .int .i64 (rd d at_).2]
set_option maxHeartbeats 4000000 in
set_option maxRecDepth 100000 in
theorem read_calls (w : World) (p : Nat) (F : Nat → Prop) (d : D) (h : PD w p F d) (at_ : Int) (hc : d.cache.length ≤ 1000000000) :
    Calls Try.prog 14 #[.pointer (some ⟨p, 0, none⟩), .int .i64 at_] w fun e w' => e = .returned (.tuple #[.string (rd d at_).1, .int .i64 (rd d at_).2]) ∧ w' = w := by
  have ht := there_calls w p F d h at_
  obtain ⟨lv, cv, h⟩ := h
  obtain ⟨A, cap, rfl, _⟩ := h.secs.form
  obtain ⟨A1, cap1, rfl, _⟩ := h.cach.form
  obtain ⟨c0, c1, c2, c3, c4, c5, c6⟩ := h.cells
  go_enter Try.func14, Try.ntmps14
  by_cases hin : 0 ≤ at_ ∧ at_ < d.l.length
  · rw [decide_eq_true hin] at ht
    obtain ⟨n, rfl⟩ : ∃ n : Nat, at_ = n := ⟨at_.toNat, by omega⟩
    have hn : n < d.l.length := by omega
    go_wp2_with fail
    refine ht.mono ?_
    rintro e w1 ⟨rfl, hw⟩
    subst hw
    cases hoff : d.off with
    | true =>
      have hr : rd d (n : Int) = (⟨#[]⟩, 80) := by
        unfold rd
        rw [if_neg (by omega), if_pos hoff]
      have HR := Lib.hid hr
      clear hr
      rw [hoff] at c4
      go_wp2
      go_ret2
      exact ⟨by rw [HR.out]; rfl, rfl⟩
    | false =>
      have hr : rd d (n : Int) = (look d.cache n d.l[n], 0) := by
        unfold rd
        rw [if_neg (by omega), if_neg (by simp [hoff]), Int.toNat_natCast, List.getD_eq_getElem?_getD, List.getElem?_eq_getElem hn, Option.getD_some]
      have HR := Lib.hid hr
      rw [hoff] at c4
      obtain ⟨g, off, hA, hcs⟩ := sec_at h.secs hn
      subst hA
      have HS := h.cach
      clear hr ht
      go_wp2
      go_loopw [6] (fun i wr => wr = w1 ∧ ∃ k : Nat, k ≤ d.cache.length ∧ i = .int .i64 ((k : Int) - 1) ∧ Hid (look d.cache n d.l[n] = look (d.cache.take k) n d.l[n])) (fun i _ => (intOf i + 1).toNat)
      case atStart => exact ⟨rfl, d.cache.length, Nat.le_refl _, by go_num, Lib.hid (by rw [List.take_length])⟩
      case round =>
        obtain ⟨rfl, k, hk, rfl, HK⟩ := hrel
        cases k with
        | zero =>
          have hz : look d.cache n d.l[n] = d.l[n] := by rw [HK.out]; rfl
          rw [hz] at HR
          clear hz
          go_wp2
          go_ret2
          exact ⟨by rw [HR.out]; rfl, rfl⟩
        | succ k =>
          have hkl : k < d.cache.length := by omega
          obtain ⟨g1, o1, hA1, x1, x2⟩ := wr_at HS hkl
          subst hA1
          have hi : ((k + 1 : Nat) : Int) - 1 = (k : Int) := by omega
          have hstep : look (d.cache.take (k + 1)) n d.l[n] = if d.cache[k].1 = n then d.cache[k].2 else look (d.cache.take k) n d.l[n] := by
            rw [List.take_succ_eq_append_getElem hkl, look_snoc]
          rw [hi]
          by_cases he : d.cache[k].1 = n
          · have hz : look d.cache n d.l[n] = d.cache[k].2 := by rw [HK.out, hstep, if_pos he]
            rw [hz] at HR
            clear hz hstep
            have hei : ((d.cache[k].1 : Int) == (n : Int)) = true := beq_iff_eq.mpr (by omega)
            go_wp2
            go_ret2
            exact ⟨by rw [HR.out]; rfl, rfl⟩
          · rw [if_neg he] at hstep
            have hei : ((d.cache[k].1 : Int) == (n : Int)) = false := beq_eq_false_iff_ne.mpr (by omega)
            have HK2 := Lib.hid (HK.out.trans hstep)
            clear hstep HK
            go_wp2
            go_roundw
            case rel => exact ⟨by trivial, k, by omega, rfl, HK2⟩
            case measure => first | (simp [intOf]; done) | (simp [intOf]; omega)
  · rw [decide_eq_false hin] at ht
    have hr : rd d at_ = (⟨#[]⟩, 1) := by
      unfold rd
      rw [if_pos (by omega)]
    have HR := Lib.hid hr
    clear hr
    go_wp2_with fail
    refine ht.mono ?_
    rintro e w1 ⟨rfl, hw⟩
    subst hw
    go_wp2
    go_ret2
    exact ⟨by rw [HR.out]; rfl, rfl⟩
end Go.Proofs.Ytohflbmmglmhhaa.Dk
